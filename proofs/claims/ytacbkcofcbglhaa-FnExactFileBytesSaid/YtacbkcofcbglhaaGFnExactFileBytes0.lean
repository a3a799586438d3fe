/- Functions that the statement reaches, as Lean functions, and the proof that a call of each comes to just its answer; written by this claim's own program. No conditions. -/
import Derived.Test.YtacbkcofcbglhaaPFnExactFileBytesx0
import Derived.Test.YtacbkcofcbglhaaPFnExactFileBytesx1
import Derived.Test.YtacbkcofcbglhaaPFnExactFileBytesx2
import Derived.Test.YtacbkcofcbglhaaVFnExactFileBytes1
namespace Go.Proofs.Ytacbkcofcbglhaa.PFnExactFileBytes
open Go.RowKit Go.Proofs.YtacbkcofcbglhaaW.PrintWords Go.Proofs.YtacbkcofcbglhaaW.PrintLast Go.Proofs.YtacbkcofcbglhaaW.PrintMore Go.Proofs.Ytacbkcofcbglhaa.XW Go.Proofs.Ytacbkcofcbglhaa.XOp Go.Proofs.Ytacbkcofcbglhaa.XSt Go.Proofs.Ytacbkcofcbglhaa.XDraw
set_option linter.unusedVariables false
set_option linter.unusedSimpArgs false
set_option maxHeartbeats 4000000
set_option maxRecDepth 20000
structure S27 where
  f0 : Int
  f1 : List (List Int)
  f2 : List (List Int)
  f3 : Int
  f4 : Int
abbrev kS3 := Kd.slice 3 kI
abbrev kS25 := Kd.slice 25 kS3
def k27 : Kd S27 := Kd.iso (Kd.pair kI (Kd.pair kS25 (Kd.pair kS25 (Kd.pair kI kI)))) (fun x : S27 => (x.f0, x.f1, x.f2, x.f3, x.f4))
structure S29 where
  f0 : List (List Int)
  f1 : List (List Int)
def k29 : Kd S29 := Kd.iso (Kd.pair kS25 kS25) (fun x : S29 => (x.f0, x.f1))
structure S129 where
  f0 : Int
  f1 : Int
def k129 : Kd S129 := Kd.iso (Kd.pair kI kI) (fun x : S129 => (x.f0, x.f1))
structure S44 where
  f0 : List Int
  f1 : S27
  f2 : S27
  f3 : S27
  f4 : S27
  f5 : List Int
  f6 : S27
  f7 : S27
def k44 : Kd S44 := Kd.iso (Kd.pair kS3 (Kd.pair k27 (Kd.pair k27 (Kd.pair k27 (Kd.pair k27 (Kd.pair kS3 (Kd.pair k27 k27))))))) (fun x : S44 => (x.f0, x.f1, x.f2, x.f3, x.f4, x.f5, x.f6, x.f7))
structure S31 where
  f0 : Int
  f1 : Int
  f2 : Int
  f3 : List S129
  f4 : List (List Int)
  f5 : List S44
  f6 : List Int
  f7 : S27
  f8 : S29
abbrev kS129 := Kd.slice 129 k129
abbrev kS44 := Kd.slice 44 k44
def k31 : Kd S31 := Kd.iso (Kd.pair kI (Kd.pair kI (Kd.pair kI (Kd.pair kS129 (Kd.pair kS25 (Kd.pair kS44 (Kd.pair kS3 (Kd.pair k27 k29)))))))) (fun x : S31 => (x.f0, x.f1, x.f2, x.f3, x.f4, x.f5, x.f6, x.f7, x.f8))
structure S36 where
  f0 : Int
  f1 : List (List Int)
  f2 : List (List Int)
  f3 : Int
  f4 : Int
def k36 : Kd S36 := Kd.iso (Kd.pair kI (Kd.pair kS25 (Kd.pair kS25 (Kd.pair kI kI)))) (fun x : S36 => (x.f0, x.f1, x.f2, x.f3, x.f4))
theorem k36_mk (w : World) (x : S36) {A1 : Option Addr} {c1 : Nat} (l1 : x.f1.length ≤ c1) (g1 : kS3.C w A1 x.f1.length x.f1) {A2 : Option Addr} {c2 : Nat} (l2 : x.f2.length ≤ c2) (g2 : kS3.C w A2 x.f2.length x.f2) : k36.K w x [.int .i64 x.f0, .slice A1 x.f1.length c1, .slice A2 x.f2.length c2, .int .i64 x.f3, .int .i64 x.f4] := (pI (pS l1 g1 (pS l2 g2 (pI rfl))))
structure S37 where
  f0 : List (List Int)
  f1 : List (List Int)
def k37 : Kd S37 := Kd.iso (Kd.pair kS25 kS25) (fun x : S37 => (x.f0, x.f1))
structure S112 where
  f0 : Int
  f1 : Int
def k112 : Kd S112 := Kd.iso (Kd.pair kI kI) (fun x : S112 => (x.f0, x.f1))
theorem k112_mk (w : World) (x : S112)  : k112.K w x [.int .i64 x.f0, .int .i64 x.f1] := (pI rfl)
structure S48 where
  f0 : List Int
  f1 : S36
  f2 : S36
  f3 : S36
  f4 : S36
  f5 : List Int
  f6 : S36
  f7 : S36
def k48 : Kd S48 := Kd.iso (Kd.pair kS3 (Kd.pair k36 (Kd.pair k36 (Kd.pair k36 (Kd.pair k36 (Kd.pair kS3 (Kd.pair k36 k36))))))) (fun x : S48 => (x.f0, x.f1, x.f2, x.f3, x.f4, x.f5, x.f6, x.f7))
theorem k48_mk (w : World) (x : S48) {A0 : Option Addr} {c0 : Nat} (l0 : x.f0.length ≤ c0) (g0 : kI.C w A0 x.f0.length x.f0) {A2 : Option Addr} {c2 : Nat} (l2 : x.f1.f1.length ≤ c2) (g2 : kS3.C w A2 x.f1.f1.length x.f1.f1) {A3 : Option Addr} {c3 : Nat} (l3 : x.f1.f2.length ≤ c3) (g3 : kS3.C w A3 x.f1.f2.length x.f1.f2) {A7 : Option Addr} {c7 : Nat} (l7 : x.f2.f1.length ≤ c7) (g7 : kS3.C w A7 x.f2.f1.length x.f2.f1) {A8 : Option Addr} {c8 : Nat} (l8 : x.f2.f2.length ≤ c8) (g8 : kS3.C w A8 x.f2.f2.length x.f2.f2) {A12 : Option Addr} {c12 : Nat} (l12 : x.f3.f1.length ≤ c12) (g12 : kS3.C w A12 x.f3.f1.length x.f3.f1) {A13 : Option Addr} {c13 : Nat} (l13 : x.f3.f2.length ≤ c13) (g13 : kS3.C w A13 x.f3.f2.length x.f3.f2) {A17 : Option Addr} {c17 : Nat} (l17 : x.f4.f1.length ≤ c17) (g17 : kS3.C w A17 x.f4.f1.length x.f4.f1) {A18 : Option Addr} {c18 : Nat} (l18 : x.f4.f2.length ≤ c18) (g18 : kS3.C w A18 x.f4.f2.length x.f4.f2) {A21 : Option Addr} {c21 : Nat} (l21 : x.f5.length ≤ c21) (g21 : kI.C w A21 x.f5.length x.f5) {A23 : Option Addr} {c23 : Nat} (l23 : x.f6.f1.length ≤ c23) (g23 : kS3.C w A23 x.f6.f1.length x.f6.f1) {A24 : Option Addr} {c24 : Nat} (l24 : x.f6.f2.length ≤ c24) (g24 : kS3.C w A24 x.f6.f2.length x.f6.f2) {A28 : Option Addr} {c28 : Nat} (l28 : x.f7.f1.length ≤ c28) (g28 : kS3.C w A28 x.f7.f1.length x.f7.f1) {A29 : Option Addr} {c29 : Nat} (l29 : x.f7.f2.length ≤ c29) (g29 : kS3.C w A29 x.f7.f2.length x.f7.f2) : k48.K w x [.slice A0 x.f0.length c0, .int .i64 x.f1.f0, .slice A2 x.f1.f1.length c2, .slice A3 x.f1.f2.length c3, .int .i64 x.f1.f3, .int .i64 x.f1.f4, .int .i64 x.f2.f0, .slice A7 x.f2.f1.length c7, .slice A8 x.f2.f2.length c8, .int .i64 x.f2.f3, .int .i64 x.f2.f4, .int .i64 x.f3.f0, .slice A12 x.f3.f1.length c12, .slice A13 x.f3.f2.length c13, .int .i64 x.f3.f3, .int .i64 x.f3.f4, .int .i64 x.f4.f0, .slice A17 x.f4.f1.length c17, .slice A18 x.f4.f2.length c18, .int .i64 x.f4.f3, .int .i64 x.f4.f4, .slice A21 x.f5.length c21, .int .i64 x.f6.f0, .slice A23 x.f6.f1.length c23, .slice A24 x.f6.f2.length c24, .int .i64 x.f6.f3, .int .i64 x.f6.f4, .int .i64 x.f7.f0, .slice A28 x.f7.f1.length c28, .slice A29 x.f7.f2.length c29, .int .i64 x.f7.f3, .int .i64 x.f7.f4] := (pS l0 g0 (pK 5 (pI (pS l2 g2 (pS l3 g3 (pI rfl)))) (pK 5 (pI (pS l7 g7 (pS l8 g8 (pI rfl)))) (pK 5 (pI (pS l12 g12 (pS l13 g13 (pI rfl)))) (pK 5 (pI (pS l17 g17 (pS l18 g18 (pI rfl)))) (pS l21 g21 (pK 5 (pI (pS l23 g23 (pS l24 g24 (pI rfl)))) (pI (pS l28 g28 (pS l29 g29 (pI rfl)))))))))))
structure S39 where
  f0 : Int
  f1 : Int
  f2 : Int
  f3 : List S112
  f4 : List (List Int)
  f5 : List S48
  f6 : List Int
  f7 : S36
  f8 : S37
abbrev kS112 := Kd.slice 112 k112
abbrev kS48 := Kd.slice 48 k48
def k39 : Kd S39 := Kd.iso (Kd.pair kI (Kd.pair kI (Kd.pair kI (Kd.pair kS112 (Kd.pair kS25 (Kd.pair kS48 (Kd.pair kS3 (Kd.pair k36 k37)))))))) (fun x : S39 => (x.f0, x.f1, x.f2, x.f3, x.f4, x.f5, x.f6, x.f7, x.f8))
theorem k39_mk (w : World) (x : S39) {A3 : Option Addr} {c3 : Nat} (l3 : x.f3.length ≤ c3) (g3 : k112.C w A3 x.f3.length x.f3) {A4 : Option Addr} {c4 : Nat} (l4 : x.f4.length ≤ c4) (g4 : kS3.C w A4 x.f4.length x.f4) {A5 : Option Addr} {c5 : Nat} (l5 : x.f5.length ≤ c5) (g5 : k48.C w A5 x.f5.length x.f5) {A6 : Option Addr} {c6 : Nat} (l6 : x.f6.length ≤ c6) (g6 : kI.C w A6 x.f6.length x.f6) {A8 : Option Addr} {c8 : Nat} (l8 : x.f7.f1.length ≤ c8) (g8 : kS3.C w A8 x.f7.f1.length x.f7.f1) {A9 : Option Addr} {c9 : Nat} (l9 : x.f7.f2.length ≤ c9) (g9 : kS3.C w A9 x.f7.f2.length x.f7.f2) {A12 : Option Addr} {c12 : Nat} (l12 : x.f8.f0.length ≤ c12) (g12 : kS3.C w A12 x.f8.f0.length x.f8.f0) {A13 : Option Addr} {c13 : Nat} (l13 : x.f8.f1.length ≤ c13) (g13 : kS3.C w A13 x.f8.f1.length x.f8.f1) : k39.K w x [.int .i64 x.f0, .int .i64 x.f1, .int .i64 x.f2, .slice A3 x.f3.length c3, .slice A4 x.f4.length c4, .slice A5 x.f5.length c5, .slice A6 x.f6.length c6, .int .i64 x.f7.f0, .slice A8 x.f7.f1.length c8, .slice A9 x.f7.f2.length c9, .int .i64 x.f7.f3, .int .i64 x.f7.f4, .slice A12 x.f8.f0.length c12, .slice A13 x.f8.f1.length c13] := (pI (pI (pI (pS l3 g3 (pS l4 g4 (pS l5 g5 (pS l6 g6 (pK 5 (pI (pS l8 g8 (pS l9 g9 (pI rfl)))) (pS l12 g12 (lS l13 g13))))))))))
structure S119 where
  f0 : List Int
abbrev kS5 := Kd.slice 5 kU
def k119 : Kd S119 := Kd.iso kS5 (fun x : S119 => (x.f0))
def o27 : S27 := ⟨0, [], [], 0, 0⟩
theorem h27 : Kd.Heap k27 := Kd.heap_iso _ (Kd.heap_pair (Kd.heap_int _) (Kd.heap_pair (Kd.heap_slice _ (Kd.heap_slice _ (Kd.heap_int _))) (Kd.heap_pair (Kd.heap_slice _ (Kd.heap_slice _ (Kd.heap_int _))) (Kd.heap_pair (Kd.heap_int _) (Kd.heap_int _)))))
theorem h29 : Kd.Heap k29 := Kd.heap_iso _ (Kd.heap_pair (Kd.heap_slice _ (Kd.heap_slice _ (Kd.heap_int _))) (Kd.heap_slice _ (Kd.heap_slice _ (Kd.heap_int _))))
def o129 : S129 := ⟨0, 0⟩
theorem h129 : Kd.Heap k129 := Kd.heap_iso _ (Kd.heap_pair (Kd.heap_int _) (Kd.heap_int _))
def o44 : S44 := ⟨[], o27, o27, o27, o27, [], o27, o27⟩
theorem h44 : Kd.Heap k44 := Kd.heap_iso _ (Kd.heap_pair (Kd.heap_slice _ (Kd.heap_int _)) (Kd.heap_pair h27 (Kd.heap_pair h27 (Kd.heap_pair h27 (Kd.heap_pair h27 (Kd.heap_pair (Kd.heap_slice _ (Kd.heap_int _)) (Kd.heap_pair h27 h27)))))))
theorem h31 : Kd.Heap k31 := Kd.heap_iso _ (Kd.heap_pair (Kd.heap_int _) (Kd.heap_pair (Kd.heap_int _) (Kd.heap_pair (Kd.heap_int _) (Kd.heap_pair (Kd.heap_slice _ h129) (Kd.heap_pair (Kd.heap_slice _ (Kd.heap_slice _ (Kd.heap_int _))) (Kd.heap_pair (Kd.heap_slice _ h44) (Kd.heap_pair (Kd.heap_slice _ (Kd.heap_int _)) (Kd.heap_pair h27 h29))))))))
def o36 : S36 := ⟨0, [], [], 0, 0⟩
theorem h36 : Kd.Heap k36 := Kd.heap_iso _ (Kd.heap_pair (Kd.heap_int _) (Kd.heap_pair (Kd.heap_slice _ (Kd.heap_slice _ (Kd.heap_int _))) (Kd.heap_pair (Kd.heap_slice _ (Kd.heap_slice _ (Kd.heap_int _))) (Kd.heap_pair (Kd.heap_int _) (Kd.heap_int _)))))
theorem h37 : Kd.Heap k37 := Kd.heap_iso _ (Kd.heap_pair (Kd.heap_slice _ (Kd.heap_slice _ (Kd.heap_int _))) (Kd.heap_slice _ (Kd.heap_slice _ (Kd.heap_int _))))
def o112 : S112 := ⟨0, 0⟩
theorem h112 : Kd.Heap k112 := Kd.heap_iso _ (Kd.heap_pair (Kd.heap_int _) (Kd.heap_int _))
def o48 : S48 := ⟨[], o36, o36, o36, o36, [], o36, o36⟩
theorem h48 : Kd.Heap k48 := Kd.heap_iso _ (Kd.heap_pair (Kd.heap_slice _ (Kd.heap_int _)) (Kd.heap_pair h36 (Kd.heap_pair h36 (Kd.heap_pair h36 (Kd.heap_pair h36 (Kd.heap_pair (Kd.heap_slice _ (Kd.heap_int _)) (Kd.heap_pair h36 h36)))))))
theorem h39 : Kd.Heap k39 := Kd.heap_iso _ (Kd.heap_pair (Kd.heap_int _) (Kd.heap_pair (Kd.heap_int _) (Kd.heap_pair (Kd.heap_int _) (Kd.heap_pair (Kd.heap_slice _ h112) (Kd.heap_pair (Kd.heap_slice _ (Kd.heap_slice _ (Kd.heap_int _))) (Kd.heap_pair (Kd.heap_slice _ h48) (Kd.heap_pair (Kd.heap_slice _ (Kd.heap_int _)) (Kd.heap_pair h36 h37))))))))
theorem h119 : Kd.Heap k119 := Kd.heap_iso _ (Kd.heap_slice _ (Kd.heap_int _))
theorem at31_0 {w : World} {x : S31} {cs : List Value} (h : AtK k31 w x cs 0) : AtK kI w x.f0 cs 0 := h.iso.fst
theorem at31_1 {w : World} {x : S31} {cs : List Value} (h : AtK k31 w x cs 0) : AtK kI w x.f1 cs 1 := (h.iso.snd rfl).fst
theorem at31_2 {w : World} {x : S31} {cs : List Value} (h : AtK k31 w x cs 0) : AtK kI w x.f2 cs 2 := ((h.iso.snd rfl).snd rfl).fst
theorem at31_3 {w : World} {x : S31} {cs : List Value} (h : AtK k31 w x cs 0) : AtK kS129 w x.f3 cs 3 := (((h.iso.snd rfl).snd rfl).snd rfl).fst
theorem at31_4 {w : World} {x : S31} {cs : List Value} (h : AtK k31 w x cs 0) : AtK kS25 w x.f4 cs 4 := ((((h.iso.snd rfl).snd rfl).snd rfl).snd rfl).fst
theorem at31_5 {w : World} {x : S31} {cs : List Value} (h : AtK k31 w x cs 0) : AtK kS44 w x.f5 cs 5 := (((((h.iso.snd rfl).snd rfl).snd rfl).snd rfl).snd rfl).fst
theorem at31_6 {w : World} {x : S31} {cs : List Value} (h : AtK k31 w x cs 0) : AtK kS3 w x.f6 cs 6 := ((((((h.iso.snd rfl).snd rfl).snd rfl).snd rfl).snd rfl).snd rfl).fst
theorem at31_7 {w : World} {x : S31} {cs : List Value} (h : AtK k31 w x cs 0) : AtK kI w x.f7.f0 cs 7 := (((((((h.iso.snd rfl).snd rfl).snd rfl).snd rfl).snd rfl).snd rfl).snd rfl).fst.iso.fst
theorem at31_8 {w : World} {x : S31} {cs : List Value} (h : AtK k31 w x cs 0) : AtK kS25 w x.f7.f1 cs 8 := ((((((((h.iso.snd rfl).snd rfl).snd rfl).snd rfl).snd rfl).snd rfl).snd rfl).fst.iso.snd rfl).fst
theorem at31_9 {w : World} {x : S31} {cs : List Value} (h : AtK k31 w x cs 0) : AtK kS25 w x.f7.f2 cs 9 := (((((((((h.iso.snd rfl).snd rfl).snd rfl).snd rfl).snd rfl).snd rfl).snd rfl).fst.iso.snd rfl).snd rfl).fst
theorem at31_10 {w : World} {x : S31} {cs : List Value} (h : AtK k31 w x cs 0) : AtK kI w x.f7.f3 cs 10 := ((((((((((h.iso.snd rfl).snd rfl).snd rfl).snd rfl).snd rfl).snd rfl).snd rfl).fst.iso.snd rfl).snd rfl).snd rfl).fst
theorem at31_11 {w : World} {x : S31} {cs : List Value} (h : AtK k31 w x cs 0) : AtK kI w x.f7.f4 cs 11 := (((((((((((h.iso.snd rfl).snd rfl).snd rfl).snd rfl).snd rfl).snd rfl).snd rfl).fst.iso.snd rfl).snd rfl).snd rfl).snd rfl)
theorem at31_12 {w : World} {x : S31} {cs : List Value} (h : AtK k31 w x cs 0) : AtK kS25 w x.f8.f0 cs 12 := ((((((((h.iso.snd rfl).snd rfl).snd rfl).snd rfl).snd rfl).snd rfl).snd rfl).snd rfl).iso.fst
theorem at31_13 {w : World} {x : S31} {cs : List Value} (h : AtK k31 w x cs 0) : AtK kS25 w x.f8.f1 cs 13 := (((((((((h.iso.snd rfl).snd rfl).snd rfl).snd rfl).snd rfl).snd rfl).snd rfl).snd rfl).iso.snd rfl)
theorem at36_0 {w : World} {x : S36} {cs : List Value} (h : AtK k36 w x cs 0) : AtK kI w x.f0 cs 0 := h.iso.fst
theorem at36_1 {w : World} {x : S36} {cs : List Value} (h : AtK k36 w x cs 0) : AtK kS25 w x.f1 cs 1 := (h.iso.snd rfl).fst
theorem at36_2 {w : World} {x : S36} {cs : List Value} (h : AtK k36 w x cs 0) : AtK kS25 w x.f2 cs 2 := ((h.iso.snd rfl).snd rfl).fst
theorem at36_3 {w : World} {x : S36} {cs : List Value} (h : AtK k36 w x cs 0) : AtK kI w x.f3 cs 3 := (((h.iso.snd rfl).snd rfl).snd rfl).fst
theorem at36_4 {w : World} {x : S36} {cs : List Value} (h : AtK k36 w x cs 0) : AtK kI w x.f4 cs 4 := ((((h.iso.snd rfl).snd rfl).snd rfl).snd rfl)
theorem at39_0 {w : World} {x : S39} {cs : List Value} (h : AtK k39 w x cs 0) : AtK kI w x.f0 cs 0 := h.iso.fst
theorem at39_1 {w : World} {x : S39} {cs : List Value} (h : AtK k39 w x cs 0) : AtK kI w x.f1 cs 1 := (h.iso.snd rfl).fst
theorem at39_2 {w : World} {x : S39} {cs : List Value} (h : AtK k39 w x cs 0) : AtK kI w x.f2 cs 2 := ((h.iso.snd rfl).snd rfl).fst
theorem at39_3 {w : World} {x : S39} {cs : List Value} (h : AtK k39 w x cs 0) : AtK kS112 w x.f3 cs 3 := (((h.iso.snd rfl).snd rfl).snd rfl).fst
theorem at39_4 {w : World} {x : S39} {cs : List Value} (h : AtK k39 w x cs 0) : AtK kS25 w x.f4 cs 4 := ((((h.iso.snd rfl).snd rfl).snd rfl).snd rfl).fst
theorem at39_5 {w : World} {x : S39} {cs : List Value} (h : AtK k39 w x cs 0) : AtK kS48 w x.f5 cs 5 := (((((h.iso.snd rfl).snd rfl).snd rfl).snd rfl).snd rfl).fst
theorem at39_6 {w : World} {x : S39} {cs : List Value} (h : AtK k39 w x cs 0) : AtK kS3 w x.f6 cs 6 := ((((((h.iso.snd rfl).snd rfl).snd rfl).snd rfl).snd rfl).snd rfl).fst
theorem at39_7 {w : World} {x : S39} {cs : List Value} (h : AtK k39 w x cs 0) : AtK kI w x.f7.f0 cs 7 := (((((((h.iso.snd rfl).snd rfl).snd rfl).snd rfl).snd rfl).snd rfl).snd rfl).fst.iso.fst
theorem at39_8 {w : World} {x : S39} {cs : List Value} (h : AtK k39 w x cs 0) : AtK kS25 w x.f7.f1 cs 8 := ((((((((h.iso.snd rfl).snd rfl).snd rfl).snd rfl).snd rfl).snd rfl).snd rfl).fst.iso.snd rfl).fst
theorem at39_9 {w : World} {x : S39} {cs : List Value} (h : AtK k39 w x cs 0) : AtK kS25 w x.f7.f2 cs 9 := (((((((((h.iso.snd rfl).snd rfl).snd rfl).snd rfl).snd rfl).snd rfl).snd rfl).fst.iso.snd rfl).snd rfl).fst
theorem at39_10 {w : World} {x : S39} {cs : List Value} (h : AtK k39 w x cs 0) : AtK kI w x.f7.f3 cs 10 := ((((((((((h.iso.snd rfl).snd rfl).snd rfl).snd rfl).snd rfl).snd rfl).snd rfl).fst.iso.snd rfl).snd rfl).snd rfl).fst
theorem at39_11 {w : World} {x : S39} {cs : List Value} (h : AtK k39 w x cs 0) : AtK kI w x.f7.f4 cs 11 := (((((((((((h.iso.snd rfl).snd rfl).snd rfl).snd rfl).snd rfl).snd rfl).snd rfl).fst.iso.snd rfl).snd rfl).snd rfl).snd rfl)
theorem at39_12 {w : World} {x : S39} {cs : List Value} (h : AtK k39 w x cs 0) : AtK kS25 w x.f8.f0 cs 12 := ((((((((h.iso.snd rfl).snd rfl).snd rfl).snd rfl).snd rfl).snd rfl).snd rfl).snd rfl).iso.fst
theorem at39_13 {w : World} {x : S39} {cs : List Value} (h : AtK k39 w x cs 0) : AtK kS25 w x.f8.f1 cs 13 := (((((((((h.iso.snd rfl).snd rfl).snd rfl).snd rfl).snd rfl).snd rfl).snd rfl).snd rfl).iso.snd rfl)
theorem at44_0 {w : World} {x : S44} {cs : List Value} (h : AtK k44 w x cs 0) : AtK kS3 w x.f0 cs 0 := h.iso.fst
theorem at44_1 {w : World} {x : S44} {cs : List Value} (h : AtK k44 w x cs 0) : AtK kI w x.f1.f0 cs 1 := (h.iso.snd rfl).fst.iso.fst
theorem at44_2 {w : World} {x : S44} {cs : List Value} (h : AtK k44 w x cs 0) : AtK kS25 w x.f1.f1 cs 2 := ((h.iso.snd rfl).fst.iso.snd rfl).fst
theorem at44_3 {w : World} {x : S44} {cs : List Value} (h : AtK k44 w x cs 0) : AtK kS25 w x.f1.f2 cs 3 := (((h.iso.snd rfl).fst.iso.snd rfl).snd rfl).fst
theorem at44_4 {w : World} {x : S44} {cs : List Value} (h : AtK k44 w x cs 0) : AtK kI w x.f1.f3 cs 4 := ((((h.iso.snd rfl).fst.iso.snd rfl).snd rfl).snd rfl).fst
theorem at44_5 {w : World} {x : S44} {cs : List Value} (h : AtK k44 w x cs 0) : AtK kI w x.f1.f4 cs 5 := (((((h.iso.snd rfl).fst.iso.snd rfl).snd rfl).snd rfl).snd rfl)
theorem at44_6 {w : World} {x : S44} {cs : List Value} (h : AtK k44 w x cs 0) : AtK kI w x.f2.f0 cs 6 := ((h.iso.snd rfl).snd rfl).fst.iso.fst
theorem at44_7 {w : World} {x : S44} {cs : List Value} (h : AtK k44 w x cs 0) : AtK kS25 w x.f2.f1 cs 7 := (((h.iso.snd rfl).snd rfl).fst.iso.snd rfl).fst
theorem at44_8 {w : World} {x : S44} {cs : List Value} (h : AtK k44 w x cs 0) : AtK kS25 w x.f2.f2 cs 8 := ((((h.iso.snd rfl).snd rfl).fst.iso.snd rfl).snd rfl).fst
theorem at44_9 {w : World} {x : S44} {cs : List Value} (h : AtK k44 w x cs 0) : AtK kI w x.f2.f3 cs 9 := (((((h.iso.snd rfl).snd rfl).fst.iso.snd rfl).snd rfl).snd rfl).fst
theorem at44_10 {w : World} {x : S44} {cs : List Value} (h : AtK k44 w x cs 0) : AtK kI w x.f2.f4 cs 10 := ((((((h.iso.snd rfl).snd rfl).fst.iso.snd rfl).snd rfl).snd rfl).snd rfl)
theorem at44_11 {w : World} {x : S44} {cs : List Value} (h : AtK k44 w x cs 0) : AtK kI w x.f3.f0 cs 11 := (((h.iso.snd rfl).snd rfl).snd rfl).fst.iso.fst
theorem at44_12 {w : World} {x : S44} {cs : List Value} (h : AtK k44 w x cs 0) : AtK kS25 w x.f3.f1 cs 12 := ((((h.iso.snd rfl).snd rfl).snd rfl).fst.iso.snd rfl).fst
theorem at44_13 {w : World} {x : S44} {cs : List Value} (h : AtK k44 w x cs 0) : AtK kS25 w x.f3.f2 cs 13 := (((((h.iso.snd rfl).snd rfl).snd rfl).fst.iso.snd rfl).snd rfl).fst
theorem at44_14 {w : World} {x : S44} {cs : List Value} (h : AtK k44 w x cs 0) : AtK kI w x.f3.f3 cs 14 := ((((((h.iso.snd rfl).snd rfl).snd rfl).fst.iso.snd rfl).snd rfl).snd rfl).fst
theorem at44_15 {w : World} {x : S44} {cs : List Value} (h : AtK k44 w x cs 0) : AtK kI w x.f3.f4 cs 15 := (((((((h.iso.snd rfl).snd rfl).snd rfl).fst.iso.snd rfl).snd rfl).snd rfl).snd rfl)
theorem at44_16 {w : World} {x : S44} {cs : List Value} (h : AtK k44 w x cs 0) : AtK kI w x.f4.f0 cs 16 := ((((h.iso.snd rfl).snd rfl).snd rfl).snd rfl).fst.iso.fst
theorem at44_17 {w : World} {x : S44} {cs : List Value} (h : AtK k44 w x cs 0) : AtK kS25 w x.f4.f1 cs 17 := (((((h.iso.snd rfl).snd rfl).snd rfl).snd rfl).fst.iso.snd rfl).fst
theorem at44_18 {w : World} {x : S44} {cs : List Value} (h : AtK k44 w x cs 0) : AtK kS25 w x.f4.f2 cs 18 := ((((((h.iso.snd rfl).snd rfl).snd rfl).snd rfl).fst.iso.snd rfl).snd rfl).fst
theorem at44_19 {w : World} {x : S44} {cs : List Value} (h : AtK k44 w x cs 0) : AtK kI w x.f4.f3 cs 19 := (((((((h.iso.snd rfl).snd rfl).snd rfl).snd rfl).fst.iso.snd rfl).snd rfl).snd rfl).fst
theorem at44_20 {w : World} {x : S44} {cs : List Value} (h : AtK k44 w x cs 0) : AtK kI w x.f4.f4 cs 20 := ((((((((h.iso.snd rfl).snd rfl).snd rfl).snd rfl).fst.iso.snd rfl).snd rfl).snd rfl).snd rfl)
theorem at44_21 {w : World} {x : S44} {cs : List Value} (h : AtK k44 w x cs 0) : AtK kS3 w x.f5 cs 21 := (((((h.iso.snd rfl).snd rfl).snd rfl).snd rfl).snd rfl).fst
theorem at44_22 {w : World} {x : S44} {cs : List Value} (h : AtK k44 w x cs 0) : AtK kI w x.f6.f0 cs 22 := ((((((h.iso.snd rfl).snd rfl).snd rfl).snd rfl).snd rfl).snd rfl).fst.iso.fst
theorem at44_23 {w : World} {x : S44} {cs : List Value} (h : AtK k44 w x cs 0) : AtK kS25 w x.f6.f1 cs 23 := (((((((h.iso.snd rfl).snd rfl).snd rfl).snd rfl).snd rfl).snd rfl).fst.iso.snd rfl).fst
theorem at44_24 {w : World} {x : S44} {cs : List Value} (h : AtK k44 w x cs 0) : AtK kS25 w x.f6.f2 cs 24 := ((((((((h.iso.snd rfl).snd rfl).snd rfl).snd rfl).snd rfl).snd rfl).fst.iso.snd rfl).snd rfl).fst
theorem at44_25 {w : World} {x : S44} {cs : List Value} (h : AtK k44 w x cs 0) : AtK kI w x.f6.f3 cs 25 := (((((((((h.iso.snd rfl).snd rfl).snd rfl).snd rfl).snd rfl).snd rfl).fst.iso.snd rfl).snd rfl).snd rfl).fst
theorem at44_26 {w : World} {x : S44} {cs : List Value} (h : AtK k44 w x cs 0) : AtK kI w x.f6.f4 cs 26 := ((((((((((h.iso.snd rfl).snd rfl).snd rfl).snd rfl).snd rfl).snd rfl).fst.iso.snd rfl).snd rfl).snd rfl).snd rfl)
theorem at44_27 {w : World} {x : S44} {cs : List Value} (h : AtK k44 w x cs 0) : AtK kI w x.f7.f0 cs 27 := (((((((h.iso.snd rfl).snd rfl).snd rfl).snd rfl).snd rfl).snd rfl).snd rfl).iso.fst
theorem at44_28 {w : World} {x : S44} {cs : List Value} (h : AtK k44 w x cs 0) : AtK kS25 w x.f7.f1 cs 28 := ((((((((h.iso.snd rfl).snd rfl).snd rfl).snd rfl).snd rfl).snd rfl).snd rfl).iso.snd rfl).fst
theorem at44_29 {w : World} {x : S44} {cs : List Value} (h : AtK k44 w x cs 0) : AtK kS25 w x.f7.f2 cs 29 := (((((((((h.iso.snd rfl).snd rfl).snd rfl).snd rfl).snd rfl).snd rfl).snd rfl).iso.snd rfl).snd rfl).fst
theorem at44_30 {w : World} {x : S44} {cs : List Value} (h : AtK k44 w x cs 0) : AtK kI w x.f7.f3 cs 30 := ((((((((((h.iso.snd rfl).snd rfl).snd rfl).snd rfl).snd rfl).snd rfl).snd rfl).iso.snd rfl).snd rfl).snd rfl).fst
theorem at44_31 {w : World} {x : S44} {cs : List Value} (h : AtK k44 w x cs 0) : AtK kI w x.f7.f4 cs 31 := (((((((((((h.iso.snd rfl).snd rfl).snd rfl).snd rfl).snd rfl).snd rfl).snd rfl).iso.snd rfl).snd rfl).snd rfl).snd rfl)
theorem at48_0 {w : World} {x : S48} {cs : List Value} (h : AtK k48 w x cs 0) : AtK kS3 w x.f0 cs 0 := h.iso.fst
theorem at48_1 {w : World} {x : S48} {cs : List Value} (h : AtK k48 w x cs 0) : AtK kI w x.f1.f0 cs 1 := (h.iso.snd rfl).fst.iso.fst
theorem at48_2 {w : World} {x : S48} {cs : List Value} (h : AtK k48 w x cs 0) : AtK kS25 w x.f1.f1 cs 2 := ((h.iso.snd rfl).fst.iso.snd rfl).fst
theorem at48_3 {w : World} {x : S48} {cs : List Value} (h : AtK k48 w x cs 0) : AtK kS25 w x.f1.f2 cs 3 := (((h.iso.snd rfl).fst.iso.snd rfl).snd rfl).fst
theorem at48_4 {w : World} {x : S48} {cs : List Value} (h : AtK k48 w x cs 0) : AtK kI w x.f1.f3 cs 4 := ((((h.iso.snd rfl).fst.iso.snd rfl).snd rfl).snd rfl).fst
theorem at48_5 {w : World} {x : S48} {cs : List Value} (h : AtK k48 w x cs 0) : AtK kI w x.f1.f4 cs 5 := (((((h.iso.snd rfl).fst.iso.snd rfl).snd rfl).snd rfl).snd rfl)
theorem at48_6 {w : World} {x : S48} {cs : List Value} (h : AtK k48 w x cs 0) : AtK kI w x.f2.f0 cs 6 := ((h.iso.snd rfl).snd rfl).fst.iso.fst
theorem at48_7 {w : World} {x : S48} {cs : List Value} (h : AtK k48 w x cs 0) : AtK kS25 w x.f2.f1 cs 7 := (((h.iso.snd rfl).snd rfl).fst.iso.snd rfl).fst
theorem at48_8 {w : World} {x : S48} {cs : List Value} (h : AtK k48 w x cs 0) : AtK kS25 w x.f2.f2 cs 8 := ((((h.iso.snd rfl).snd rfl).fst.iso.snd rfl).snd rfl).fst
theorem at48_9 {w : World} {x : S48} {cs : List Value} (h : AtK k48 w x cs 0) : AtK kI w x.f2.f3 cs 9 := (((((h.iso.snd rfl).snd rfl).fst.iso.snd rfl).snd rfl).snd rfl).fst
theorem at48_10 {w : World} {x : S48} {cs : List Value} (h : AtK k48 w x cs 0) : AtK kI w x.f2.f4 cs 10 := ((((((h.iso.snd rfl).snd rfl).fst.iso.snd rfl).snd rfl).snd rfl).snd rfl)
theorem at48_11 {w : World} {x : S48} {cs : List Value} (h : AtK k48 w x cs 0) : AtK kI w x.f3.f0 cs 11 := (((h.iso.snd rfl).snd rfl).snd rfl).fst.iso.fst
theorem at48_12 {w : World} {x : S48} {cs : List Value} (h : AtK k48 w x cs 0) : AtK kS25 w x.f3.f1 cs 12 := ((((h.iso.snd rfl).snd rfl).snd rfl).fst.iso.snd rfl).fst
theorem at48_13 {w : World} {x : S48} {cs : List Value} (h : AtK k48 w x cs 0) : AtK kS25 w x.f3.f2 cs 13 := (((((h.iso.snd rfl).snd rfl).snd rfl).fst.iso.snd rfl).snd rfl).fst
theorem at48_14 {w : World} {x : S48} {cs : List Value} (h : AtK k48 w x cs 0) : AtK kI w x.f3.f3 cs 14 := ((((((h.iso.snd rfl).snd rfl).snd rfl).fst.iso.snd rfl).snd rfl).snd rfl).fst
theorem at48_15 {w : World} {x : S48} {cs : List Value} (h : AtK k48 w x cs 0) : AtK kI w x.f3.f4 cs 15 := (((((((h.iso.snd rfl).snd rfl).snd rfl).fst.iso.snd rfl).snd rfl).snd rfl).snd rfl)
theorem at48_16 {w : World} {x : S48} {cs : List Value} (h : AtK k48 w x cs 0) : AtK kI w x.f4.f0 cs 16 := ((((h.iso.snd rfl).snd rfl).snd rfl).snd rfl).fst.iso.fst
theorem at48_17 {w : World} {x : S48} {cs : List Value} (h : AtK k48 w x cs 0) : AtK kS25 w x.f4.f1 cs 17 := (((((h.iso.snd rfl).snd rfl).snd rfl).snd rfl).fst.iso.snd rfl).fst
theorem at48_18 {w : World} {x : S48} {cs : List Value} (h : AtK k48 w x cs 0) : AtK kS25 w x.f4.f2 cs 18 := ((((((h.iso.snd rfl).snd rfl).snd rfl).snd rfl).fst.iso.snd rfl).snd rfl).fst
theorem at48_19 {w : World} {x : S48} {cs : List Value} (h : AtK k48 w x cs 0) : AtK kI w x.f4.f3 cs 19 := (((((((h.iso.snd rfl).snd rfl).snd rfl).snd rfl).fst.iso.snd rfl).snd rfl).snd rfl).fst
theorem at48_20 {w : World} {x : S48} {cs : List Value} (h : AtK k48 w x cs 0) : AtK kI w x.f4.f4 cs 20 := ((((((((h.iso.snd rfl).snd rfl).snd rfl).snd rfl).fst.iso.snd rfl).snd rfl).snd rfl).snd rfl)
theorem at48_21 {w : World} {x : S48} {cs : List Value} (h : AtK k48 w x cs 0) : AtK kS3 w x.f5 cs 21 := (((((h.iso.snd rfl).snd rfl).snd rfl).snd rfl).snd rfl).fst
theorem at48_22 {w : World} {x : S48} {cs : List Value} (h : AtK k48 w x cs 0) : AtK kI w x.f6.f0 cs 22 := ((((((h.iso.snd rfl).snd rfl).snd rfl).snd rfl).snd rfl).snd rfl).fst.iso.fst
theorem at48_23 {w : World} {x : S48} {cs : List Value} (h : AtK k48 w x cs 0) : AtK kS25 w x.f6.f1 cs 23 := (((((((h.iso.snd rfl).snd rfl).snd rfl).snd rfl).snd rfl).snd rfl).fst.iso.snd rfl).fst
theorem at48_24 {w : World} {x : S48} {cs : List Value} (h : AtK k48 w x cs 0) : AtK kS25 w x.f6.f2 cs 24 := ((((((((h.iso.snd rfl).snd rfl).snd rfl).snd rfl).snd rfl).snd rfl).fst.iso.snd rfl).snd rfl).fst
theorem at48_25 {w : World} {x : S48} {cs : List Value} (h : AtK k48 w x cs 0) : AtK kI w x.f6.f3 cs 25 := (((((((((h.iso.snd rfl).snd rfl).snd rfl).snd rfl).snd rfl).snd rfl).fst.iso.snd rfl).snd rfl).snd rfl).fst
theorem at48_26 {w : World} {x : S48} {cs : List Value} (h : AtK k48 w x cs 0) : AtK kI w x.f6.f4 cs 26 := ((((((((((h.iso.snd rfl).snd rfl).snd rfl).snd rfl).snd rfl).snd rfl).fst.iso.snd rfl).snd rfl).snd rfl).snd rfl)
theorem at48_27 {w : World} {x : S48} {cs : List Value} (h : AtK k48 w x cs 0) : AtK kI w x.f7.f0 cs 27 := (((((((h.iso.snd rfl).snd rfl).snd rfl).snd rfl).snd rfl).snd rfl).snd rfl).iso.fst
theorem at48_28 {w : World} {x : S48} {cs : List Value} (h : AtK k48 w x cs 0) : AtK kS25 w x.f7.f1 cs 28 := ((((((((h.iso.snd rfl).snd rfl).snd rfl).snd rfl).snd rfl).snd rfl).snd rfl).iso.snd rfl).fst
theorem at48_29 {w : World} {x : S48} {cs : List Value} (h : AtK k48 w x cs 0) : AtK kS25 w x.f7.f2 cs 29 := (((((((((h.iso.snd rfl).snd rfl).snd rfl).snd rfl).snd rfl).snd rfl).snd rfl).iso.snd rfl).snd rfl).fst
theorem at48_30 {w : World} {x : S48} {cs : List Value} (h : AtK k48 w x cs 0) : AtK kI w x.f7.f3 cs 30 := ((((((((((h.iso.snd rfl).snd rfl).snd rfl).snd rfl).snd rfl).snd rfl).snd rfl).iso.snd rfl).snd rfl).snd rfl).fst
theorem at48_31 {w : World} {x : S48} {cs : List Value} (h : AtK k48 w x cs 0) : AtK kI w x.f7.f4 cs 31 := (((((((((((h.iso.snd rfl).snd rfl).snd rfl).snd rfl).snd rfl).snd rfl).snd rfl).iso.snd rfl).snd rfl).snd rfl).snd rfl)
theorem at112_0 {w : World} {x : S112} {cs : List Value} (h : AtK k112 w x cs 0) : AtK kI w x.f0 cs 0 := h.iso.fst
theorem at112_1 {w : World} {x : S112} {cs : List Value} (h : AtK k112 w x cs 0) : AtK kI w x.f1 cs 1 := (h.iso.snd rfl)
theorem at129_0 {w : World} {x : S129} {cs : List Value} (h : AtK k129 w x cs 0) : AtK kI w x.f0 cs 0 := h.iso.fst
theorem at129_1 {w : World} {x : S129} {cs : List Value} (h : AtK k129 w x cs 0) : AtK kI w x.f1 cs 1 := (h.iso.snd rfl)
theorem eqs112 (w : World) (x0 y0 : Int) (x1 y1 : Int) : (Op.equal 112 (.agg #[.int .i64 x0, .int .i64 x1]) (.agg #[.int .i64 y0, .int .i64 y1])).run Try.prog w = .ok (x0 == y0 && (x1 == y1)) w := by
  unfold Op.equal
  refine eqA_of Try.underlying112 (by kernel_rfl) ?_
  refine eqf_cons (by rfl) (by go_simp; rfl) (by go_simp; rfl) (by go_simp) ?_
  exact eqf_last (by rfl) (by go_simp; rfl) (by go_simp; rfl) (by go_simp)
def spec_l05All.b0 (l0 : List Int) (a1 : Int) (a2 : Int) (rec_ : Int → Option (Bool ⊕ Int)) (k15 : Nat) (i8 : Int) : Option (Bool ⊕ Int) := (if i8 < (l0.length : Int) then (if 0 ≤ i8 ∧ i8 < (l0.length : Int) then ((spec_l01In.f (l0.getD i8.toNat 0) a1 a2).bind fun t24 => (if t24 = true then (rec_ (wrap64 (i8 + 1))) else (some (Sum.inl false)))) else none) else (some (Sum.inr i8)))
def spec_l05All.l0 (l0 : List Int) (a1 : Int) (a2 : Int) : Nat → Int → Option (Bool ⊕ Int)
  | 0, _ => none
  | k + 1, i8 => spec_l05All.b0 l0 a1 a2 (spec_l05All.l0 l0 a1 a2 k) k i8
def spec_l05All.g (k : Nat) (l0 : List Int) (a1 : Int) (a2 : Int) : Option Bool := ((spec_l05All.l0 l0 a1 a2 k 0).bind (fun oc13 => match oc13 with | .inl r_ => some r_ | .inr i8 => (some true)))
theorem spec_l05All.runs (k : Nat) (A0 : Option Addr) (c0 : Nat) (l0 : List Int) (a1 : Int) (a2 : Int) (r : Bool) (w : World) (hr0 : kI.C w A0 l0.length l0) (hc0 : l0.length ≤ c0) (H : spec_l05All.g k l0 a1 a2 = some r) :
    Calls Try.prog 68 #[.slice A0 l0.length c0, .int .i64 a1, .int .i64 a2] w fun e w' => e = .returned (.bool r) ∧ Below w.heap.size w w' := by
  unfold spec_l05All.g at H
  have HS : St (fun _ => True) w w [] [(cF kI A0 l0)] [] := St.start (foot_cons (foot_C (Kd.heap_int _) hr0) foot_nil)
  refine cw_ (n := 22) Try.func68 fun R_ hR_ => ?_
  refine sr_ fun _ hK1 => ?_
  refine as_ ?_
  refine dn_ hK1 ?_
  refine WC.seq fun K2 hK2 => ?_
  refine sr_ fun _ hK3 => ?_
  refine as_ ?_
  refine dn_ hK3 ?_
  refine WC.block ?_
  obtain ⟨G4, hG5, oc6, H, Ho7⟩ := open_G H
  let J9 := fun (i8 : Int) (E_ : Env) (W_ : World) => E_ = [(0, .slice A0 l0.length c0), (1, .int .i64 a1), (2, .int .i64 a2), (7, .int .i64 i8)] ∧ St (fun _ => True) w W_ [] [(cF kI A0 l0)] []
  have X10 : ∀ E_ W_, (∃ i8, G4 (Sum.inr i8) = some r ∧ J9 i8 E_ W_) → ∀ a, Fits a 22 E_ → K2 a W_ := by
    rintro E_ w11 ⟨i8, H, rfl, HS⟩
    rw [hG5] at H
    (try dsimp only at H)
    refine hK2 _ _ ?_
    refine sr_ fun _ hK12 => ?_
    refine as_ ?_
    refine dn_ hK12 ?_
    obtain rfl := os H
    exact rt1 Try.f68 rfl rfl hR_ ⟨rfl, HS.b⟩
  refine WC.loop (fun k_ E_ W_ => ∃ i8, (∃ o_, spec_l05All.l0 l0 a1 a2 k_ i8 = some o_ ∧ G4 o_ = some r) ∧ J9 i8 E_ W_) k ⟨0, ⟨_, H, Ho7⟩, rfl, HS⟩ (sb rfl) ?_
  rintro k_ E_ w14 ⟨i8, ⟨oc6, H, Ho7⟩, rfl, HS⟩
  rcases k_ with _ | k15
  · exact no_ H
  replace H : spec_l05All.b0 l0 a1 a2 (spec_l05All.l0 l0 a1 a2 k15) k15 i8 = some oc6 := H
  unfold spec_l05All.b0 at H
  refine WC.seq fun _ hK16 => ?_
  refine sr_ fun _ hK17 => ?_
  refine mv_ ?_
  refine mv_ ?_
  refine ln_ Try.underlying25 ?_
  refine b_ bin_lss ?_
  refine dn_ hK17 ?_
  rcases eti_ H with ⟨c18, H⟩ | ⟨c18, H⟩
  · refine wn_ (dF c18) ?_
    refine WC.exit ?_
    obtain rfl := os H
    exact WQ.via2 (fun _ _ h_ => h_) X10 ⟨i8, Ho7, rfl, HS⟩ (sb rfl)
  refine wy_ (dT c18) ?_
  refine WC.skip ?_
  refine via_ hK16 ?_
  refine WC.seq fun _ hK19 => ?_
  refine WC.block ?_
  refine sr_ fun _ hK20 => ?_
  refine mv_ ?_
  refine mv_ ?_
  obtain ⟨⟨q21, q22⟩, H⟩ := if_some H
  obtain ⟨ad23, rfl⟩ := C_open (HS.getO 0 rfl) (by omega)
  refine v_ (ia_ Try.underlying25 1 q21 q22) ?_
  refine v_ (Run.load rfl rfl Try.underlying3 rfl (int_cell (HS.getO 0 rfl) i8 q21 q22)) ?_
  refine mv_ ?_
  refine mv_ ?_
  obtain ⟨t24, ha25, H⟩ := bind_some H
  refine cs0_ HS Try.func67 (spec_l01In.calls (l0.getD i8.toNat 0) a1 a2 t24 _ ha25) (fun w26 HS => ?_)
  clear ha25
  refine nt_ ?_
  refine dn_ hK20 ?_
  rcases ite_ H with ⟨c27, H⟩ | ⟨c27, H⟩
  · refine wn_ (nB c27) ?_
    refine WC.skip ?_
    refine via_ hK19 ?_
    refine rg_ ?_
    refine mv_ ?_
    refine b_ bin_add64 ?_
    refine as_ ?_
    refine WL.done ?_
    exact WQ.round k15 (fun _ _ h_ => h_) (Nat.lt_succ_self _) ⟨(wrap64 (i8 + 1)), ⟨_, H, Ho7⟩, rfl, HS⟩ (sb rfl)
  refine wy_ (nB (bF c27)) ?_
  refine sr_ fun _ hK28 => ?_
  refine as_ ?_
  refine dn_ hK28 ?_
  refine WC.ret ?_
  obtain rfl := os H
  rw [hG5] at Ho7
  replace H : some _ = some _ := Ho7
  obtain rfl := os H
  exact fin1 Try.f68 rfl rfl hR_ ⟨rfl, HS.b⟩
def spec_l05Fits.g (k : Nat) (l0 : List Int) (l1 : List Int) : Option Bool := ((spec_l05Width.f (l0.length : Int)).bind fun t3 => (if t3 = true then ((spec_l05All.g k l0 (-8) 7).bind fun t7 => (if t7 = true then (if (l1.length : Int) = (wrap64 (Int.tdiv (l0.length : Int) 4)) then ((spec_l05All.g k l1 1 127).bind fun t12 => (some t12)) else (some false)) else (some false))) else (some false)))
theorem spec_l05Fits.runs (k : Nat) (A0 : Option Addr) (c0 : Nat) (l0 : List Int) (A1 : Option Addr) (c1 : Nat) (l1 : List Int) (r : Bool) (w : World) (hr0 : kI.C w A0 l0.length l0) (hc0 : l0.length ≤ c0) (hr1 : kI.C w A1 l1.length l1) (hc1 : l1.length ≤ c1) (H : spec_l05Fits.g k l0 l1 = some r) :
    Calls Try.prog 83 #[.slice A0 l0.length c0, .slice A1 l1.length c1] w fun e w' => e = .returned (.bool r) ∧ Below w.heap.size w w' := by
  unfold spec_l05Fits.g at H
  have HS : St (fun _ => True) w w [] [(cF kI A0 l0), (cF kI A1 l1)] [] := St.start (foot_cons (foot_C (Kd.heap_int _) hr0) (foot_cons (foot_C (Kd.heap_int _) hr1) foot_nil))
  refine cw_ (n := 24) Try.func83 fun R_ hR_ => ?_
  refine sr_ fun _ hK1 => ?_
  refine as_ ?_
  refine dn_ hK1 ?_
  refine sr_ fun _ hK2 => ?_
  refine mv_ ?_
  refine ln_ Try.underlying25 ?_
  obtain ⟨t3, ha4, H⟩ := bind_some H
  refine cs0_ HS Try.func61 (spec_l05Width.calls (l0.length : Int) t3 _ ha4) (fun w5 HS => ?_)
  clear ha4
  refine mv_ ?_
  rcases eti_ H with ⟨c6, H⟩ | ⟨c6, H⟩
  · refine off_ (c' := false) (bF c6) ?_
    refine WL.know 8 (bF c6) ?_
    refine fast_ ?_
    refine via_ hK2 ?_
    obtain rfl := os H
    exact rt1 Try.f83 rfl rfl hR_ ⟨rfl, HS.b⟩
  refine on_ c6 ?_
  refine mv_ ?_
  refine on_ c6 ?_
  obtain ⟨t7, ha8, H⟩ := bind_some H
  refine cs_ HS Try.func68 (spec_l05All.runs k A0 c0 l0 (-8) 7 t7 _ (HS.getO 0 rfl) hc0 ha8) (fun w9 HS => ?_)
  clear ha8
  refine v_ (Run.pickT rfl rfl c6 rfl) ?_
  refine mv_ ?_
  rcases eti_ H with ⟨c10, H⟩ | ⟨c10, H⟩
  · refine off_ (c' := false) (bF c10) ?_
    refine WL.know 12 (bF c10) ?_
    refine fast_ ?_
    refine via_ hK2 ?_
    obtain rfl := os H
    exact rt1 Try.f83 rfl rfl hR_ ⟨rfl, HS.b⟩
  refine on_ c10 ?_
  refine mv_ ?_
  refine on_ c10 ?_
  refine ln_ Try.underlying25 ?_
  refine on_ c10 ?_
  refine mv_ ?_
  refine on_ c10 ?_
  refine ln_ Try.underlying25 ?_
  refine on_ c10 ?_
  refine v_ (Run.bin rfl rfl rfl (bin_quo64 (show (4 : Int) ≠ 0 by decide))) ?_
  refine on_ c10 ?_
  refine b_ bin_eql ?_
  refine v_ (Run.pickT rfl rfl c10 rfl) ?_
  refine mv_ ?_
  rcases eti_ H with ⟨c11, H⟩ | ⟨c11, H⟩
  · refine off_ (c' := false) (eF c11) ?_
    refine WL.know 20 (eF c11) ?_
    refine fast_ ?_
    refine via_ hK2 ?_
    obtain rfl := os H
    exact rt1 Try.f83 rfl rfl hR_ ⟨rfl, HS.b⟩
  refine on_ (eT c11) ?_
  refine mv_ ?_
  refine on_ (eT c11) ?_
  obtain ⟨t12, ha13, H⟩ := bind_some H
  refine cs_ HS Try.func68 (spec_l05All.runs k A1 c1 l1 1 127 t12 _ (HS.getO 1 rfl) hc1 ha13) (fun w14 HS => ?_)
  clear ha13
  refine v_ (Run.pickT rfl rfl (eT c11) rfl) ?_
  refine as_ ?_
  refine dn_ hK2 ?_
  obtain rfl := os H
  exact rt1 Try.f83 rfl rfl hR_ ⟨rfl, HS.b⟩
def spec_MatrixOk.b0 (x0 : S36) (rec_ : Int → Option (Bool ⊕ Int)) (k34 : Nat) (i27 : Int) : Option (Bool ⊕ Int) := (if i27 < (x0.f1.length : Int) then (if 0 ≤ i27 ∧ i27 < (x0.f1.length : Int) then (if ((x0.f1.getD i27.toNat []).length : Int) = x0.f0 then (if 0 ≤ i27 ∧ i27 < (x0.f2.length : Int) then ((spec_l05Fits.g k34 (x0.f1.getD i27.toNat []) (x0.f2.getD i27.toNat [])).bind fun t54 => (if t54 = true then (rec_ (wrap64 (i27 + 1))) else (some (Sum.inl false)))) else none) else (some (Sum.inl false))) else none) else (some (Sum.inr i27)))
def spec_MatrixOk.l0 (x0 : S36) : Nat → Int → Option (Bool ⊕ Int)
  | 0, _ => none
  | k + 1, i27 => spec_MatrixOk.b0 x0 (spec_MatrixOk.l0 x0 k) k i27
def spec_MatrixOk.g (k : Nat) (x0 : S36) : Option Bool := ((spec_l05Width.f x0.f0).bind fun t6 => (if t6 = true then (if (x0.f1.length : Int) > 300 then (some false) else (if (x0.f2.length : Int) = (x0.f1.length : Int) then ((spec_l01In.f x0.f3 0 65536).bind fun t13 => (if t13 = true then ((spec_l01In.f x0.f4 0 24).bind fun t17 => (if t17 = true then ((spec_MatrixOk.l0 x0 k 0).bind (fun oc32 => match oc32 with | .inl r_ => some r_ | .inr i27 => (some true))) else (some false))) else (some false))) else (some false))) else (some false)))
theorem spec_MatrixOk.runs (k : Nat) (x0 : S36) (A0_1 : Option Addr) (c0_1 : Nat) (A0_2 : Option Addr) (c0_2 : Nat) (r : Bool) (w : World) (hr0_1 : kS3.C w A0_1 x0.f1.length x0.f1) (hc0_1 : x0.f1.length ≤ c0_1) (hr0_2 : kS3.C w A0_2 x0.f2.length x0.f2) (hc0_2 : x0.f2.length ≤ c0_2) (H : spec_MatrixOk.g k x0 = some r) :
    Calls Try.prog 120 #[.agg #[.int .i64 x0.f0, .slice A0_1 x0.f1.length c0_1, .slice A0_2 x0.f2.length c0_2, .int .i64 x0.f3, .int .i64 x0.f4]] w fun e w' => e = .returned (.bool r) ∧ Below w.heap.size w w' := by
  unfold spec_MatrixOk.g at H
  have HS : St (fun _ => True) w w [] [(cF kS3 A0_1 x0.f1), (cF kS3 A0_2 x0.f2)] [] := St.start (foot_cons (foot_C (Kd.heap_slice _ (Kd.heap_int _)) hr0_1) (foot_cons (foot_C (Kd.heap_slice _ (Kd.heap_int _)) hr0_2) foot_nil))
  refine cw_ (n := 65) Try.func120 fun R_ hR_ => ?_
  refine sr_ fun _ hK1 => ?_
  refine bo_ HS (fun b2 w3 hb2 HS => ?_)
  refine as_ ?_
  refine dn_ hK1 ?_
  refine WC.seq fun _ hK4 => ?_
  refine sr_ fun _ hK5 => ?_
  refine v_ (fa_ Try.underlying36) ?_
  refine v_ (lb_ (HS.mu 0 rfl) Try.underlying3 rfl) ?_
  obtain ⟨t6, ha7, H⟩ := bind_some H
  refine cs0_ HS Try.func61 (spec_l05Width.calls x0.f0 t6 _ ha7) (fun w8 HS => ?_)
  clear ha7
  refine nt_ ?_
  refine mv_ ?_
  rcases eti_ H with ⟨c9, H⟩ | ⟨c9, H⟩
  · refine off_ (c' := true) (nB (bF c9)) ?_
    refine WL.know 8 (nB (bF c9)) ?_
    refine fast_ ?_
    refine via_ hK5 ?_
    refine wy_ rfl ?_
    refine sr_ fun _ hK63 => ?_
    refine as_ ?_
    refine dn_ hK63 ?_
    obtain rfl := os H
    exact rt1 Try.f120 rfl rfl hR_ ⟨rfl, HS.b⟩
  refine on_ (nB c9) ?_
  refine v_ (fa_ Try.underlying36) ?_
  refine on_ (nB c9) ?_
  refine v_ (lb_ (HS.mu 0 rfl) Try.underlying23 rfl) ?_
  refine on_ (nB c9) ?_
  refine ln_ Try.underlying23 ?_
  refine on_ (nB c9) ?_
  refine b_ bin_gtr ?_
  refine v_ (Run.pickF rfl rfl (nB c9) rfl) ?_
  refine mv_ ?_
  rcases ite_ H with ⟨c10, H⟩ | ⟨c10, H⟩
  · refine off_ (c' := true) (dT c10) ?_
    refine WL.know 14 (dT c10) ?_
    refine fast_ ?_
    refine via_ hK5 ?_
    refine wy_ rfl ?_
    refine sr_ fun _ hK11 => ?_
    refine as_ ?_
    refine dn_ hK11 ?_
    obtain rfl := os H
    exact rt1 Try.f120 rfl rfl hR_ ⟨rfl, HS.b⟩
  refine on_ (dF c10) ?_
  refine v_ (fa_ Try.underlying36) ?_
  refine on_ (dF c10) ?_
  refine v_ (lb_ (HS.mu 0 rfl) Try.underlying23 rfl) ?_
  refine on_ (dF c10) ?_
  refine ln_ Try.underlying23 ?_
  refine on_ (dF c10) ?_
  refine v_ (fa_ Try.underlying36) ?_
  refine on_ (dF c10) ?_
  refine v_ (lb_ (HS.mu 0 rfl) Try.underlying23 rfl) ?_
  refine on_ (dF c10) ?_
  refine ln_ Try.underlying23 ?_
  refine on_ (dF c10) ?_
  refine b_ bin_neq ?_
  refine v_ (Run.pickF rfl rfl (dF c10) rfl) ?_
  refine mv_ ?_
  rcases eti_ H with ⟨c12, H⟩ | ⟨c12, H⟩
  · refine off_ (c' := true) (qT c12) ?_
    refine WL.know 23 (qT c12) ?_
    refine fast_ ?_
    refine via_ hK5 ?_
    refine wy_ rfl ?_
    refine sr_ fun _ hK62 => ?_
    refine as_ ?_
    refine dn_ hK62 ?_
    obtain rfl := os H
    exact rt1 Try.f120 rfl rfl hR_ ⟨rfl, HS.b⟩
  refine on_ (qF c12) ?_
  refine v_ (fa_ Try.underlying36) ?_
  refine on_ (qF c12) ?_
  refine v_ (lb_ (HS.mu 0 rfl) Try.underlying3 rfl) ?_
  refine on_ (qF c12) ?_
  obtain ⟨t13, ha14, H⟩ := bind_some H
  refine cs0_ HS Try.func67 (spec_l01In.calls x0.f3 0 65536 t13 _ ha14) (fun w15 HS => ?_)
  clear ha14
  refine on_ (qF c12) ?_
  refine nt_ ?_
  refine v_ (Run.pickF rfl rfl (qF c12) rfl) ?_
  refine mv_ ?_
  rcases eti_ H with ⟨c16, H⟩ | ⟨c16, H⟩
  · refine off_ (c' := true) (nB (bF c16)) ?_
    refine WL.know 29 (nB (bF c16)) ?_
    refine fast_ ?_
    refine via_ hK5 ?_
    refine wy_ rfl ?_
    refine sr_ fun _ hK61 => ?_
    refine as_ ?_
    refine dn_ hK61 ?_
    obtain rfl := os H
    exact rt1 Try.f120 rfl rfl hR_ ⟨rfl, HS.b⟩
  refine on_ (nB c16) ?_
  refine v_ (fa_ Try.underlying36) ?_
  refine on_ (nB c16) ?_
  refine v_ (lb_ (HS.mu 0 rfl) Try.underlying3 rfl) ?_
  refine on_ (nB c16) ?_
  obtain ⟨t17, ha18, H⟩ := bind_some H
  refine cs0_ HS Try.func67 (spec_l01In.calls x0.f4 0 24 t17 _ ha18) (fun w19 HS => ?_)
  clear ha18
  refine on_ (nB c16) ?_
  refine nt_ ?_
  refine v_ (Run.pickF rfl rfl (nB c16) rfl) ?_
  refine dn_ hK5 ?_
  rcases eti_ H with ⟨c20, H⟩ | ⟨c20, H⟩
  · refine wy_ (nB (bF c20)) ?_
    refine sr_ fun _ hK60 => ?_
    refine as_ ?_
    refine dn_ hK60 ?_
    obtain rfl := os H
    exact rt1 Try.f120 rfl rfl hR_ ⟨rfl, HS.b⟩
  refine wn_ (nB c20) ?_
  refine WC.skip ?_
  refine via_ hK4 ?_
  refine WC.seq fun K21 hK21 => ?_
  refine sr_ fun _ hK22 => ?_
  refine as_ ?_
  refine dn_ hK22 ?_
  refine WC.block ?_
  obtain ⟨G23, hG24, oc25, H, Ho26⟩ := open_G H
  let J28 := fun (i27 : Int) (E_ : Env) (W_ : World) => E_ = [(1, .pointer (some ⟨b2, 0, none⟩)), (3, .int .i64 i27)] ∧ St (fun _ => True) w W_ [boxM b2 #[.int .i64 x0.f0, .slice A0_1 x0.f1.length c0_1, .slice A0_2 x0.f2.length c0_2, .int .i64 x0.f3, .int .i64 x0.f4] 36] [(cF kS3 A0_1 x0.f1), (cF kS3 A0_2 x0.f2)] []
  have X29 : ∀ E_ W_, (∃ i27, G23 (Sum.inr i27) = some r ∧ J28 i27 E_ W_) → ∀ a, Fits a 65 E_ → K21 a W_ := by
    rintro E_ w30 ⟨i27, H, rfl, HS⟩
    rw [hG24] at H
    (try dsimp only at H)
    refine hK21 _ _ ?_
    refine sr_ fun _ hK31 => ?_
    refine as_ ?_
    refine dn_ hK31 ?_
    obtain rfl := os H
    exact rt1 Try.f120 rfl rfl hR_ ⟨rfl, HS.b⟩
  refine WC.loop (fun k_ E_ W_ => ∃ i27, (∃ o_, spec_MatrixOk.l0 x0 k_ i27 = some o_ ∧ G23 o_ = some r) ∧ J28 i27 E_ W_) k ⟨0, ⟨_, H, Ho26⟩, rfl, HS⟩ (sb rfl) ?_
  rintro k_ E_ w33 ⟨i27, ⟨oc25, H, Ho26⟩, rfl, HS⟩
  rcases k_ with _ | k34
  · exact no_ H
  replace H : spec_MatrixOk.b0 x0 (spec_MatrixOk.l0 x0 k34) k34 i27 = some oc25 := H
  unfold spec_MatrixOk.b0 at H
  refine WC.seq fun _ hK35 => ?_
  refine sr_ fun _ hK36 => ?_
  refine mv_ ?_
  refine v_ (fa_ Try.underlying36) ?_
  refine v_ (lb_ (HS.mu 0 rfl) Try.underlying23 rfl) ?_
  refine ln_ Try.underlying23 ?_
  refine b_ bin_lss ?_
  refine dn_ hK36 ?_
  rcases eti_ H with ⟨c37, H⟩ | ⟨c37, H⟩
  · refine wn_ (dF c37) ?_
    refine WC.exit ?_
    obtain rfl := os H
    exact WQ.via2 (fun _ _ h_ => h_) X29 ⟨i27, Ho26, rfl, HS⟩ (sb rfl)
  refine wy_ (dT c37) ?_
  refine WC.skip ?_
  refine via_ hK35 ?_
  refine WC.seq fun _ hK38 => ?_
  refine WC.block ?_
  refine WC.seq fun _ hK39 => ?_
  refine WC.drawS HS [] rfl rfl (fun w40 HS => ?_)
  have HB := Below.refl w40.heap.size w40
  have HSW := HS
  refine df_ 0 Try.underlying36 ?_
  refine dm_ 2 ?_
  refine df_ 6 Try.underlying36 ?_
  refine bl_ 1 HS (Below.refl _ _) 0 Try.underlying23 rfl ?_
  obtain ⟨⟨q41, q42⟩, H⟩ := if_some H
  obtain ⟨ad43, rfl⟩ := C_open (HS.getO 0 rfl) (by omega)
  refine di_ 3 Try.underlying23 1 q41 q42 ?_
  obtain ⟨A44, c45, le46, HS⟩ := HS.slO 0 rfl i27 q41 q42
  refine dt_ 4 (Below.refl _ _) (fun w_ hw_ => Run.load rfl rfl Try.underlying25 rfl ((HS.below hw_).getO 1 rfl)) ?_
  refine dp_ 5 (fun _ => Run.len (ts := #[]) rfl Try.underlying25 rfl) ?_
  refine bl_ 7 HS (Below.refl _ _) 0 Try.underlying3 rfl ?_
  refine dp_ 8 (fun _ => Run.bin rfl rfl rfl bin_neq) ?_
  refine dm_ 9 ?_
  rcases eti_ H with ⟨c47, H⟩ | ⟨c47, H⟩
  · refine doT_ 10 (qT c47) ?_
    refine doT_ 11 (qT c47) ?_
    refine doT_ 12 (qT c47) ?_
    refine doT_ 13 (qT c47) ?_
    refine doT_ 14 (qT c47) ?_
    refine doT_ 15 (qT c47) ?_
    refine doT_ 16 (qT c47) ?_
    refine doT_ 17 (qT c47) ?_
    refine doT_ 18 (qT c47) ?_
    refine doT_ 19 (qT c47) ?_
    refine doT_ 20 (qT c47) ?_
    refine doT_ 21 (qT c47) ?_
    refine dp_ 22 (fun _ => Run.pickT rfl rfl (qT c47) rfl) ?_
    refine dd_ ?_
    clear HB HSW
    refine via_ hK39 ?_
    refine wy_ rfl ?_
    refine sr_ fun _ hK59 => ?_
    refine as_ ?_
    refine dn_ hK59 ?_
    refine WC.ret ?_
    obtain rfl := os H
    rw [hG24] at Ho26
    replace H : some _ = some _ := Ho26
    obtain rfl := os H
    exact fin1 Try.f120 rfl rfl hR_ ⟨rfl, HS.b⟩
  refine dfg_ 10 (qF c47) Try.underlying36 ?_
  refine dg_ 12 (qF c47) (fun _ => Run.move rfl rfl) ?_
  refine dfg_ 15 (qF c47) Try.underlying36 ?_
  refine dg_ 17 (qF c47) (fun _ => Run.move rfl rfl) ?_
  refine blg_ 11 (qF c47) HS (Below.refl _ _) 0 Try.underlying23 rfl ?_
  refine dg_ 13 (qF c47) (fun _ => Run.indexAddr rfl rfl rfl Try.underlying23 (sz := 1) (by kernel_rfl) q41 q42) ?_
  refine dh_ 14 (qF c47) (Below.refl _ _) (fun w_ hw_ => Run.load rfl rfl Try.underlying25 rfl ((HS.below hw_).getO 1 rfl)) ?_
  refine blg_ 16 (qF c47) HS (Below.refl _ _) 0 Try.underlying23 rfl ?_
  obtain ⟨⟨q48, q49⟩, H⟩ := if_some H
  obtain ⟨ad50, rfl⟩ := C_open (HS.getO 3 rfl) (by omega)
  refine dg_ 18 (qF c47) (fun _ => Run.indexAddr rfl rfl rfl Try.underlying23 (sz := 1) (by kernel_rfl) q48 q49) ?_
  obtain ⟨A51, c52, le53, HS⟩ := HS.slO 3 rfl i27 q48 q49
  refine dh_ 19 (qF c47) (Below.refl _ _) (fun w_ hw_ => Run.load rfl rfl Try.underlying25 rfl ((HS.below hw_).getO 1 rfl)) ?_
  obtain ⟨t54, ha55, H⟩ := bind_some H
  refine dcs_ HS HB 20 (w_on rfl rfl rfl (qF c47)) Try.func83 (spec_l05Fits.runs k34 A44 c45 (x0.f1.getD i27.toNat []) A51 c52 (x0.f2.getD i27.toNat []) t54 _ (HS.getO 2 rfl) le46 (HS.getO 0 rfl) le53 ha55) (fun w56 HS HB => ?_)
  clear ha55
  refine dg_ 21 (qF c47) (fun _ => Run.not rfl rfl) ?_
  refine dp_ 22 (fun _ => Run.pickF rfl rfl (qF c47) rfl) ?_
  refine dd_ ?_
  clear HB HSW
  refine via_ hK39 ?_
  rcases ite_ H with ⟨c57, H⟩ | ⟨c57, H⟩
  · refine wn_ (nB c57) ?_
    refine WC.skip ?_
    refine via_ hK38 ?_
    refine rg_ ?_
    refine mv_ ?_
    refine b_ bin_add64 ?_
    refine as_ ?_
    refine WL.done ?_
    exact WQ.round k34 (fun _ _ h_ => h_) (Nat.lt_succ_self _) ⟨(wrap64 (i27 + 1)), ⟨_, H, Ho26⟩, rfl, (St.pk HS [4, 5] [] rfl rfl)⟩ (sb rfl)
  refine wy_ (nB (bF c57)) ?_
  refine sr_ fun _ hK58 => ?_
  refine as_ ?_
  refine dn_ hK58 ?_
  refine WC.ret ?_
  obtain rfl := os H
  rw [hG24] at Ho26
  replace H : some _ = some _ := Ho26
  obtain rfl := os H
  exact fin1 Try.f120 rfl rfl hR_ ⟨rfl, HS.b⟩
def spec_Worst.b0 (l0 : List Int) (l1 : List Int) (rec_ : Int → Int → Option (Int × Int)) (k23 : Nat) (i15 : Int) (i16 : Int) : Option (Int × Int) := (if i16 < (l0.length : Int) then (if 0 ≤ (wrap64 (Int.tdiv i16 4)) ∧ (wrap64 (Int.tdiv i16 4)) < (l1.length : Int) then (if 0 ≤ i16 ∧ i16 < (l0.length : Int) then ((spec_l05Abs.f (l0.getD i16.toNat 0)).bind fun t35 => (rec_ (wrap64 (i15 + (wrap64 ((wrap64 ((l1.getD (wrap64 (Int.tdiv i16 4)).toNat 0) * 127)) * t35)))) (wrap64 (i16 + 1)))) else none) else none) else (some (i15, i16)))
def spec_Worst.l0 (l0 : List Int) (l1 : List Int) : Nat → Int → Int → Option (Int × Int)
  | 0, _, _ => none
  | k + 1, i15, i16 => spec_Worst.b0 l0 l1 (spec_Worst.l0 l0 l1 k) k i15 i16
def spec_Worst.g (k : Nat) (l0 : List Int) (l1 : List Int) : Option Int := ((spec_l05Fits.g k l0 l1).bind fun t4 => (if t4 = true then ((spec_Worst.l0 l0 l1 k 0 0).bind (fun oc21 => (some oc21.1))) else (some 0)))
theorem spec_Worst.runs (k : Nat) (A0 : Option Addr) (c0 : Nat) (l0 : List Int) (A1 : Option Addr) (c1 : Nat) (l1 : List Int) (r : Int) (w : World) (hr0 : kI.C w A0 l0.length l0) (hc0 : l0.length ≤ c0) (hr1 : kI.C w A1 l1.length l1) (hc1 : l1.length ≤ c1) (H : spec_Worst.g k l0 l1 = some r) :
    Calls Try.prog 31 #[.slice A0 l0.length c0, .slice A1 l1.length c1] w fun e w' => e = .returned (.int .i64 r) ∧ Below w.heap.size w w' := by
  unfold spec_Worst.g at H
  have HS : St (fun _ => True) w w [] [(cF kI A0 l0), (cF kI A1 l1)] [] := St.start (foot_cons (foot_C (Kd.heap_int _) hr0) (foot_cons (foot_C (Kd.heap_int _) hr1) foot_nil))
  refine cw_ (n := 32) Try.func31 fun R_ hR_ => ?_
  refine sr_ fun _ hK1 => ?_
  refine as_ ?_
  refine dn_ hK1 ?_
  refine WC.seq fun _ hK2 => ?_
  refine sr_ fun _ hK3 => ?_
  refine mv_ ?_
  refine mv_ ?_
  obtain ⟨t4, ha5, H⟩ := bind_some H
  refine cs_ HS Try.func83 (spec_l05Fits.runs k A0 c0 l0 A1 c1 l1 t4 _ (HS.getO 0 rfl) hc0 (HS.getO 1 rfl) hc1 ha5) (fun w6 HS => ?_)
  clear ha5
  refine nt_ ?_
  refine dn_ hK3 ?_
  rcases eti_ H with ⟨c7, H⟩ | ⟨c7, H⟩
  · refine wy_ (nB (bF c7)) ?_
    refine sr_ fun _ hK38 => ?_
    refine as_ ?_
    refine dn_ hK38 ?_
    obtain rfl := os H
    exact rt1 Try.f31 rfl rfl hR_ ⟨rfl, HS.b⟩
  refine wn_ (nB c7) ?_
  refine WC.skip ?_
  refine via_ hK2 ?_
  refine sr_ fun _ hK8 => ?_
  refine as_ ?_
  refine dn_ hK8 ?_
  refine WC.seq fun K9 hK9 => ?_
  refine sr_ fun _ hK10 => ?_
  refine as_ ?_
  refine dn_ hK10 ?_
  refine WC.block ?_
  obtain ⟨G11, hG12, oc13, H, Ho14⟩ := open_G H
  let J17 := fun (i15 : Int) (i16 : Int) (E_ : Env) (W_ : World) => E_ = [(0, .slice A0 l0.length c0), (1, .slice A1 l1.length c1), (5, .int .i64 i15), (6, .int .i64 i16)] ∧ St (fun _ => True) w W_ [] [(cF kI A0 l0), (cF kI A1 l1)] []
  have X18 : ∀ E_ W_, (∃ i15 i16, G11 (i15, i16) = some r ∧ J17 i15 i16 E_ W_) → ∀ a, Fits a 32 E_ → K9 a W_ := by
    rintro E_ w19 ⟨i15, i16, H, rfl, HS⟩
    rw [hG12] at H
    (try dsimp only at H)
    refine hK9 _ _ ?_
    refine sr_ fun _ hK20 => ?_
    refine mv_ ?_
    refine as_ ?_
    refine dn_ hK20 ?_
    obtain rfl := os H
    exact rt1 Try.f31 rfl rfl hR_ ⟨rfl, HS.b⟩
  refine WC.loop (fun k_ E_ W_ => ∃ i15 i16, (∃ o_, spec_Worst.l0 l0 l1 k_ i15 i16 = some o_ ∧ G11 o_ = some r) ∧ J17 i15 i16 E_ W_) k ⟨0, 0, ⟨_, H, Ho14⟩, rfl, HS⟩ (sb rfl) ?_
  rintro k_ E_ w22 ⟨i15, i16, ⟨oc13, H, Ho14⟩, rfl, HS⟩
  rcases k_ with _ | k23
  · exact no_ H
  replace H : spec_Worst.b0 l0 l1 (spec_Worst.l0 l0 l1 k23) k23 i15 i16 = some oc13 := H
  unfold spec_Worst.b0 at H
  refine WC.seq fun _ hK24 => ?_
  refine sr_ fun _ hK25 => ?_
  refine mv_ ?_
  refine mv_ ?_
  refine ln_ Try.underlying25 ?_
  refine b_ bin_lss ?_
  refine dn_ hK25 ?_
  rcases eti_ H with ⟨c26, H⟩ | ⟨c26, H⟩
  · refine wn_ (dF c26) ?_
    refine WC.exit ?_
    obtain rfl := os H
    exact WQ.via2 (fun _ _ h_ => h_) X18 ⟨i15, i16, Ho14, rfl, HS⟩ (sb rfl)
  refine wy_ (dT c26) ?_
  refine WC.skip ?_
  refine via_ hK24 ?_
  refine WC.seq fun _ hK27 => ?_
  refine WC.block ?_
  refine WC.drawS HS [] rfl rfl (fun w28 HS => ?_)
  have HB := Below.refl w28.heap.size w28
  have HSW := HS
  refine dm_ 0 ?_
  refine dm_ 1 ?_
  refine dm_ 2 ?_
  refine dp_ 3 (fun _ => Run.bin rfl rfl rfl (bin_quo64 (show (4 : Int) ≠ 0 by decide))) ?_
  obtain ⟨⟨q29, q30⟩, H⟩ := if_some H
  obtain ⟨ad31, rfl⟩ := C_open (HS.getO 1 rfl) (by omega)
  refine di_ 4 Try.underlying25 1 q29 q30 ?_
  refine dm_ 7 ?_
  refine dm_ 8 ?_
  obtain ⟨⟨q32, q33⟩, H⟩ := if_some H
  obtain ⟨ad34, rfl⟩ := C_open (HS.getO 0 rfl) (by omega)
  refine di_ 9 Try.underlying25 1 q32 q33 ?_
  refine dt_ 5 (Below.refl _ _) (fun w_ hw_ => Run.load rfl rfl Try.underlying3 rfl (int_cell ((HS.below hw_).getO 1 rfl) (wrap64 (Int.tdiv i16 4)) q29 q30)) ?_
  refine dp_ 6 (fun _ => Run.bin rfl rfl rfl bin_mul64) ?_
  refine dt_ 10 (Below.refl _ _) (fun w_ hw_ => Run.load rfl rfl Try.underlying3 rfl (int_cell ((HS.below hw_).getO 0 rfl) i16 q32 q33)) ?_
  obtain ⟨t35, ha36, H⟩ := bind_some H
  refine dcs0_ HS HB 11 (w_none rfl) Try.func84 (spec_l05Abs.calls (l0.getD i16.toNat 0) t35 _ ha36) (fun w37 HS HB => ?_)
  clear ha36
  refine dp_ 12 (fun _ => Run.bin rfl rfl rfl bin_mul64) ?_
  refine dp_ 13 (fun _ => Run.bin rfl rfl rfl bin_add64) ?_
  refine dp_ 14 (fun _ => Run.assign rfl rfl) ?_
  refine dd_ ?_
  clear HB HSW
  refine via_ hK27 ?_
  refine rg_ ?_
  refine mv_ ?_
  refine b_ bin_add64 ?_
  refine as_ ?_
  refine WL.done ?_
  exact WQ.round k23 (fun _ _ h_ => h_) (Nat.lt_succ_self _) ⟨(wrap64 (i15 + (wrap64 ((wrap64 ((l1.getD (wrap64 (Int.tdiv i16 4)).toNat 0) * 127)) * t35)))), (wrap64 (i16 + 1)), ⟨_, H, Ho14⟩, rfl, HS⟩ (sb rfl)
def spec_l10Worst.b0 (x0 : S36) (rec_ : Int → Int → Option (Int × Int)) (k19 : Nat) (i11 : Int) (i12 : Int) : Option (Int × Int) := (if i12 < (x0.f1.length : Int) then (((if 0 ≤ i12 ∧ i12 < (x0.f1.length : Int) then (if 0 ≤ i12 ∧ i12 < (x0.f2.length : Int) then ((spec_Worst.g k19 (x0.f1.getD i12.toNat []) (x0.f2.getD i12.toNat [])).bind fun t46 => (if t46 > i11 then (some t46) else (some i11))) else none) else none) : Option Int).bind (fun oc31 => (rec_ oc31 (wrap64 (i12 + 1))))) else (some (i11, i12)))
def spec_l10Worst.l0 (x0 : S36) : Nat → Int → Int → Option (Int × Int)
  | 0, _, _ => none
  | k + 1, i11, i12 => spec_l10Worst.b0 x0 (spec_l10Worst.l0 x0 k) k i11 i12
def spec_l10Worst.g (k : Nat) (x0 : S36) : Option Int := ((spec_l10Worst.l0 x0 k 0 0).bind (fun oc17 => (some oc17.1)))
theorem spec_l10Worst.runs (k : Nat) (x0 : S36) (A0_1 : Option Addr) (c0_1 : Nat) (A0_2 : Option Addr) (c0_2 : Nat) (r : Int) (w : World) (hr0_1 : kS3.C w A0_1 x0.f1.length x0.f1) (hc0_1 : x0.f1.length ≤ c0_1) (hr0_2 : kS3.C w A0_2 x0.f2.length x0.f2) (hc0_2 : x0.f2.length ≤ c0_2) (H : spec_l10Worst.g k x0 = some r) :
    Calls Try.prog 86 #[.agg #[.int .i64 x0.f0, .slice A0_1 x0.f1.length c0_1, .slice A0_2 x0.f2.length c0_2, .int .i64 x0.f3, .int .i64 x0.f4]] w fun e w' => e = .returned (.int .i64 r) ∧ Below w.heap.size w w' := by
  unfold spec_l10Worst.g at H
  have HS : St (fun _ => True) w w [] [(cF kS3 A0_1 x0.f1), (cF kS3 A0_2 x0.f2)] [] := St.start (foot_cons (foot_C (Kd.heap_slice _ (Kd.heap_int _)) hr0_1) (foot_cons (foot_C (Kd.heap_slice _ (Kd.heap_int _)) hr0_2) foot_nil))
  refine cw_ (n := 29) Try.func86 fun R_ hR_ => ?_
  refine sr_ fun _ hK1 => ?_
  refine bo_ HS (fun b2 w3 hb2 HS => ?_)
  refine as_ ?_
  refine dn_ hK1 ?_
  refine sr_ fun _ hK4 => ?_
  refine as_ ?_
  refine dn_ hK4 ?_
  refine WC.seq fun K5 hK5 => ?_
  refine sr_ fun _ hK6 => ?_
  refine as_ ?_
  refine dn_ hK6 ?_
  refine WC.block ?_
  obtain ⟨G7, hG8, oc9, H, Ho10⟩ := open_G H
  let J13 := fun (i11 : Int) (i12 : Int) (E_ : Env) (W_ : World) => E_ = [(1, .pointer (some ⟨b2, 0, none⟩)), (3, .int .i64 i11), (4, .int .i64 i12)] ∧ St (fun _ => True) w W_ [boxM b2 #[.int .i64 x0.f0, .slice A0_1 x0.f1.length c0_1, .slice A0_2 x0.f2.length c0_2, .int .i64 x0.f3, .int .i64 x0.f4] 36] [(cF kS3 A0_1 x0.f1), (cF kS3 A0_2 x0.f2)] []
  have X14 : ∀ E_ W_, (∃ i11 i12, G7 (i11, i12) = some r ∧ J13 i11 i12 E_ W_) → ∀ a, Fits a 29 E_ → K5 a W_ := by
    rintro E_ w15 ⟨i11, i12, H, rfl, HS⟩
    rw [hG8] at H
    (try dsimp only at H)
    refine hK5 _ _ ?_
    refine sr_ fun _ hK16 => ?_
    refine mv_ ?_
    refine as_ ?_
    refine dn_ hK16 ?_
    obtain rfl := os H
    exact rt1 Try.f86 rfl rfl hR_ ⟨rfl, HS.b⟩
  refine WC.loop (fun k_ E_ W_ => ∃ i11 i12, (∃ o_, spec_l10Worst.l0 x0 k_ i11 i12 = some o_ ∧ G7 o_ = some r) ∧ J13 i11 i12 E_ W_) k ⟨0, 0, ⟨_, H, Ho10⟩, rfl, HS⟩ (sb rfl) ?_
  rintro k_ E_ w18 ⟨i11, i12, ⟨oc9, H, Ho10⟩, rfl, HS⟩
  rcases k_ with _ | k19
  · exact no_ H
  replace H : spec_l10Worst.b0 x0 (spec_l10Worst.l0 x0 k19) k19 i11 i12 = some oc9 := H
  unfold spec_l10Worst.b0 at H
  refine WC.seq fun _ hK20 => ?_
  refine sr_ fun _ hK21 => ?_
  refine mv_ ?_
  refine v_ (fa_ Try.underlying36) ?_
  refine v_ (lb_ (HS.mu 0 rfl) Try.underlying23 rfl) ?_
  refine ln_ Try.underlying23 ?_
  refine b_ bin_lss ?_
  refine dn_ hK21 ?_
  rcases eti_ H with ⟨c22, H⟩ | ⟨c22, H⟩
  · refine wn_ (dF c22) ?_
    refine WC.exit ?_
    obtain rfl := os H
    exact WQ.via2 (fun _ _ h_ => h_) X14 ⟨i11, i12, Ho10, rfl, HS⟩ (sb rfl)
  refine wy_ (dT c22) ?_
  refine WC.skip ?_
  refine via_ hK20 ?_
  refine WC.seq fun K23 hK23 => ?_
  obtain ⟨G24, hG25, oc26, H, Ho27⟩ := open_G H
  have X29 : ∀ E_ W_, (∃ (i28 : Int), E_ = [(1, .pointer (some ⟨b2, 0, none⟩)), (3, .int .i64 i28), (4, .int .i64 i12)] ∧ G24 i28 = some oc9 ∧ St (fun _ => True) w W_ [boxM b2 #[.int .i64 x0.f0, .slice A0_1 x0.f1.length c0_1, .slice A0_2 x0.f2.length c0_2, .int .i64 x0.f3, .int .i64 x0.f4] 36] [(cF kS3 A0_1 x0.f1), (cF kS3 A0_2 x0.f2)] []) → ∀ a, Fits a 29 E_ → K23 a W_ := by
    rintro E_ w30 ⟨i28, rfl, H, HS⟩
    rw [hG25] at H
    (try dsimp only at H)
    refine hK23 _ _ ?_
    refine rg_ ?_
    refine mv_ ?_
    refine b_ bin_add64 ?_
    refine as_ ?_
    refine WL.done ?_
    exact WQ.round k19 (fun _ _ h_ => h_) (Nat.lt_succ_self _) ⟨i28, (wrap64 (i12 + 1)), ⟨_, H, Ho10⟩, rfl, HS⟩ (sb rfl)
  refine WC.block ?_
  refine WC.seq fun _ hK32 => ?_
  refine WC.drawS HS [] rfl rfl (fun w33 HS => ?_)
  have HB := Below.refl w33.heap.size w33
  have HSW := HS
  refine df_ 0 Try.underlying36 ?_
  refine dm_ 2 ?_
  refine df_ 5 Try.underlying36 ?_
  refine dm_ 7 ?_
  refine bl_ 1 HS (Below.refl _ _) 0 Try.underlying23 rfl ?_
  obtain ⟨⟨q34, q35⟩, H⟩ := if_some H
  obtain ⟨ad36, rfl⟩ := C_open (HS.getO 0 rfl) (by omega)
  refine di_ 3 Try.underlying23 1 q34 q35 ?_
  obtain ⟨A37, c38, le39, HS⟩ := HS.slO 0 rfl i12 q34 q35
  refine dt_ 4 (Below.refl _ _) (fun w_ hw_ => Run.load rfl rfl Try.underlying25 rfl ((HS.below hw_).getO 1 rfl)) ?_
  refine bl_ 6 HS (Below.refl _ _) 0 Try.underlying23 rfl ?_
  obtain ⟨⟨q40, q41⟩, H⟩ := if_some H
  obtain ⟨ad42, rfl⟩ := C_open (HS.getO 3 rfl) (by omega)
  refine di_ 8 Try.underlying23 1 q40 q41 ?_
  obtain ⟨A43, c44, le45, HS⟩ := HS.slO 3 rfl i12 q40 q41
  refine dt_ 9 (Below.refl _ _) (fun w_ hw_ => Run.load rfl rfl Try.underlying25 rfl ((HS.below hw_).getO 1 rfl)) ?_
  obtain ⟨t46, ha47, H⟩ := bind_some H
  refine dcs_ HS HB 10 (w_none rfl) Try.func31 (spec_Worst.runs k19 A37 c38 (x0.f1.getD i12.toNat []) A43 c44 (x0.f2.getD i12.toNat []) t46 _ (HS.getO 2 rfl) le39 (HS.getO 0 rfl) le45 ha47) (fun w48 HS HB => ?_)
  clear ha47
  refine dp_ 11 (fun _ => Run.assign rfl rfl) ?_
  refine dd_ ?_
  clear HB HSW
  refine via_ hK32 ?_
  refine sr_ fun _ hK49 => ?_
  refine mv_ ?_
  refine mv_ ?_
  refine b_ bin_gtr ?_
  refine dn_ hK49 ?_
  rcases eti_ H with ⟨c50, H⟩ | ⟨c50, H⟩
  · refine wn_ (dF c50) ?_
    refine WC.skip ?_
    obtain rfl := os H
    exact WQ.via2 (fun _ _ h_ => h_) X29 ⟨i11, rfl, Ho27, (St.pk HS [4, 5] [] rfl rfl)⟩ (sb rfl)
  refine wy_ (dT c50) ?_
  refine rg_ ?_
  refine mv_ ?_
  refine as_ ?_
  refine WL.done ?_
  obtain rfl := os H
  exact WQ.via2 (fun _ _ h_ => h_) X29 ⟨t46, rfl, Ho27, (St.pk HS [4, 5] [] rfl rfl)⟩ (sb rfl)
def spec_GainOk.g (k : Nat) (l0 : List Int) (a1 : Int) : Option Bool := (if (l0.length : Int) = a1 then ((spec_l05All.g k l0 0 127).bind fun t4 => (some t4)) else (some false))
theorem spec_GainOk.runs (k : Nat) (A0 : Option Addr) (c0 : Nat) (l0 : List Int) (a1 : Int) (r : Bool) (w : World) (hr0 : kI.C w A0 l0.length l0) (hc0 : l0.length ≤ c0) (H : spec_GainOk.g k l0 a1 = some r) :
    Calls Try.prog 62 #[.slice A0 l0.length c0, .int .i64 a1] w fun e w' => e = .returned (.bool r) ∧ Below w.heap.size w w' := by
  unfold spec_GainOk.g at H
  have HS : St (fun _ => True) w w [] [(cF kI A0 l0)] [] := St.start (foot_cons (foot_C (Kd.heap_int _) hr0) foot_nil)
  refine cw_ (n := 13) Try.func62 fun R_ hR_ => ?_
  refine sr_ fun _ hK1 => ?_
  refine as_ ?_
  refine dn_ hK1 ?_
  refine sr_ fun _ hK2 => ?_
  refine mv_ ?_
  refine ln_ Try.underlying25 ?_
  refine mv_ ?_
  refine b_ bin_eql ?_
  refine mv_ ?_
  rcases eti_ H with ⟨c3, H⟩ | ⟨c3, H⟩
  · refine off_ (c' := false) (eF c3) ?_
    refine WL.know 9 (eF c3) ?_
    refine fast_ ?_
    refine via_ hK2 ?_
    obtain rfl := os H
    exact rt1 Try.f62 rfl rfl hR_ ⟨rfl, HS.b⟩
  refine on_ (eT c3) ?_
  refine mv_ ?_
  refine on_ (eT c3) ?_
  obtain ⟨t4, ha5, H⟩ := bind_some H
  refine cs_ HS Try.func68 (spec_l05All.runs k A0 c0 l0 0 127 t4 _ (HS.getO 0 rfl) hc0 ha5) (fun w6 HS => ?_)
  clear ha5
  refine v_ (Run.pickT rfl rfl (eT c3) rfl) ?_
  refine as_ ?_
  refine dn_ hK2 ?_
  obtain rfl := os H
  exact rt1 Try.f62 rfl rfl hR_ ⟨rfl, HS.b⟩
def spec_MergesOk.b2 (l0 : List S112) (xs15 : List Int) (i18 : Int) (rec_ : Int → Int → Option (Int × Int)) (k95 : Nat) (i52 : Int) (i53 : Int) : Option (Int × Int) := (if i53 < 2 then (((((if i53 = 1 then (some ((l0.getD i18.toNat o112).f1)) else (some ((l0.getD i18.toNat o112).f0))) : Option Int).bind (fun oc126 => (if oc126 < 256 then (some (wrap64 (i52 + 1))) else (if 0 ≤ (wrap64 (oc126 - 256)) ∧ (wrap64 (oc126 - 256)) < ((xs15.length : Nat) : Int) then (some (wrap64 (i52 + (xs15.getD (wrap64 (oc126 - 256)).toNat 0)))) else none)))) : Option Int).bind (fun oc107 => (rec_ oc107 (wrap64 (i53 + 1))))) else (some (i52, i53)))
def spec_MergesOk.l2 (l0 : List S112) (xs15 : List Int) (i18 : Int) : Nat → Int → Int → Option (Int × Int)
  | 0, _, _ => none
  | k + 1, i52, i53 => spec_MergesOk.b2 l0 xs15 i18 (spec_MergesOk.l2 l0 xs15 i18 k) k i52 i53
def spec_MergesOk.b1 (l0 : List S112) (i18 : Int) (rec_ : Int → Option (Bool ⊕ Int)) (k78 : Nat) (i63 : Int) : Option (Bool ⊕ Int) := (if i63 < i18 then (if 0 ≤ i63 ∧ i63 < (l0.length : Int) then (if (((l0.getD i63.toNat o112).f0) == ((l0.getD i18.toNat o112).f0) && (((l0.getD i63.toNat o112).f1) == ((l0.getD i18.toNat o112).f1))) = true then (some (Sum.inl false)) else (rec_ (wrap64 (i63 + 1)))) else none) else (some (Sum.inr i63)))
def spec_MergesOk.l1 (l0 : List S112) (i18 : Int) : Nat → Int → Option (Bool ⊕ Int)
  | 0, _ => none
  | k + 1, i63 => spec_MergesOk.b1 l0 i18 (spec_MergesOk.l1 l0 i18 k) k i63
def spec_MergesOk.b0 (l0 : List S112) (rec_ : (List Int) → Int → Option (Bool ⊕ ((List Int) × Int))) (k25 : Nat) (xs15 : List Int) (i18 : Int) : Option (Bool ⊕ ((List Int) × Int)) := (if i18 < (l0.length : Int) then (if 0 ≤ i18 ∧ i18 < (l0.length : Int) then ((spec_l01In.f ((l0.getD i18.toNat o112).f0) 0 (wrap64 (255 + i18))).bind fun t37 => (if t37 = true then ((spec_l01In.f ((l0.getD i18.toNat o112).f1) 0 (wrap64 (255 + i18))).bind fun t41 => (if t41 = true then ((spec_MergesOk.l2 l0 xs15 i18 k25 0 0).bind (fun oc93 => ((spec_MergesOk.l1 l0 i18 k25 0).bind (fun oc76 => match oc76 with | .inl r_ => some (Sum.inl r_) | .inr i63 => (if oc93.1 > 64 then (some (Sum.inl false)) else (if (xs15.length) < 4294967296 then (rec_ (xs15 ++ [oc93.1]) (wrap64 (i18 + 1))) else none)))))) else (some (Sum.inl false)))) else (some (Sum.inl false)))) else none) else (some (Sum.inr (xs15, i18))))
def spec_MergesOk.l0 (l0 : List S112) : Nat → (List Int) → Int → Option (Bool ⊕ ((List Int) × Int))
  | 0, _, _ => none
  | k + 1, xs15, i18 => spec_MergesOk.b0 l0 (spec_MergesOk.l0 l0 k) k xs15 i18
def spec_MergesOk.g (k : Nat) (l0 : List S112) : Option Bool := (if (l0.length : Int) > 16 then (some false) else ((spec_MergesOk.l0 l0 k ([] : List Int) 0).bind (fun oc23 => match oc23 with | .inl r_ => some r_ | .inr ⟨xs15, i18⟩ => (some true))))
theorem spec_MergesOk.runs (k : Nat) (A0 : Option Addr) (c0 : Nat) (l0 : List S112) (r : Bool) (w : World) (hr0 : k112.C w A0 l0.length l0) (hc0 : l0.length ≤ c0) (H : spec_MergesOk.g k l0 = some r) :
    Calls Try.prog 66 #[.slice A0 l0.length c0] w fun e w' => e = .returned (.bool r) ∧ Below w.heap.size w w' := by
  unfold spec_MergesOk.g at H
  have HS : St (fun _ => True) w w [] [(cF k112 A0 l0)] [] := St.start (foot_cons (foot_C h112 hr0) foot_nil)
  refine cw_ (n := 86) Try.func66 fun R_ hR_ => ?_
  refine sr_ fun _ hK1 => ?_
  refine as_ ?_
  refine dn_ hK1 ?_
  clear hK1
  refine WC.seq fun _ hK2 => ?_
  exact by (
  refine sr_ fun _ hK3 => ?_
  refine mv_ ?_
  refine ln_ Try.underlying34 ?_
  refine b_ bin_gtr ?_
  refine dn_ hK3 ?_
  clear hK3
  rcases ite_ H with ⟨c4, H⟩ | ⟨c4, H⟩
  · refine wy_ (dT c4) ?_
    exact by (
    refine sr_ fun _ hK5 => ?_
    refine as_ ?_
    refine dn_ hK5 ?_
    clear hK5
    obtain rfl := os H
    exact rt1 Try.f66 rfl rfl hR_ ⟨rfl, HS.b⟩ )
  refine wn_ (dF c4) ?_
  refine WC.skip ?_
  exact by (
  refine via_ hK2 ?_
  clear hK2
  refine sr_ fun _ hK6 => ?_
  refine WL.lit0 HS rfl rfl (by decide) rfl Try.underlying25 (sz := 1) (by kernel_rfl) (fun v7 w8 HS => ?_)
  replace HS := HS.deriveO (p := (rF kI ([] : List Int) [])) (fun _ _ _ => Reps.none _ _)
  refine as_ ?_
  refine dn_ hK6 ?_
  clear hK6
  exact by (
  refine WC.seq fun K9 hK9 => ?_
  refine sr_ fun _ hK10 => ?_
  refine as_ ?_
  refine dn_ hK10 ?_
  clear hK10
  refine WC.block ?_
  obtain ⟨G11, hG12, oc13, H, Ho14⟩ := open_G H
  let J19 := fun (xs15 : List Int) (v16 : Value) (I17 : List Value) (i18 : Int) (E_ : Env) (W_ : World) => E_ = [(0, .slice A0 l0.length c0), (3, v16), (4, .int .i64 i18)] ∧ St (fun _ => True) w W_ [rowM w.heap.size 3 1 v16 xs15.length I17] [(rF kI xs15 I17), (cF k112 A0 l0)] []
  exact by (
  have X20 : ∀ E_ W_, (∃ xs15 v16 I17 i18, G11 (Sum.inr (xs15, i18)) = some r ∧ J19 xs15 v16 I17 i18 E_ W_) → ∀ a, Fits a 86 E_ → K9 a W_ := by
    rintro E_ w21 ⟨xs15, v16, I17, i18, H, rfl, HS⟩
    rw [hG12] at H
    (try dsimp only at H)
    refine hK9 _ _ ?_
    clear hK9
    refine sr_ fun _ hK22 => ?_
    refine as_ ?_
    exact by (
    refine dn_ hK22 ?_
    clear hK22
    obtain rfl := os H
    exact rt1 Try.f66 rfl rfl hR_ ⟨rfl, HS.b⟩ )
  clear hK9
  refine WC.loop (fun k_ E_ W_ => ∃ xs15 v16 I17 i18, (∃ o_, spec_MergesOk.l0 l0 k_ xs15 i18 = some o_ ∧ G11 o_ = some r) ∧ J19 xs15 v16 I17 i18 E_ W_) k ⟨([] : List Int), v7, ([]), 0, ⟨_, H, Ho14⟩, rfl, HS⟩ (sb rfl) ?_
  rintro k_ E_ w24 ⟨xs15, v16, I17, i18, ⟨oc13, H, Ho14⟩, rfl, HS⟩
  rcases k_ with _ | k25
  · exact no_ H
  exact by (
  replace H : spec_MergesOk.b0 l0 (spec_MergesOk.l0 l0 k25) k25 xs15 i18 = some oc13 := H
  unfold spec_MergesOk.b0 at H
  refine WC.seq fun _ hK26 => ?_
  refine sr_ fun _ hK27 => ?_
  refine mv_ ?_
  refine mv_ ?_
  refine ln_ Try.underlying34 ?_
  refine b_ bin_lss ?_
  exact by (
  refine dn_ hK27 ?_
  clear hK27
  rcases eti_ H with ⟨c28, H⟩ | ⟨c28, H⟩
  · refine wn_ (dF c28) ?_
    refine WC.exit ?_
    obtain rfl := os H
    exact WQ.via2 (fun _ _ h_ => h_) X20 ⟨xs15, v16, I17, i18, Ho14, rfl, HS⟩ (sb rfl)
  refine wy_ (dT c28) ?_
  exact by (
  refine WC.skip ?_
  refine via_ hK26 ?_
  clear hK26
  refine WC.seq fun _ hK29 => ?_
  refine WC.block ?_
  refine WC.seq fun _ hK30 => ?_
  refine sr_ fun _ hK31 => ?_
  refine mv_ ?_
  exact by (
  refine mv_ ?_
  obtain ⟨⟨q32, q33⟩, H⟩ := if_some H
  obtain ⟨ad34, rfl⟩ := C_open (HS.getO 1 rfl) (by omega)
  refine v_ (ia_ Try.underlying34 2 q32 q33) ?_
  refine v_ (fa_ Try.underlying112) ?_
  obtain ⟨e35, el36, HS⟩ := HS.elO 1 rfl (by decide) o112 i18 q32 q33
  refine v_ (Run.load rfl rfl Try.underlying3 rfl ((HS.getO 0 rfl).2 0 _ (at112_0 (AtK.whole (HS.getO 0 rfl).1)).int)) ?_
  refine mv_ ?_
  exact by (
  refine b_ bin_add64 ?_
  obtain ⟨t37, ha38, H⟩ := bind_some H
  refine cs0_ HS Try.func67 (spec_l01In.calls ((l0.getD i18.toNat o112).f0) 0 (wrap64 (255 + i18)) t37 _ ha38) (fun w39 HS => ?_)
  clear ha38
  refine nt_ ?_
  refine mv_ ?_
  rcases eti_ H with ⟨c40, H⟩ | ⟨c40, H⟩
  · refine off_ (c' := true) (nB (bF c40)) ?_
    exact by (
    refine WL.know 28 (nB (bF c40)) ?_
    refine fast_ ?_
    refine via_ hK31 ?_
    clear hK31
    refine wy_ rfl ?_
    refine sr_ fun _ hK130 => ?_
    refine as_ ?_
    refine dn_ hK130 ?_
    exact by (
    clear hK130
    refine WC.ret ?_
    obtain rfl := os H
    rw [hG12] at Ho14
    replace H : some _ = some _ := Ho14
    obtain rfl := os H
    exact fin1 Try.f66 rfl rfl hR_ ⟨rfl, HS.b⟩ ))
  refine on_ (nB c40) ?_
  exact by (
  refine mv_ ?_
  refine on_ (nB c40) ?_
  refine mv_ ?_
  refine on_ (nB c40) ?_
  refine v_ (ia_ Try.underlying34 2 q32 q33) ?_
  refine on_ (nB c40) ?_
  refine v_ (fa_ Try.underlying112) ?_
  refine on_ (nB c40) ?_
  exact by (
  refine v_ (Run.load rfl rfl Try.underlying3 rfl ((HS.getO 0 rfl).2 1 _ (at112_1 (AtK.whole (HS.getO 0 rfl).1)).int)) ?_
  refine on_ (nB c40) ?_
  refine mv_ ?_
  refine on_ (nB c40) ?_
  refine b_ bin_add64 ?_
  refine on_ (nB c40) ?_
  obtain ⟨t41, ha42, H⟩ := bind_some H
  refine cs0_ HS Try.func67 (spec_l01In.calls ((l0.getD i18.toNat o112).f1) 0 (wrap64 (255 + i18)) t41 _ ha42) (fun w43 HS => ?_)
  exact by (
  clear ha42
  refine on_ (nB c40) ?_
  refine nt_ ?_
  refine v_ (Run.pickF rfl rfl (nB c40) rfl) ?_
  refine dn_ hK31 ?_
  clear hK31
  rcases eti_ H with ⟨c44, H⟩ | ⟨c44, H⟩
  · refine wy_ (nB (bF c44)) ?_
    exact by (
    refine sr_ fun _ hK129 => ?_
    refine as_ ?_
    refine dn_ hK129 ?_
    clear hK129
    refine WC.ret ?_
    obtain rfl := os H
    rw [hG12] at Ho14
    replace H : some _ = some _ := Ho14
    obtain rfl := os H
    exact fin1 Try.f66 rfl rfl hR_ ⟨rfl, HS.b⟩ )
  exact by (
  refine wn_ (nB c44) ?_
  refine WC.skip ?_
  refine via_ hK30 ?_
  clear hK30
  refine sr_ fun _ hK45 => ?_
  refine as_ ?_
  refine dn_ hK45 ?_
  clear hK45
  exact by (
  refine WC.seq fun K46 hK46 => ?_
  refine sr_ fun _ hK47 => ?_
  refine as_ ?_
  refine dn_ hK47 ?_
  clear hK47
  refine WC.block ?_
  obtain ⟨G48, hG49, oc50, H, Ho51⟩ := open_G H
  let J54 := fun (i52 : Int) (i53 : Int) (E_ : Env) (W_ : World) => E_ = [(0, .slice (some ad34) l0.length c0), (3, v16), (4, .int .i64 i18), (5, .int .i64 i52), (6, .int .i64 i53)] ∧ St (fun _ => True) w W_ [rowM w.heap.size 3 1 v16 xs15.length I17] [(rF kI xs15 I17), (cF k112 (some ad34) l0)] []
  exact by (
  have X55 : ∀ E_ W_, (∃ i52 i53, G48 (i52, i53) = some oc13 ∧ J54 i52 i53 E_ W_) → ∀ a, Fits a 86 E_ → K46 a W_ := by
    rintro E_ w56 ⟨i52, i53, H, rfl, HS⟩
    rw [hG49] at H
    (try dsimp only at H)
    refine hK46 _ _ ?_
    clear hK46
    refine WC.seq fun K57 hK57 => ?_
    refine sr_ fun _ hK58 => ?_
    exact by (
    refine as_ ?_
    refine dn_ hK58 ?_
    clear hK58
    refine WC.block ?_
    obtain ⟨G59, hG60, oc61, H, Ho62⟩ := open_G H
    let J64 := fun (i63 : Int) (E_ : Env) (W_ : World) => E_ = [(0, .slice (some ad34) l0.length c0), (3, v16), (4, .int .i64 i18), (5, .int .i64 i52), (8, .int .i64 i63)] ∧ St (fun _ => True) w W_ [rowM w.heap.size 3 1 v16 xs15.length I17] [(rF kI xs15 I17), (cF k112 (some ad34) l0)] []
    have X65 : ∀ E_ W_, (∃ i63, G59 (Sum.inr i63) = some oc13 ∧ J64 i63 E_ W_) → ∀ a, Fits a 86 E_ → K57 a W_ := by
      rintro E_ w66 ⟨i63, H, rfl, HS⟩
      exact by (
      rw [hG60] at H
      (try dsimp only at H)
      refine hK57 _ _ ?_
      clear hK57
      refine WC.seq fun _ hK67 => ?_
      refine sr_ fun _ hK68 => ?_
      refine mv_ ?_
      refine b_ bin_gtr ?_
      exact by (
      refine dn_ hK68 ?_
      clear hK68
      rcases ite_ H with ⟨c69, H⟩ | ⟨c69, H⟩
      · refine wy_ (dT c69) ?_
        refine sr_ fun _ hK70 => ?_
        refine as_ ?_
        refine dn_ hK70 ?_
        clear hK70
        exact by (
        refine WC.ret ?_
        obtain rfl := os H
        rw [hG12] at Ho14
        replace H : some _ = some _ := Ho14
        obtain rfl := os H
        exact fin1 Try.f66 rfl rfl hR_ ⟨rfl, HS.b⟩ )
      refine wn_ (dF c69) ?_
      refine WC.skip ?_
      exact by (
      refine via_ hK67 ?_
      clear hK67
      refine rg_ ?_
      refine mv_ ?_
      refine mv_ ?_
      refine WL.val rfl rfl (by decide) (Run.lit1 (z := (.int .i64 0)) (vs := [.int .i64 i52]) rfl rfl rfl Try.underlying25 (by kernel_rfl) (Nat.le_of_ble_eq_true rfl) (Nat.le_of_ble_eq_true rfl)) ?_
      have HS1 := HS.below (below_alloc (Below.refl _ _) (.cells #[.int .i64 i52] 3))
      obtain ⟨q71, H⟩ := if_some H
      exact by (
      refine WL.append HS1 0 rfl rfl rfl (by decide) rfl (.int .i64 0) 8 Try.underlying25 (by kernel_rfl) rfl (by decide) (by decide) rfl rfl [.int .i64 i52] rfl (lit_news _ _ _) (oneL rfl) (by omega) ((xs15 ++ [i52]).length) (by simp) (fun v72 w73 I74 hI75 HS => ?_)
      dsimp only [List.set] at HS
      replace HS := HS.deriveO (p := (rF kI (xs15 ++ [i52]) I74)) (fun W_ hO_ hN_ => reps_snoc hI75 hO_.1 (K_int _))
      clear HS1
      refine as_ ?_
      refine dn_ hK29 ?_
      clear hK29
      refine rg_ ?_
      exact by (
      refine mv_ ?_
      refine b_ bin_add64 ?_
      refine as_ ?_
      refine WL.done ?_
      exact WQ.round k25 (fun _ _ h_ => h_) (Nat.lt_succ_self _) ⟨(xs15 ++ [i52]), v72, I74, (wrap64 (i18 + 1)), ⟨_, H, Ho14⟩, rfl, (St.pk HS [0, 2] [] rfl rfl)⟩ (sb rfl) )))))
    clear hK57
    refine WC.loop (fun k_ E_ W_ => ∃ i63, (∃ o_, spec_MergesOk.l1 l0 i18 k_ i63 = some o_ ∧ G59 o_ = some oc13) ∧ J64 i63 E_ W_) k25 ⟨0, ⟨_, H, Ho62⟩, rfl, HS⟩ (sb rfl) ?_
    rintro k_ E_ w77 ⟨i63, ⟨oc61, H, Ho62⟩, rfl, HS⟩
    exact by (
    rcases k_ with _ | k78
    · exact no_ H
    replace H : spec_MergesOk.b1 l0 i18 (spec_MergesOk.l1 l0 i18 k78) k78 i63 = some oc61 := H
    unfold spec_MergesOk.b1 at H
    refine WC.seq fun _ hK79 => ?_
    refine sr_ fun _ hK80 => ?_
    refine mv_ ?_
    refine mv_ ?_
    exact by (
    refine b_ bin_lss ?_
    refine dn_ hK80 ?_
    clear hK80
    rcases eti_ H with ⟨c81, H⟩ | ⟨c81, H⟩
    · refine wn_ (dF c81) ?_
      refine WC.exit ?_
      obtain rfl := os H
      exact WQ.via2 (fun _ _ h_ => h_) X65 ⟨i63, Ho62, rfl, HS⟩ (sb rfl)
    exact by (
    refine wy_ (dT c81) ?_
    refine WC.skip ?_
    refine via_ hK79 ?_
    clear hK79
    refine WC.seq fun _ hK82 => ?_
    refine WC.block ?_
    refine WC.seq fun _ hK83 => ?_
    refine WC.drawS HS [] rfl rfl (fun w84 HS => ?_)
    exact by (
    have HB := Below.refl w84.heap.size w84
    have HSW := HS
    refine dm_ 0 ?_
    refine dm_ 1 ?_
    obtain ⟨⟨q85, q86⟩, H⟩ := if_some H
    refine di_ 2 Try.underlying34 2 q85 q86 ?_
    refine dm_ 4 ?_
    refine dm_ 5 ?_
    exact by (
    refine di_ 6 Try.underlying34 2 q32 q33 ?_
    obtain ⟨e87, el88, HS⟩ := HS.elO 1 rfl (by decide) o112 i63 q85 q86
    refine dt_ 3 (Below.refl _ _) (fun w_ hw_ => Run.loadS (cs := [.int .i64 ((l0.getD i63.toNat o112).f0), .int .i64 ((l0.getD i63.toNat o112).f1)]) rfl rfl Try.underlying112 rfl (by kernel_rfl) (cells_part ((HS.below hw_).getO 0 rfl).2 (part_cons (at112_0 (AtK.whole ((HS.below hw_).getO 0 rfl).1)).int (part_cons (at112_1 (AtK.whole ((HS.below hw_).getO 0 rfl).1)).int part_nil)))) ?_
    obtain ⟨e89, el90, HS⟩ := HS.elO 2 rfl (by decide) o112 i18 q32 q33
    refine dt_ 7 (Below.refl _ _) (fun w_ hw_ => Run.loadS (cs := [.int .i64 ((l0.getD i18.toNat o112).f0), .int .i64 ((l0.getD i18.toNat o112).f1)]) rfl rfl Try.underlying112 rfl (by kernel_rfl) (cells_part ((HS.below hw_).getO 0 rfl).2 (part_cons (at112_0 (AtK.whole ((HS.below hw_).getO 0 rfl).1)).int (part_cons (at112_1 (AtK.whole ((HS.below hw_).getO 0 rfl).1)).int part_nil)))) ?_
    refine dp_ 8 (fun _ => Run.eqS rfl rfl rfl (by kernel_rfl) (eqs112 _ _ _ _ _)) ?_
    refine dd_ ?_
    clear HB HSW
    exact by (
    refine via_ hK83 ?_
    clear hK83
    rcases eti_ H with ⟨c91, H⟩ | ⟨c91, H⟩
    · refine wn_ (bF c91) ?_
      refine WC.skip ?_
      refine via_ hK82 ?_
      clear hK82
      refine rg_ ?_
      exact by (
      refine mv_ ?_
      refine b_ bin_add64 ?_
      refine as_ ?_
      refine WL.done ?_
      exact WQ.round k78 (fun _ _ h_ => h_) (Nat.lt_succ_self _) ⟨(wrap64 (i63 + 1)), ⟨_, H, Ho62⟩, rfl, (St.pk HS [2, 3] [] rfl rfl)⟩ (sb rfl) )
    refine wy_ c91 ?_
    refine sr_ fun _ hK92 => ?_
    refine as_ ?_
    exact by (
    refine dn_ hK92 ?_
    clear hK92
    refine WC.ret ?_
    obtain rfl := os H
    rw [hG60] at Ho62
    replace H : some _ = some _ := Ho62
    obtain rfl := os H
    rw [hG12] at Ho14
    exact by (
    replace H : some _ = some _ := Ho14
    obtain rfl := os H
    exact fin1 Try.f66 rfl rfl hR_ ⟨rfl, HS.b⟩ )))))))))
  clear hK46
  refine WC.loop (fun k_ E_ W_ => ∃ i52 i53, (∃ o_, spec_MergesOk.l2 l0 xs15 i18 k_ i52 i53 = some o_ ∧ G48 o_ = some oc13) ∧ J54 i52 i53 E_ W_) k25 ⟨0, 0, ⟨_, H, Ho51⟩, rfl, (St.pk HS [1, 2] [] rfl rfl)⟩ (sb rfl) ?_
  rintro k_ E_ w94 ⟨i52, i53, ⟨oc50, H, Ho51⟩, rfl, HS⟩
  rcases k_ with _ | k95
  · exact no_ H
  exact by (
  replace H : spec_MergesOk.b2 l0 xs15 i18 (spec_MergesOk.l2 l0 xs15 i18 k95) k95 i52 i53 = some oc50 := H
  unfold spec_MergesOk.b2 at H
  refine WC.seq fun _ hK96 => ?_
  refine sr_ fun _ hK97 => ?_
  refine mv_ ?_
  refine b_ bin_lss ?_
  refine dn_ hK97 ?_
  clear hK97
  exact by (
  rcases eti_ H with ⟨c98, H⟩ | ⟨c98, H⟩
  · refine wn_ (dF c98) ?_
    refine WC.exit ?_
    obtain rfl := os H
    exact WQ.via2 (fun _ _ h_ => h_) X55 ⟨i52, i53, Ho51, rfl, HS⟩ (sb rfl)
  refine wy_ (dT c98) ?_
  refine WC.skip ?_
  refine via_ hK96 ?_
  exact by (
  clear hK96
  refine WC.seq fun K99 hK99 => ?_
  obtain ⟨G100, hG101, oc102, H, Ho103⟩ := open_G H
  have X105 : ∀ E_ W_, (∃ (i104 : Int), E_ = [(0, .slice (some ad34) l0.length c0), (3, v16), (4, .int .i64 i18), (5, .int .i64 i104), (6, .int .i64 i53)] ∧ G100 i104 = some oc50 ∧ St (fun _ => True) w W_ [rowM w.heap.size 3 1 v16 xs15.length I17] [(rF kI xs15 I17), (cF k112 (some ad34) l0)] []) → ∀ a, Fits a 86 E_ → K99 a W_ := by
    rintro E_ w106 ⟨i104, rfl, H, HS⟩
    rw [hG101] at H
    (try dsimp only at H)
    refine hK99 _ _ ?_
    exact by (
    clear hK99
    refine rg_ ?_
    refine mv_ ?_
    refine b_ bin_add64 ?_
    refine as_ ?_
    refine WL.done ?_
    exact WQ.round k95 (fun _ _ h_ => h_) (Nat.lt_succ_self _) ⟨i104, (wrap64 (i53 + 1)), ⟨_, H, Ho51⟩, rfl, HS⟩ (sb rfl) )
  clear hK99
  exact by (
  refine WC.block ?_
  refine sr_ fun _ hK108 => ?_
  refine mv_ ?_
  refine mv_ ?_
  refine v_ (ia_ Try.underlying34 2 q32 q33) ?_
  refine v_ (fa_ Try.underlying112) ?_
  obtain ⟨e109, el110, HS⟩ := HS.elO 1 rfl (by decide) o112 i18 q32 q33
  refine v_ (Run.load rfl rfl Try.underlying3 rfl ((HS.getO 0 rfl).2 0 _ (at112_0 (AtK.whole (HS.getO 0 rfl).1)).int)) ?_
  exact by (
  refine as_ ?_
  refine dn_ hK108 ?_
  clear hK108
  refine WC.seq fun K111 hK111 => ?_
  obtain ⟨G112, hG113, oc114, H, Ho115⟩ := open_G H
  have X117 : ∀ E_ W_, (∃ (i116 : Int), E_ = [(0, .slice (some ad34) l0.length c0), (3, v16), (4, .int .i64 i18), (5, .int .i64 i52), (6, .int .i64 i53), (7, .int .i64 i116)] ∧ G112 i116 = some oc102 ∧ St (fun _ => True) w W_ [rowM w.heap.size 3 1 v16 xs15.length I17] [(rF kI xs15 I17), (cF k112 (some ad34) l0)] []) → ∀ a, Fits a 86 E_ → K111 a W_ := by
    rintro E_ w118 ⟨i116, rfl, H, HS⟩
    rw [hG113] at H
    exact by (
    (try dsimp only at H)
    refine hK111 _ _ ?_
    clear hK111
    refine sr_ fun _ hK119 => ?_
    refine mv_ ?_
    refine b_ bin_lss ?_
    refine dn_ hK119 ?_
    clear hK119
    exact by (
    rcases ite_ H with ⟨c120, H⟩ | ⟨c120, H⟩
    · refine wy_ (dT c120) ?_
      refine rg_ ?_
      refine mv_ ?_
      refine b_ bin_add64 ?_
      refine as_ ?_
      refine WL.done ?_
      obtain rfl := os H
      exact WQ.via2 (fun _ _ h_ => h_) X105 ⟨(wrap64 (i52 + 1)), rfl, Ho103, HS⟩ (sb rfl)
    exact by (
    refine wn_ (dF c120) ?_
    refine rg_ ?_
    refine mv_ ?_
    refine mv_ ?_
    refine mv_ ?_
    refine b_ bin_sub64 ?_
    obtain ⟨⟨q121, q122⟩, H⟩ := if_some H
    obtain ⟨A123, c124, rfl⟩ := row_slice (HS.mu 0 rfl)
    exact by (
    obtain ⟨ad125, rfl⟩ := row_open (HS.mu 0 rfl) (by omega)
    refine v_ (ia_ Try.underlying25 1 q121 q122) ?_
    refine v_ (Run.load rfl rfl Try.underlying3 rfl (row_int (HS.mu 0 rfl) (HS.getO 0 rfl) q121 q122)) ?_
    refine b_ bin_add64 ?_
    refine as_ ?_
    refine WL.done ?_
    obtain rfl := os H
    exact WQ.via2 (fun _ _ h_ => h_) X105 ⟨(wrap64 (i52 + (xs15.getD (wrap64 (i116 - 256)).toNat 0))), rfl, Ho103, HS⟩ (sb rfl) ))))
  exact by (
  clear hK111
  refine sr_ fun _ hK127 => ?_
  refine mv_ ?_
  refine b_ bin_eql ?_
  refine dn_ hK127 ?_
  clear hK127
  rcases eti_ H with ⟨c128, H⟩ | ⟨c128, H⟩
  · refine wn_ (eF c128) ?_
    exact by (
    refine WC.skip ?_
    obtain rfl := os H
    exact WQ.via2 (fun _ _ h_ => h_) X117 ⟨((l0.getD i18.toNat o112).f0), rfl, Ho115, (St.pk HS [1, 2] [] rfl rfl)⟩ (sb rfl) )
  refine wy_ (eT c128) ?_
  refine rg_ ?_
  refine mv_ ?_
  refine mv_ ?_
  refine v_ (ia_ Try.underlying34 2 q32 q33) ?_
  exact by (
  refine v_ (fa_ Try.underlying112) ?_
  refine v_ (Run.load rfl rfl Try.underlying3 rfl ((HS.getO 0 rfl).2 1 _ (at112_1 (AtK.whole (HS.getO 0 rfl).1)).int)) ?_
  refine as_ ?_
  refine WL.done ?_
  obtain rfl := os H
  exact WQ.via2 (fun _ _ h_ => h_) X117 ⟨((l0.getD i18.toNat o112).f1), rfl, Ho115, (St.pk HS [1, 2] [] rfl rfl)⟩ (sb rfl) ))))))))))))))))))))))
def spec_TurnsOk.b0 (x0 : S37) (a1 : Int) (a2 : Int) (rec_ : Int → Option (Bool ⊕ Int)) (k29 : Nat) (i22 : Int) : Option (Bool ⊕ Int) := (if i22 < a1 then (if 0 ≤ i22 ∧ i22 < (x0.f0.length : Int) then (if ((x0.f0.getD i22.toNat []).length : Int) = a2 then (if 0 ≤ i22 ∧ i22 < (x0.f1.length : Int) then (if ((x0.f1.getD i22.toNat []).length : Int) = a2 then ((spec_l05All.g k29 (x0.f0.getD i22.toNat []) (-128) 128).bind fun t49 => (if t49 = true then ((spec_l05All.g k29 (x0.f1.getD i22.toNat []) (-128) 128).bind fun t53 => (if t53 = true then (rec_ (wrap64 (i22 + 1))) else (some (Sum.inl false)))) else (some (Sum.inl false)))) else (some (Sum.inl false))) else none) else (some (Sum.inl false))) else none) else (some (Sum.inr i22)))
def spec_TurnsOk.l0 (x0 : S37) (a1 : Int) (a2 : Int) : Nat → Int → Option (Bool ⊕ Int)
  | 0, _ => none
  | k + 1, i22 => spec_TurnsOk.b0 x0 a1 a2 (spec_TurnsOk.l0 x0 a1 a2 k) k i22
def spec_TurnsOk.g (k : Nat) (x0 : S37) (a1 : Int) (a2 : Int) : Option Bool := ((spec_l01In.f a1 4 24).bind fun t6 => (if t6 = true then ((spec_l01In.f a2 1 4).bind fun t10 => (if t10 = true then (if (x0.f0.length : Int) = a1 then (if (x0.f1.length : Int) = a1 then ((spec_TurnsOk.l0 x0 a1 a2 k 0).bind (fun oc27 => match oc27 with | .inl r_ => some r_ | .inr i22 => (some true))) else (some false)) else (some false)) else (some false))) else (some false)))
theorem spec_TurnsOk.runs (k : Nat) (x0 : S37) (A0_0 : Option Addr) (c0_0 : Nat) (A0_1 : Option Addr) (c0_1 : Nat) (a1 : Int) (a2 : Int) (r : Bool) (w : World) (hr0_0 : kS3.C w A0_0 x0.f0.length x0.f0) (hc0_0 : x0.f0.length ≤ c0_0) (hr0_1 : kS3.C w A0_1 x0.f1.length x0.f1) (hc0_1 : x0.f1.length ≤ c0_1) (H : spec_TurnsOk.g k x0 a1 a2 = some r) :
    Calls Try.prog 69 #[.agg #[.slice A0_0 x0.f0.length c0_0, .slice A0_1 x0.f1.length c0_1], .int .i64 a1, .int .i64 a2] w fun e w' => e = .returned (.bool r) ∧ Below w.heap.size w w' := by
  unfold spec_TurnsOk.g at H
  have HS : St (fun _ => True) w w [] [(cF kS3 A0_0 x0.f0), (cF kS3 A0_1 x0.f1)] [] := St.start (foot_cons (foot_C (Kd.heap_slice _ (Kd.heap_int _)) hr0_0) (foot_cons (foot_C (Kd.heap_slice _ (Kd.heap_int _)) hr0_1) foot_nil))
  refine cw_ (n := 71) Try.func69 fun R_ hR_ => ?_
  refine sr_ fun _ hK1 => ?_
  refine bo_ HS (fun b2 w3 hb2 HS => ?_)
  refine as_ ?_
  refine dn_ hK1 ?_
  refine WC.seq fun _ hK4 => ?_
  refine sr_ fun _ hK5 => ?_
  refine mv_ ?_
  obtain ⟨t6, ha7, H⟩ := bind_some H
  refine cs0_ HS Try.func67 (spec_l01In.calls a1 4 24 t6 _ ha7) (fun w8 HS => ?_)
  clear ha7
  refine nt_ ?_
  refine mv_ ?_
  rcases eti_ H with ⟨c9, H⟩ | ⟨c9, H⟩
  · refine off_ (c' := true) (nB (bF c9)) ?_
    refine WL.know 11 (nB (bF c9)) ?_
    refine fast_ ?_
    refine via_ hK5 ?_
    refine wy_ rfl ?_
    refine sr_ fun _ hK64 => ?_
    refine as_ ?_
    refine dn_ hK64 ?_
    obtain rfl := os H
    exact rt1 Try.f69 rfl rfl hR_ ⟨rfl, HS.b⟩
  refine on_ (nB c9) ?_
  refine mv_ ?_
  refine on_ (nB c9) ?_
  obtain ⟨t10, ha11, H⟩ := bind_some H
  refine cs0_ HS Try.func67 (spec_l01In.calls a2 1 4 t10 _ ha11) (fun w12 HS => ?_)
  clear ha11
  refine on_ (nB c9) ?_
  refine nt_ ?_
  refine v_ (Run.pickF rfl rfl (nB c9) rfl) ?_
  refine mv_ ?_
  rcases eti_ H with ⟨c13, H⟩ | ⟨c13, H⟩
  · refine off_ (c' := true) (nB (bF c13)) ?_
    refine WL.know 16 (nB (bF c13)) ?_
    refine fast_ ?_
    refine via_ hK5 ?_
    refine wy_ rfl ?_
    refine sr_ fun _ hK63 => ?_
    refine as_ ?_
    refine dn_ hK63 ?_
    obtain rfl := os H
    exact rt1 Try.f69 rfl rfl hR_ ⟨rfl, HS.b⟩
  refine on_ (nB c13) ?_
  refine v_ (fa_ Try.underlying37) ?_
  refine on_ (nB c13) ?_
  refine v_ (lb_ (HS.mu 0 rfl) Try.underlying23 rfl) ?_
  refine on_ (nB c13) ?_
  refine ln_ Try.underlying23 ?_
  refine on_ (nB c13) ?_
  refine mv_ ?_
  refine on_ (nB c13) ?_
  refine b_ bin_neq ?_
  refine v_ (Run.pickF rfl rfl (nB c13) rfl) ?_
  refine mv_ ?_
  rcases eti_ H with ⟨c14, H⟩ | ⟨c14, H⟩
  · refine off_ (c' := true) (qT c14) ?_
    refine WL.know 23 (qT c14) ?_
    refine fast_ ?_
    refine via_ hK5 ?_
    refine wy_ rfl ?_
    refine sr_ fun _ hK62 => ?_
    refine as_ ?_
    refine dn_ hK62 ?_
    obtain rfl := os H
    exact rt1 Try.f69 rfl rfl hR_ ⟨rfl, HS.b⟩
  refine on_ (qF c14) ?_
  refine v_ (fa_ Try.underlying37) ?_
  refine on_ (qF c14) ?_
  refine v_ (lb_ (HS.mu 0 rfl) Try.underlying23 rfl) ?_
  refine on_ (qF c14) ?_
  refine ln_ Try.underlying23 ?_
  refine on_ (qF c14) ?_
  refine mv_ ?_
  refine on_ (qF c14) ?_
  refine b_ bin_neq ?_
  refine v_ (Run.pickF rfl rfl (qF c14) rfl) ?_
  refine dn_ hK5 ?_
  rcases eti_ H with ⟨c15, H⟩ | ⟨c15, H⟩
  · refine wy_ (qT c15) ?_
    refine sr_ fun _ hK61 => ?_
    refine as_ ?_
    refine dn_ hK61 ?_
    obtain rfl := os H
    exact rt1 Try.f69 rfl rfl hR_ ⟨rfl, HS.b⟩
  refine wn_ (qF c15) ?_
  refine WC.skip ?_
  refine via_ hK4 ?_
  refine WC.seq fun K16 hK16 => ?_
  refine sr_ fun _ hK17 => ?_
  refine as_ ?_
  refine dn_ hK17 ?_
  refine WC.block ?_
  obtain ⟨G18, hG19, oc20, H, Ho21⟩ := open_G H
  let J23 := fun (i22 : Int) (E_ : Env) (W_ : World) => E_ = [(1, .int .i64 a1), (2, .int .i64 a2), (3, .pointer (some ⟨b2, 0, none⟩)), (7, .int .i64 i22)] ∧ St (fun _ => True) w W_ [boxM b2 #[.slice A0_0 x0.f0.length c0_0, .slice A0_1 x0.f1.length c0_1] 37] [(cF kS3 A0_0 x0.f0), (cF kS3 A0_1 x0.f1)] []
  have X24 : ∀ E_ W_, (∃ i22, G18 (Sum.inr i22) = some r ∧ J23 i22 E_ W_) → ∀ a, Fits a 71 E_ → K16 a W_ := by
    rintro E_ w25 ⟨i22, H, rfl, HS⟩
    rw [hG19] at H
    (try dsimp only at H)
    refine hK16 _ _ ?_
    refine sr_ fun _ hK26 => ?_
    refine as_ ?_
    refine dn_ hK26 ?_
    obtain rfl := os H
    exact rt1 Try.f69 rfl rfl hR_ ⟨rfl, HS.b⟩
  refine WC.loop (fun k_ E_ W_ => ∃ i22, (∃ o_, spec_TurnsOk.l0 x0 a1 a2 k_ i22 = some o_ ∧ G18 o_ = some r) ∧ J23 i22 E_ W_) k ⟨0, ⟨_, H, Ho21⟩, rfl, HS⟩ (sb rfl) ?_
  rintro k_ E_ w28 ⟨i22, ⟨oc20, H, Ho21⟩, rfl, HS⟩
  rcases k_ with _ | k29
  · exact no_ H
  replace H : spec_TurnsOk.b0 x0 a1 a2 (spec_TurnsOk.l0 x0 a1 a2 k29) k29 i22 = some oc20 := H
  unfold spec_TurnsOk.b0 at H
  refine WC.seq fun _ hK30 => ?_
  refine sr_ fun _ hK31 => ?_
  refine mv_ ?_
  refine mv_ ?_
  refine b_ bin_lss ?_
  refine dn_ hK31 ?_
  rcases eti_ H with ⟨c32, H⟩ | ⟨c32, H⟩
  · refine wn_ (dF c32) ?_
    refine WC.exit ?_
    obtain rfl := os H
    exact WQ.via2 (fun _ _ h_ => h_) X24 ⟨i22, Ho21, rfl, HS⟩ (sb rfl)
  refine wy_ (dT c32) ?_
  refine WC.skip ?_
  refine via_ hK30 ?_
  refine WC.seq fun _ hK33 => ?_
  refine WC.block ?_
  refine sr_ fun _ hK34 => ?_
  refine v_ (fa_ Try.underlying37) ?_
  refine v_ (lb_ (HS.mu 0 rfl) Try.underlying23 rfl) ?_
  refine mv_ ?_
  obtain ⟨⟨q35, q36⟩, H⟩ := if_some H
  obtain ⟨ad37, rfl⟩ := C_open (HS.getO 0 rfl) (by omega)
  refine v_ (ia_ Try.underlying23 1 q35 q36) ?_
  obtain ⟨A38, c39, le40, HS⟩ := HS.slO 0 rfl i22 q35 q36
  refine v_ (Run.load rfl rfl Try.underlying25 rfl (HS.getO 1 rfl)) ?_
  refine ln_ Try.underlying25 ?_
  refine mv_ ?_
  refine b_ bin_neq ?_
  refine mv_ ?_
  rcases eti_ H with ⟨c41, H⟩ | ⟨c41, H⟩
  · refine off_ (c' := true) (qT c41) ?_
    refine WL.know 43 (qT c41) ?_
    refine fast_ ?_
    refine via_ hK34 ?_
    refine wy_ rfl ?_
    refine sr_ fun _ hK60 => ?_
    refine as_ ?_
    refine dn_ hK60 ?_
    refine WC.ret ?_
    obtain rfl := os H
    rw [hG19] at Ho21
    replace H : some _ = some _ := Ho21
    obtain rfl := os H
    exact fin1 Try.f69 rfl rfl hR_ ⟨rfl, HS.b⟩
  refine on_ (qF c41) ?_
  refine v_ (fa_ Try.underlying37) ?_
  refine on_ (qF c41) ?_
  refine v_ (lb_ (HS.mu 0 rfl) Try.underlying23 rfl) ?_
  refine on_ (qF c41) ?_
  refine mv_ ?_
  refine on_ (qF c41) ?_
  obtain ⟨⟨q42, q43⟩, H⟩ := if_some H
  obtain ⟨ad44, rfl⟩ := C_open (HS.getO 3 rfl) (by omega)
  refine v_ (ia_ Try.underlying23 1 q42 q43) ?_
  refine on_ (qF c41) ?_
  obtain ⟨A45, c46, le47, HS⟩ := HS.slO 3 rfl i22 q42 q43
  refine v_ (Run.load rfl rfl Try.underlying25 rfl (HS.getO 1 rfl)) ?_
  refine on_ (qF c41) ?_
  refine ln_ Try.underlying25 ?_
  refine on_ (qF c41) ?_
  refine mv_ ?_
  refine on_ (qF c41) ?_
  refine b_ bin_neq ?_
  refine v_ (Run.pickF rfl rfl (qF c41) rfl) ?_
  refine mv_ ?_
  rcases eti_ H with ⟨c48, H⟩ | ⟨c48, H⟩
  · refine off_ (c' := true) (qT c48) ?_
    refine WL.know 53 (qT c48) ?_
    refine fast_ ?_
    refine via_ hK34 ?_
    refine wy_ rfl ?_
    refine sr_ fun _ hK59 => ?_
    refine as_ ?_
    refine dn_ hK59 ?_
    refine WC.ret ?_
    obtain rfl := os H
    rw [hG19] at Ho21
    replace H : some _ = some _ := Ho21
    obtain rfl := os H
    exact fin1 Try.f69 rfl rfl hR_ ⟨rfl, HS.b⟩
  refine on_ (qF c48) ?_
  refine v_ (fa_ Try.underlying37) ?_
  refine on_ (qF c48) ?_
  refine v_ (lb_ (HS.mu 0 rfl) Try.underlying23 rfl) ?_
  refine on_ (qF c48) ?_
  refine mv_ ?_
  refine on_ (qF c48) ?_
  refine v_ (ia_ Try.underlying23 1 q35 q36) ?_
  refine on_ (qF c48) ?_
  refine v_ (Run.load rfl rfl Try.underlying25 rfl (HS.getO 3 rfl)) ?_
  refine on_ (qF c48) ?_
  obtain ⟨t49, ha50, H⟩ := bind_some H
  refine cs_ HS Try.func68 (spec_l05All.runs k29 A38 c39 (x0.f0.getD i22.toNat []) (-128) 128 t49 _ (HS.getO 2 rfl) le40 ha50) (fun w51 HS => ?_)
  clear ha50
  refine on_ (qF c48) ?_
  refine nt_ ?_
  refine v_ (Run.pickF rfl rfl (qF c48) rfl) ?_
  refine mv_ ?_
  rcases eti_ H with ⟨c52, H⟩ | ⟨c52, H⟩
  · refine off_ (c' := true) (nB (bF c52)) ?_
    refine WL.know 62 (nB (bF c52)) ?_
    refine fast_ ?_
    refine via_ hK34 ?_
    refine wy_ rfl ?_
    refine sr_ fun _ hK58 => ?_
    refine as_ ?_
    refine dn_ hK58 ?_
    refine WC.ret ?_
    obtain rfl := os H
    rw [hG19] at Ho21
    replace H : some _ = some _ := Ho21
    obtain rfl := os H
    exact fin1 Try.f69 rfl rfl hR_ ⟨rfl, HS.b⟩
  refine on_ (nB c52) ?_
  refine v_ (fa_ Try.underlying37) ?_
  refine on_ (nB c52) ?_
  refine v_ (lb_ (HS.mu 0 rfl) Try.underlying23 rfl) ?_
  refine on_ (nB c52) ?_
  refine mv_ ?_
  refine on_ (nB c52) ?_
  refine v_ (ia_ Try.underlying23 1 q42 q43) ?_
  refine on_ (nB c52) ?_
  refine v_ (Run.load rfl rfl Try.underlying25 rfl (HS.getO 1 rfl)) ?_
  refine on_ (nB c52) ?_
  obtain ⟨t53, ha54, H⟩ := bind_some H
  refine cs_ HS Try.func68 (spec_l05All.runs k29 A45 c46 (x0.f1.getD i22.toNat []) (-128) 128 t53 _ (HS.getO 0 rfl) le47 ha54) (fun w55 HS => ?_)
  clear ha54
  refine on_ (nB c52) ?_
  refine nt_ ?_
  refine v_ (Run.pickF rfl rfl (nB c52) rfl) ?_
  refine dn_ hK34 ?_
  rcases ite_ H with ⟨c56, H⟩ | ⟨c56, H⟩
  · refine wn_ (nB c56) ?_
    refine WC.skip ?_
    refine via_ hK33 ?_
    refine rg_ ?_
    refine mv_ ?_
    refine b_ bin_add64 ?_
    refine as_ ?_
    refine WL.done ?_
    exact WQ.round k29 (fun _ _ h_ => h_) (Nat.lt_succ_self _) ⟨(wrap64 (i22 + 1)), ⟨_, H, Ho21⟩, rfl, (St.pk HS [4, 5] [] rfl rfl)⟩ (sb rfl)
  refine wy_ (nB (bF c56)) ?_
  refine sr_ fun _ hK57 => ?_
  refine as_ ?_
  refine dn_ hK57 ?_
  refine WC.ret ?_
  obtain rfl := os H
  rw [hG19] at Ho21
  replace H : some _ = some _ := Ho21
  obtain rfl := os H
  exact fin1 Try.f69 rfl rfl hR_ ⟨rfl, HS.b⟩
def spec_PackNibbles.b0 (l0 : List Int) (rec_ : (List Int) → Int → Option ((ByteArray × Bool) ⊕ ((List Int) × Int))) (k28 : Nat) (xs15 : List Int) (i18 : Int) : Option ((ByteArray × Bool) ⊕ ((List Int) × Int)) := (if i18 < (l0.length : Int) then (((if 0 ≤ i18 ∧ i18 < (l0.length : Int) then ((spec_l01In.f (l0.getD i18.toNat 0) (-8) 7).bind fun t48 => (if t48 = true then (if (Int.tmod i18 2) = 0 then (if (xs15.length) < 4294967296 then (some (Sum.inr (xs15 ++ [IntKind.u8.wrap (Int.tmod (wrap64 ((l0.getD i18.toNat 0) + 16)) 16)]))) else none) else (if 0 ≤ (wrap64 (Int.tdiv i18 2)) ∧ (wrap64 (Int.tdiv i18 2)) < ((xs15.length : Nat) : Int) then (some (Sum.inr (xs15.set (wrap64 (Int.tdiv i18 2)).toNat (IntKind.u8.wrap ((xs15.getD (wrap64 (Int.tdiv i18 2)).toNat 0) + (IntKind.u8.wrap (wrap64 (16 * (Int.tmod (wrap64 ((l0.getD i18.toNat 0) + 16)) 16))))))))) else none)) else (some (Sum.inl ((⟨#[]⟩ : ByteArray), false))))) else none) : Option ((ByteArray × Bool) ⊕ (List Int))).bind (fun oc42 => match oc42 with | .inl r_ => some (Sum.inl r_) | .inr xs37 => (rec_ xs37 (wrap64 (i18 + 1))))) else (some (Sum.inr (xs15, i18))))
def spec_PackNibbles.l0 (l0 : List Int) : Nat → (List Int) → Int → Option ((ByteArray × Bool) ⊕ ((List Int) × Int))
  | 0, _, _ => none
  | k + 1, xs15, i18 => spec_PackNibbles.b0 l0 (spec_PackNibbles.l0 l0 k) k xs15 i18
def spec_PackNibbles.g (k : Nat) (l0 : List Int) : Option (ByteArray × Bool) := (if (l0.length : Int) > 2400 then (some ((⟨#[]⟩ : ByteArray), false)) else ((spec_PackNibbles.l0 l0 k ([] : List Int) 0).bind (fun oc26 => match oc26 with | .inl r_ => some r_ | .inr ⟨xs15, i18⟩ => (some ((strOfNums xs15), true)))))
theorem spec_PackNibbles.runs (k : Nat) (A0 : Option Addr) (c0 : Nat) (l0 : List Int) (r1 : ByteArray) (r2 : Bool) (w : World) (hr0 : kI.C w A0 l0.length l0) (hc0 : l0.length ≤ c0) (H : spec_PackNibbles.g k l0 = some (r1, r2)) :
    Calls Try.prog 140 #[.slice A0 l0.length c0] w fun e w' => e = .returned (.tuple #[.string r1, .bool r2]) ∧ Below w.heap.size w w' := by
  unfold spec_PackNibbles.g at H
  have HS : St (fun _ => True) w w [] [(cF kI A0 l0)] [] := St.start (foot_cons (foot_C (Kd.heap_int _) hr0) foot_nil)
  refine cw_ (n := 52) Try.func140 fun R_ hR_ => ?_
  refine sr_ fun _ hK1 => ?_
  refine as_ ?_
  refine as_ ?_
  refine dn_ hK1 ?_
  refine WC.seq fun _ hK2 => ?_
  refine sr_ fun _ hK3 => ?_
  refine mv_ ?_
  refine ln_ Try.underlying25 ?_
  refine b_ bin_gtr ?_
  refine dn_ hK3 ?_
  rcases ite_ H with ⟨c4, H⟩ | ⟨c4, H⟩
  · refine wy_ (dT c4) ?_
    refine sr_ fun _ hK5 => ?_
    refine as_ ?_
    refine as_ ?_
    refine dn_ hK5 ?_
    obtain ⟨rfl, rfl⟩ := Prod.mk.inj (os H)
    exact rt2 Try.f140 rfl rfl rfl hR_ ⟨rfl, HS.b⟩
  refine wn_ (dF c4) ?_
  refine WC.skip ?_
  refine via_ hK2 ?_
  refine sr_ fun _ hK6 => ?_
  refine WL.lit0 HS rfl rfl (by decide) rfl Try.underlying53 (sz := 1) (by kernel_rfl) (fun v7 w8 HS => ?_)
  replace HS := HS.deriveO (p := (rF kU ([] : List Int) [])) (fun _ _ _ => Reps.none _ _)
  refine as_ ?_
  refine dn_ hK6 ?_
  refine WC.seq fun K9 hK9 => ?_
  refine sr_ fun _ hK10 => ?_
  refine as_ ?_
  refine dn_ hK10 ?_
  refine WC.block ?_
  obtain ⟨G11, hG12, oc13, H, Ho14⟩ := open_G H
  let J19 := fun (xs15 : List Int) (v16 : Value) (I17 : List Value) (i18 : Int) (E_ : Env) (W_ : World) => E_ = [(0, .slice A0 l0.length c0), (4, v16), (5, .int .i64 i18)] ∧ St (fun _ => True) w W_ [rowM w.heap.size 5 1 v16 xs15.length I17] [(rF kU xs15 I17), (cF kI A0 l0)] []
  have X20 : ∀ E_ W_, (∃ xs15 v16 I17 i18, G11 (Sum.inr (xs15, i18)) = some (r1, r2) ∧ J19 xs15 v16 I17 i18 E_ W_) → ∀ a, Fits a 52 E_ → K9 a W_ := by
    rintro E_ w21 ⟨xs15, v16, I17, i18, H, rfl, HS⟩
    rw [hG12] at H
    (try dsimp only at H)
    refine hK9 _ _ ?_
    refine sr_ fun _ hK22 => ?_
    refine mv_ ?_
    obtain ⟨A23, c24, rfl⟩ := row_slice (HS.mu 0 rfl)
    have le25 := row_le (HS.mu 0 rfl)
    replace HS := HS.freezeO 0 (p := (cF kU A23 (xs15))) rfl (fun W_ hm_ h_ => row_C (by rfl) hm_ h_.1)
    dsimp only [List.eraseIdx] at HS
    refine v_ (Run.str (xs := xs15) rfl Try.underlying53 Try.underlying5 Try.underlying9 rfl (HS.getO 0 rfl)) ?_
    refine as_ ?_
    refine as_ ?_
    refine dn_ hK22 ?_
    obtain ⟨rfl, rfl⟩ := Prod.mk.inj (os H)
    exact rt2 Try.f140 rfl rfl rfl hR_ ⟨rfl, HS.b⟩
  refine WC.loop (fun k_ E_ W_ => ∃ xs15 v16 I17 i18, (∃ o_, spec_PackNibbles.l0 l0 k_ xs15 i18 = some o_ ∧ G11 o_ = some (r1, r2)) ∧ J19 xs15 v16 I17 i18 E_ W_) k ⟨([] : List Int), v7, ([]), 0, ⟨_, H, Ho14⟩, rfl, HS⟩ (sb rfl) ?_
  rintro k_ E_ w27 ⟨xs15, v16, I17, i18, ⟨oc13, H, Ho14⟩, rfl, HS⟩
  rcases k_ with _ | k28
  · exact no_ H
  replace H : spec_PackNibbles.b0 l0 (spec_PackNibbles.l0 l0 k28) k28 xs15 i18 = some oc13 := H
  unfold spec_PackNibbles.b0 at H
  refine WC.seq fun _ hK29 => ?_
  refine sr_ fun _ hK30 => ?_
  refine mv_ ?_
  refine mv_ ?_
  refine ln_ Try.underlying25 ?_
  refine b_ bin_lss ?_
  refine dn_ hK30 ?_
  rcases eti_ H with ⟨c31, H⟩ | ⟨c31, H⟩
  · refine wn_ (dF c31) ?_
    refine WC.exit ?_
    obtain rfl := os H
    exact WQ.via2 (fun _ _ h_ => h_) X20 ⟨xs15, v16, I17, i18, Ho14, rfl, HS⟩ (sb rfl)
  refine wy_ (dT c31) ?_
  refine WC.skip ?_
  refine via_ hK29 ?_
  refine WC.seq fun K32 hK32 => ?_
  obtain ⟨G33, hG34, oc35, H, Ho36⟩ := open_G H
  have X40 : ∀ E_ W_, (∃ (xs37 : List Int) (v38 : Value) (I39 : List Value), E_ = [(0, .slice A0 l0.length c0), (4, v38), (5, .int .i64 i18)] ∧ G33 (Sum.inr xs37) = some oc13 ∧ St (fun _ => True) w W_ [rowM w.heap.size 5 1 v38 xs37.length I39] [(rF kU xs37 I39), (cF kI A0 l0)] []) → ∀ a, Fits a 52 E_ → K32 a W_ := by
    rintro E_ w41 ⟨xs37, v38, I39, rfl, H, HS⟩
    rw [hG34] at H
    (try dsimp only at H)
    refine hK32 _ _ ?_
    refine rg_ ?_
    refine mv_ ?_
    refine b_ bin_add64 ?_
    refine as_ ?_
    refine WL.done ?_
    exact WQ.round k28 (fun _ _ h_ => h_) (Nat.lt_succ_self _) ⟨xs37, v38, I39, (wrap64 (i18 + 1)), ⟨_, H, Ho14⟩, rfl, HS⟩ (sb rfl)
  refine WC.block ?_
  refine WC.seq fun _ hK43 => ?_
  refine sr_ fun _ hK44 => ?_
  refine mv_ ?_
  refine mv_ ?_
  obtain ⟨⟨q45, q46⟩, H⟩ := if_some H
  obtain ⟨ad47, rfl⟩ := C_open (HS.getO 1 rfl) (by omega)
  refine v_ (ia_ Try.underlying25 1 q45 q46) ?_
  refine v_ (Run.load rfl rfl Try.underlying3 rfl (int_cell (HS.getO 1 rfl) i18 q45 q46)) ?_
  obtain ⟨t48, ha49, H⟩ := bind_some H
  refine cs0_ HS Try.func67 (spec_l01In.calls (l0.getD i18.toNat 0) (-8) 7 t48 _ ha49) (fun w50 HS => ?_)
  clear ha49
  refine nt_ ?_
  refine dn_ hK44 ?_
  rcases eti_ H with ⟨c51, H⟩ | ⟨c51, H⟩
  · refine wy_ (nB (bF c51)) ?_
    refine sr_ fun _ hK68 => ?_
    refine as_ ?_
    refine as_ ?_
    refine dn_ hK68 ?_
    refine WC.ret ?_
    obtain rfl := os H
    rw [hG34] at Ho36
    replace H : some _ = some _ := Ho36
    obtain rfl := os H
    rw [hG12] at Ho14
    replace H : some _ = some _ := Ho14
    obtain ⟨rfl, rfl⟩ := Prod.mk.inj (os H)
    exact fin2 Try.f140 rfl rfl rfl hR_ ⟨rfl, HS.b⟩
  refine wn_ (nB c51) ?_
  refine WC.skip ?_
  refine via_ hK43 ?_
  refine sr_ fun _ hK52 => ?_
  refine mv_ ?_
  refine mv_ ?_
  refine v_ (ia_ Try.underlying25 1 q45 q46) ?_
  refine v_ (Run.load rfl rfl Try.underlying3 rfl (int_cell (HS.getO 1 rfl) i18 q45 q46)) ?_
  refine b_ bin_add64 ?_
  refine v_ (Run.bin rfl rfl rfl (bin_rem (show (16 : Int) ≠ 0 by decide))) ?_
  refine as_ ?_
  refine dn_ hK52 ?_
  refine sr_ fun _ hK53 => ?_
  refine mv_ ?_
  refine v_ (Run.bin rfl rfl rfl (bin_rem (show (2 : Int) ≠ 0 by decide))) ?_
  refine b_ bin_eql ?_
  refine dn_ hK53 ?_
  rcases ite_ H with ⟨c54, H⟩ | ⟨c54, H⟩
  · refine wy_ (eT c54) ?_
    refine rg_ ?_
    refine mv_ ?_
    refine mv_ ?_
    refine v_ (Run.convI rfl Try.underlying3 Try.underlying5 rfl) ?_
    refine WL.val rfl rfl (by decide) (Run.lit1 (z := (.int .u8 0)) (vs := [.int .u8 (IntKind.u8.wrap (Int.tmod (wrap64 ((l0.getD i18.toNat 0) + 16)) 16))]) rfl rfl rfl Try.underlying53 (by kernel_rfl) (Nat.le_of_ble_eq_true rfl) (Nat.le_of_ble_eq_true rfl)) ?_
    have HS1 := HS.below (below_alloc (Below.refl _ _) (.cells #[.int .u8 (IntKind.u8.wrap (Int.tmod (wrap64 ((l0.getD i18.toNat 0) + 16)) 16))] 5))
    obtain ⟨q55, H⟩ := if_some H
    refine WL.append HS1 0 rfl rfl rfl (by decide) rfl (.int .u8 0) 1 Try.underlying53 (by kernel_rfl) rfl (by decide) (by decide) rfl rfl [.int .u8 (IntKind.u8.wrap (Int.tmod (wrap64 ((l0.getD i18.toNat 0) + 16)) 16))] rfl (lit_news _ _ _) (oneL rfl) (by omega) ((xs15 ++ [IntKind.u8.wrap (Int.tmod (wrap64 ((l0.getD i18.toNat 0) + 16)) 16)]).length) (by simp) (fun v56 w57 I58 hI59 HS => ?_)
    dsimp only [List.set] at HS
    replace HS := HS.deriveO (p := (rF kU (xs15 ++ [IntKind.u8.wrap (Int.tmod (wrap64 ((l0.getD i18.toNat 0) + 16)) 16)]) I58)) (fun W_ hO_ hN_ => reps_snoc hI59 hO_.1 (K_int _))
    clear HS1
    refine as_ ?_
    refine WL.done ?_
    obtain rfl := os H
    exact WQ.via2 (fun _ _ h_ => h_) X40 ⟨(xs15 ++ [IntKind.u8.wrap (Int.tmod (wrap64 ((l0.getD i18.toNat 0) + 16)) 16)]), v56, I58, rfl, Ho36, (St.pk HS [0, 2] [] rfl rfl)⟩ (sb rfl)
  refine wn_ (eF c54) ?_
  refine rg_ ?_
  refine mv_ ?_
  refine mv_ ?_
  refine v_ (Run.bin rfl rfl rfl (bin_quo64 (show (2 : Int) ≠ 0 by decide))) ?_
  refine mv_ ?_
  refine mv_ ?_
  refine v_ (Run.bin rfl rfl rfl (bin_quo64 (show (2 : Int) ≠ 0 by decide))) ?_
  obtain ⟨⟨q60, q61⟩, H⟩ := if_some H
  obtain ⟨A62, c63, rfl⟩ := row_slice (HS.mu 0 rfl)
  obtain ⟨ad64, rfl⟩ := row_open (HS.mu 0 rfl) (by omega)
  refine v_ (ia_ Try.underlying53 1 q60 q61) ?_
  refine v_ (Run.load rfl rfl Try.underlying5 rfl (row_int (HS.mu 0 rfl) (HS.getO 0 rfl) q60 q61)) ?_
  refine mv_ ?_
  refine b_ bin_mul64 ?_
  refine v_ (Run.convI rfl Try.underlying3 Try.underlying5 rfl) ?_
  refine b_ bin_add ?_
  refine v_ (ia_ Try.underlying53 1 q60 q61) ?_
  have hk_ := mul_room q60 q61 1
  refine WL.putEl HS 0 rfl rfl rfl rfl rfl rfl [.int .u8 (IntKind.u8.wrap ((xs15.getD (wrap64 (Int.tdiv i18 2)).toNat 0) + (IntKind.u8.wrap (wrap64 (16 * (Int.tmod (wrap64 ((l0.getD i18.toNat 0) + 16)) 16))))))] rfl (oneL rfl) (by kernel_rfl) (by first | omega | (rw [List.length_nil]; omega) | (simp; omega)) (fun w65 I66 hI67 HS => ?_)
  dsimp only [List.set] at HS
  clear hk_
  replace HS := HS.deriveO (p := (rF kU (xs15.set (wrap64 (Int.tdiv i18 2)).toNat (IntKind.u8.wrap ((xs15.getD (wrap64 (Int.tdiv i18 2)).toNat 0) + (IntKind.u8.wrap (wrap64 (16 * (Int.tmod (wrap64 ((l0.getD i18.toNat 0) + 16)) 16))))))) I66)) (fun W_ hO_ hN_ => reps_set hI67 hO_.1 (K_int _) (toNat_lt q60 q61))
  replace HS := HS.rowN 0 rfl (show xs15.length = (xs15.set (wrap64 (Int.tdiv i18 2)).toNat (IntKind.u8.wrap ((xs15.getD (wrap64 (Int.tdiv i18 2)).toNat 0) + (IntKind.u8.wrap (wrap64 (16 * (Int.tmod (wrap64 ((l0.getD i18.toNat 0) + 16)) 16))))))).length from (List.length_set ..).symm)
  dsimp only [List.set] at HS
  refine WL.done ?_
  obtain rfl := os H
  exact WQ.via2 (fun _ _ h_ => h_) X40 ⟨(xs15.set (wrap64 (Int.tdiv i18 2)).toNat (IntKind.u8.wrap ((xs15.getD (wrap64 (Int.tdiv i18 2)).toNat 0) + (IntKind.u8.wrap (wrap64 (16 * (Int.tmod (wrap64 ((l0.getD i18.toNat 0) + 16)) 16))))))), (.slice (some ad64) xs15.length c63), I66, rfl, Ho36, (St.pk HS [0, 2] [] rfl rfl)⟩ (sb rfl)
def impl_rowOk.g (k : Nat) (l0 : List Int) (l1 : List Int) : Option Bool := ((impl_isWidth.f (l0.length : Int)).bind fun t3 => (if t3 = true then ((impl_allIn.f l0 (-8) 7).bind fun t7 => (if t7 = true then (if (l1.length : Int) = (wrap64 (Int.tdiv (l0.length : Int) 4)) then ((impl_allIn.f l1 1 127).bind fun t12 => (some t12)) else (some false)) else (some false))) else (some false)))
theorem impl_rowOk.runs (k : Nat) (A0 : Option Addr) (c0 : Nat) (l0 : List Int) (A1 : Option Addr) (c1 : Nat) (l1 : List Int) (r : Bool) (w : World) (hr0 : kI.C w A0 l0.length l0) (hc0 : l0.length ≤ c0) (hr1 : kI.C w A1 l1.length l1) (hc1 : l1.length ≤ c1) (H : impl_rowOk.g k l0 l1 = some r) :
    Calls Try.prog 133 #[.slice A0 l0.length c0, .slice A1 l1.length c1] w fun e w' => e = .returned (.bool r) ∧ Below w.heap.size w w' := by
  unfold impl_rowOk.g at H
  have HS : St (fun _ => True) w w [] [(cF kI A0 l0), (cF kI A1 l1)] [] := St.start (foot_cons (foot_C (Kd.heap_int _) hr0) (foot_cons (foot_C (Kd.heap_int _) hr1) foot_nil))
  refine cw_ (n := 24) Try.func133 fun R_ hR_ => ?_
  refine sr_ fun _ hK1 => ?_
  refine as_ ?_
  refine dn_ hK1 ?_
  refine sr_ fun _ hK2 => ?_
  refine mv_ ?_
  refine ln_ Try.underlying25 ?_
  obtain ⟨t3, ha4, H⟩ := bind_some H
  refine cs0_ HS Try.func64 (impl_isWidth.calls (l0.length : Int) t3 _ ha4) (fun w5 HS => ?_)
  clear ha4
  refine mv_ ?_
  rcases eti_ H with ⟨c6, H⟩ | ⟨c6, H⟩
  · refine off_ (c' := false) (bF c6) ?_
    refine WL.know 8 (bF c6) ?_
    refine fast_ ?_
    refine via_ hK2 ?_
    obtain rfl := os H
    exact rt1 Try.f133 rfl rfl hR_ ⟨rfl, HS.b⟩
  refine on_ c6 ?_
  refine mv_ ?_
  refine on_ c6 ?_
  obtain ⟨t7, ha8, H⟩ := bind_some H
  refine cs_ HS Try.func74 (impl_allIn.calls A0 c0 l0 (-8) 7 t7 _ (HS.getO 0 rfl) hc0 ha8) (fun w9 HS => ?_)
  clear ha8
  refine v_ (Run.pickT rfl rfl c6 rfl) ?_
  refine mv_ ?_
  rcases eti_ H with ⟨c10, H⟩ | ⟨c10, H⟩
  · refine off_ (c' := false) (bF c10) ?_
    refine WL.know 12 (bF c10) ?_
    refine fast_ ?_
    refine via_ hK2 ?_
    obtain rfl := os H
    exact rt1 Try.f133 rfl rfl hR_ ⟨rfl, HS.b⟩
  refine on_ c10 ?_
  refine mv_ ?_
  refine on_ c10 ?_
  refine ln_ Try.underlying25 ?_
  refine on_ c10 ?_
  refine mv_ ?_
  refine on_ c10 ?_
  refine ln_ Try.underlying25 ?_
  refine on_ c10 ?_
  refine v_ (Run.bin rfl rfl rfl (bin_quo64 (show (4 : Int) ≠ 0 by decide))) ?_
  refine on_ c10 ?_
  refine b_ bin_eql ?_
  refine v_ (Run.pickT rfl rfl c10 rfl) ?_
  refine mv_ ?_
  rcases eti_ H with ⟨c11, H⟩ | ⟨c11, H⟩
  · refine off_ (c' := false) (eF c11) ?_
    refine WL.know 20 (eF c11) ?_
    refine fast_ ?_
    refine via_ hK2 ?_
    obtain rfl := os H
    exact rt1 Try.f133 rfl rfl hR_ ⟨rfl, HS.b⟩
  refine on_ (eT c11) ?_
  refine mv_ ?_
  refine on_ (eT c11) ?_
  obtain ⟨t12, ha13, H⟩ := bind_some H
  refine cs_ HS Try.func74 (impl_allIn.calls A1 c1 l1 1 127 t12 _ (HS.getO 1 rfl) hc1 ha13) (fun w14 HS => ?_)
  clear ha13
  refine v_ (Run.pickT rfl rfl (eT c11) rfl) ?_
  refine as_ ?_
  refine dn_ hK2 ?_
  obtain rfl := os H
  exact rt1 Try.f133 rfl rfl hR_ ⟨rfl, HS.b⟩
def impl_MatrixOk.b0 (x0 : S36) (rec_ : Int → Option (Bool ⊕ Int)) (k34 : Nat) (i27 : Int) : Option (Bool ⊕ Int) := (if i27 < (x0.f1.length : Int) then (if 0 ≤ i27 ∧ i27 < (x0.f1.length : Int) then (if ((x0.f1.getD i27.toNat []).length : Int) = x0.f0 then (if 0 ≤ i27 ∧ i27 < (x0.f2.length : Int) then ((impl_rowOk.g k34 (x0.f1.getD i27.toNat []) (x0.f2.getD i27.toNat [])).bind fun t54 => (if t54 = true then (rec_ (wrap64 (i27 + 1))) else (some (Sum.inl false)))) else none) else (some (Sum.inl false))) else none) else (some (Sum.inr i27)))
def impl_MatrixOk.l0 (x0 : S36) : Nat → Int → Option (Bool ⊕ Int)
  | 0, _ => none
  | k + 1, i27 => impl_MatrixOk.b0 x0 (impl_MatrixOk.l0 x0 k) k i27
def impl_MatrixOk.g (k : Nat) (x0 : S36) : Option Bool := ((impl_isWidth.f x0.f0).bind fun t6 => (if t6 = true then (if (x0.f1.length : Int) > 300 then (some false) else (if (x0.f2.length : Int) = (x0.f1.length : Int) then ((impl_in.f x0.f3 0 65536).bind fun t13 => (if t13 = true then ((impl_in.f x0.f4 0 24).bind fun t17 => (if t17 = true then ((impl_MatrixOk.l0 x0 k 0).bind (fun oc32 => match oc32 with | .inl r_ => some r_ | .inr i27 => (some true))) else (some false))) else (some false))) else (some false))) else (some false)))
theorem impl_MatrixOk.runs (k : Nat) (x0 : S36) (A0_1 : Option Addr) (c0_1 : Nat) (A0_2 : Option Addr) (c0_2 : Nat) (r : Bool) (w : World) (hr0_1 : kS3.C w A0_1 x0.f1.length x0.f1) (hc0_1 : x0.f1.length ≤ c0_1) (hr0_2 : kS3.C w A0_2 x0.f2.length x0.f2) (hc0_2 : x0.f2.length ≤ c0_2) (H : impl_MatrixOk.g k x0 = some r) :
    Calls Try.prog 121 #[.agg #[.int .i64 x0.f0, .slice A0_1 x0.f1.length c0_1, .slice A0_2 x0.f2.length c0_2, .int .i64 x0.f3, .int .i64 x0.f4]] w fun e w' => e = .returned (.bool r) ∧ Below w.heap.size w w' := by
  unfold impl_MatrixOk.g at H
  have HS : St (fun _ => True) w w [] [(cF kS3 A0_1 x0.f1), (cF kS3 A0_2 x0.f2)] [] := St.start (foot_cons (foot_C (Kd.heap_slice _ (Kd.heap_int _)) hr0_1) (foot_cons (foot_C (Kd.heap_slice _ (Kd.heap_int _)) hr0_2) foot_nil))
  refine cw_ (n := 60) Try.func121 fun R_ hR_ => ?_
  refine sr_ fun _ hK1 => ?_
  refine bo_ HS (fun b2 w3 hb2 HS => ?_)
  refine as_ ?_
  refine dn_ hK1 ?_
  refine WC.seq fun _ hK4 => ?_
  refine sr_ fun _ hK5 => ?_
  refine v_ (fa_ Try.underlying36) ?_
  refine v_ (lb_ (HS.mu 0 rfl) Try.underlying3 rfl) ?_
  obtain ⟨t6, ha7, H⟩ := bind_some H
  refine cs0_ HS Try.func64 (impl_isWidth.calls x0.f0 t6 _ ha7) (fun w8 HS => ?_)
  clear ha7
  refine nt_ ?_
  refine mv_ ?_
  rcases eti_ H with ⟨c9, H⟩ | ⟨c9, H⟩
  · refine off_ (c' := true) (nB (bF c9)) ?_
    refine WL.know 9 (nB (bF c9)) ?_
    refine fast_ ?_
    refine via_ hK5 ?_
    refine wy_ rfl ?_
    refine sr_ fun _ hK63 => ?_
    refine as_ ?_
    refine dn_ hK63 ?_
    obtain rfl := os H
    exact rt1 Try.f121 rfl rfl hR_ ⟨rfl, HS.b⟩
  refine on_ (nB c9) ?_
  refine v_ (fa_ Try.underlying36) ?_
  refine on_ (nB c9) ?_
  refine v_ (lb_ (HS.mu 0 rfl) Try.underlying23 rfl) ?_
  refine on_ (nB c9) ?_
  refine ln_ Try.underlying23 ?_
  refine on_ (nB c9) ?_
  refine b_ bin_gtr ?_
  refine v_ (Run.pickF rfl rfl (nB c9) rfl) ?_
  refine mv_ ?_
  rcases ite_ H with ⟨c10, H⟩ | ⟨c10, H⟩
  · refine off_ (c' := true) (dT c10) ?_
    refine WL.know 15 (dT c10) ?_
    refine fast_ ?_
    refine via_ hK5 ?_
    refine wy_ rfl ?_
    refine sr_ fun _ hK11 => ?_
    refine as_ ?_
    refine dn_ hK11 ?_
    obtain rfl := os H
    exact rt1 Try.f121 rfl rfl hR_ ⟨rfl, HS.b⟩
  refine on_ (dF c10) ?_
  refine v_ (fa_ Try.underlying36) ?_
  refine on_ (dF c10) ?_
  refine v_ (lb_ (HS.mu 0 rfl) Try.underlying23 rfl) ?_
  refine on_ (dF c10) ?_
  refine ln_ Try.underlying23 ?_
  refine on_ (dF c10) ?_
  refine v_ (fa_ Try.underlying36) ?_
  refine on_ (dF c10) ?_
  refine v_ (lb_ (HS.mu 0 rfl) Try.underlying23 rfl) ?_
  refine on_ (dF c10) ?_
  refine ln_ Try.underlying23 ?_
  refine on_ (dF c10) ?_
  refine b_ bin_neq ?_
  refine v_ (Run.pickF rfl rfl (dF c10) rfl) ?_
  refine mv_ ?_
  rcases eti_ H with ⟨c12, H⟩ | ⟨c12, H⟩
  · refine off_ (c' := true) (qT c12) ?_
    refine WL.know 24 (qT c12) ?_
    refine fast_ ?_
    refine via_ hK5 ?_
    refine wy_ rfl ?_
    refine sr_ fun _ hK62 => ?_
    refine as_ ?_
    refine dn_ hK62 ?_
    obtain rfl := os H
    exact rt1 Try.f121 rfl rfl hR_ ⟨rfl, HS.b⟩
  refine on_ (qF c12) ?_
  refine v_ (fa_ Try.underlying36) ?_
  refine on_ (qF c12) ?_
  refine v_ (lb_ (HS.mu 0 rfl) Try.underlying3 rfl) ?_
  refine on_ (qF c12) ?_
  obtain ⟨t13, ha14, H⟩ := bind_some H
  refine cs0_ HS Try.func70 (impl_in.calls x0.f3 0 65536 t13 _ ha14) (fun w15 HS => ?_)
  clear ha14
  refine on_ (qF c12) ?_
  refine nt_ ?_
  refine v_ (Run.pickF rfl rfl (qF c12) rfl) ?_
  refine mv_ ?_
  rcases eti_ H with ⟨c16, H⟩ | ⟨c16, H⟩
  · refine off_ (c' := true) (nB (bF c16)) ?_
    refine WL.know 30 (nB (bF c16)) ?_
    refine fast_ ?_
    refine via_ hK5 ?_
    refine wy_ rfl ?_
    refine sr_ fun _ hK61 => ?_
    refine as_ ?_
    refine dn_ hK61 ?_
    obtain rfl := os H
    exact rt1 Try.f121 rfl rfl hR_ ⟨rfl, HS.b⟩
  refine on_ (nB c16) ?_
  refine v_ (fa_ Try.underlying36) ?_
  refine on_ (nB c16) ?_
  refine v_ (lb_ (HS.mu 0 rfl) Try.underlying3 rfl) ?_
  refine on_ (nB c16) ?_
  obtain ⟨t17, ha18, H⟩ := bind_some H
  refine cs0_ HS Try.func70 (impl_in.calls x0.f4 0 24 t17 _ ha18) (fun w19 HS => ?_)
  clear ha18
  refine on_ (nB c16) ?_
  refine nt_ ?_
  refine v_ (Run.pickF rfl rfl (nB c16) rfl) ?_
  refine dn_ hK5 ?_
  rcases eti_ H with ⟨c20, H⟩ | ⟨c20, H⟩
  · refine wy_ (nB (bF c20)) ?_
    refine sr_ fun _ hK60 => ?_
    refine as_ ?_
    refine dn_ hK60 ?_
    obtain rfl := os H
    exact rt1 Try.f121 rfl rfl hR_ ⟨rfl, HS.b⟩
  refine wn_ (nB c20) ?_
  refine WC.skip ?_
  refine via_ hK4 ?_
  refine WC.seq fun K21 hK21 => ?_
  refine sr_ fun _ hK22 => ?_
  refine v_ (fa_ Try.underlying36) ?_
  refine v_ (lb_ (HS.mu 0 rfl) Try.underlying23 rfl) ?_
  refine ln_ Try.underlying23 ?_
  refine mv_ ?_
  refine dn_ hK22 ?_
  refine WC.block ?_
  obtain ⟨G23, hG24, oc25, H, Ho26⟩ := open_G H
  let J28 := fun (i27 : Int) (E_ : Env) (W_ : World) => E_ = [(1, .pointer (some ⟨b2, 0, none⟩)), (37, .slice A0_1 x0.f1.length c0_1), (38, .int .i64 (x0.f1.length : Int)), (39, .int .i64 i27)] ∧ St (fun _ => True) w W_ [boxM b2 #[.int .i64 x0.f0, .slice A0_1 x0.f1.length c0_1, .slice A0_2 x0.f2.length c0_2, .int .i64 x0.f3, .int .i64 x0.f4] 36] [(cF kS3 A0_1 x0.f1), (cF kS3 A0_2 x0.f2)] []
  have X29 : ∀ E_ W_, (∃ i27, G23 (Sum.inr i27) = some r ∧ J28 i27 E_ W_) → ∀ a, Fits a 60 E_ → K21 a W_ := by
    rintro E_ w30 ⟨i27, H, rfl, HS⟩
    rw [hG24] at H
    (try dsimp only at H)
    refine hK21 _ _ ?_
    refine sr_ fun _ hK31 => ?_
    refine as_ ?_
    refine dn_ hK31 ?_
    obtain rfl := os H
    exact rt1 Try.f121 rfl rfl hR_ ⟨rfl, HS.b⟩
  refine WC.loop (fun k_ E_ W_ => ∃ i27, (∃ o_, impl_MatrixOk.l0 x0 k_ i27 = some o_ ∧ G23 o_ = some r) ∧ J28 i27 E_ W_) k ⟨0, ⟨_, H, Ho26⟩, rfl, HS⟩ (sb rfl) ?_
  rintro k_ E_ w33 ⟨i27, ⟨oc25, H, Ho26⟩, rfl, HS⟩
  rcases k_ with _ | k34
  · exact no_ H
  replace H : impl_MatrixOk.b0 x0 (impl_MatrixOk.l0 x0 k34) k34 i27 = some oc25 := H
  unfold impl_MatrixOk.b0 at H
  refine sr_ fun _ hK35 => ?_
  refine b_ bin_lss ?_
  refine dn_ hK35 ?_
  refine WC.seq fun _ hK36 => ?_
  rcases eti_ H with ⟨c37, H⟩ | ⟨c37, H⟩
  · refine wn_ (dF c37) ?_
    refine WC.exit ?_
    obtain rfl := os H
    exact WQ.via2 (fun _ _ h_ => h_) X29 ⟨i27, Ho26, rfl, HS⟩ (sb rfl)
  refine wy_ (dT c37) ?_
  refine WC.skip ?_
  refine via_ hK36 ?_
  refine WC.seq fun _ hK38 => ?_
  refine WC.block ?_
  refine sr_ fun _ hK39 => ?_
  refine mv_ ?_
  obtain ⟨⟨q40, q41⟩, H⟩ := if_some H
  obtain ⟨ad42, rfl⟩ := C_open (HS.getO 0 rfl) (by omega)
  refine v_ (ia_ Try.underlying23 1 q40 q41) ?_
  obtain ⟨A43, c44, le45, HS⟩ := HS.slO 0 rfl i27 q40 q41
  refine v_ (Run.load rfl rfl Try.underlying25 rfl (HS.getO 1 rfl)) ?_
  refine as_ ?_
  refine as_ ?_
  refine dn_ hK39 ?_
  refine sr_ fun _ hK46 => ?_
  refine mv_ ?_
  refine ln_ Try.underlying25 ?_
  refine v_ (fa_ Try.underlying36) ?_
  refine v_ (lb_ (HS.mu 0 rfl) Try.underlying3 rfl) ?_
  refine b_ bin_neq ?_
  refine mv_ ?_
  rcases eti_ H with ⟨c47, H⟩ | ⟨c47, H⟩
  · refine off_ (c' := true) (qT c47) ?_
    refine WL.know 49 (qT c47) ?_
    refine fast_ ?_
    refine via_ hK46 ?_
    refine wy_ rfl ?_
    refine sr_ fun _ hK59 => ?_
    refine as_ ?_
    refine dn_ hK59 ?_
    refine WC.ret ?_
    obtain rfl := os H
    rw [hG24] at Ho26
    replace H : some _ = some _ := Ho26
    obtain rfl := os H
    exact fin1 Try.f121 rfl rfl hR_ ⟨rfl, HS.b⟩
  refine on_ (qF c47) ?_
  refine mv_ ?_
  refine on_ (qF c47) ?_
  refine v_ (fa_ Try.underlying36) ?_
  refine on_ (qF c47) ?_
  refine v_ (lb_ (HS.mu 0 rfl) Try.underlying23 rfl) ?_
  refine on_ (qF c47) ?_
  refine mv_ ?_
  refine on_ (qF c47) ?_
  obtain ⟨⟨q48, q49⟩, H⟩ := if_some H
  obtain ⟨ad50, rfl⟩ := C_open (HS.getO 3 rfl) (by omega)
  refine v_ (ia_ Try.underlying23 1 q48 q49) ?_
  refine on_ (qF c47) ?_
  obtain ⟨A51, c52, le53, HS⟩ := HS.slO 3 rfl i27 q48 q49
  refine v_ (Run.load rfl rfl Try.underlying25 rfl (HS.getO 1 rfl)) ?_
  refine on_ (qF c47) ?_
  obtain ⟨t54, ha55, H⟩ := bind_some H
  refine cs_ HS Try.func133 (impl_rowOk.runs k34 A43 c44 (x0.f1.getD i27.toNat []) A51 c52 (x0.f2.getD i27.toNat []) t54 _ (HS.getO 2 rfl) le45 (HS.getO 0 rfl) le53 ha55) (fun w56 HS => ?_)
  clear ha55
  refine on_ (qF c47) ?_
  refine nt_ ?_
  refine v_ (Run.pickF rfl rfl (qF c47) rfl) ?_
  refine dn_ hK46 ?_
  rcases ite_ H with ⟨c57, H⟩ | ⟨c57, H⟩
  · refine wn_ (nB c57) ?_
    refine WC.skip ?_
    refine via_ hK38 ?_
    refine rg_ ?_
    refine b_ bin_add64 ?_
    refine mv_ ?_
    refine WL.done ?_
    exact WQ.round k34 (fun _ _ h_ => h_) (Nat.lt_succ_self _) ⟨(wrap64 (i27 + 1)), ⟨_, H, Ho26⟩, rfl, (St.pk HS [4, 5] [] rfl rfl)⟩ (sb rfl)
  refine wy_ (nB (bF c57)) ?_
  refine sr_ fun _ hK58 => ?_
  refine as_ ?_
  refine dn_ hK58 ?_
  refine WC.ret ?_
  obtain rfl := os H
  rw [hG24] at Ho26
  replace H : some _ = some _ := Ho26
  obtain rfl := os H
  exact fin1 Try.f121 rfl rfl hR_ ⟨rfl, HS.b⟩
def impl_Worst.b0 (l0 : List Int) (l1 : List Int) (rec_ : Int → Int → Option (Int × Int)) (k23 : Nat) (i15 : Int) (i16 : Int) : Option (Int × Int) := (if i16 < (l0.length : Int) then (if 0 ≤ i16 ∧ i16 < (l0.length : Int) then (if 0 ≤ (wrap64 (Int.tdiv i16 4)) ∧ (wrap64 (Int.tdiv i16 4)) < (l1.length : Int) then (rec_ (wrap64 (i15 + (wrap64 ((wrap64 ((l1.getD (wrap64 (Int.tdiv i16 4)).toNat 0) * 127)) * (if (l0.getD i16.toNat 0) < wrap64 (0 - (l0.getD i16.toNat 0)) then wrap64 (0 - (l0.getD i16.toNat 0)) else (l0.getD i16.toNat 0)))))) (wrap64 (i16 + 1))) else none) else none) else (some (i15, i16)))
def impl_Worst.l0 (l0 : List Int) (l1 : List Int) : Nat → Int → Int → Option (Int × Int)
  | 0, _, _ => none
  | k + 1, i15, i16 => impl_Worst.b0 l0 l1 (impl_Worst.l0 l0 l1 k) k i15 i16
def impl_Worst.g (k : Nat) (l0 : List Int) (l1 : List Int) : Option Int := ((impl_rowOk.g k l0 l1).bind fun t4 => (if t4 = true then ((impl_Worst.l0 l0 l1 k 0 0).bind (fun oc21 => (some oc21.1))) else (some 0)))
theorem impl_Worst.runs (k : Nat) (A0 : Option Addr) (c0 : Nat) (l0 : List Int) (A1 : Option Addr) (c1 : Nat) (l1 : List Int) (r : Int) (w : World) (hr0 : kI.C w A0 l0.length l0) (hc0 : l0.length ≤ c0) (hr1 : kI.C w A1 l1.length l1) (hc1 : l1.length ≤ c1) (H : impl_Worst.g k l0 l1 = some r) :
    Calls Try.prog 82 #[.slice A0 l0.length c0, .slice A1 l1.length c1] w fun e w' => e = .returned (.int .i64 r) ∧ Below w.heap.size w w' := by
  unfold impl_Worst.g at H
  have HS : St (fun _ => True) w w [] [(cF kI A0 l0), (cF kI A1 l1)] [] := St.start (foot_cons (foot_C (Kd.heap_int _) hr0) (foot_cons (foot_C (Kd.heap_int _) hr1) foot_nil))
  refine cw_ (n := 34) Try.func82 fun R_ hR_ => ?_
  refine sr_ fun _ hK1 => ?_
  refine as_ ?_
  refine dn_ hK1 ?_
  refine WC.seq fun _ hK2 => ?_
  refine sr_ fun _ hK3 => ?_
  refine mv_ ?_
  refine mv_ ?_
  obtain ⟨t4, ha5, H⟩ := bind_some H
  refine cs_ HS Try.func133 (impl_rowOk.runs k A0 c0 l0 A1 c1 l1 t4 _ (HS.getO 0 rfl) hc0 (HS.getO 1 rfl) hc1 ha5) (fun w6 HS => ?_)
  clear ha5
  refine nt_ ?_
  refine dn_ hK3 ?_
  rcases eti_ H with ⟨c7, H⟩ | ⟨c7, H⟩
  · refine wy_ (nB (bF c7)) ?_
    refine sr_ fun _ hK35 => ?_
    refine as_ ?_
    refine dn_ hK35 ?_
    obtain rfl := os H
    exact rt1 Try.f82 rfl rfl hR_ ⟨rfl, HS.b⟩
  refine wn_ (nB c7) ?_
  refine WC.skip ?_
  refine via_ hK2 ?_
  refine sr_ fun _ hK8 => ?_
  refine as_ ?_
  refine dn_ hK8 ?_
  refine WC.seq fun K9 hK9 => ?_
  refine sr_ fun _ hK10 => ?_
  refine mv_ ?_
  refine ln_ Try.underlying25 ?_
  refine mv_ ?_
  refine dn_ hK10 ?_
  refine WC.block ?_
  obtain ⟨G11, hG12, oc13, H, Ho14⟩ := open_G H
  let J17 := fun (i15 : Int) (i16 : Int) (E_ : Env) (W_ : World) => E_ = [(1, .slice A1 l1.length c1), (5, .int .i64 i15), (12, .slice A0 l0.length c0), (13, .int .i64 (l0.length : Int)), (14, .int .i64 i16)] ∧ St (fun _ => True) w W_ [] [(cF kI A0 l0), (cF kI A1 l1)] []
  have X18 : ∀ E_ W_, (∃ i15 i16, G11 (i15, i16) = some r ∧ J17 i15 i16 E_ W_) → ∀ a, Fits a 34 E_ → K9 a W_ := by
    rintro E_ w19 ⟨i15, i16, H, rfl, HS⟩
    rw [hG12] at H
    (try dsimp only at H)
    refine hK9 _ _ ?_
    refine sr_ fun _ hK20 => ?_
    refine mv_ ?_
    refine as_ ?_
    refine dn_ hK20 ?_
    obtain rfl := os H
    exact rt1 Try.f82 rfl rfl hR_ ⟨rfl, HS.b⟩
  refine WC.loop (fun k_ E_ W_ => ∃ i15 i16, (∃ o_, impl_Worst.l0 l0 l1 k_ i15 i16 = some o_ ∧ G11 o_ = some r) ∧ J17 i15 i16 E_ W_) k ⟨0, 0, ⟨_, H, Ho14⟩, rfl, HS⟩ (sb rfl) ?_
  rintro k_ E_ w22 ⟨i15, i16, ⟨oc13, H, Ho14⟩, rfl, HS⟩
  rcases k_ with _ | k23
  · exact no_ H
  replace H : impl_Worst.b0 l0 l1 (impl_Worst.l0 l0 l1 k23) k23 i15 i16 = some oc13 := H
  unfold impl_Worst.b0 at H
  refine sr_ fun _ hK24 => ?_
  refine b_ bin_lss ?_
  refine dn_ hK24 ?_
  refine WC.seq fun _ hK25 => ?_
  rcases eti_ H with ⟨c26, H⟩ | ⟨c26, H⟩
  · refine wn_ (dF c26) ?_
    refine WC.exit ?_
    obtain rfl := os H
    exact WQ.via2 (fun _ _ h_ => h_) X18 ⟨i15, i16, Ho14, rfl, HS⟩ (sb rfl)
  refine wy_ (dT c26) ?_
  refine WC.skip ?_
  refine via_ hK25 ?_
  refine WC.seq fun _ hK27 => ?_
  refine WC.block ?_
  refine sr_ fun _ hK28 => ?_
  refine mv_ ?_
  obtain ⟨⟨q29, q30⟩, H⟩ := if_some H
  obtain ⟨ad31, rfl⟩ := C_open (HS.getO 0 rfl) (by omega)
  refine v_ (ia_ Try.underlying25 1 q29 q30) ?_
  refine v_ (Run.load rfl rfl Try.underlying3 rfl (int_cell (HS.getO 0 rfl) i16 q29 q30)) ?_
  refine as_ ?_
  refine as_ ?_
  refine dn_ hK28 ?_
  refine rg_ ?_
  refine mv_ ?_
  refine mv_ ?_
  refine mv_ ?_
  refine v_ (Run.bin rfl rfl rfl (bin_quo64 (show (4 : Int) ≠ 0 by decide))) ?_
  obtain ⟨⟨q32, q33⟩, H⟩ := if_some H
  obtain ⟨ad34, rfl⟩ := C_open (HS.getO 1 rfl) (by omega)
  refine v_ (ia_ Try.underlying25 1 q32 q33) ?_
  refine v_ (Run.load rfl rfl Try.underlying3 rfl (int_cell (HS.getO 1 rfl) (wrap64 (Int.tdiv i16 4)) q32 q33)) ?_
  refine b_ bin_mul64 ?_
  refine mv_ ?_
  refine mv_ ?_
  refine v_ (Run.neg64 rfl rfl) ?_
  refine v_ (Run.max2 rfl rfl rfl) ?_
  refine b_ bin_mul64 ?_
  refine b_ bin_add64 ?_
  refine as_ ?_
  refine dn_ hK27 ?_
  refine rg_ ?_
  refine b_ bin_add64 ?_
  refine mv_ ?_
  refine WL.done ?_
  exact WQ.round k23 (fun _ _ h_ => h_) (Nat.lt_succ_self _) ⟨(wrap64 (i15 + (wrap64 ((wrap64 ((l1.getD (wrap64 (Int.tdiv i16 4)).toNat 0) * 127)) * (if (l0.getD i16.toNat 0) < wrap64 (0 - (l0.getD i16.toNat 0)) then wrap64 (0 - (l0.getD i16.toNat 0)) else (l0.getD i16.toNat 0)))))), (wrap64 (i16 + 1)), ⟨_, H, Ho14⟩, rfl, HS⟩ (sb rfl)
def impl_withinBudget.b0 (x0 : S36) (rec_ : Int → Option (Bool ⊕ Int)) (k25 : Nat) (i18 : Int) : Option (Bool ⊕ Int) := (if i18 < (x0.f1.length : Int) then (if 0 ≤ i18 ∧ i18 < (x0.f1.length : Int) then (if 0 ≤ i18 ∧ i18 < (x0.f2.length : Int) then ((impl_Worst.g k25 (x0.f1.getD i18.toNat []) (x0.f2.getD i18.toNat [])).bind fun t44 => (if t44 > 600000 then (some (Sum.inl false)) else (rec_ (wrap64 (i18 + 1))))) else none) else none) else (some (Sum.inr i18)))
def impl_withinBudget.l0 (x0 : S36) : Nat → Int → Option (Bool ⊕ Int)
  | 0, _ => none
  | k + 1, i18 => impl_withinBudget.b0 x0 (impl_withinBudget.l0 x0 k) k i18
def impl_withinBudget.g (k : Nat) (x0 : S36) (a1 : Int) (a2 : Int) : Option Bool := ((impl_MatrixOk.g k (⟨x0.f0, x0.f1, x0.f2, x0.f3, x0.f4⟩ : S36)).bind fun t6 => (if t6 = true then (if x0.f0 = a1 then (if (x0.f1.length : Int) = a2 then ((impl_withinBudget.l0 x0 k 0).bind (fun oc23 => match oc23 with | .inl r_ => some r_ | .inr i18 => (some true))) else (some false)) else (some false)) else (some false)))
theorem impl_withinBudget.runs (k : Nat) (x0 : S36) (A0_1 : Option Addr) (c0_1 : Nat) (A0_2 : Option Addr) (c0_2 : Nat) (a1 : Int) (a2 : Int) (r : Bool) (w : World) (hr0_1 : kS3.C w A0_1 x0.f1.length x0.f1) (hc0_1 : x0.f1.length ≤ c0_1) (hr0_2 : kS3.C w A0_2 x0.f2.length x0.f2) (hc0_2 : x0.f2.length ≤ c0_2) (H : impl_withinBudget.g k x0 a1 a2 = some r) :
    Calls Try.prog 65 #[.agg #[.int .i64 x0.f0, .slice A0_1 x0.f1.length c0_1, .slice A0_2 x0.f2.length c0_2, .int .i64 x0.f3, .int .i64 x0.f4], .int .i64 a1, .int .i64 a2] w fun e w' => e = .returned (.bool r) ∧ Below w.heap.size w w' := by
  unfold impl_withinBudget.g at H
  have HS : St (fun _ => True) w w [] [(cF kS3 A0_1 x0.f1), (cF kS3 A0_2 x0.f2)] [] := St.start (foot_cons (foot_C (Kd.heap_slice _ (Kd.heap_int _)) hr0_1) (foot_cons (foot_C (Kd.heap_slice _ (Kd.heap_int _)) hr0_2) foot_nil))
  refine cw_ (n := 42) Try.func65 fun R_ hR_ => ?_
  refine sr_ fun _ hK1 => ?_
  refine bo_ HS (fun b2 w3 hb2 HS => ?_)
  refine as_ ?_
  refine dn_ hK1 ?_
  refine WC.seq fun _ hK4 => ?_
  refine sr_ fun _ hK5 => ?_
  refine v_ (ls_ (HS.mu 0 rfl) Try.underlying36 part_all) ?_
  obtain ⟨t6, ha7, H⟩ := bind_some H
  refine cs_ HS Try.func121 (impl_MatrixOk.runs k (⟨x0.f0, x0.f1, x0.f2, x0.f3, x0.f4⟩ : S36) A0_1 c0_1 A0_2 c0_2 t6 _ (HS.getO 0 rfl) hc0_1 (HS.getO 1 rfl) hc0_2 ha7) (fun w8 HS => ?_)
  clear ha7
  refine nt_ ?_
  refine mv_ ?_
  rcases eti_ H with ⟨c9, H⟩ | ⟨c9, H⟩
  · refine off_ (c' := true) (nB (bF c9)) ?_
    refine WL.know 12 (nB (bF c9)) ?_
    refine fast_ ?_
    refine via_ hK5 ?_
    refine wy_ rfl ?_
    refine sr_ fun _ hK51 => ?_
    refine as_ ?_
    refine dn_ hK51 ?_
    obtain rfl := os H
    exact rt1 Try.f65 rfl rfl hR_ ⟨rfl, HS.b⟩
  refine on_ (nB c9) ?_
  refine v_ (fa_ Try.underlying36) ?_
  refine on_ (nB c9) ?_
  refine v_ (lb_ (HS.mu 0 rfl) Try.underlying3 rfl) ?_
  refine on_ (nB c9) ?_
  refine mv_ ?_
  refine on_ (nB c9) ?_
  refine b_ bin_neq ?_
  refine v_ (Run.pickF rfl rfl (nB c9) rfl) ?_
  refine mv_ ?_
  rcases eti_ H with ⟨c10, H⟩ | ⟨c10, H⟩
  · refine off_ (c' := true) (qT c10) ?_
    refine WL.know 18 (qT c10) ?_
    refine fast_ ?_
    refine via_ hK5 ?_
    refine wy_ rfl ?_
    refine sr_ fun _ hK50 => ?_
    refine as_ ?_
    refine dn_ hK50 ?_
    obtain rfl := os H
    exact rt1 Try.f65 rfl rfl hR_ ⟨rfl, HS.b⟩
  refine on_ (qF c10) ?_
  refine v_ (fa_ Try.underlying36) ?_
  refine on_ (qF c10) ?_
  refine v_ (lb_ (HS.mu 0 rfl) Try.underlying23 rfl) ?_
  refine on_ (qF c10) ?_
  refine ln_ Try.underlying23 ?_
  refine on_ (qF c10) ?_
  refine mv_ ?_
  refine on_ (qF c10) ?_
  refine b_ bin_neq ?_
  refine v_ (Run.pickF rfl rfl (qF c10) rfl) ?_
  refine dn_ hK5 ?_
  rcases eti_ H with ⟨c11, H⟩ | ⟨c11, H⟩
  · refine wy_ (qT c11) ?_
    refine sr_ fun _ hK49 => ?_
    refine as_ ?_
    refine dn_ hK49 ?_
    obtain rfl := os H
    exact rt1 Try.f65 rfl rfl hR_ ⟨rfl, HS.b⟩
  refine wn_ (qF c11) ?_
  refine WC.skip ?_
  refine via_ hK4 ?_
  refine WC.seq fun K12 hK12 => ?_
  refine sr_ fun _ hK13 => ?_
  refine v_ (fa_ Try.underlying36) ?_
  refine v_ (lb_ (HS.mu 0 rfl) Try.underlying23 rfl) ?_
  refine ln_ Try.underlying23 ?_
  refine mv_ ?_
  refine dn_ hK13 ?_
  refine WC.block ?_
  obtain ⟨G14, hG15, oc16, H, Ho17⟩ := open_G H
  let J19 := fun (i18 : Int) (E_ : Env) (W_ : World) => E_ = [(3, .pointer (some ⟨b2, 0, none⟩)), (26, .slice A0_1 x0.f1.length c0_1), (27, .int .i64 (x0.f1.length : Int)), (28, .int .i64 i18)] ∧ St (fun _ => True) w W_ [boxM b2 #[.int .i64 x0.f0, .slice A0_1 x0.f1.length c0_1, .slice A0_2 x0.f2.length c0_2, .int .i64 x0.f3, .int .i64 x0.f4] 36] [(cF kS3 A0_1 x0.f1), (cF kS3 A0_2 x0.f2)] []
  have X20 : ∀ E_ W_, (∃ i18, G14 (Sum.inr i18) = some r ∧ J19 i18 E_ W_) → ∀ a, Fits a 42 E_ → K12 a W_ := by
    rintro E_ w21 ⟨i18, H, rfl, HS⟩
    rw [hG15] at H
    (try dsimp only at H)
    refine hK12 _ _ ?_
    refine sr_ fun _ hK22 => ?_
    refine as_ ?_
    refine dn_ hK22 ?_
    obtain rfl := os H
    exact rt1 Try.f65 rfl rfl hR_ ⟨rfl, HS.b⟩
  refine WC.loop (fun k_ E_ W_ => ∃ i18, (∃ o_, impl_withinBudget.l0 x0 k_ i18 = some o_ ∧ G14 o_ = some r) ∧ J19 i18 E_ W_) k ⟨0, ⟨_, H, Ho17⟩, rfl, HS⟩ (sb rfl) ?_
  rintro k_ E_ w24 ⟨i18, ⟨oc16, H, Ho17⟩, rfl, HS⟩
  rcases k_ with _ | k25
  · exact no_ H
  replace H : impl_withinBudget.b0 x0 (impl_withinBudget.l0 x0 k25) k25 i18 = some oc16 := H
  unfold impl_withinBudget.b0 at H
  refine sr_ fun _ hK26 => ?_
  refine b_ bin_lss ?_
  refine dn_ hK26 ?_
  refine WC.seq fun _ hK27 => ?_
  rcases eti_ H with ⟨c28, H⟩ | ⟨c28, H⟩
  · refine wn_ (dF c28) ?_
    refine WC.exit ?_
    obtain rfl := os H
    exact WQ.via2 (fun _ _ h_ => h_) X20 ⟨i18, Ho17, rfl, HS⟩ (sb rfl)
  refine wy_ (dT c28) ?_
  refine WC.skip ?_
  refine via_ hK27 ?_
  refine WC.seq fun _ hK29 => ?_
  refine WC.block ?_
  refine sr_ fun _ hK30 => ?_
  refine mv_ ?_
  obtain ⟨⟨q31, q32⟩, H⟩ := if_some H
  obtain ⟨ad33, rfl⟩ := C_open (HS.getO 0 rfl) (by omega)
  refine v_ (ia_ Try.underlying23 1 q31 q32) ?_
  obtain ⟨A34, c35, le36, HS⟩ := HS.slO 0 rfl i18 q31 q32
  refine v_ (Run.load rfl rfl Try.underlying25 rfl (HS.getO 1 rfl)) ?_
  refine as_ ?_
  refine as_ ?_
  refine dn_ hK30 ?_
  refine sr_ fun _ hK37 => ?_
  refine mv_ ?_
  refine v_ (fa_ Try.underlying36) ?_
  refine v_ (lb_ (HS.mu 0 rfl) Try.underlying23 rfl) ?_
  refine mv_ ?_
  obtain ⟨⟨q38, q39⟩, H⟩ := if_some H
  obtain ⟨ad40, rfl⟩ := C_open (HS.getO 3 rfl) (by omega)
  refine v_ (ia_ Try.underlying23 1 q38 q39) ?_
  obtain ⟨A41, c42, le43, HS⟩ := HS.slO 3 rfl i18 q38 q39
  refine v_ (Run.load rfl rfl Try.underlying25 rfl (HS.getO 1 rfl)) ?_
  obtain ⟨t44, ha45, H⟩ := bind_some H
  refine cs_ HS Try.func82 (impl_Worst.runs k25 A34 c35 (x0.f1.getD i18.toNat []) A41 c42 (x0.f2.getD i18.toNat []) t44 _ (HS.getO 2 rfl) le36 (HS.getO 0 rfl) le43 ha45) (fun w46 HS => ?_)
  clear ha45
  refine b_ bin_gtr ?_
  refine dn_ hK37 ?_
  rcases eti_ H with ⟨c47, H⟩ | ⟨c47, H⟩
  · refine wn_ (dF c47) ?_
    refine WC.skip ?_
    refine via_ hK29 ?_
    refine rg_ ?_
    refine b_ bin_add64 ?_
    refine mv_ ?_
    refine WL.done ?_
    exact WQ.round k25 (fun _ _ h_ => h_) (Nat.lt_succ_self _) ⟨(wrap64 (i18 + 1)), ⟨_, H, Ho17⟩, rfl, (St.pk HS [4, 5] [] rfl rfl)⟩ (sb rfl)
  refine wy_ (dT c47) ?_
  refine sr_ fun _ hK48 => ?_
  refine as_ ?_
  refine dn_ hK48 ?_
  refine WC.ret ?_
  obtain rfl := os H
  rw [hG15] at Ho17
  replace H : some _ = some _ := Ho17
  obtain rfl := os H
  exact fin1 Try.f65 rfl rfl hR_ ⟨rfl, HS.b⟩
def impl_GainOk.g (k : Nat) (l0 : List Int) (a1 : Int) : Option Bool := (if (l0.length : Int) = a1 then ((impl_allIn.f l0 0 127).bind fun t4 => (some t4)) else (some false))
theorem impl_GainOk.runs (k : Nat) (A0 : Option Addr) (c0 : Nat) (l0 : List Int) (a1 : Int) (r : Bool) (w : World) (hr0 : kI.C w A0 l0.length l0) (hc0 : l0.length ≤ c0) (H : impl_GainOk.g k l0 a1 = some r) :
    Calls Try.prog 28 #[.slice A0 l0.length c0, .int .i64 a1] w fun e w' => e = .returned (.bool r) ∧ Below w.heap.size w w' := by
  unfold impl_GainOk.g at H
  have HS : St (fun _ => True) w w [] [(cF kI A0 l0)] [] := St.start (foot_cons (foot_C (Kd.heap_int _) hr0) foot_nil)
  refine cw_ (n := 13) Try.func28 fun R_ hR_ => ?_
  refine sr_ fun _ hK1 => ?_
  refine as_ ?_
  refine dn_ hK1 ?_
  refine sr_ fun _ hK2 => ?_
  refine mv_ ?_
  refine ln_ Try.underlying25 ?_
  refine mv_ ?_
  refine b_ bin_eql ?_
  refine mv_ ?_
  rcases eti_ H with ⟨c3, H⟩ | ⟨c3, H⟩
  · refine off_ (c' := false) (eF c3) ?_
    refine WL.know 9 (eF c3) ?_
    refine fast_ ?_
    refine via_ hK2 ?_
    obtain rfl := os H
    exact rt1 Try.f28 rfl rfl hR_ ⟨rfl, HS.b⟩
  refine on_ (eT c3) ?_
  refine mv_ ?_
  refine on_ (eT c3) ?_
  obtain ⟨t4, ha5, H⟩ := bind_some H
  refine cs_ HS Try.func74 (impl_allIn.calls A0 c0 l0 0 127 t4 _ (HS.getO 0 rfl) hc0 ha5) (fun w6 HS => ?_)
  clear ha5
  refine v_ (Run.pickT rfl rfl (eT c3) rfl) ?_
  refine as_ ?_
  refine dn_ hK2 ?_
  obtain rfl := os H
  exact rt1 Try.f28 rfl rfl hR_ ⟨rfl, HS.b⟩
def impl_TurnsOk.g (k : Nat) (x0 : S37) (a1 : Int) (a2 : Int) : Option Bool := ((impl_in.f a1 4 24).bind fun t5 => (if t5 = true then ((impl_in.f a2 1 4).bind fun t9 => (if t9 = true then ((impl_turnLists.f x0.f0 a1 a2).bind fun t13 => (if t13 = true then ((impl_turnLists.f x0.f1 a1 a2).bind fun t17 => (some t17)) else (some false))) else (some false))) else (some false)))
theorem impl_TurnsOk.runs (k : Nat) (x0 : S37) (A0_0 : Option Addr) (c0_0 : Nat) (A0_1 : Option Addr) (c0_1 : Nat) (a1 : Int) (a2 : Int) (r : Bool) (w : World) (hr0_0 : kS3.C w A0_0 x0.f0.length x0.f0) (hc0_0 : x0.f0.length ≤ c0_0) (hr0_1 : kS3.C w A0_1 x0.f1.length x0.f1) (hc0_1 : x0.f1.length ≤ c0_1) (H : impl_TurnsOk.g k x0 a1 a2 = some r) :
    Calls Try.prog 77 #[.agg #[.slice A0_0 x0.f0.length c0_0, .slice A0_1 x0.f1.length c0_1], .int .i64 a1, .int .i64 a2] w fun e w' => e = .returned (.bool r) ∧ Below w.heap.size w w' := by
  unfold impl_TurnsOk.g at H
  have HS : St (fun _ => True) w w [] [(cF kS3 A0_0 x0.f0), (cF kS3 A0_1 x0.f1)] [] := St.start (foot_cons (foot_C (Kd.heap_slice _ (Kd.heap_int _)) hr0_0) (foot_cons (foot_C (Kd.heap_slice _ (Kd.heap_int _)) hr0_1) foot_nil))
  refine cw_ (n := 27) Try.func77 fun R_ hR_ => ?_
  refine sr_ fun _ hK1 => ?_
  refine bo_ HS (fun b2 w3 hb2 HS => ?_)
  refine as_ ?_
  refine dn_ hK1 ?_
  refine sr_ fun _ hK4 => ?_
  refine mv_ ?_
  obtain ⟨t5, ha6, H⟩ := bind_some H
  refine cs0_ HS Try.func70 (impl_in.calls a1 4 24 t5 _ ha6) (fun w7 HS => ?_)
  clear ha6
  refine mv_ ?_
  rcases eti_ H with ⟨c8, H⟩ | ⟨c8, H⟩
  · refine off_ (c' := false) (bF c8) ?_
    refine WL.know 9 (bF c8) ?_
    refine fast_ ?_
    refine via_ hK4 ?_
    obtain rfl := os H
    exact rt1 Try.f77 rfl rfl hR_ ⟨rfl, HS.b⟩
  refine on_ c8 ?_
  refine mv_ ?_
  refine on_ c8 ?_
  obtain ⟨t9, ha10, H⟩ := bind_some H
  refine cs0_ HS Try.func70 (impl_in.calls a2 1 4 t9 _ ha10) (fun w11 HS => ?_)
  clear ha10
  refine v_ (Run.pickT rfl rfl c8 rfl) ?_
  refine mv_ ?_
  rcases eti_ H with ⟨c12, H⟩ | ⟨c12, H⟩
  · refine off_ (c' := false) (bF c12) ?_
    refine WL.know 13 (bF c12) ?_
    refine fast_ ?_
    refine via_ hK4 ?_
    obtain rfl := os H
    exact rt1 Try.f77 rfl rfl hR_ ⟨rfl, HS.b⟩
  refine on_ c12 ?_
  refine v_ (fa_ Try.underlying37) ?_
  refine on_ c12 ?_
  refine v_ (lb_ (HS.mu 0 rfl) Try.underlying23 rfl) ?_
  refine on_ c12 ?_
  refine mv_ ?_
  refine on_ c12 ?_
  refine mv_ ?_
  refine on_ c12 ?_
  obtain ⟨t13, ha14, H⟩ := bind_some H
  refine cs_ HS Try.func128 (impl_turnLists.calls A0_0 c0_0 x0.f0 a1 a2 t13 _ (HS.getO 0 rfl) hc0_0 ha14) (fun w15 HS => ?_)
  clear ha14
  refine v_ (Run.pickT rfl rfl c12 rfl) ?_
  refine mv_ ?_
  rcases eti_ H with ⟨c16, H⟩ | ⟨c16, H⟩
  · refine off_ (c' := false) (bF c16) ?_
    refine WL.know 20 (bF c16) ?_
    refine fast_ ?_
    refine via_ hK4 ?_
    obtain rfl := os H
    exact rt1 Try.f77 rfl rfl hR_ ⟨rfl, HS.b⟩
  refine on_ c16 ?_
  refine v_ (fa_ Try.underlying37) ?_
  refine on_ c16 ?_
  refine v_ (lb_ (HS.mu 0 rfl) Try.underlying23 rfl) ?_
  refine on_ c16 ?_
  refine mv_ ?_
  refine on_ c16 ?_
  refine mv_ ?_
  refine on_ c16 ?_
  obtain ⟨t17, ha18, H⟩ := bind_some H
  refine cs_ HS Try.func128 (impl_turnLists.calls A0_1 c0_1 x0.f1 a1 a2 t17 _ (HS.getO 1 rfl) hc0_1 ha18) (fun w19 HS => ?_)
  clear ha18
  refine v_ (Run.pickT rfl rfl c16 rfl) ?_
  refine as_ ?_
  refine dn_ hK4 ?_
  obtain rfl := os H
  exact rt1 Try.f77 rfl rfl hR_ ⟨rfl, HS.b⟩
def slices_Index_impl_Merge_impl_Merge.b0 (l0 : List S112) (x1 : S112) (rec_ : Int → Option (Int ⊕ Int)) (k17 : Nat) (i10 : Int) : Option (Int ⊕ Int) := (if i10 < (l0.length : Int) then (if 0 ≤ i10 ∧ i10 < (l0.length : Int) then (if (x1.f0 == ((l0.getD i10.toNat o112).f0) && (x1.f1 == ((l0.getD i10.toNat o112).f1))) = true then (some (Sum.inl i10)) else (rec_ (wrap64 (i10 + 1)))) else none) else (some (Sum.inr i10)))
def slices_Index_impl_Merge_impl_Merge.l0 (l0 : List S112) (x1 : S112) : Nat → Int → Option (Int ⊕ Int)
  | 0, _ => none
  | k + 1, i10 => slices_Index_impl_Merge_impl_Merge.b0 l0 x1 (slices_Index_impl_Merge_impl_Merge.l0 l0 x1 k) k i10
def slices_Index_impl_Merge_impl_Merge.g (k : Nat) (l0 : List S112) (x1 : S112) : Option Int := ((slices_Index_impl_Merge_impl_Merge.l0 l0 x1 k 0).bind (fun oc15 => match oc15 with | .inl r_ => some r_ | .inr i10 => (some (-1))))
theorem slices_Index_impl_Merge_impl_Merge.runs (k : Nat) (A0 : Option Addr) (c0 : Nat) (l0 : List S112) (x1 : S112) (r : Int) (w : World) (hr0 : k112.C w A0 l0.length l0) (hc0 : l0.length ≤ c0) (H : slices_Index_impl_Merge_impl_Merge.g k l0 x1 = some r) :
    Calls Try.prog 146 #[.slice A0 l0.length c0, .agg #[.int .i64 x1.f0, .int .i64 x1.f1]] w fun e w' => e = .returned (.int .i64 r) ∧ Below w.heap.size w w' := by
  unfold slices_Index_impl_Merge_impl_Merge.g at H
  have HS : St (fun _ => True) w w [] [(cF k112 A0 l0)] [] := St.start (foot_cons (foot_C h112 hr0) foot_nil)
  refine cw_ (n := 19) Try.func146 fun R_ hR_ => ?_
  refine sr_ fun _ hK1 => ?_
  refine bo_ HS (fun b2 w3 hb2 HS => ?_)
  refine as_ ?_
  refine dn_ hK1 ?_
  refine WC.seq fun K4 hK4 => ?_
  refine sr_ fun _ hK5 => ?_
  refine mv_ ?_
  refine ln_ Try.underlying34 ?_
  refine mv_ ?_
  refine dn_ hK5 ?_
  refine WC.block ?_
  obtain ⟨G6, hG7, oc8, H, Ho9⟩ := open_G H
  let J11 := fun (i10 : Int) (E_ : Env) (W_ : World) => E_ = [(0, .slice A0 l0.length c0), (3, .pointer (some ⟨b2, 0, none⟩)), (7, .int .i64 (l0.length : Int)), (8, .int .i64 i10)] ∧ St (fun _ => True) w W_ [boxM b2 #[.int .i64 x1.f0, .int .i64 x1.f1] 112] [(cF k112 A0 l0)] []
  have X12 : ∀ E_ W_, (∃ i10, G6 (Sum.inr i10) = some r ∧ J11 i10 E_ W_) → ∀ a, Fits a 19 E_ → K4 a W_ := by
    rintro E_ w13 ⟨i10, H, rfl, HS⟩
    rw [hG7] at H
    (try dsimp only at H)
    refine hK4 _ _ ?_
    refine sr_ fun _ hK14 => ?_
    refine as_ ?_
    refine dn_ hK14 ?_
    obtain rfl := os H
    exact rt1 Try.f146 rfl rfl hR_ ⟨rfl, HS.b⟩
  refine WC.loop (fun k_ E_ W_ => ∃ i10, (∃ o_, slices_Index_impl_Merge_impl_Merge.l0 l0 x1 k_ i10 = some o_ ∧ G6 o_ = some r) ∧ J11 i10 E_ W_) k ⟨0, ⟨_, H, Ho9⟩, rfl, HS⟩ (sb rfl) ?_
  rintro k_ E_ w16 ⟨i10, ⟨oc8, H, Ho9⟩, rfl, HS⟩
  rcases k_ with _ | k17
  · exact no_ H
  replace H : slices_Index_impl_Merge_impl_Merge.b0 l0 x1 (slices_Index_impl_Merge_impl_Merge.l0 l0 x1 k17) k17 i10 = some oc8 := H
  unfold slices_Index_impl_Merge_impl_Merge.b0 at H
  refine sr_ fun _ hK18 => ?_
  refine b_ bin_lss ?_
  refine dn_ hK18 ?_
  refine WC.seq fun _ hK19 => ?_
  rcases eti_ H with ⟨c20, H⟩ | ⟨c20, H⟩
  · refine wn_ (dF c20) ?_
    refine WC.exit ?_
    obtain rfl := os H
    exact WQ.via2 (fun _ _ h_ => h_) X12 ⟨i10, Ho9, rfl, HS⟩ (sb rfl)
  refine wy_ (dT c20) ?_
  refine WC.skip ?_
  refine via_ hK19 ?_
  refine WC.seq fun _ hK21 => ?_
  refine WC.block ?_
  refine sr_ fun _ hK22 => ?_
  refine mv_ ?_
  refine as_ ?_
  refine dn_ hK22 ?_
  refine WC.seq fun _ hK23 => ?_
  refine WC.drawS HS [] rfl rfl (fun w24 HS => ?_)
  have HB := Below.refl w24.heap.size w24
  have HSW := HS
  refine dm_ 1 ?_
  refine dm_ 2 ?_
  obtain ⟨⟨q25, q26⟩, H⟩ := if_some H
  obtain ⟨ad27, rfl⟩ := C_open (HS.getO 0 rfl) (by omega)
  refine di_ 3 Try.underlying34 2 q25 q26 ?_
  refine dt_ 0 (Below.refl _ _) (fun w_ hw_ => Run.loadS (cs := [.int .i64 x1.f0, .int .i64 x1.f1]) rfl rfl Try.underlying112 rfl (by kernel_rfl) (box_part ((HS.below hw_).mu 0 rfl) part_all)) ?_
  obtain ⟨e28, el29, HS⟩ := HS.elO 0 rfl (by decide) o112 i10 q25 q26
  refine dt_ 4 (Below.refl _ _) (fun w_ hw_ => Run.loadS (cs := [.int .i64 ((l0.getD i10.toNat o112).f0), .int .i64 ((l0.getD i10.toNat o112).f1)]) rfl rfl Try.underlying112 rfl (by kernel_rfl) (cells_part ((HS.below hw_).getO 0 rfl).2 (part_cons (at112_0 (AtK.whole ((HS.below hw_).getO 0 rfl).1)).int (part_cons (at112_1 (AtK.whole ((HS.below hw_).getO 0 rfl).1)).int part_nil)))) ?_
  refine dp_ 5 (fun _ => Run.eqS rfl rfl rfl (by kernel_rfl) (eqs112 _ _ _ _ _)) ?_
  refine dd_ ?_
  clear HB HSW
  refine via_ hK23 ?_
  rcases eti_ H with ⟨c30, H⟩ | ⟨c30, H⟩
  · refine wn_ (bF c30) ?_
    refine WC.skip ?_
    refine via_ hK21 ?_
    refine rg_ ?_
    refine b_ bin_add64 ?_
    refine mv_ ?_
    refine WL.done ?_
    exact WQ.round k17 (fun _ _ h_ => h_) (Nat.lt_succ_self _) ⟨(wrap64 (i10 + 1)), ⟨_, H, Ho9⟩, rfl, (St.pk HS [1] [] rfl rfl)⟩ (sb rfl)
  refine wy_ c30 ?_
  refine sr_ fun _ hK31 => ?_
  refine mv_ ?_
  refine as_ ?_
  refine dn_ hK31 ?_
  refine WC.ret ?_
  obtain rfl := os H
  rw [hG7] at Ho9
  replace H : some _ = some _ := Ho9
  obtain rfl := os H
  exact fin1 Try.f146 rfl rfl hR_ ⟨rfl, HS.b⟩
def slices_Contains_impl_Merge_impl_Merge.g (k : Nat) (l0 : List S112) (x1 : S112) : Option Bool := ((slices_Index_impl_Merge_impl_Merge.g k l0 (⟨x1.f0, x1.f1⟩ : S112)).bind fun t5 => (some (decide (t5 ≥ 0))))
theorem slices_Contains_impl_Merge_impl_Merge.runs (k : Nat) (A0 : Option Addr) (c0 : Nat) (l0 : List S112) (x1 : S112) (r : Bool) (w : World) (hr0 : k112.C w A0 l0.length l0) (hc0 : l0.length ≤ c0) (H : slices_Contains_impl_Merge_impl_Merge.g k l0 x1 = some r) :
    Calls Try.prog 122 #[.slice A0 l0.length c0, .agg #[.int .i64 x1.f0, .int .i64 x1.f1]] w fun e w' => e = .returned (.bool r) ∧ Below w.heap.size w w' := by
  unfold slices_Contains_impl_Merge_impl_Merge.g at H
  have HS : St (fun _ => True) w w [] [(cF k112 A0 l0)] [] := St.start (foot_cons (foot_C h112 hr0) foot_nil)
  refine cw_ (n := 9) Try.func122 fun R_ hR_ => ?_
  refine sr_ fun _ hK1 => ?_
  refine bo_ HS (fun b2 w3 hb2 HS => ?_)
  refine as_ ?_
  refine dn_ hK1 ?_
  refine sr_ fun _ hK4 => ?_
  refine mv_ ?_
  refine v_ (ls_ (HS.mu 0 rfl) Try.underlying112 part_all) ?_
  obtain ⟨t5, ha6, H⟩ := bind_some H
  refine cs_ HS Try.func146 (slices_Index_impl_Merge_impl_Merge.runs k A0 c0 l0 (⟨x1.f0, x1.f1⟩ : S112) t5 _ (HS.getO 0 rfl) hc0 ha6) (fun w7 HS => ?_)
  clear ha6
  refine b_ bin_geq ?_
  refine as_ ?_
  refine dn_ hK4 ?_
  obtain rfl := os H
  exact rt1 Try.f122 rfl rfl hR_ ⟨rfl, HS.b⟩
end Go.Proofs.Ytacbkcofcbglhaa.PFnExactFileBytes
