/- Functions that the statement reaches, as Lean functions, and the proof that a call of each comes to just its answer; written by this claim's own program. No conditions. Short names: iLO impl_LayerOk, iMO impl_MatrixOk, iMO1 impl_MergesOk, iMT impl_ModelText, iPN impl_PackNibbles, iRM impl_ReadModel, iSM impl_SumMore, iUN impl_UnpackNibbles, iW impl_Worst, ibytes impl_fileHead_bytes, ilist impl_fileReader_list, imatri impl_fileReader_matrix, imatri1 impl_writer_matrix, imodel impl_fileReader_model, ipairs impl_fileHead_pairs, iput impl_writer_put, iturns impl_writer_turns, iwide impl_writer_wide, iwide1 impl_fileReader_wide, iwithi impl_withinBudget, sA spec_l05All, sB spec_l01Below, sB1 spec_l11Bytes, sB2 spec_l01Byte, sDP spec_DrawPlaces, sDRM spec_DrawRightModel, sG spec_l10Gain, sI spec_l01In, sL52 slices_IndexFunc_impl_Layer_impl_Layer_52, sL521 slices_ContainsFunc_impl_Layer_impl_Layer_52, sM spec_l05Matrix, sM1 spec_l11Matrix, sM2 spec_l07Merges, sM3 spec_l10Matrix, sM4 slices_Index_impl_Merge_impl_Merge, sM5 slices_Contains_impl_Merge_impl_Merge, sMO spec_MergesOk, sMO1 spec_ModelOk, sMO2 spec_MatrixOk, sMT spec_ModelText, sN spec_l01New, sPN spec_PackNibbles, sR spec_l10Right, sS spec_l04Small, sSM spec_SumMore, sT spec_l11Turns, sTF spec_TurnsFor, sTO spec_TurnsOk, sV spec_Vocab, sW spec_Worst, sW1 spec_l10Worst, sint49 slices_IndexFunc_int_int_49, sint83 slices_IndexFunc_int_int_83. -/
import Derived.Test.YtbdbadkinjbpcaaPFnFilesx0
import Derived.Test.YtbdbadkinjbpcaaPFnFilesx1
import Derived.Test.YtbdbadkinjbpcaaPFnFilesx2
import Derived.Test.YtbdbadkinjbpcaaVFnFiles1
namespace Go.Proofs.Ytbdbadkinjbpcaa.PFnFiles
open Try
open Go.RowKit Go.Proofs.YtbdbadkinjbpcaaW.PrintWords Go.Proofs.YtbdbadkinjbpcaaW.PrintLast Go.Proofs.YtbdbadkinjbpcaaW.PrintMore Go.Proofs.Ytbdbadkinjbpcaa.XW Go.Proofs.Ytbdbadkinjbpcaa.XOp Go.Proofs.Ytbdbadkinjbpcaa.XSt Go.Proofs.Ytbdbadkinjbpcaa.XDraw
set_option linter.unusedVariables false
set_option linter.unusedSimpArgs false
set_option maxHeartbeats 4000000
set_option maxRecDepth 20000
structure S29 where
 f0 : Int
 f1 : List (List Int)
 f2 : List (List Int)
 f3 : Int
 f4 : Int
abbrev kS3 := Kd.slice 3 kI
abbrev kS27 := Kd.slice 27 kS3
def k29 : Kd S29 := Kd.iso (Kd.pair kI (Kd.pair kS27 (Kd.pair kS27 (Kd.pair kI kI)))) (fun x : S29 => (x.f0, x.f1, x.f2, x.f3, x.f4))
theorem k29_mk (w : World) (x : S29) {A1 : Option Addr} {c1 : Nat} (l1 : x.f1.length ≤ c1) (g1 : kS3.C w A1 x.f1.length x.f1) {A2 : Option Addr} {c2 : Nat} (l2 : x.f2.length ≤ c2) (g2 : kS3.C w A2 x.f2.length x.f2) : k29.K w x [vi x.f0, .slice A1 x.f1.length c1, .slice A2 x.f2.length c2, vi x.f3, vi x.f4] := (pI (pS l1 g1 (pS l2 g2 (pI rfl))))
structure S31 where
 f0 : List (List Int)
 f1 : List (List Int)
def k31 : Kd S31 := Kd.iso (Kd.pair kS27 kS27) (fun x : S31 => (x.f0, x.f1))
structure S54 where
 f0 : Int
 f1 : Int
def k54 : Kd S54 := Kd.iso (Kd.pair kI kI) (fun x : S54 => (x.f0, x.f1))
theorem k54_mk (w : World) (x : S54)  : k54.K w x [vi x.f0, vi x.f1] := (pI rfl)
structure S52 where
 f0 : List Int
 f1 : S29
 f2 : S29
 f3 : S29
 f4 : S29
 f5 : List Int
 f6 : S29
 f7 : S29
def k52 : Kd S52 := Kd.iso (Kd.pair kS3 (Kd.pair k29 (Kd.pair k29 (Kd.pair k29 (Kd.pair k29 (Kd.pair kS3 (Kd.pair k29 k29))))))) (fun x : S52 => (x.f0, x.f1, x.f2, x.f3, x.f4, x.f5, x.f6, x.f7))
theorem k52_mk (w : World) (x : S52) {A0 : Option Addr} {c0 : Nat} (l0 : x.f0.length ≤ c0) (g0 : kI.C w A0 x.f0.length x.f0) {A2 : Option Addr} {c2 : Nat} (l2 : x.f1.f1.length ≤ c2) (g2 : kS3.C w A2 x.f1.f1.length x.f1.f1) {A3 : Option Addr} {c3 : Nat} (l3 : x.f1.f2.length ≤ c3) (g3 : kS3.C w A3 x.f1.f2.length x.f1.f2) {A7 : Option Addr} {c7 : Nat} (l7 : x.f2.f1.length ≤ c7) (g7 : kS3.C w A7 x.f2.f1.length x.f2.f1) {A8 : Option Addr} {c8 : Nat} (l8 : x.f2.f2.length ≤ c8) (g8 : kS3.C w A8 x.f2.f2.length x.f2.f2) {A12 : Option Addr} {c12 : Nat} (l12 : x.f3.f1.length ≤ c12) (g12 : kS3.C w A12 x.f3.f1.length x.f3.f1) {A13 : Option Addr} {c13 : Nat} (l13 : x.f3.f2.length ≤ c13) (g13 : kS3.C w A13 x.f3.f2.length x.f3.f2) {A17 : Option Addr} {c17 : Nat} (l17 : x.f4.f1.length ≤ c17) (g17 : kS3.C w A17 x.f4.f1.length x.f4.f1) {A18 : Option Addr} {c18 : Nat} (l18 : x.f4.f2.length ≤ c18) (g18 : kS3.C w A18 x.f4.f2.length x.f4.f2) {A21 : Option Addr} {c21 : Nat} (l21 : x.f5.length ≤ c21) (g21 : kI.C w A21 x.f5.length x.f5) {A23 : Option Addr} {c23 : Nat} (l23 : x.f6.f1.length ≤ c23) (g23 : kS3.C w A23 x.f6.f1.length x.f6.f1) {A24 : Option Addr} {c24 : Nat} (l24 : x.f6.f2.length ≤ c24) (g24 : kS3.C w A24 x.f6.f2.length x.f6.f2) {A28 : Option Addr} {c28 : Nat} (l28 : x.f7.f1.length ≤ c28) (g28 : kS3.C w A28 x.f7.f1.length x.f7.f1) {A29 : Option Addr} {c29 : Nat} (l29 : x.f7.f2.length ≤ c29) (g29 : kS3.C w A29 x.f7.f2.length x.f7.f2) : k52.K w x [.slice A0 x.f0.length c0, vi x.f1.f0, .slice A2 x.f1.f1.length c2, .slice A3 x.f1.f2.length c3, vi x.f1.f3, vi x.f1.f4, vi x.f2.f0, .slice A7 x.f2.f1.length c7, .slice A8 x.f2.f2.length c8, vi x.f2.f3, vi x.f2.f4, vi x.f3.f0, .slice A12 x.f3.f1.length c12, .slice A13 x.f3.f2.length c13, vi x.f3.f3, vi x.f3.f4, vi x.f4.f0, .slice A17 x.f4.f1.length c17, .slice A18 x.f4.f2.length c18, vi x.f4.f3, vi x.f4.f4, .slice A21 x.f5.length c21, vi x.f6.f0, .slice A23 x.f6.f1.length c23, .slice A24 x.f6.f2.length c24, vi x.f6.f3, vi x.f6.f4, vi x.f7.f0, .slice A28 x.f7.f1.length c28, .slice A29 x.f7.f2.length c29, vi x.f7.f3, vi x.f7.f4] := (pS l0 g0 (pK 5 (pI (pS l2 g2 (pS l3 g3 (pI rfl)))) (pK 5 (pI (pS l7 g7 (pS l8 g8 (pI rfl)))) (pK 5 (pI (pS l12 g12 (pS l13 g13 (pI rfl)))) (pK 5 (pI (pS l17 g17 (pS l18 g18 (pI rfl)))) (pS l21 g21 (pK 5 (pI (pS l23 g23 (pS l24 g24 (pI rfl)))) (pI (pS l28 g28 (pS l29 g29 (pI rfl)))))))))))
structure S33 where
 f0 : Int
 f1 : Int
 f2 : Int
 f3 : List S54
 f4 : List (List Int)
 f5 : List S52
 f6 : List Int
 f7 : S29
 f8 : S31
abbrev kS54 := Kd.slice 54 k54
abbrev kS52 := Kd.slice 52 k52
def k33 : Kd S33 := Kd.iso (Kd.pair kI (Kd.pair kI (Kd.pair kI (Kd.pair kS54 (Kd.pair kS27 (Kd.pair kS52 (Kd.pair kS3 (Kd.pair k29 k31)))))))) (fun x : S33 => (x.f0, x.f1, x.f2, x.f3, x.f4, x.f5, x.f6, x.f7, x.f8))
theorem k33_mk (w : World) (x : S33) {A3 : Option Addr} {c3 : Nat} (l3 : x.f3.length ≤ c3) (g3 : k54.C w A3 x.f3.length x.f3) {A4 : Option Addr} {c4 : Nat} (l4 : x.f4.length ≤ c4) (g4 : kS3.C w A4 x.f4.length x.f4) {A5 : Option Addr} {c5 : Nat} (l5 : x.f5.length ≤ c5) (g5 : k52.C w A5 x.f5.length x.f5) {A6 : Option Addr} {c6 : Nat} (l6 : x.f6.length ≤ c6) (g6 : kI.C w A6 x.f6.length x.f6) {A8 : Option Addr} {c8 : Nat} (l8 : x.f7.f1.length ≤ c8) (g8 : kS3.C w A8 x.f7.f1.length x.f7.f1) {A9 : Option Addr} {c9 : Nat} (l9 : x.f7.f2.length ≤ c9) (g9 : kS3.C w A9 x.f7.f2.length x.f7.f2) {A12 : Option Addr} {c12 : Nat} (l12 : x.f8.f0.length ≤ c12) (g12 : kS3.C w A12 x.f8.f0.length x.f8.f0) {A13 : Option Addr} {c13 : Nat} (l13 : x.f8.f1.length ≤ c13) (g13 : kS3.C w A13 x.f8.f1.length x.f8.f1) : k33.K w x [vi x.f0, vi x.f1, vi x.f2, .slice A3 x.f3.length c3, .slice A4 x.f4.length c4, .slice A5 x.f5.length c5, .slice A6 x.f6.length c6, vi x.f7.f0, .slice A8 x.f7.f1.length c8, .slice A9 x.f7.f2.length c9, vi x.f7.f3, vi x.f7.f4, .slice A12 x.f8.f0.length c12, .slice A13 x.f8.f1.length c13] := (pI (pI (pI (pS l3 g3 (pS l4 g4 (pS l5 g5 (pS l6 g6 (pK 5 (pI (pS l8 g8 (pS l9 g9 (pI rfl)))) (pS l12 g12 (lS l13 g13))))))))))
structure S49 where
 f0 : List Int
abbrev kS5 := Kd.slice 5 kU
structure S61 where
 f0 : Int
 f1 : Int
 f2 : Int
 f3 : Int
 f4 : Int
 f5 : List Int
 f6 : Int
structure S67 where
 f0 : ByteArray
 f1 : Int
 f2 : Bool
def k67 : Kd S67 := Kd.iso (Kd.pair Kd.string (Kd.pair kI Kd.bool)) (fun x : S67 => (x.f0, x.f1, x.f2))
structure S83 where
 f0 : List Int
 f1 : Int
 f2 : Int
abbrev zz1 : Array Value := #[vi 0, vi 0, vi 0, sn, sn, sn, sn, vi 0, sn, sn, vi 0, vi 0, sn, sn]
abbrev zz2 : Array Value := #[sn, vi 0, sn, sn, vi 0, vi 0, vi 0, sn, sn, vi 0, vi 0, vi 0, sn, sn, vi 0, vi 0, vi 0, sn, sn, vi 0, vi 0, sn, vi 0, sn, sn, vi 0, vi 0, vi 0, sn, sn, vi 0, vi 0]
abbrev zl3 : List Value := [vi 0, vi 0, vi 0, sn, sn, sn, sn, vi 0, sn, sn, vi 0, vi 0, sn, sn]
def o29 : S29 := ⟨0, [], [], 0, 0⟩
theorem h29 : Kd.Heap k29 := Kd.heap_iso _ (Kd.heap_pair (Kd.heap_int _) (Kd.heap_pair (Kd.heap_slice _ (Kd.heap_slice _ (Kd.heap_int _))) (Kd.heap_pair (Kd.heap_slice _ (Kd.heap_slice _ (Kd.heap_int _))) (Kd.heap_pair (Kd.heap_int _) (Kd.heap_int _)))))
theorem h31 : Kd.Heap k31 := Kd.heap_iso _ (Kd.heap_pair (Kd.heap_slice _ (Kd.heap_slice _ (Kd.heap_int _))) (Kd.heap_slice _ (Kd.heap_slice _ (Kd.heap_int _))))
def o54 : S54 := ⟨0, 0⟩
theorem h54 : Kd.Heap k54 := Kd.heap_iso _ (Kd.heap_pair (Kd.heap_int _) (Kd.heap_int _))
def o52 : S52 := ⟨[], o29, o29, o29, o29, [], o29, o29⟩
theorem h52 : Kd.Heap k52 := Kd.heap_iso _ (Kd.heap_pair (Kd.heap_slice _ (Kd.heap_int _)) (Kd.heap_pair h29 (Kd.heap_pair h29 (Kd.heap_pair h29 (Kd.heap_pair h29 (Kd.heap_pair (Kd.heap_slice _ (Kd.heap_int _)) (Kd.heap_pair h29 h29)))))))
theorem h33 : Kd.Heap k33 := Kd.heap_iso _ (Kd.heap_pair (Kd.heap_int _) (Kd.heap_pair (Kd.heap_int _) (Kd.heap_pair (Kd.heap_int _) (Kd.heap_pair (Kd.heap_slice _ h54) (Kd.heap_pair (Kd.heap_slice _ (Kd.heap_slice _ (Kd.heap_int _))) (Kd.heap_pair (Kd.heap_slice _ h52) (Kd.heap_pair (Kd.heap_slice _ (Kd.heap_int _)) (Kd.heap_pair h29 h31))))))))
theorem h67 : Kd.Heap k67 := Kd.heap_iso _ (Kd.heap_pair Kd.heap_string (Kd.heap_pair (Kd.heap_int _) Kd.heap_bool))
theorem at29_0 {w : World} {x : S29} {cs : List Value} (h : AtK k29 w x cs 0) : AtK kI w x.f0 cs 0 := h.iso.fst
theorem at29_1 {w : World} {x : S29} {cs : List Value} (h : AtK k29 w x cs 0) : AtK kS27 w x.f1 cs 1 := (h.iso.snd rfl).fst
theorem at29_2 {w : World} {x : S29} {cs : List Value} (h : AtK k29 w x cs 0) : AtK kS27 w x.f2 cs 2 := ((h.iso.snd rfl).snd rfl).fst
theorem at29_3 {w : World} {x : S29} {cs : List Value} (h : AtK k29 w x cs 0) : AtK kI w x.f3 cs 3 := (((h.iso.snd rfl).snd rfl).snd rfl).fst
theorem at29_4 {w : World} {x : S29} {cs : List Value} (h : AtK k29 w x cs 0) : AtK kI w x.f4 cs 4 := ((((h.iso.snd rfl).snd rfl).snd rfl).snd rfl)
theorem at33_0 {w : World} {x : S33} {cs : List Value} (h : AtK k33 w x cs 0) : AtK kI w x.f0 cs 0 := h.iso.fst
theorem at33_1 {w : World} {x : S33} {cs : List Value} (h : AtK k33 w x cs 0) : AtK kI w x.f1 cs 1 := (h.iso.snd rfl).fst
theorem at33_2 {w : World} {x : S33} {cs : List Value} (h : AtK k33 w x cs 0) : AtK kI w x.f2 cs 2 := ((h.iso.snd rfl).snd rfl).fst
theorem at33_3 {w : World} {x : S33} {cs : List Value} (h : AtK k33 w x cs 0) : AtK kS54 w x.f3 cs 3 := (((h.iso.snd rfl).snd rfl).snd rfl).fst
theorem at33_4 {w : World} {x : S33} {cs : List Value} (h : AtK k33 w x cs 0) : AtK kS27 w x.f4 cs 4 := ((((h.iso.snd rfl).snd rfl).snd rfl).snd rfl).fst
theorem at33_5 {w : World} {x : S33} {cs : List Value} (h : AtK k33 w x cs 0) : AtK kS52 w x.f5 cs 5 := (((((h.iso.snd rfl).snd rfl).snd rfl).snd rfl).snd rfl).fst
theorem at33_6 {w : World} {x : S33} {cs : List Value} (h : AtK k33 w x cs 0) : AtK kS3 w x.f6 cs 6 := ((((((h.iso.snd rfl).snd rfl).snd rfl).snd rfl).snd rfl).snd rfl).fst
theorem at33_7 {w : World} {x : S33} {cs : List Value} (h : AtK k33 w x cs 0) : AtK kI w x.f7.f0 cs 7 := (((((((h.iso.snd rfl).snd rfl).snd rfl).snd rfl).snd rfl).snd rfl).snd rfl).fst.iso.fst
theorem at33_8 {w : World} {x : S33} {cs : List Value} (h : AtK k33 w x cs 0) : AtK kS27 w x.f7.f1 cs 8 := ((((((((h.iso.snd rfl).snd rfl).snd rfl).snd rfl).snd rfl).snd rfl).snd rfl).fst.iso.snd rfl).fst
theorem at33_9 {w : World} {x : S33} {cs : List Value} (h : AtK k33 w x cs 0) : AtK kS27 w x.f7.f2 cs 9 := (((((((((h.iso.snd rfl).snd rfl).snd rfl).snd rfl).snd rfl).snd rfl).snd rfl).fst.iso.snd rfl).snd rfl).fst
theorem at33_10 {w : World} {x : S33} {cs : List Value} (h : AtK k33 w x cs 0) : AtK kI w x.f7.f3 cs 10 := ((((((((((h.iso.snd rfl).snd rfl).snd rfl).snd rfl).snd rfl).snd rfl).snd rfl).fst.iso.snd rfl).snd rfl).snd rfl).fst
theorem at33_11 {w : World} {x : S33} {cs : List Value} (h : AtK k33 w x cs 0) : AtK kI w x.f7.f4 cs 11 := (((((((((((h.iso.snd rfl).snd rfl).snd rfl).snd rfl).snd rfl).snd rfl).snd rfl).fst.iso.snd rfl).snd rfl).snd rfl).snd rfl)
theorem at33_12 {w : World} {x : S33} {cs : List Value} (h : AtK k33 w x cs 0) : AtK kS27 w x.f8.f0 cs 12 := ((((((((h.iso.snd rfl).snd rfl).snd rfl).snd rfl).snd rfl).snd rfl).snd rfl).snd rfl).iso.fst
theorem at33_13 {w : World} {x : S33} {cs : List Value} (h : AtK k33 w x cs 0) : AtK kS27 w x.f8.f1 cs 13 := (((((((((h.iso.snd rfl).snd rfl).snd rfl).snd rfl).snd rfl).snd rfl).snd rfl).snd rfl).iso.snd rfl)
theorem at52_0 {w : World} {x : S52} {cs : List Value} (h : AtK k52 w x cs 0) : AtK kS3 w x.f0 cs 0 := h.iso.fst
theorem at52_1 {w : World} {x : S52} {cs : List Value} (h : AtK k52 w x cs 0) : AtK kI w x.f1.f0 cs 1 := (h.iso.snd rfl).fst.iso.fst
theorem at52_2 {w : World} {x : S52} {cs : List Value} (h : AtK k52 w x cs 0) : AtK kS27 w x.f1.f1 cs 2 := ((h.iso.snd rfl).fst.iso.snd rfl).fst
theorem at52_3 {w : World} {x : S52} {cs : List Value} (h : AtK k52 w x cs 0) : AtK kS27 w x.f1.f2 cs 3 := (((h.iso.snd rfl).fst.iso.snd rfl).snd rfl).fst
theorem at52_4 {w : World} {x : S52} {cs : List Value} (h : AtK k52 w x cs 0) : AtK kI w x.f1.f3 cs 4 := ((((h.iso.snd rfl).fst.iso.snd rfl).snd rfl).snd rfl).fst
theorem at52_5 {w : World} {x : S52} {cs : List Value} (h : AtK k52 w x cs 0) : AtK kI w x.f1.f4 cs 5 := (((((h.iso.snd rfl).fst.iso.snd rfl).snd rfl).snd rfl).snd rfl)
theorem at52_6 {w : World} {x : S52} {cs : List Value} (h : AtK k52 w x cs 0) : AtK kI w x.f2.f0 cs 6 := ((h.iso.snd rfl).snd rfl).fst.iso.fst
theorem at52_7 {w : World} {x : S52} {cs : List Value} (h : AtK k52 w x cs 0) : AtK kS27 w x.f2.f1 cs 7 := (((h.iso.snd rfl).snd rfl).fst.iso.snd rfl).fst
theorem at52_8 {w : World} {x : S52} {cs : List Value} (h : AtK k52 w x cs 0) : AtK kS27 w x.f2.f2 cs 8 := ((((h.iso.snd rfl).snd rfl).fst.iso.snd rfl).snd rfl).fst
theorem at52_9 {w : World} {x : S52} {cs : List Value} (h : AtK k52 w x cs 0) : AtK kI w x.f2.f3 cs 9 := (((((h.iso.snd rfl).snd rfl).fst.iso.snd rfl).snd rfl).snd rfl).fst
theorem at52_10 {w : World} {x : S52} {cs : List Value} (h : AtK k52 w x cs 0) : AtK kI w x.f2.f4 cs 10 := ((((((h.iso.snd rfl).snd rfl).fst.iso.snd rfl).snd rfl).snd rfl).snd rfl)
theorem at52_11 {w : World} {x : S52} {cs : List Value} (h : AtK k52 w x cs 0) : AtK kI w x.f3.f0 cs 11 := (((h.iso.snd rfl).snd rfl).snd rfl).fst.iso.fst
theorem at52_12 {w : World} {x : S52} {cs : List Value} (h : AtK k52 w x cs 0) : AtK kS27 w x.f3.f1 cs 12 := ((((h.iso.snd rfl).snd rfl).snd rfl).fst.iso.snd rfl).fst
theorem at52_13 {w : World} {x : S52} {cs : List Value} (h : AtK k52 w x cs 0) : AtK kS27 w x.f3.f2 cs 13 := (((((h.iso.snd rfl).snd rfl).snd rfl).fst.iso.snd rfl).snd rfl).fst
theorem at52_14 {w : World} {x : S52} {cs : List Value} (h : AtK k52 w x cs 0) : AtK kI w x.f3.f3 cs 14 := ((((((h.iso.snd rfl).snd rfl).snd rfl).fst.iso.snd rfl).snd rfl).snd rfl).fst
theorem at52_15 {w : World} {x : S52} {cs : List Value} (h : AtK k52 w x cs 0) : AtK kI w x.f3.f4 cs 15 := (((((((h.iso.snd rfl).snd rfl).snd rfl).fst.iso.snd rfl).snd rfl).snd rfl).snd rfl)
theorem at52_16 {w : World} {x : S52} {cs : List Value} (h : AtK k52 w x cs 0) : AtK kI w x.f4.f0 cs 16 := ((((h.iso.snd rfl).snd rfl).snd rfl).snd rfl).fst.iso.fst
theorem at52_17 {w : World} {x : S52} {cs : List Value} (h : AtK k52 w x cs 0) : AtK kS27 w x.f4.f1 cs 17 := (((((h.iso.snd rfl).snd rfl).snd rfl).snd rfl).fst.iso.snd rfl).fst
theorem at52_18 {w : World} {x : S52} {cs : List Value} (h : AtK k52 w x cs 0) : AtK kS27 w x.f4.f2 cs 18 := ((((((h.iso.snd rfl).snd rfl).snd rfl).snd rfl).fst.iso.snd rfl).snd rfl).fst
theorem at52_19 {w : World} {x : S52} {cs : List Value} (h : AtK k52 w x cs 0) : AtK kI w x.f4.f3 cs 19 := (((((((h.iso.snd rfl).snd rfl).snd rfl).snd rfl).fst.iso.snd rfl).snd rfl).snd rfl).fst
theorem at52_20 {w : World} {x : S52} {cs : List Value} (h : AtK k52 w x cs 0) : AtK kI w x.f4.f4 cs 20 := ((((((((h.iso.snd rfl).snd rfl).snd rfl).snd rfl).fst.iso.snd rfl).snd rfl).snd rfl).snd rfl)
theorem at52_21 {w : World} {x : S52} {cs : List Value} (h : AtK k52 w x cs 0) : AtK kS3 w x.f5 cs 21 := (((((h.iso.snd rfl).snd rfl).snd rfl).snd rfl).snd rfl).fst
theorem at52_22 {w : World} {x : S52} {cs : List Value} (h : AtK k52 w x cs 0) : AtK kI w x.f6.f0 cs 22 := ((((((h.iso.snd rfl).snd rfl).snd rfl).snd rfl).snd rfl).snd rfl).fst.iso.fst
theorem at52_23 {w : World} {x : S52} {cs : List Value} (h : AtK k52 w x cs 0) : AtK kS27 w x.f6.f1 cs 23 := (((((((h.iso.snd rfl).snd rfl).snd rfl).snd rfl).snd rfl).snd rfl).fst.iso.snd rfl).fst
theorem at52_24 {w : World} {x : S52} {cs : List Value} (h : AtK k52 w x cs 0) : AtK kS27 w x.f6.f2 cs 24 := ((((((((h.iso.snd rfl).snd rfl).snd rfl).snd rfl).snd rfl).snd rfl).fst.iso.snd rfl).snd rfl).fst
theorem at52_25 {w : World} {x : S52} {cs : List Value} (h : AtK k52 w x cs 0) : AtK kI w x.f6.f3 cs 25 := (((((((((h.iso.snd rfl).snd rfl).snd rfl).snd rfl).snd rfl).snd rfl).fst.iso.snd rfl).snd rfl).snd rfl).fst
theorem at52_26 {w : World} {x : S52} {cs : List Value} (h : AtK k52 w x cs 0) : AtK kI w x.f6.f4 cs 26 := ((((((((((h.iso.snd rfl).snd rfl).snd rfl).snd rfl).snd rfl).snd rfl).fst.iso.snd rfl).snd rfl).snd rfl).snd rfl)
theorem at52_27 {w : World} {x : S52} {cs : List Value} (h : AtK k52 w x cs 0) : AtK kI w x.f7.f0 cs 27 := (((((((h.iso.snd rfl).snd rfl).snd rfl).snd rfl).snd rfl).snd rfl).snd rfl).iso.fst
theorem at52_28 {w : World} {x : S52} {cs : List Value} (h : AtK k52 w x cs 0) : AtK kS27 w x.f7.f1 cs 28 := ((((((((h.iso.snd rfl).snd rfl).snd rfl).snd rfl).snd rfl).snd rfl).snd rfl).iso.snd rfl).fst
theorem at52_29 {w : World} {x : S52} {cs : List Value} (h : AtK k52 w x cs 0) : AtK kS27 w x.f7.f2 cs 29 := (((((((((h.iso.snd rfl).snd rfl).snd rfl).snd rfl).snd rfl).snd rfl).snd rfl).iso.snd rfl).snd rfl).fst
theorem at52_30 {w : World} {x : S52} {cs : List Value} (h : AtK k52 w x cs 0) : AtK kI w x.f7.f3 cs 30 := ((((((((((h.iso.snd rfl).snd rfl).snd rfl).snd rfl).snd rfl).snd rfl).snd rfl).iso.snd rfl).snd rfl).snd rfl).fst
theorem at52_31 {w : World} {x : S52} {cs : List Value} (h : AtK k52 w x cs 0) : AtK kI w x.f7.f4 cs 31 := (((((((((((h.iso.snd rfl).snd rfl).snd rfl).snd rfl).snd rfl).snd rfl).snd rfl).iso.snd rfl).snd rfl).snd rfl).snd rfl)
theorem at54_0 {w : World} {x : S54} {cs : List Value} (h : AtK k54 w x cs 0) : AtK kI w x.f0 cs 0 := h.iso.fst
theorem at54_1 {w : World} {x : S54} {cs : List Value} (h : AtK k54 w x cs 0) : AtK kI w x.f1 cs 1 := (h.iso.snd rfl)
theorem eqs54 (w : World) (x0 y0 : Int) (x1 y1 : Int) : (Op.equal 54 (.agg #[vi x0, vi x1]) (.agg #[vi y0, vi y1])).run prog w = .ok (x0 == y0 && (x1 == y1)) w := by
 unfold Op.equal
 refine eqA_of underlying54 (by kernel_rfl) ?_
 refine eqf_cons (by rfl) (by go_simp; rfl) (by go_simp; rfl) (by go_simp) ?_
 exact eqf_last (by rfl) (by go_simp; rfl) (by go_simp; rfl) (by go_simp)
def sA.b0 (l0 : List Int) (a1 : Int) (a2 : Int) (rec_ : Int → Option (Bool ⊕ Int)) (k15 : Nat) (i8 : Int) : Option (Bool ⊕ Int) := (if i8 < (l0.length : Int) then (if 0 ≤ i8 ∧ i8 < (l0.length : Int) then ((sI.f (l0.getD i8.toNat 0) a1 a2).bind fun t24 => (if t24 = true then (rec_ (wrap64 (i8 + 1))) else (some (Sum.inl false)))) else none) else (some (Sum.inr i8)))
def sA.l0 (l0 : List Int) (a1 : Int) (a2 : Int) : Nat → Int → Option (Bool ⊕ Int)
 | 0, _ => none
 | k + 1, i8 => sA.b0 l0 a1 a2 (sA.l0 l0 a1 a2 k) k i8
def sA.g (k : Nat) (l0 : List Int) (a1 : Int) (a2 : Int) : Option Bool := ((sA.l0 l0 a1 a2 k 0).bind (fun oc13 => match oc13 with | .inl r_ => some r_ | .inr i8 => (some true)))
theorem sA.runs (k : Nat) (A0 : Option Addr) (c0 : Nat) (l0 : List Int) (a1 : Int) (a2 : Int) (r : Bool) (w : World) (hr0 : kI.C w A0 l0.length l0) (hc0 : l0.length ≤ c0) (H : sA.g k l0 a1 a2 = some r) :
   Calls prog 34 #[.slice A0 l0.length c0, vi a1, vi a2] w fun e w' => e = .returned (.bool r) ∧ Below w.heap.size w w' := by
 unfold sA.g at H
 have HS : St (fun _ => True) w w [] [(cF kI A0 l0)] [] := St.start (foot_cons (foot_C (Kd.heap_int _) hr0) foot_nil)
 refine cw_ (n := 22) func34 fun R_ hR_ => ?_
 refine sr_ fun _ hK1 => ?_
 refine ad_ hK1 ?_
 refine WC.seq fun K2 hK2 => ?_
 refine sr_ fun _ hK3 => ?_
 refine ad_ hK3 ?_
 refine WC.block ?_
 obtain ⟨G4, hG5, oc6, H, Ho7⟩ := open_G H
 let J9 := fun (i8 : Int) (E_ : Env) (W_ : World) => E_ = [(0, .slice A0 l0.length c0), (1, vi a1), (2, vi a2), (7, vi i8)] ∧ St (fun _ => True) w W_ [] [(cF kI A0 l0)] []
 have X10 : ∀ E_ W_, (∃ i8, G4 (Sum.inr i8) = some r ∧ J9 i8 E_ W_) → ∀ a, Fits a 22 E_ → K2 a W_ := by
   rintro E_ w11 ⟨i8, H, rfl, HS⟩
   rw [hG5] at H
   (try dsimp only at H)
   refine hK2 _ _ ?_
   refine sr_ fun _ hK12 => ?_
   refine ad_ hK12 ?_
   obtain rfl := os H
   exact rt1 Try.f34 rfl rfl hR_ ⟨rfl, HS.b⟩
 clear hK2
 refine WC.loop (fun k_ E_ W_ => ∃ i8, (∃ o_, sA.l0 l0 a1 a2 k_ i8 = some o_ ∧ G4 o_ = some r) ∧ J9 i8 E_ W_) k ⟨0, ⟨_, H, Ho7⟩, rfl, HS⟩ (sb rfl) ?_
 rintro k_ E_ w14 ⟨i8, ⟨oc6, H, Ho7⟩, rfl, HS⟩
 rcases k_ with _ | k15
 · exact no_ H
 replace H : sA.b0 l0 a1 a2 (sA.l0 l0 a1 a2 k15) k15 i8 = some oc6 := H
 unfold sA.b0 at H
 refine WC.seq fun _ hK16 => ?_
 refine sr_ fun _ hK17 => ?_
 refine mv_ ?_
 refine mv_ ?_
 refine ln_ underlying27 ?_
 refine b_ bin_lss ?_
 refine dn_ hK17 ?_
 rcases eti_ H with ⟨c18, H⟩ | ⟨c18, H⟩
 · refine wn_ (dF c18) (WC.exit ?_)
   obtain rfl := os H
   exact wv_ iq X10 ⟨i8, Ho7, rfl, HS⟩
 refine wy_ (dT c18) (WC.skip (via_ hK16 (WC.seq fun _ hK19 => ?_)))
 refine WC.block (sr_ fun _ hK20 => ?_)
 refine mv_ ?_
 refine mv_ ?_
 obtain ⟨⟨q21, q22⟩, H⟩ := if_some H
 obtain ⟨ad23, rfl⟩ := C_open (HS.getO 0 rfl) (by omega)
 refine v_ (ia_ underlying27 1 q21 q22) ?_
 refine v_ (Run.load rfl rfl underlying3 rfl (int_cell (HS.getO 0 rfl) i8 q21 q22)) ?_
 refine mv_ ?_
 refine mv_ ?_
 obtain ⟨t24, ha25, H⟩ := bind_some H
 refine cs0_ HS func33 (sI.calls (l0.getD i8.toNat 0) a1 a2 t24 _ ha25) (fun w26 HS => ?_)
 clear ha25
 refine nt_ ?_
 refine dn_ hK20 ?_
 rcases ite_ H with ⟨c27, H⟩ | ⟨c27, H⟩
 · refine wn_ (nB c27) (WC.skip (via_ hK19 (rg_ (mv_ ?_))))
   refine b_ bin_add64 ?_
   refine as_ ?_
   refine WL.done ?_
   exact wr_ k15 iq ⟨(wrap64 (i8 + 1)), ⟨_, H, Ho7⟩, rfl, HS⟩
 refine wy_ (nB (bF c27)) (sr_ fun _ hK28 => ?_)
 refine ad_ hK28 ?_
 refine WC.ret ?_
 obtain rfl := os H
 rw [hG5] at Ho7
 replace H : some _ = some _ := Ho7
 obtain rfl := os H
 exact fin1 Try.f34 rfl rfl hR_ ⟨rfl, HS.b⟩
def spec_l05Fits.g (k : Nat) (l0 : List Int) (l1 : List Int) : Option Bool := ((spec_l05Width.f (l0.length : Int)).bind fun t3 => (if t3 = true then ((sA.g k l0 (-8) 7).bind fun t7 => (if t7 = true then (if (l1.length : Int) = (wrap64 (Int.tdiv (l0.length : Int) 4)) then ((sA.g k l1 1 127).bind fun t12 => (some t12)) else (some false)) else (some false))) else (some false)))
theorem spec_l05Fits.runs (k : Nat) (A0 : Option Addr) (c0 : Nat) (l0 : List Int) (A1 : Option Addr) (c1 : Nat) (l1 : List Int) (r : Bool) (w : World) (hr0 : kI.C w A0 l0.length l0) (hc0 : l0.length ≤ c0) (hr1 : kI.C w A1 l1.length l1) (hc1 : l1.length ≤ c1) (H : spec_l05Fits.g k l0 l1 = some r) :
   Calls prog 89 #[.slice A0 l0.length c0, .slice A1 l1.length c1] w fun e w' => e = .returned (.bool r) ∧ Below w.heap.size w w' := by
 unfold spec_l05Fits.g at H
 have HS : St (fun _ => True) w w [] [(cF kI A0 l0), (cF kI A1 l1)] [] := St.start (foot_cons (foot_C (Kd.heap_int _) hr0) (foot_cons (foot_C (Kd.heap_int _) hr1) foot_nil))
 refine cw_ (n := 24) func89 fun R_ hR_ => ?_
 refine sr_ fun _ hK1 => ?_
 refine ad_ hK1 ?_
 refine sr_ fun _ hK2 => ?_
 refine mv_ ?_
 refine ln_ underlying27 ?_
 obtain ⟨t3, ha4, H⟩ := bind_some H
 refine cs0_ HS func31 (spec_l05Width.calls (l0.length : Int) t3 _ ha4) (fun w5 HS => ?_)
 clear ha4
 refine mv_ ?_
 rcases eti_ H with ⟨c6, H⟩ | ⟨c6, H⟩
 · refine off_ (c' := false) (bF c6) ?_
   refine WL.know 8 (bF c6) ?_
   refine fast_ ?_
   refine via_ hK2 ?_
   obtain rfl := os H
   exact rt1 Try.f89 rfl rfl hR_ ⟨rfl, HS.b⟩
 refine on_ c6 ?_
 refine mv_ ?_
 refine on_ c6 ?_
 obtain ⟨t7, ha8, H⟩ := bind_some H
 refine cs_ HS func34 (sA.runs k A0 c0 l0 (-8) 7 t7 _ (HS.getO 0 rfl) hc0 ha8) (fun w9 HS => ?_)
 clear ha8
 refine v_ (Run.pickT rfl rfl c6 rfl) ?_
 refine mv_ ?_
 rcases eti_ H with ⟨c10, H⟩ | ⟨c10, H⟩
 · refine off_ (c' := false) (bF c10) ?_
   refine WL.know 12 (bF c10) ?_
   refine fast_ ?_
   refine via_ hK2 ?_
   obtain rfl := os H
   exact rt1 Try.f89 rfl rfl hR_ ⟨rfl, HS.b⟩
 refine on_ c10 ?_
 refine mv_ ?_
 refine on_ c10 ?_
 refine ln_ underlying27 ?_
 refine on_ c10 ?_
 refine mv_ ?_
 refine on_ c10 ?_
 refine ln_ underlying27 ?_
 refine on_ c10 ?_
 refine v_ (Run.bin rfl rfl rfl (bin_quo64 (show (4 : Int) ≠ 0 by decide))) ?_
 refine on_ c10 ?_
 refine b_ bin_eql ?_
 refine v_ (Run.pickT rfl rfl c10 rfl) ?_
 refine mv_ ?_
 rcases eti_ H with ⟨c11, H⟩ | ⟨c11, H⟩
 · refine off_ (c' := false) (eF c11) ?_
   refine WL.know 20 (eF c11) ?_
   refine fast_ ?_
   refine via_ hK2 ?_
   obtain rfl := os H
   exact rt1 Try.f89 rfl rfl hR_ ⟨rfl, HS.b⟩
 refine on_ (eT c11) (mv_ ?_)
 refine on_ (eT c11) ?_
 obtain ⟨t12, ha13, H⟩ := bind_some H
 refine cs_ HS func34 (sA.runs k A1 c1 l1 1 127 t12 _ (HS.getO 1 rfl) hc1 ha13) (fun w14 HS => ?_)
 clear ha13
 refine v_ (Run.pickT rfl rfl (eT c11) rfl) ?_
 refine ad_ hK2 ?_
 obtain rfl := os H
 exact rt1 Try.f89 rfl rfl hR_ ⟨rfl, HS.b⟩
def sMO2.b0 (x0 : S29) (rec_ : Int → Option (Bool ⊕ Int)) (k34 : Nat) (i27 : Int) : Option (Bool ⊕ Int) := (if i27 < (x0.f1.length : Int) then (if 0 ≤ i27 ∧ i27 < (x0.f1.length : Int) then (if ((x0.f1.getD i27.toNat []).length : Int) = x0.f0 then (if 0 ≤ i27 ∧ i27 < (x0.f2.length : Int) then ((spec_l05Fits.g k34 (x0.f1.getD i27.toNat []) (x0.f2.getD i27.toNat [])).bind fun t54 => (if t54 = true then (rec_ (wrap64 (i27 + 1))) else (some (Sum.inl false)))) else none) else (some (Sum.inl false))) else none) else (some (Sum.inr i27)))
def sMO2.l0 (x0 : S29) : Nat → Int → Option (Bool ⊕ Int)
 | 0, _ => none
 | k + 1, i27 => sMO2.b0 x0 (sMO2.l0 x0 k) k i27
def sMO2.g (k : Nat) (x0 : S29) : Option Bool := ((spec_l05Width.f x0.f0).bind fun t6 => (if t6 = true then (if (x0.f1.length : Int) > 300 then (some false) else (if (x0.f2.length : Int) = (x0.f1.length : Int) then ((sI.f x0.f3 0 65536).bind fun t13 => (if t13 = true then ((sI.f x0.f4 0 24).bind fun t17 => (if t17 = true then ((sMO2.l0 x0 k 0).bind (fun oc32 => match oc32 with | .inl r_ => some r_ | .inr i27 => (some true))) else (some false))) else (some false))) else (some false))) else (some false)))
theorem sMO2.runs (k : Nat) (x0 : S29) (A0_1 : Option Addr) (c0_1 : Nat) (A0_2 : Option Addr) (c0_2 : Nat) (r : Bool) (w : World) (hr0_1 : kS3.C w A0_1 x0.f1.length x0.f1) (hc0_1 : x0.f1.length ≤ c0_1) (hr0_2 : kS3.C w A0_2 x0.f2.length x0.f2) (hc0_2 : x0.f2.length ≤ c0_2) (H : sMO2.g k x0 = some r) :
   Calls prog 70 #[.agg #[vi x0.f0, .slice A0_1 x0.f1.length c0_1, .slice A0_2 x0.f2.length c0_2, vi x0.f3, vi x0.f4]] w fun e w' => e = .returned (.bool r) ∧ Below w.heap.size w w' := by
 unfold sMO2.g at H
 have HS : St (fun _ => True) w w [] [(cF kS3 A0_1 x0.f1), (cF kS3 A0_2 x0.f2)] [] := St.start (foot_cons (foot_C (Kd.heap_slice _ (Kd.heap_int _)) hr0_1) (foot_cons (foot_C (Kd.heap_slice _ (Kd.heap_int _)) hr0_2) foot_nil))
 refine cw_ (n := 65) func70 fun R_ hR_ => ?_
 refine sr_ fun _ hK1 => ?_
 refine bo_ HS (fun b2 w3 hb2 HS => ?_)
 refine ad_ hK1 ?_
 refine WC.seq fun _ hK4 => ?_
 refine sr_ fun _ hK5 => ?_
 refine v_ (fa_ underlying29) ?_
 refine v_ (lb_ (HS.mu 0 rfl) underlying3 rfl) ?_
 obtain ⟨t6, ha7, H⟩ := bind_some H
 refine cs0_ HS func31 (spec_l05Width.calls x0.f0 t6 _ ha7) (fun w8 HS => ?_)
 clear ha7
 refine nt_ ?_
 refine mv_ ?_
 rcases eti_ H with ⟨c9, H⟩ | ⟨c9, H⟩
 · refine off_ (c' := true) (nB (bF c9)) ?_
   refine WL.know 8 (nB (bF c9)) ?_
   refine fast_ ?_
   refine via_ hK5 (wy_ rfl ?_)
   refine sr_ fun _ hK63 => ?_
   refine ad_ hK63 ?_
   obtain rfl := os H
   exact rt1 Try.f70 rfl rfl hR_ ⟨rfl, HS.b⟩
 refine on_ (nB c9) (v_ (fa_ underlying29) ?_)
 refine on_ (nB c9) (v_ (lb_ (HS.mu 0 rfl) underlying25 rfl) ?_)
 refine on_ (nB c9) (ln_ underlying25 ?_)
 refine on_ (nB c9) (b_ bin_gtr ?_)
 refine v_ (Run.pickF rfl rfl (nB c9) rfl) ?_
 refine mv_ ?_
 rcases ite_ H with ⟨c10, H⟩ | ⟨c10, H⟩
 · refine off_ (c' := true) (dT c10) ?_
   refine WL.know 14 (dT c10) ?_
   refine fast_ ?_
   refine via_ hK5 (wy_ rfl ?_)
   refine sr_ fun _ hK11 => ?_
   refine ad_ hK11 ?_
   obtain rfl := os H
   exact rt1 Try.f70 rfl rfl hR_ ⟨rfl, HS.b⟩
 refine on_ (dF c10) (v_ (fa_ underlying29) ?_)
 refine on_ (dF c10) (v_ (lb_ (HS.mu 0 rfl) underlying25 rfl) ?_)
 refine on_ (dF c10) (ln_ underlying25 ?_)
 refine on_ (dF c10) (v_ (fa_ underlying29) ?_)
 refine on_ (dF c10) (v_ (lb_ (HS.mu 0 rfl) underlying25 rfl) ?_)
 refine on_ (dF c10) (ln_ underlying25 ?_)
 refine on_ (dF c10) (b_ bin_neq ?_)
 refine v_ (Run.pickF rfl rfl (dF c10) rfl) ?_
 refine mv_ ?_
 rcases eti_ H with ⟨c12, H⟩ | ⟨c12, H⟩
 · refine off_ (c' := true) (qT c12) ?_
   refine WL.know 23 (qT c12) ?_
   refine fast_ ?_
   refine via_ hK5 (wy_ rfl ?_)
   refine sr_ fun _ hK62 => ?_
   refine ad_ hK62 ?_
   obtain rfl := os H
   exact rt1 Try.f70 rfl rfl hR_ ⟨rfl, HS.b⟩
 refine on_ (qF c12) (v_ (fa_ underlying29) ?_)
 refine on_ (qF c12) (v_ (lb_ (HS.mu 0 rfl) underlying3 rfl) ?_)
 refine on_ (qF c12) ?_
 obtain ⟨t13, ha14, H⟩ := bind_some H
 refine cs0_ HS func33 (sI.calls x0.f3 0 65536 t13 _ ha14) (fun w15 HS => ?_)
 clear ha14
 refine on_ (qF c12) (nt_ ?_)
 refine v_ (Run.pickF rfl rfl (qF c12) rfl) ?_
 refine mv_ ?_
 rcases eti_ H with ⟨c16, H⟩ | ⟨c16, H⟩
 · refine off_ (c' := true) (nB (bF c16)) ?_
   refine WL.know 29 (nB (bF c16)) ?_
   refine fast_ ?_
   refine via_ hK5 (wy_ rfl ?_)
   refine sr_ fun _ hK61 => ?_
   refine ad_ hK61 ?_
   obtain rfl := os H
   exact rt1 Try.f70 rfl rfl hR_ ⟨rfl, HS.b⟩
 refine on_ (nB c16) (v_ (fa_ underlying29) ?_)
 refine on_ (nB c16) (v_ (lb_ (HS.mu 0 rfl) underlying3 rfl) ?_)
 refine on_ (nB c16) ?_
 obtain ⟨t17, ha18, H⟩ := bind_some H
 refine cs0_ HS func33 (sI.calls x0.f4 0 24 t17 _ ha18) (fun w19 HS => ?_)
 clear ha18
 refine on_ (nB c16) (nt_ ?_)
 refine v_ (Run.pickF rfl rfl (nB c16) rfl) ?_
 refine dn_ hK5 ?_
 rcases eti_ H with ⟨c20, H⟩ | ⟨c20, H⟩
 · refine wy_ (nB (bF c20)) (sr_ fun _ hK60 => ?_)
   refine ad_ hK60 ?_
   obtain rfl := os H
   exact rt1 Try.f70 rfl rfl hR_ ⟨rfl, HS.b⟩
 refine wn_ (nB c20) (WC.skip (via_ hK4 (WC.seq fun K21 hK21 => ?_)))
 refine sr_ fun _ hK22 => ?_
 refine ad_ hK22 ?_
 refine WC.block ?_
 obtain ⟨G23, hG24, oc25, H, Ho26⟩ := open_G H
 let J28 := fun (i27 : Int) (E_ : Env) (W_ : World) => E_ = [(1, .pointer (some ⟨b2, 0, none⟩)), (3, vi i27)] ∧ St (fun _ => True) w W_ [boxM b2 #[vi x0.f0, .slice A0_1 x0.f1.length c0_1, .slice A0_2 x0.f2.length c0_2, vi x0.f3, vi x0.f4] 29] [(cF kS3 A0_1 x0.f1), (cF kS3 A0_2 x0.f2)] []
 have X29 : ∀ E_ W_, (∃ i27, G23 (Sum.inr i27) = some r ∧ J28 i27 E_ W_) → ∀ a, Fits a 65 E_ → K21 a W_ := by
   rintro E_ w30 ⟨i27, H, rfl, HS⟩
   rw [hG24] at H
   (try dsimp only at H)
   refine hK21 _ _ ?_
   refine sr_ fun _ hK31 => ?_
   refine ad_ hK31 ?_
   obtain rfl := os H
   exact rt1 Try.f70 rfl rfl hR_ ⟨rfl, HS.b⟩
 clear hK21
 refine WC.loop (fun k_ E_ W_ => ∃ i27, (∃ o_, sMO2.l0 x0 k_ i27 = some o_ ∧ G23 o_ = some r) ∧ J28 i27 E_ W_) k ⟨0, ⟨_, H, Ho26⟩, rfl, HS⟩ (sb rfl) ?_
 rintro k_ E_ w33 ⟨i27, ⟨oc25, H, Ho26⟩, rfl, HS⟩
 rcases k_ with _ | k34
 · exact no_ H
 replace H : sMO2.b0 x0 (sMO2.l0 x0 k34) k34 i27 = some oc25 := H
 unfold sMO2.b0 at H
 refine WC.seq fun _ hK35 => ?_
 refine sr_ fun _ hK36 => ?_
 refine mv_ ?_
 refine v_ (fa_ underlying29) ?_
 refine v_ (lb_ (HS.mu 0 rfl) underlying25 rfl) ?_
 refine ln_ underlying25 ?_
 refine b_ bin_lss ?_
 refine dn_ hK36 ?_
 rcases eti_ H with ⟨c37, H⟩ | ⟨c37, H⟩
 · refine wn_ (dF c37) (WC.exit ?_)
   obtain rfl := os H
   exact wv_ iq X29 ⟨i27, Ho26, rfl, HS⟩
 refine wy_ (dT c37) (WC.skip (via_ hK35 (WC.seq fun _ hK38 => ?_)))
 refine WC.block (WC.seq fun _ hK39 => ?_)
 refine WC.drawS HS [] rfl rfl (fun w40 HS => ?_)
 have HB := Below.refl w40.heap.size w40
 have HSW := HS
 refine df_ 0 underlying29 ?_
 refine dm_ 2 ?_
 refine df_ 6 underlying29 ?_
 refine bl_ 1 HS (Below.refl _ _) 0 underlying25 rfl ?_
 obtain ⟨⟨q41, q42⟩, H⟩ := if_some H
 obtain ⟨ad43, rfl⟩ := C_open (HS.getO 0 rfl) (by omega)
 refine di_ 3 underlying25 1 q41 q42 ?_
 obtain ⟨A44, c45, le46, HS⟩ := HS.slO 0 rfl i27 q41 q42
 refine dt_ 4 (Below.refl _ _) (fun w_ hw_ => Run.load rfl rfl underlying27 rfl ((HS.below hw_).getO 1 rfl)) ?_
 refine dp_ 5 (fun _ => Run.len (ts := #[]) rfl underlying27 rfl) ?_
 refine bl_ 7 HS (Below.refl _ _) 0 underlying3 rfl ?_
 refine dp_ 8 (fun _ => Run.bin rfl rfl rfl bin_neq) ?_
 refine dm_ 9 ?_
 rcases eti_ H with ⟨c47, H⟩ | ⟨c47, H⟩
 · refine doT_ 10 (qT c47) ?_
   refine doT_ 11 (qT c47) ?_
   refine doT_ 12 (qT c47) ?_
   refine doT_ 13 (qT c47) ?_
   refine doT_ 14 (qT c47) ?_
   refine doT_ 15 (qT c47) ?_
   refine doT_ 16 (qT c47) ?_
   refine doT_ 17 (qT c47) ?_
   refine doT_ 18 (qT c47) ?_
   refine doT_ 19 (qT c47) ?_
   refine doT_ 20 (qT c47) ?_
   refine doT_ 21 (qT c47) ?_
   refine dp_ 22 (fun _ => Run.pickT rfl rfl (qT c47) rfl) ?_
   refine dd_ ?_
   clear HB HSW
   refine via_ hK39 (wy_ rfl ?_)
   refine sr_ fun _ hK59 => ?_
   refine ad_ hK59 ?_
   refine WC.ret ?_
   obtain rfl := os H
   rw [hG24] at Ho26
   replace H : some _ = some _ := Ho26
   obtain rfl := os H
   exact fin1 Try.f70 rfl rfl hR_ ⟨rfl, HS.b⟩
 refine dfg_ 10 (qF c47) underlying29 ?_
 refine dg_ 12 (qF c47) (fun _ => Run.move rfl rfl) ?_
 refine dfg_ 15 (qF c47) underlying29 ?_
 refine dg_ 17 (qF c47) (fun _ => Run.move rfl rfl) ?_
 refine blg_ 11 (qF c47) HS (Below.refl _ _) 0 underlying25 rfl ?_
 refine dg_ 13 (qF c47) (fun _ => Run.indexAddr rfl rfl rfl underlying25 (sz := 1) (by kernel_rfl) q41 q42) ?_
 refine dh_ 14 (qF c47) (Below.refl _ _) (fun w_ hw_ => Run.load rfl rfl underlying27 rfl ((HS.below hw_).getO 1 rfl)) ?_
 refine blg_ 16 (qF c47) HS (Below.refl _ _) 0 underlying25 rfl ?_
 obtain ⟨⟨q48, q49⟩, H⟩ := if_some H
 obtain ⟨ad50, rfl⟩ := C_open (HS.getO 3 rfl) (by omega)
 refine dg_ 18 (qF c47) (fun _ => Run.indexAddr rfl rfl rfl underlying25 (sz := 1) (by kernel_rfl) q48 q49) ?_
 obtain ⟨A51, c52, le53, HS⟩ := HS.slO 3 rfl i27 q48 q49
 refine dh_ 19 (qF c47) (Below.refl _ _) (fun w_ hw_ => Run.load rfl rfl underlying27 rfl ((HS.below hw_).getO 1 rfl)) ?_
 obtain ⟨t54, ha55, H⟩ := bind_some H
 refine dcs_ HS HB 20 (w_on rfl rfl rfl (qF c47)) func89 (spec_l05Fits.runs k34 A44 c45 (x0.f1.getD i27.toNat []) A51 c52 (x0.f2.getD i27.toNat []) t54 _ (HS.getO 2 rfl) le46 (HS.getO 0 rfl) le53 ha55) (fun w56 HS HB => ?_)
 clear ha55
 refine dg_ 21 (qF c47) (fun _ => Run.not rfl rfl) ?_
 refine dp_ 22 (fun _ => Run.pickF rfl rfl (qF c47) rfl) ?_
 refine dd_ ?_
 clear HB HSW
 refine via_ hK39 ?_
 rcases ite_ H with ⟨c57, H⟩ | ⟨c57, H⟩
 · refine wn_ (nB c57) (WC.skip (via_ hK38 (rg_ (mv_ ?_))))
   refine b_ bin_add64 ?_
   refine as_ ?_
   refine WL.done ?_
   exact wr_ k34 iq ⟨(wrap64 (i27 + 1)), ⟨_, H, Ho26⟩, rfl, (St.pk HS [4, 5] [] rfl rfl)⟩
 refine wy_ (nB (bF c57)) (sr_ fun _ hK58 => ?_)
 refine ad_ hK58 ?_
 refine WC.ret ?_
 obtain rfl := os H
 rw [hG24] at Ho26
 replace H : some _ = some _ := Ho26
 obtain rfl := os H
 exact fin1 Try.f70 rfl rfl hR_ ⟨rfl, HS.b⟩
def sW.b0 (l0 : List Int) (l1 : List Int) (rec_ : Int → Int → Option (Int × Int)) (k23 : Nat) (i15 : Int) (i16 : Int) : Option (Int × Int) := (if i16 < (l0.length : Int) then (if 0 ≤ (wrap64 (Int.tdiv i16 4)) ∧ (wrap64 (Int.tdiv i16 4)) < (l1.length : Int) then (if 0 ≤ i16 ∧ i16 < (l0.length : Int) then ((spec_l05Abs.f (l0.getD i16.toNat 0)).bind fun t35 => (rec_ (wrap64 (i15 + (wrap64 ((wrap64 ((l1.getD (wrap64 (Int.tdiv i16 4)).toNat 0) * 127)) * t35)))) (wrap64 (i16 + 1)))) else none) else none) else (some (i15, i16)))
def sW.l0 (l0 : List Int) (l1 : List Int) : Nat → Int → Int → Option (Int × Int)
 | 0, _, _ => none
 | k + 1, i15, i16 => sW.b0 l0 l1 (sW.l0 l0 l1 k) k i15 i16
def sW.g (k : Nat) (l0 : List Int) (l1 : List Int) : Option Int := ((spec_l05Fits.g k l0 l1).bind fun t4 => (if t4 = true then ((sW.l0 l0 l1 k 0 0).bind (fun oc21 => (some oc21.1))) else (some 0)))
theorem sW.runs (k : Nat) (A0 : Option Addr) (c0 : Nat) (l0 : List Int) (A1 : Option Addr) (c1 : Nat) (l1 : List Int) (r : Int) (w : World) (hr0 : kI.C w A0 l0.length l0) (hc0 : l0.length ≤ c0) (hr1 : kI.C w A1 l1.length l1) (hc1 : l1.length ≤ c1) (H : sW.g k l0 l1 = some r) :
   Calls prog 90 #[.slice A0 l0.length c0, .slice A1 l1.length c1] w fun e w' => e = .returned (vi r) ∧ Below w.heap.size w w' := by
 unfold sW.g at H
 have HS : St (fun _ => True) w w [] [(cF kI A0 l0), (cF kI A1 l1)] [] := St.start (foot_cons (foot_C (Kd.heap_int _) hr0) (foot_cons (foot_C (Kd.heap_int _) hr1) foot_nil))
 refine cw_ (n := 32) func90 fun R_ hR_ => ?_
 refine sr_ fun _ hK1 => ?_
 refine ad_ hK1 ?_
 refine WC.seq fun _ hK2 => ?_
 refine sr_ fun _ hK3 => ?_
 refine mv_ ?_
 refine mv_ ?_
 obtain ⟨t4, ha5, H⟩ := bind_some H
 refine cs_ HS func89 (spec_l05Fits.runs k A0 c0 l0 A1 c1 l1 t4 _ (HS.getO 0 rfl) hc0 (HS.getO 1 rfl) hc1 ha5) (fun w6 HS => ?_)
 clear ha5
 refine nt_ ?_
 refine dn_ hK3 ?_
 rcases eti_ H with ⟨c7, H⟩ | ⟨c7, H⟩
 · refine wy_ (nB (bF c7)) (sr_ fun _ hK38 => ?_)
   refine ad_ hK38 ?_
   obtain rfl := os H
   exact rt1 Try.f90 rfl rfl hR_ ⟨rfl, HS.b⟩
 refine wn_ (nB c7) (WC.skip (via_ hK2 (sr_ fun _ hK8 => ?_)))
 refine ad_ hK8 ?_
 refine WC.seq fun K9 hK9 => ?_
 refine sr_ fun _ hK10 => ?_
 refine ad_ hK10 ?_
 refine WC.block ?_
 obtain ⟨G11, hG12, oc13, H, Ho14⟩ := open_G H
 let J17 := fun (i15 : Int) (i16 : Int) (E_ : Env) (W_ : World) => E_ = [(0, .slice A0 l0.length c0), (1, .slice A1 l1.length c1), (5, vi i15), (6, vi i16)] ∧ St (fun _ => True) w W_ [] [(cF kI A0 l0), (cF kI A1 l1)] []
 have X18 : ∀ E_ W_, (∃ i15 i16, G11 (i15, i16) = some r ∧ J17 i15 i16 E_ W_) → ∀ a, Fits a 32 E_ → K9 a W_ := by
   rintro E_ w19 ⟨i15, i16, H, rfl, HS⟩
   rw [hG12] at H
   (try dsimp only at H)
   refine hK9 _ _ ?_
   refine sr_ fun _ hK20 => ?_
   refine mv_ ?_
   refine ad_ hK20 ?_
   obtain rfl := os H
   exact rt1 Try.f90 rfl rfl hR_ ⟨rfl, HS.b⟩
 clear hK9
 refine WC.loop (fun k_ E_ W_ => ∃ i15 i16, (∃ o_, sW.l0 l0 l1 k_ i15 i16 = some o_ ∧ G11 o_ = some r) ∧ J17 i15 i16 E_ W_) k ⟨0, 0, ⟨_, H, Ho14⟩, rfl, HS⟩ (sb rfl) ?_
 rintro k_ E_ w22 ⟨i15, i16, ⟨oc13, H, Ho14⟩, rfl, HS⟩
 rcases k_ with _ | k23
 · exact no_ H
 replace H : sW.b0 l0 l1 (sW.l0 l0 l1 k23) k23 i15 i16 = some oc13 := H
 unfold sW.b0 at H
 refine WC.seq fun _ hK24 => ?_
 refine sr_ fun _ hK25 => ?_
 refine mv_ ?_
 refine mv_ ?_
 refine ln_ underlying27 ?_
 refine b_ bin_lss ?_
 refine dn_ hK25 ?_
 rcases eti_ H with ⟨c26, H⟩ | ⟨c26, H⟩
 · refine wn_ (dF c26) (WC.exit ?_)
   obtain rfl := os H
   exact wv_ iq X18 ⟨i15, i16, Ho14, rfl, HS⟩
 refine wy_ (dT c26) (WC.skip (via_ hK24 (WC.seq fun _ hK27 => ?_)))
 refine WC.block (WC.drawS HS [] rfl rfl (fun w28 HS => ?_))
 have HB := Below.refl w28.heap.size w28
 have HSW := HS
 refine dm_ 0 ?_
 refine dm_ 1 ?_
 refine dm_ 2 ?_
 refine dp_ 3 (fun _ => Run.bin rfl rfl rfl (bin_quo64 (show (4 : Int) ≠ 0 by decide))) ?_
 obtain ⟨⟨q29, q30⟩, H⟩ := if_some H
 obtain ⟨ad31, rfl⟩ := C_open (HS.getO 1 rfl) (by omega)
 refine di_ 4 underlying27 1 q29 q30 ?_
 refine dm_ 7 ?_
 refine dm_ 8 ?_
 obtain ⟨⟨q32, q33⟩, H⟩ := if_some H
 obtain ⟨ad34, rfl⟩ := C_open (HS.getO 0 rfl) (by omega)
 refine di_ 9 underlying27 1 q32 q33 ?_
 refine dt_ 5 (Below.refl _ _) (fun w_ hw_ => Run.load rfl rfl underlying3 rfl (int_cell ((HS.below hw_).getO 1 rfl) (wrap64 (Int.tdiv i16 4)) q29 q30)) ?_
 refine dp_ 6 (fun _ => Run.bin rfl rfl rfl bin_mul64) ?_
 refine dt_ 10 (Below.refl _ _) (fun w_ hw_ => Run.load rfl rfl underlying3 rfl (int_cell ((HS.below hw_).getO 0 rfl) i16 q32 q33)) ?_
 obtain ⟨t35, ha36, H⟩ := bind_some H
 refine dcs0_ HS HB 11 (w_none rfl) func98 (spec_l05Abs.calls (l0.getD i16.toNat 0) t35 _ ha36) (fun w37 HS HB => ?_)
 clear ha36
 refine dp_ 12 (fun _ => Run.bin rfl rfl rfl bin_mul64) ?_
 refine dp_ 13 (fun _ => Run.bin rfl rfl rfl bin_add64) ?_
 refine dp_ 14 (fun _ => Run.assign rfl rfl) ?_
 refine dd_ ?_
 clear HB HSW
 refine via_ hK27 (rg_ (mv_ ?_))
 refine b_ bin_add64 ?_
 refine as_ ?_
 refine WL.done ?_
 exact wr_ k23 iq ⟨(wrap64 (i15 + (wrap64 ((wrap64 ((l1.getD (wrap64 (Int.tdiv i16 4)).toNat 0) * 127)) * t35)))), (wrap64 (i16 + 1)), ⟨_, H, Ho14⟩, rfl, HS⟩
def sW1.b0 (x0 : S29) (rec_ : Int → Int → Option (Int × Int)) (k19 : Nat) (i11 : Int) (i12 : Int) : Option (Int × Int) := (if i12 < (x0.f1.length : Int) then (((if 0 ≤ i12 ∧ i12 < (x0.f1.length : Int) then (if 0 ≤ i12 ∧ i12 < (x0.f2.length : Int) then ((sW.g k19 (x0.f1.getD i12.toNat []) (x0.f2.getD i12.toNat [])).bind fun t46 => (if t46 > i11 then (some t46) else (some i11))) else none) else none) : Option Int).bind (fun oc31 => (rec_ oc31 (wrap64 (i12 + 1))))) else (some (i11, i12)))
def sW1.l0 (x0 : S29) : Nat → Int → Int → Option (Int × Int)
 | 0, _, _ => none
 | k + 1, i11, i12 => sW1.b0 x0 (sW1.l0 x0 k) k i11 i12
def sW1.g (k : Nat) (x0 : S29) : Option Int := ((sW1.l0 x0 k 0 0).bind (fun oc17 => (some oc17.1)))
theorem sW1.runs (k : Nat) (x0 : S29) (A0_1 : Option Addr) (c0_1 : Nat) (A0_2 : Option Addr) (c0_2 : Nat) (r : Int) (w : World) (hr0_1 : kS3.C w A0_1 x0.f1.length x0.f1) (hc0_1 : x0.f1.length ≤ c0_1) (hr0_2 : kS3.C w A0_2 x0.f2.length x0.f2) (hc0_2 : x0.f2.length ≤ c0_2) (H : sW1.g k x0 = some r) :
   Calls prog 71 #[.agg #[vi x0.f0, .slice A0_1 x0.f1.length c0_1, .slice A0_2 x0.f2.length c0_2, vi x0.f3, vi x0.f4]] w fun e w' => e = .returned (vi r) ∧ Below w.heap.size w w' := by
 unfold sW1.g at H
 have HS : St (fun _ => True) w w [] [(cF kS3 A0_1 x0.f1), (cF kS3 A0_2 x0.f2)] [] := St.start (foot_cons (foot_C (Kd.heap_slice _ (Kd.heap_int _)) hr0_1) (foot_cons (foot_C (Kd.heap_slice _ (Kd.heap_int _)) hr0_2) foot_nil))
 refine cw_ (n := 29) func71 fun R_ hR_ => ?_
 refine sr_ fun _ hK1 => ?_
 refine bo_ HS (fun b2 w3 hb2 HS => ?_)
 refine ad_ hK1 ?_
 refine sr_ fun _ hK4 => ?_
 refine ad_ hK4 ?_
 refine WC.seq fun K5 hK5 => ?_
 refine sr_ fun _ hK6 => ?_
 refine ad_ hK6 ?_
 refine WC.block ?_
 obtain ⟨G7, hG8, oc9, H, Ho10⟩ := open_G H
 let J13 := fun (i11 : Int) (i12 : Int) (E_ : Env) (W_ : World) => E_ = [(1, .pointer (some ⟨b2, 0, none⟩)), (3, vi i11), (4, vi i12)] ∧ St (fun _ => True) w W_ [boxM b2 #[vi x0.f0, .slice A0_1 x0.f1.length c0_1, .slice A0_2 x0.f2.length c0_2, vi x0.f3, vi x0.f4] 29] [(cF kS3 A0_1 x0.f1), (cF kS3 A0_2 x0.f2)] []
 have X14 : ∀ E_ W_, (∃ i11 i12, G7 (i11, i12) = some r ∧ J13 i11 i12 E_ W_) → ∀ a, Fits a 29 E_ → K5 a W_ := by
   rintro E_ w15 ⟨i11, i12, H, rfl, HS⟩
   rw [hG8] at H
   (try dsimp only at H)
   refine hK5 _ _ ?_
   refine sr_ fun _ hK16 => ?_
   refine mv_ ?_
   refine ad_ hK16 ?_
   obtain rfl := os H
   exact rt1 Try.f71 rfl rfl hR_ ⟨rfl, HS.b⟩
 clear hK5
 refine WC.loop (fun k_ E_ W_ => ∃ i11 i12, (∃ o_, sW1.l0 x0 k_ i11 i12 = some o_ ∧ G7 o_ = some r) ∧ J13 i11 i12 E_ W_) k ⟨0, 0, ⟨_, H, Ho10⟩, rfl, HS⟩ (sb rfl) ?_
 rintro k_ E_ w18 ⟨i11, i12, ⟨oc9, H, Ho10⟩, rfl, HS⟩
 rcases k_ with _ | k19
 · exact no_ H
 replace H : sW1.b0 x0 (sW1.l0 x0 k19) k19 i11 i12 = some oc9 := H
 unfold sW1.b0 at H
 refine WC.seq fun _ hK20 => ?_
 refine sr_ fun _ hK21 => ?_
 refine mv_ ?_
 refine v_ (fa_ underlying29) ?_
 refine v_ (lb_ (HS.mu 0 rfl) underlying25 rfl) ?_
 refine ln_ underlying25 ?_
 refine b_ bin_lss ?_
 refine dn_ hK21 ?_
 rcases eti_ H with ⟨c22, H⟩ | ⟨c22, H⟩
 · refine wn_ (dF c22) (WC.exit ?_)
   obtain rfl := os H
   exact wv_ iq X14 ⟨i11, i12, Ho10, rfl, HS⟩
 refine wy_ (dT c22) (WC.skip (via_ hK20 (WC.seq fun K23 hK23 => ?_)))
 obtain ⟨G24, hG25, oc26, H, Ho27⟩ := open_G H
 have X29 : ∀ E_ W_, (∃ (i28 : Int), E_ = [(1, .pointer (some ⟨b2, 0, none⟩)), (3, vi i28), (4, vi i12)] ∧ G24 i28 = some oc9 ∧ St (fun _ => True) w W_ [boxM b2 #[vi x0.f0, .slice A0_1 x0.f1.length c0_1, .slice A0_2 x0.f2.length c0_2, vi x0.f3, vi x0.f4] 29] [(cF kS3 A0_1 x0.f1), (cF kS3 A0_2 x0.f2)] []) → ∀ a, Fits a 29 E_ → K23 a W_ := by
   rintro E_ w30 ⟨i28, rfl, H, HS⟩
   rw [hG25] at H
   (try dsimp only at H)
   refine hK23 _ _ ?_
   refine rg_ (mv_ ?_)
   refine b_ bin_add64 ?_
   refine as_ ?_
   refine WL.done ?_
   exact wr_ k19 iq ⟨i28, (wrap64 (i12 + 1)), ⟨_, H, Ho10⟩, rfl, HS⟩
 clear hK23
 refine WC.block (WC.seq fun _ hK32 => ?_)
 refine WC.drawS HS [] rfl rfl (fun w33 HS => ?_)
 have HB := Below.refl w33.heap.size w33
 have HSW := HS
 refine df_ 0 underlying29 ?_
 refine dm_ 2 ?_
 refine df_ 5 underlying29 ?_
 refine dm_ 7 ?_
 refine bl_ 1 HS (Below.refl _ _) 0 underlying25 rfl ?_
 obtain ⟨⟨q34, q35⟩, H⟩ := if_some H
 obtain ⟨ad36, rfl⟩ := C_open (HS.getO 0 rfl) (by omega)
 refine di_ 3 underlying25 1 q34 q35 ?_
 obtain ⟨A37, c38, le39, HS⟩ := HS.slO 0 rfl i12 q34 q35
 refine dt_ 4 (Below.refl _ _) (fun w_ hw_ => Run.load rfl rfl underlying27 rfl ((HS.below hw_).getO 1 rfl)) ?_
 refine bl_ 6 HS (Below.refl _ _) 0 underlying25 rfl ?_
 obtain ⟨⟨q40, q41⟩, H⟩ := if_some H
 obtain ⟨ad42, rfl⟩ := C_open (HS.getO 3 rfl) (by omega)
 refine di_ 8 underlying25 1 q40 q41 ?_
 obtain ⟨A43, c44, le45, HS⟩ := HS.slO 3 rfl i12 q40 q41
 refine dt_ 9 (Below.refl _ _) (fun w_ hw_ => Run.load rfl rfl underlying27 rfl ((HS.below hw_).getO 1 rfl)) ?_
 obtain ⟨t46, ha47, H⟩ := bind_some H
 refine dcs_ HS HB 10 (w_none rfl) func90 (sW.runs k19 A37 c38 (x0.f1.getD i12.toNat []) A43 c44 (x0.f2.getD i12.toNat []) t46 _ (HS.getO 2 rfl) le39 (HS.getO 0 rfl) le45 ha47) (fun w48 HS HB => ?_)
 clear ha47
 refine dp_ 11 (fun _ => Run.assign rfl rfl) ?_
 refine dd_ ?_
 clear HB HSW
 refine via_ hK32 (sr_ fun _ hK49 => ?_)
 refine mv_ ?_
 refine mv_ ?_
 refine b_ bin_gtr ?_
 refine dn_ hK49 ?_
 rcases eti_ H with ⟨c50, H⟩ | ⟨c50, H⟩
 · refine wn_ (dF c50) (WC.skip ?_)
   obtain rfl := os H
   exact wv_ iq X29 ⟨i11, rfl, Ho27, (St.pk HS [4, 5] [] rfl rfl)⟩
 refine wy_ (dT c50) (rg_ (mv_ ?_))
 refine as_ ?_
 refine WL.done ?_
 obtain rfl := os H
 exact wv_ iq X29 ⟨t46, rfl, Ho27, (St.pk HS [4, 5] [] rfl rfl)⟩
def spec_GainOk.g (k : Nat) (l0 : List Int) (a1 : Int) : Option Bool := (if (l0.length : Int) = a1 then ((sA.g k l0 0 127).bind fun t4 => (some t4)) else (some false))
theorem spec_GainOk.runs (k : Nat) (A0 : Option Addr) (c0 : Nat) (l0 : List Int) (a1 : Int) (r : Bool) (w : World) (hr0 : kI.C w A0 l0.length l0) (hc0 : l0.length ≤ c0) (H : spec_GainOk.g k l0 a1 = some r) :
   Calls prog 36 #[.slice A0 l0.length c0, vi a1] w fun e w' => e = .returned (.bool r) ∧ Below w.heap.size w w' := by
 unfold spec_GainOk.g at H
 have HS : St (fun _ => True) w w [] [(cF kI A0 l0)] [] := St.start (foot_cons (foot_C (Kd.heap_int _) hr0) foot_nil)
 refine cw_ (n := 13) func36 fun R_ hR_ => ?_
 refine sr_ fun _ hK1 => ?_
 refine ad_ hK1 ?_
 refine sr_ fun _ hK2 => ?_
 refine mv_ ?_
 refine ln_ underlying27 ?_
 refine mv_ ?_
 refine b_ bin_eql ?_
 refine mv_ ?_
 rcases eti_ H with ⟨c3, H⟩ | ⟨c3, H⟩
 · refine off_ (c' := false) (eF c3) ?_
   refine WL.know 9 (eF c3) ?_
   refine fast_ ?_
   refine via_ hK2 ?_
   obtain rfl := os H
   exact rt1 Try.f36 rfl rfl hR_ ⟨rfl, HS.b⟩
 refine on_ (eT c3) (mv_ ?_)
 refine on_ (eT c3) ?_
 obtain ⟨t4, ha5, H⟩ := bind_some H
 refine cs_ HS func34 (sA.runs k A0 c0 l0 0 127 t4 _ (HS.getO 0 rfl) hc0 ha5) (fun w6 HS => ?_)
 clear ha5
 refine v_ (Run.pickT rfl rfl (eT c3) rfl) ?_
 refine ad_ hK2 ?_
 obtain rfl := os H
 exact rt1 Try.f36 rfl rfl hR_ ⟨rfl, HS.b⟩
def sMO.b2 (l0 : List S54) (xs15 : List Int) (i18 : Int) (rec_ : Int → Int → Option (Int × Int)) (k95 : Nat) (i52 : Int) (i53 : Int) : Option (Int × Int) := (if i53 < 2 then (((((if i53 = 1 then (some ((l0.getD i18.toNat o54).f1)) else (some ((l0.getD i18.toNat o54).f0))) : Option Int).bind (fun oc126 => (if oc126 < 256 then (some (wrap64 (i52 + 1))) else (if 0 ≤ (wrap64 (oc126 - 256)) ∧ (wrap64 (oc126 - 256)) < ((xs15.length : Nat) : Int) then (some (wrap64 (i52 + (xs15.getD (wrap64 (oc126 - 256)).toNat 0)))) else none)))) : Option Int).bind (fun oc107 => (rec_ oc107 (wrap64 (i53 + 1))))) else (some (i52, i53)))
def sMO.l2 (l0 : List S54) (xs15 : List Int) (i18 : Int) : Nat → Int → Int → Option (Int × Int)
 | 0, _, _ => none
 | k + 1, i52, i53 => sMO.b2 l0 xs15 i18 (sMO.l2 l0 xs15 i18 k) k i52 i53
def sMO.b1 (l0 : List S54) (i18 : Int) (rec_ : Int → Option (Bool ⊕ Int)) (k78 : Nat) (i63 : Int) : Option (Bool ⊕ Int) := (if i63 < i18 then (if 0 ≤ i63 ∧ i63 < (l0.length : Int) then (if (((l0.getD i63.toNat o54).f0) == ((l0.getD i18.toNat o54).f0) && (((l0.getD i63.toNat o54).f1) == ((l0.getD i18.toNat o54).f1))) = true then (some (Sum.inl false)) else (rec_ (wrap64 (i63 + 1)))) else none) else (some (Sum.inr i63)))
def sMO.l1 (l0 : List S54) (i18 : Int) : Nat → Int → Option (Bool ⊕ Int)
 | 0, _ => none
 | k + 1, i63 => sMO.b1 l0 i18 (sMO.l1 l0 i18 k) k i63
def sMO.b0 (l0 : List S54) (rec_ : (List Int) → Int → Option (Bool ⊕ ((List Int) × Int))) (k25 : Nat) (xs15 : List Int) (i18 : Int) : Option (Bool ⊕ ((List Int) × Int)) := (if i18 < (l0.length : Int) then (if 0 ≤ i18 ∧ i18 < (l0.length : Int) then ((sI.f ((l0.getD i18.toNat o54).f0) 0 (wrap64 (255 + i18))).bind fun t37 => (if t37 = true then ((sI.f ((l0.getD i18.toNat o54).f1) 0 (wrap64 (255 + i18))).bind fun t41 => (if t41 = true then ((sMO.l2 l0 xs15 i18 k25 0 0).bind (fun oc93 => ((sMO.l1 l0 i18 k25 0).bind (fun oc76 => match oc76 with | .inl r_ => some (Sum.inl r_) | .inr i63 => (if oc93.1 > 64 then (some (Sum.inl false)) else (if (xs15.length) < 4294967296 then (rec_ (xs15 ++ [oc93.1]) (wrap64 (i18 + 1))) else none)))))) else (some (Sum.inl false)))) else (some (Sum.inl false)))) else none) else (some (Sum.inr (xs15, i18))))
def sMO.l0 (l0 : List S54) : Nat → (List Int) → Int → Option (Bool ⊕ ((List Int) × Int))
 | 0, _, _ => none
 | k + 1, xs15, i18 => sMO.b0 l0 (sMO.l0 l0 k) k xs15 i18
def sMO.g (k : Nat) (l0 : List S54) : Option Bool := (if (l0.length : Int) > 16 then (some false) else ((sMO.l0 l0 k ([] : List Int) 0).bind (fun oc23 => match oc23 with | .inl r_ => some r_ | .inr ⟨xs15, i18⟩ => (some true))))
theorem sMO.runs (k : Nat) (A0 : Option Addr) (c0 : Nat) (l0 : List S54) (r : Bool) (w : World) (hr0 : k54.C w A0 l0.length l0) (hc0 : l0.length ≤ c0) (H : sMO.g k l0 = some r) :
   Calls prog 32 #[.slice A0 l0.length c0] w fun e w' => e = .returned (.bool r) ∧ Below w.heap.size w w' := by
 unfold sMO.g at H
 have HS : St (fun _ => True) w w [] [(cF k54 A0 l0)] [] := St.start (foot_cons (foot_C h54 hr0) foot_nil)
 refine cw_ (n := 86) func32 fun R_ hR_ => ?_
 refine sr_ fun _ hK1 => ?_
 refine ad_ hK1 ?_
 clear hK1
 refine WC.seq fun _ hK2 => ?_
 refine sr_ fun _ hK3 => ?_
 refine mv_ ?_
 refine ln_ underlying24 ?_
 refine b_ bin_gtr ?_
 refine dn_ hK3 ?_
 clear hK3
 rcases ite_ H with ⟨c4, H⟩ | ⟨c4, H⟩
 · refine wy_ (dT c4) (sr_ fun _ hK5 => ?_)
   refine ad_ hK5 ?_
   exact by (
   clear hK5
   obtain rfl := os H
   exact rt1 Try.f32 rfl rfl hR_ ⟨rfl, HS.b⟩ )
 refine wn_ (dF c4) (WC.skip (via_ hK2 (sr_ fun _ hK6 => ?_)))
 clear hK2
 refine WL.lit0 HS rfl rfl (by decide) rfl underlying27 (sz := 1) (by kernel_rfl) (fun v7 w8 HS => ?_)
 replace HS := HS.deriveO (p := (rF kI ([] : List Int) [])) (fun _ _ _ => Reps.none _ _)
 refine ad_ hK6 ?_
 clear hK6
 refine WC.seq fun K9 hK9 => ?_
 refine sr_ fun _ hK10 => ?_
 refine ad_ hK10 ?_
 clear hK10
 refine WC.block ?_
 obtain ⟨G11, hG12, oc13, H, Ho14⟩ := open_G H
 let J19 := fun (xs15 : List Int) v16 I17 (i18 : Int) (E_ : Env) (W_ : World) => E_ = [(0, .slice A0 l0.length c0), (3, v16), (4, vi i18)] ∧ St (fun _ => True) w W_ [rowM w.heap.size 3 1 v16 xs15.length I17] [(rF kI xs15 I17), (cF k54 A0 l0)] []
 exact by (
 have X20 : ∀ E_ W_, (∃ xs15 v16 I17 i18, G11 (Sum.inr (xs15, i18)) = some r ∧ J19 xs15 v16 I17 i18 E_ W_) → ∀ a, Fits a 86 E_ → K9 a W_ := by
   rintro E_ w21 ⟨xs15, v16, I17, i18, H, rfl, HS⟩
   rw [hG12] at H
   (try dsimp only at H)
   refine hK9 _ _ ?_
   clear hK9
   refine sr_ fun _ hK22 => ?_
   refine ad_ hK22 ?_
   clear hK22
   obtain rfl := os H
   exact rt1 Try.f32 rfl rfl hR_ ⟨rfl, HS.b⟩
 clear hK9
 refine WC.loop (fun k_ E_ W_ => ∃ xs15 v16 I17 i18, (∃ o_, sMO.l0 l0 k_ xs15 i18 = some o_ ∧ G11 o_ = some r) ∧ J19 xs15 v16 I17 i18 E_ W_) k ⟨([] : List Int), v7, ([]), 0, ⟨_, H, Ho14⟩, rfl, HS⟩ (sb rfl) ?_
 rintro k_ E_ w24 ⟨xs15, v16, I17, i18, ⟨oc13, H, Ho14⟩, rfl, HS⟩
 rcases k_ with _ | k25
 · exact no_ H
 exact by (
 replace H : sMO.b0 l0 (sMO.l0 l0 k25) k25 xs15 i18 = some oc13 := H
 unfold sMO.b0 at H
 refine WC.seq fun _ hK26 => ?_
 refine sr_ fun _ hK27 => ?_
 refine mv_ ?_
 refine mv_ ?_
 refine ln_ underlying24 ?_
 refine b_ bin_lss ?_
 refine dn_ hK27 ?_
 clear hK27
 rcases eti_ H with ⟨c28, H⟩ | ⟨c28, H⟩
 · refine wn_ (dF c28) (WC.exit ?_)
   obtain rfl := os H
   exact wv_ iq X20 ⟨xs15, v16, I17, i18, Ho14, rfl, HS⟩
 refine wy_ (dT c28) (WC.skip (via_ hK26 (WC.seq fun _ hK29 => ?_)))
 clear hK26
 exact by (
 refine WC.block (WC.seq fun _ hK30 => ?_)
 refine sr_ fun _ hK31 => ?_
 refine mv_ ?_
 refine mv_ ?_
 obtain ⟨⟨q32, q33⟩, H⟩ := if_some H
 obtain ⟨ad34, rfl⟩ := C_open (HS.getO 1 rfl) (by omega)
 refine v_ (ia_ underlying24 2 q32 q33) ?_
 refine v_ (fa_ underlying54) ?_
 obtain ⟨e35, el36, HS⟩ := HS.elO 1 rfl (by decide) o54 i18 q32 q33
 refine v_ (Run.load rfl rfl underlying3 rfl ((HS.getO 0 rfl).2 0 _ (at54_0 (AtK.whole (HS.getO 0 rfl).1)).int)) ?_
 refine mv_ ?_
 refine b_ bin_add64 ?_
 obtain ⟨t37, ha38, H⟩ := bind_some H
 refine cs0_ HS func33 (sI.calls ((l0.getD i18.toNat o54).f0) 0 (wrap64 (255 + i18)) t37 _ ha38) (fun w39 HS => ?_)
 clear ha38
 refine nt_ ?_
 exact by (
 refine mv_ ?_
 rcases eti_ H with ⟨c40, H⟩ | ⟨c40, H⟩
 · refine off_ (c' := true) (nB (bF c40)) ?_
   refine WL.know 28 (nB (bF c40)) ?_
   refine fast_ ?_
   refine via_ hK31 (wy_ rfl ?_)
   clear hK31
   refine sr_ fun _ hK130 => ?_
   refine ad_ hK130 ?_
   clear hK130
   refine WC.ret ?_
   obtain rfl := os H
   rw [hG12] at Ho14
   replace H : some _ = some _ := Ho14
   obtain rfl := os H
   exact fin1 Try.f32 rfl rfl hR_ ⟨rfl, HS.b⟩
 exact by (
 refine on_ (nB c40) (mv_ ?_)
 refine on_ (nB c40) (mv_ ?_)
 refine on_ (nB c40) (v_ (ia_ underlying24 2 q32 q33) ?_)
 refine on_ (nB c40) (v_ (fa_ underlying54) ?_)
 refine on_ (nB c40) (v_ (Run.load rfl rfl underlying3 rfl ((HS.getO 0 rfl).2 1 _ (at54_1 (AtK.whole (HS.getO 0 rfl).1)).int)) ?_)
 refine on_ (nB c40) (mv_ ?_)
 refine on_ (nB c40) (b_ bin_add64 ?_)
 refine on_ (nB c40) ?_
 obtain ⟨t41, ha42, H⟩ := bind_some H
 refine cs0_ HS func33 (sI.calls ((l0.getD i18.toNat o54).f1) 0 (wrap64 (255 + i18)) t41 _ ha42) (fun w43 HS => ?_)
 clear ha42
 refine on_ (nB c40) (nt_ ?_)
 refine v_ (Run.pickF rfl rfl (nB c40) rfl) ?_
 refine dn_ hK31 ?_
 clear hK31
 rcases eti_ H with ⟨c44, H⟩ | ⟨c44, H⟩
 · refine wy_ (nB (bF c44)) (sr_ fun _ hK129 => ?_)
   exact by (
   refine ad_ hK129 ?_
   clear hK129
   refine WC.ret ?_
   obtain rfl := os H
   rw [hG12] at Ho14
   replace H : some _ = some _ := Ho14
   obtain rfl := os H
   exact fin1 Try.f32 rfl rfl hR_ ⟨rfl, HS.b⟩ )
 refine wn_ (nB c44) (WC.skip (via_ hK30 (sr_ fun _ hK45 => ?_)))
 clear hK30
 refine ad_ hK45 ?_
 clear hK45
 refine WC.seq fun K46 hK46 => ?_
 refine sr_ fun _ hK47 => ?_
 refine ad_ hK47 ?_
 clear hK47
 exact by (
 refine WC.block ?_
 obtain ⟨G48, hG49, oc50, H, Ho51⟩ := open_G H
 let J54 := fun (i52 : Int) (i53 : Int) (E_ : Env) (W_ : World) => E_ = [(0, .slice (some ad34) l0.length c0), (3, v16), (4, vi i18), (5, vi i52), (6, vi i53)] ∧ St (fun _ => True) w W_ [rowM w.heap.size 3 1 v16 xs15.length I17] [(rF kI xs15 I17), (cF k54 (some ad34) l0)] []
 have X55 : ∀ E_ W_, (∃ i52 i53, G48 (i52, i53) = some oc13 ∧ J54 i52 i53 E_ W_) → ∀ a, Fits a 86 E_ → K46 a W_ := by
   rintro E_ w56 ⟨i52, i53, H, rfl, HS⟩
   rw [hG49] at H
   (try dsimp only at H)
   refine hK46 _ _ ?_
   clear hK46
   refine WC.seq fun K57 hK57 => ?_
   refine sr_ fun _ hK58 => ?_
   refine ad_ hK58 ?_
   clear hK58
   refine WC.block ?_
   obtain ⟨G59, hG60, oc61, H, Ho62⟩ := open_G H
   let J64 := fun (i63 : Int) (E_ : Env) (W_ : World) => E_ = [(0, .slice (some ad34) l0.length c0), (3, v16), (4, vi i18), (5, vi i52), (8, vi i63)] ∧ St (fun _ => True) w W_ [rowM w.heap.size 3 1 v16 xs15.length I17] [(rF kI xs15 I17), (cF k54 (some ad34) l0)] []
   exact by (
   have X65 : ∀ E_ W_, (∃ i63, G59 (Sum.inr i63) = some oc13 ∧ J64 i63 E_ W_) → ∀ a, Fits a 86 E_ → K57 a W_ := by
     rintro E_ w66 ⟨i63, H, rfl, HS⟩
     rw [hG60] at H
     (try dsimp only at H)
     refine hK57 _ _ ?_
     clear hK57
     refine WC.seq fun _ hK67 => ?_
     refine sr_ fun _ hK68 => ?_
     refine mv_ ?_
     refine b_ bin_gtr ?_
     refine dn_ hK68 ?_
     clear hK68
     rcases ite_ H with ⟨c69, H⟩ | ⟨c69, H⟩
     · refine wy_ (dT c69) (sr_ fun _ hK70 => ?_)
       refine ad_ hK70 ?_
       clear hK70
       exact by (
       refine WC.ret ?_
       obtain rfl := os H
       rw [hG12] at Ho14
       replace H : some _ = some _ := Ho14
       obtain rfl := os H
       exact fin1 Try.f32 rfl rfl hR_ ⟨rfl, HS.b⟩ )
     refine wn_ (dF c69) (WC.skip (via_ hK67 (rg_ (mv_ ?_))))
     clear hK67
     refine mv_ ?_
     refine WL.val rfl rfl (by decide) (Run.lit1 (z := (vi 0)) (vs := [vi i52]) rfl rfl rfl underlying27 (by kernel_rfl) (ble_ rfl) (ble_ rfl)) ?_
     have HS1 := HS.below (below_alloc (Below.refl _ _) (.cells #[vi i52] 3))
     obtain ⟨q71, H⟩ := if_some H
     refine WL.append HS1 0 rfl rfl rfl (by decide) rfl (vi 0) 8 underlying27 (by kernel_rfl) rfl (by decide) (by decide) rfl rfl [vi i52] rfl (lit_news _ _ _) (oneL rfl) (by omega) ((xs15 ++ [i52]).length) (by simp) (fun v72 w73 I74 hI75 HS => ?_)
     dsimp only [List.set] at HS
     replace HS := HS.deriveO (p := (rF kI (xs15 ++ [i52]) I74)) (fun W_ hO_ hN_ => reps_snoc hI75 hO_.1 (K_int _))
     clear HS1
     exact by (
     refine ad_ hK29 ?_
     clear hK29
     refine rg_ (mv_ ?_)
     refine b_ bin_add64 ?_
     refine as_ ?_
     refine WL.done ?_
     exact wr_ k25 iq ⟨(xs15 ++ [i52]), v72, I74, (wrap64 (i18 + 1)), ⟨_, H, Ho14⟩, rfl, (St.pk HS [0, 2] [] rfl rfl)⟩ )
   clear hK57
   refine WC.loop (fun k_ E_ W_ => ∃ i63, (∃ o_, sMO.l1 l0 i18 k_ i63 = some o_ ∧ G59 o_ = some oc13) ∧ J64 i63 E_ W_) k25 ⟨0, ⟨_, H, Ho62⟩, rfl, HS⟩ (sb rfl) ?_
   rintro k_ E_ w77 ⟨i63, ⟨oc61, H, Ho62⟩, rfl, HS⟩
   rcases k_ with _ | k78
   · exact no_ H
   replace H : sMO.b1 l0 i18 (sMO.l1 l0 i18 k78) k78 i63 = some oc61 := H
   unfold sMO.b1 at H
   refine WC.seq fun _ hK79 => ?_
   refine sr_ fun _ hK80 => ?_
   exact by (
   refine mv_ ?_
   refine mv_ ?_
   refine b_ bin_lss ?_
   refine dn_ hK80 ?_
   clear hK80
   rcases eti_ H with ⟨c81, H⟩ | ⟨c81, H⟩
   · refine wn_ (dF c81) (WC.exit ?_)
     obtain rfl := os H
     exact wv_ iq X65 ⟨i63, Ho62, rfl, HS⟩
   refine wy_ (dT c81) (WC.skip (via_ hK79 (WC.seq fun _ hK82 => ?_)))
   clear hK79
   refine WC.block (WC.seq fun _ hK83 => ?_)
   refine WC.drawS HS [] rfl rfl (fun w84 HS => ?_)
   have HB := Below.refl w84.heap.size w84
   have HSW := HS
   refine dm_ 0 ?_
   exact by (
   refine dm_ 1 ?_
   obtain ⟨⟨q85, q86⟩, H⟩ := if_some H
   refine di_ 2 underlying24 2 q85 q86 ?_
   refine dm_ 4 ?_
   refine dm_ 5 ?_
   refine di_ 6 underlying24 2 q32 q33 ?_
   obtain ⟨e87, el88, HS⟩ := HS.elO 1 rfl (by decide) o54 i63 q85 q86
   refine dt_ 3 (Below.refl _ _) (fun w_ hw_ => Run.loadS (cs := [vi ((l0.getD i63.toNat o54).f0), vi ((l0.getD i63.toNat o54).f1)]) rfl rfl underlying54 rfl (by kernel_rfl) (cells_part ((HS.below hw_).getO 0 rfl).2 (part_cons (at54_0 (AtK.whole ((HS.below hw_).getO 0 rfl).1)).int (part_cons (at54_1 (AtK.whole ((HS.below hw_).getO 0 rfl).1)).int part_nil)))) ?_
   obtain ⟨e89, el90, HS⟩ := HS.elO 2 rfl (by decide) o54 i18 q32 q33
   refine dt_ 7 (Below.refl _ _) (fun w_ hw_ => Run.loadS (cs := [vi ((l0.getD i18.toNat o54).f0), vi ((l0.getD i18.toNat o54).f1)]) rfl rfl underlying54 rfl (by kernel_rfl) (cells_part ((HS.below hw_).getO 0 rfl).2 (part_cons (at54_0 (AtK.whole ((HS.below hw_).getO 0 rfl).1)).int (part_cons (at54_1 (AtK.whole ((HS.below hw_).getO 0 rfl).1)).int part_nil)))) ?_
   refine dp_ 8 (fun _ => Run.eqS rfl rfl rfl (by kernel_rfl) (eqs54 _ _ _ _ _)) ?_
   refine dd_ ?_
   clear HB HSW
   refine via_ hK83 ?_
   clear hK83
   rcases eti_ H with ⟨c91, H⟩ | ⟨c91, H⟩
   · refine wn_ (bF c91) (WC.skip (via_ hK82 (rg_ (mv_ ?_))))
     exact by (
     clear hK82
     refine b_ bin_add64 ?_
     refine as_ ?_
     refine WL.done ?_
     exact wr_ k78 iq ⟨(wrap64 (i63 + 1)), ⟨_, H, Ho62⟩, rfl, (St.pk HS [2, 3] [] rfl rfl)⟩ )
   refine wy_ c91 ?_
   refine sr_ fun _ hK92 => ?_
   refine ad_ hK92 ?_
   clear hK92
   refine WC.ret ?_
   obtain rfl := os H
   rw [hG60] at Ho62
   replace H : some _ = some _ := Ho62
   obtain rfl := os H
   rw [hG12] at Ho14
   replace H : some _ = some _ := Ho14
   obtain rfl := os H
   exact fin1 Try.f32 rfl rfl hR_ ⟨rfl, HS.b⟩ )))
 exact by (
 clear hK46
 refine WC.loop (fun k_ E_ W_ => ∃ i52 i53, (∃ o_, sMO.l2 l0 xs15 i18 k_ i52 i53 = some o_ ∧ G48 o_ = some oc13) ∧ J54 i52 i53 E_ W_) k25 ⟨0, 0, ⟨_, H, Ho51⟩, rfl, (St.pk HS [1, 2] [] rfl rfl)⟩ (sb rfl) ?_
 rintro k_ E_ w94 ⟨i52, i53, ⟨oc50, H, Ho51⟩, rfl, HS⟩
 rcases k_ with _ | k95
 · exact no_ H
 replace H : sMO.b2 l0 xs15 i18 (sMO.l2 l0 xs15 i18 k95) k95 i52 i53 = some oc50 := H
 unfold sMO.b2 at H
 refine WC.seq fun _ hK96 => ?_
 refine sr_ fun _ hK97 => ?_
 refine mv_ ?_
 refine b_ bin_lss ?_
 refine dn_ hK97 ?_
 clear hK97
 rcases eti_ H with ⟨c98, H⟩ | ⟨c98, H⟩
 · refine wn_ (dF c98) (WC.exit ?_)
   obtain rfl := os H
   exact wv_ iq X55 ⟨i52, i53, Ho51, rfl, HS⟩
 exact by (
 refine wy_ (dT c98) (WC.skip (via_ hK96 (WC.seq fun K99 hK99 => ?_)))
 clear hK96
 obtain ⟨G100, hG101, oc102, H, Ho103⟩ := open_G H
 have X105 : ∀ E_ W_, (∃ (i104 : Int), E_ = [(0, .slice (some ad34) l0.length c0), (3, v16), (4, vi i18), (5, vi i104), (6, vi i53)] ∧ G100 i104 = some oc50 ∧ St (fun _ => True) w W_ [rowM w.heap.size 3 1 v16 xs15.length I17] [(rF kI xs15 I17), (cF k54 (some ad34) l0)] []) → ∀ a, Fits a 86 E_ → K99 a W_ := by
   rintro E_ w106 ⟨i104, rfl, H, HS⟩
   rw [hG101] at H
   (try dsimp only at H)
   refine hK99 _ _ ?_
   clear hK99
   refine rg_ (mv_ ?_)
   refine b_ bin_add64 ?_
   refine as_ ?_
   refine WL.done ?_
   exact wr_ k95 iq ⟨i104, (wrap64 (i53 + 1)), ⟨_, H, Ho51⟩, rfl, HS⟩
 clear hK99
 refine WC.block (sr_ fun _ hK108 => ?_)
 exact by (
 refine mv_ ?_
 refine mv_ ?_
 refine v_ (ia_ underlying24 2 q32 q33) ?_
 refine v_ (fa_ underlying54) ?_
 obtain ⟨e109, el110, HS⟩ := HS.elO 1 rfl (by decide) o54 i18 q32 q33
 refine v_ (Run.load rfl rfl underlying3 rfl ((HS.getO 0 rfl).2 0 _ (at54_0 (AtK.whole (HS.getO 0 rfl).1)).int)) ?_
 refine ad_ hK108 ?_
 clear hK108
 refine WC.seq fun K111 hK111 => ?_
 obtain ⟨G112, hG113, oc114, H, Ho115⟩ := open_G H
 have X117 : ∀ E_ W_, (∃ (i116 : Int), E_ = [(0, .slice (some ad34) l0.length c0), (3, v16), (4, vi i18), (5, vi i52), (6, vi i53), (7, vi i116)] ∧ G112 i116 = some oc102 ∧ St (fun _ => True) w W_ [rowM w.heap.size 3 1 v16 xs15.length I17] [(rF kI xs15 I17), (cF k54 (some ad34) l0)] []) → ∀ a, Fits a 86 E_ → K111 a W_ := by
   rintro E_ w118 ⟨i116, rfl, H, HS⟩
   rw [hG113] at H
   (try dsimp only at H)
   refine hK111 _ _ ?_
   clear hK111
   exact by (
   refine sr_ fun _ hK119 => ?_
   refine mv_ ?_
   refine b_ bin_lss ?_
   refine dn_ hK119 ?_
   clear hK119
   rcases ite_ H with ⟨c120, H⟩ | ⟨c120, H⟩
   · refine wy_ (dT c120) (rg_ (mv_ ?_))
     refine b_ bin_add64 ?_
     refine as_ ?_
     refine WL.done ?_
     obtain rfl := os H
     exact wv_ iq X105 ⟨(wrap64 (i52 + 1)), rfl, Ho103, HS⟩
   refine wn_ (dF c120) (rg_ (mv_ ?_))
   refine mv_ ?_
   refine mv_ ?_
   refine b_ bin_sub64 ?_
   exact by (
   obtain ⟨⟨q121, q122⟩, H⟩ := if_some H
   obtain ⟨A123, c124, rfl⟩ := row_slice (HS.mu 0 rfl)
   obtain ⟨ad125, rfl⟩ := row_open (HS.mu 0 rfl) (by omega)
   refine v_ (ia_ underlying27 1 q121 q122) ?_
   refine v_ (Run.load rfl rfl underlying3 rfl (row_int (HS.mu 0 rfl) (HS.getO 0 rfl) q121 q122)) ?_
   refine b_ bin_add64 ?_
   refine as_ ?_
   refine WL.done ?_
   obtain rfl := os H
   exact wv_ iq X105 ⟨(wrap64 (i52 + (xs15.getD (wrap64 (i116 - 256)).toNat 0))), rfl, Ho103, HS⟩ ))
 clear hK111
 refine sr_ fun _ hK127 => ?_
 refine mv_ ?_
 refine b_ bin_eql ?_
 refine dn_ hK127 ?_
 clear hK127
 exact by (
 rcases eti_ H with ⟨c128, H⟩ | ⟨c128, H⟩
 · refine wn_ (eF c128) (WC.skip ?_)
   obtain rfl := os H
   exact wv_ iq X117 ⟨((l0.getD i18.toNat o54).f0), rfl, Ho115, (St.pk HS [1, 2] [] rfl rfl)⟩
 refine wy_ (eT c128) (rg_ (mv_ ?_))
 refine mv_ ?_
 refine v_ (ia_ underlying24 2 q32 q33) ?_
 refine v_ (fa_ underlying54) ?_
 refine v_ (Run.load rfl rfl underlying3 rfl ((HS.getO 0 rfl).2 1 _ (at54_1 (AtK.whole (HS.getO 0 rfl).1)).int)) ?_
 refine as_ ?_
 refine WL.done ?_
 obtain rfl := os H
 exact wv_ iq X117 ⟨((l0.getD i18.toNat o54).f1), rfl, Ho115, (St.pk HS [1, 2] [] rfl rfl)⟩ ))))))))))
def sTO.b0 (x0 : S31) (a1 : Int) (a2 : Int) (rec_ : Int → Option (Bool ⊕ Int)) (k29 : Nat) (i22 : Int) : Option (Bool ⊕ Int) := (if i22 < a1 then (if 0 ≤ i22 ∧ i22 < (x0.f0.length : Int) then (if ((x0.f0.getD i22.toNat []).length : Int) = a2 then (if 0 ≤ i22 ∧ i22 < (x0.f1.length : Int) then (if ((x0.f1.getD i22.toNat []).length : Int) = a2 then ((sA.g k29 (x0.f0.getD i22.toNat []) (-128) 128).bind fun t49 => (if t49 = true then ((sA.g k29 (x0.f1.getD i22.toNat []) (-128) 128).bind fun t53 => (if t53 = true then (rec_ (wrap64 (i22 + 1))) else (some (Sum.inl false)))) else (some (Sum.inl false)))) else (some (Sum.inl false))) else none) else (some (Sum.inl false))) else none) else (some (Sum.inr i22)))
def sTO.l0 (x0 : S31) (a1 : Int) (a2 : Int) : Nat → Int → Option (Bool ⊕ Int)
 | 0, _ => none
 | k + 1, i22 => sTO.b0 x0 a1 a2 (sTO.l0 x0 a1 a2 k) k i22
def sTO.g (k : Nat) (x0 : S31) (a1 : Int) (a2 : Int) : Option Bool := ((sI.f a1 4 24).bind fun t6 => (if t6 = true then ((sI.f a2 1 4).bind fun t10 => (if t10 = true then (if (x0.f0.length : Int) = a1 then (if (x0.f1.length : Int) = a1 then ((sTO.l0 x0 a1 a2 k 0).bind (fun oc27 => match oc27 with | .inl r_ => some r_ | .inr i22 => (some true))) else (some false)) else (some false)) else (some false))) else (some false)))
theorem sTO.runs (k : Nat) (x0 : S31) (A0_0 : Option Addr) (c0_0 : Nat) (A0_1 : Option Addr) (c0_1 : Nat) (a1 : Int) (a2 : Int) (r : Bool) (w : World) (hr0_0 : kS3.C w A0_0 x0.f0.length x0.f0) (hc0_0 : x0.f0.length ≤ c0_0) (hr0_1 : kS3.C w A0_1 x0.f1.length x0.f1) (hc0_1 : x0.f1.length ≤ c0_1) (H : sTO.g k x0 a1 a2 = some r) :
   Calls prog 38 #[.agg #[.slice A0_0 x0.f0.length c0_0, .slice A0_1 x0.f1.length c0_1], vi a1, vi a2] w fun e w' => e = .returned (.bool r) ∧ Below w.heap.size w w' := by
 unfold sTO.g at H
 have HS : St (fun _ => True) w w [] [(cF kS3 A0_0 x0.f0), (cF kS3 A0_1 x0.f1)] [] := St.start (foot_cons (foot_C (Kd.heap_slice _ (Kd.heap_int _)) hr0_0) (foot_cons (foot_C (Kd.heap_slice _ (Kd.heap_int _)) hr0_1) foot_nil))
 refine cw_ (n := 71) func38 fun R_ hR_ => ?_
 refine sr_ fun _ hK1 => ?_
 refine bo_ HS (fun b2 w3 hb2 HS => ?_)
 refine ad_ hK1 ?_
 refine WC.seq fun _ hK4 => ?_
 refine sr_ fun _ hK5 => ?_
 refine mv_ ?_
 obtain ⟨t6, ha7, H⟩ := bind_some H
 refine cs0_ HS func33 (sI.calls a1 4 24 t6 _ ha7) (fun w8 HS => ?_)
 clear ha7
 refine nt_ ?_
 refine mv_ ?_
 rcases eti_ H with ⟨c9, H⟩ | ⟨c9, H⟩
 · refine off_ (c' := true) (nB (bF c9)) ?_
   refine WL.know 11 (nB (bF c9)) ?_
   refine fast_ ?_
   refine via_ hK5 (wy_ rfl ?_)
   refine sr_ fun _ hK64 => ?_
   refine ad_ hK64 ?_
   obtain rfl := os H
   exact rt1 Try.f38 rfl rfl hR_ ⟨rfl, HS.b⟩
 refine on_ (nB c9) (mv_ ?_)
 refine on_ (nB c9) ?_
 obtain ⟨t10, ha11, H⟩ := bind_some H
 refine cs0_ HS func33 (sI.calls a2 1 4 t10 _ ha11) (fun w12 HS => ?_)
 clear ha11
 refine on_ (nB c9) (nt_ ?_)
 refine v_ (Run.pickF rfl rfl (nB c9) rfl) ?_
 refine mv_ ?_
 rcases eti_ H with ⟨c13, H⟩ | ⟨c13, H⟩
 · refine off_ (c' := true) (nB (bF c13)) ?_
   refine WL.know 16 (nB (bF c13)) ?_
   refine fast_ ?_
   refine via_ hK5 (wy_ rfl ?_)
   refine sr_ fun _ hK63 => ?_
   refine ad_ hK63 ?_
   obtain rfl := os H
   exact rt1 Try.f38 rfl rfl hR_ ⟨rfl, HS.b⟩
 refine on_ (nB c13) (v_ (fa_ underlying31) ?_)
 refine on_ (nB c13) (v_ (lb_ (HS.mu 0 rfl) underlying25 rfl) ?_)
 refine on_ (nB c13) (ln_ underlying25 ?_)
 refine on_ (nB c13) (mv_ ?_)
 refine on_ (nB c13) (b_ bin_neq ?_)
 refine v_ (Run.pickF rfl rfl (nB c13) rfl) ?_
 refine mv_ ?_
 rcases eti_ H with ⟨c14, H⟩ | ⟨c14, H⟩
 · refine off_ (c' := true) (qT c14) ?_
   refine WL.know 23 (qT c14) ?_
   refine fast_ ?_
   refine via_ hK5 (wy_ rfl ?_)
   refine sr_ fun _ hK62 => ?_
   refine ad_ hK62 ?_
   obtain rfl := os H
   exact rt1 Try.f38 rfl rfl hR_ ⟨rfl, HS.b⟩
 refine on_ (qF c14) (v_ (fa_ underlying31) ?_)
 refine on_ (qF c14) (v_ (lb_ (HS.mu 0 rfl) underlying25 rfl) ?_)
 refine on_ (qF c14) (ln_ underlying25 ?_)
 refine on_ (qF c14) (mv_ ?_)
 refine on_ (qF c14) (b_ bin_neq ?_)
 refine v_ (Run.pickF rfl rfl (qF c14) rfl) ?_
 refine dn_ hK5 ?_
 rcases eti_ H with ⟨c15, H⟩ | ⟨c15, H⟩
 · refine wy_ (qT c15) (sr_ fun _ hK61 => ?_)
   refine ad_ hK61 ?_
   obtain rfl := os H
   exact rt1 Try.f38 rfl rfl hR_ ⟨rfl, HS.b⟩
 refine wn_ (qF c15) (WC.skip (via_ hK4 (WC.seq fun K16 hK16 => ?_)))
 refine sr_ fun _ hK17 => ?_
 refine ad_ hK17 ?_
 refine WC.block ?_
 obtain ⟨G18, hG19, oc20, H, Ho21⟩ := open_G H
 let J23 := fun (i22 : Int) (E_ : Env) (W_ : World) => E_ = [(1, vi a1), (2, vi a2), (3, .pointer (some ⟨b2, 0, none⟩)), (7, vi i22)] ∧ St (fun _ => True) w W_ [boxM b2 #[.slice A0_0 x0.f0.length c0_0, .slice A0_1 x0.f1.length c0_1] 31] [(cF kS3 A0_0 x0.f0), (cF kS3 A0_1 x0.f1)] []
 have X24 : ∀ E_ W_, (∃ i22, G18 (Sum.inr i22) = some r ∧ J23 i22 E_ W_) → ∀ a, Fits a 71 E_ → K16 a W_ := by
   rintro E_ w25 ⟨i22, H, rfl, HS⟩
   rw [hG19] at H
   (try dsimp only at H)
   refine hK16 _ _ ?_
   refine sr_ fun _ hK26 => ?_
   refine ad_ hK26 ?_
   obtain rfl := os H
   exact rt1 Try.f38 rfl rfl hR_ ⟨rfl, HS.b⟩
 clear hK16
 refine WC.loop (fun k_ E_ W_ => ∃ i22, (∃ o_, sTO.l0 x0 a1 a2 k_ i22 = some o_ ∧ G18 o_ = some r) ∧ J23 i22 E_ W_) k ⟨0, ⟨_, H, Ho21⟩, rfl, HS⟩ (sb rfl) ?_
 rintro k_ E_ w28 ⟨i22, ⟨oc20, H, Ho21⟩, rfl, HS⟩
 rcases k_ with _ | k29
 · exact no_ H
 replace H : sTO.b0 x0 a1 a2 (sTO.l0 x0 a1 a2 k29) k29 i22 = some oc20 := H
 unfold sTO.b0 at H
 refine WC.seq fun _ hK30 => ?_
 refine sr_ fun _ hK31 => ?_
 refine mv_ ?_
 refine mv_ ?_
 refine b_ bin_lss ?_
 refine dn_ hK31 ?_
 rcases eti_ H with ⟨c32, H⟩ | ⟨c32, H⟩
 · refine wn_ (dF c32) (WC.exit ?_)
   obtain rfl := os H
   exact wv_ iq X24 ⟨i22, Ho21, rfl, HS⟩
 refine wy_ (dT c32) (WC.skip (via_ hK30 (WC.seq fun _ hK33 => ?_)))
 refine WC.block (sr_ fun _ hK34 => ?_)
 refine v_ (fa_ underlying31) ?_
 refine v_ (lb_ (HS.mu 0 rfl) underlying25 rfl) ?_
 refine mv_ ?_
 obtain ⟨⟨q35, q36⟩, H⟩ := if_some H
 obtain ⟨ad37, rfl⟩ := C_open (HS.getO 0 rfl) (by omega)
 refine v_ (ia_ underlying25 1 q35 q36) ?_
 obtain ⟨A38, c39, le40, HS⟩ := HS.slO 0 rfl i22 q35 q36
 refine v_ (Run.load rfl rfl underlying27 rfl (HS.getO 1 rfl)) ?_
 refine ln_ underlying27 ?_
 refine mv_ ?_
 refine b_ bin_neq ?_
 refine mv_ ?_
 rcases eti_ H with ⟨c41, H⟩ | ⟨c41, H⟩
 · refine off_ (c' := true) (qT c41) ?_
   refine WL.know 43 (qT c41) ?_
   refine fast_ ?_
   refine via_ hK34 (wy_ rfl ?_)
   refine sr_ fun _ hK60 => ?_
   refine ad_ hK60 ?_
   refine WC.ret ?_
   obtain rfl := os H
   rw [hG19] at Ho21
   replace H : some _ = some _ := Ho21
   obtain rfl := os H
   exact fin1 Try.f38 rfl rfl hR_ ⟨rfl, HS.b⟩
 refine on_ (qF c41) (v_ (fa_ underlying31) ?_)
 refine on_ (qF c41) (v_ (lb_ (HS.mu 0 rfl) underlying25 rfl) ?_)
 refine on_ (qF c41) (mv_ ?_)
 refine on_ (qF c41) ?_
 obtain ⟨⟨q42, q43⟩, H⟩ := if_some H
 obtain ⟨ad44, rfl⟩ := C_open (HS.getO 3 rfl) (by omega)
 refine v_ (ia_ underlying25 1 q42 q43) ?_
 refine on_ (qF c41) ?_
 obtain ⟨A45, c46, le47, HS⟩ := HS.slO 3 rfl i22 q42 q43
 refine v_ (Run.load rfl rfl underlying27 rfl (HS.getO 1 rfl)) ?_
 refine on_ (qF c41) (ln_ underlying27 ?_)
 refine on_ (qF c41) (mv_ ?_)
 refine on_ (qF c41) (b_ bin_neq ?_)
 refine v_ (Run.pickF rfl rfl (qF c41) rfl) ?_
 refine mv_ ?_
 rcases eti_ H with ⟨c48, H⟩ | ⟨c48, H⟩
 · refine off_ (c' := true) (qT c48) ?_
   refine WL.know 53 (qT c48) ?_
   refine fast_ ?_
   refine via_ hK34 (wy_ rfl ?_)
   refine sr_ fun _ hK59 => ?_
   refine ad_ hK59 ?_
   refine WC.ret ?_
   obtain rfl := os H
   rw [hG19] at Ho21
   replace H : some _ = some _ := Ho21
   obtain rfl := os H
   exact fin1 Try.f38 rfl rfl hR_ ⟨rfl, HS.b⟩
 refine on_ (qF c48) (v_ (fa_ underlying31) ?_)
 refine on_ (qF c48) (v_ (lb_ (HS.mu 0 rfl) underlying25 rfl) ?_)
 refine on_ (qF c48) (mv_ ?_)
 refine on_ (qF c48) (v_ (ia_ underlying25 1 q35 q36) ?_)
 refine on_ (qF c48) (v_ (Run.load rfl rfl underlying27 rfl (HS.getO 3 rfl)) ?_)
 refine on_ (qF c48) ?_
 obtain ⟨t49, ha50, H⟩ := bind_some H
 refine cs_ HS func34 (sA.runs k29 A38 c39 (x0.f0.getD i22.toNat []) (-128) 128 t49 _ (HS.getO 2 rfl) le40 ha50) (fun w51 HS => ?_)
 clear ha50
 refine on_ (qF c48) (nt_ ?_)
 refine v_ (Run.pickF rfl rfl (qF c48) rfl) ?_
 refine mv_ ?_
 rcases eti_ H with ⟨c52, H⟩ | ⟨c52, H⟩
 · refine off_ (c' := true) (nB (bF c52)) ?_
   refine WL.know 62 (nB (bF c52)) ?_
   refine fast_ ?_
   refine via_ hK34 (wy_ rfl ?_)
   refine sr_ fun _ hK58 => ?_
   refine ad_ hK58 ?_
   refine WC.ret ?_
   obtain rfl := os H
   rw [hG19] at Ho21
   replace H : some _ = some _ := Ho21
   obtain rfl := os H
   exact fin1 Try.f38 rfl rfl hR_ ⟨rfl, HS.b⟩
 refine on_ (nB c52) (v_ (fa_ underlying31) ?_)
 refine on_ (nB c52) (v_ (lb_ (HS.mu 0 rfl) underlying25 rfl) ?_)
 refine on_ (nB c52) (mv_ ?_)
 refine on_ (nB c52) (v_ (ia_ underlying25 1 q42 q43) ?_)
 refine on_ (nB c52) (v_ (Run.load rfl rfl underlying27 rfl (HS.getO 1 rfl)) ?_)
 refine on_ (nB c52) ?_
 obtain ⟨t53, ha54, H⟩ := bind_some H
 refine cs_ HS func34 (sA.runs k29 A45 c46 (x0.f1.getD i22.toNat []) (-128) 128 t53 _ (HS.getO 0 rfl) le47 ha54) (fun w55 HS => ?_)
 clear ha54
 refine on_ (nB c52) (nt_ ?_)
 refine v_ (Run.pickF rfl rfl (nB c52) rfl) ?_
 refine dn_ hK34 ?_
 rcases ite_ H with ⟨c56, H⟩ | ⟨c56, H⟩
 · refine wn_ (nB c56) (WC.skip (via_ hK33 (rg_ (mv_ ?_))))
   refine b_ bin_add64 ?_
   refine as_ ?_
   refine WL.done ?_
   exact wr_ k29 iq ⟨(wrap64 (i22 + 1)), ⟨_, H, Ho21⟩, rfl, (St.pk HS [4, 5] [] rfl rfl)⟩
 refine wy_ (nB (bF c56)) (sr_ fun _ hK57 => ?_)
 refine ad_ hK57 ?_
 refine WC.ret ?_
 obtain rfl := os H
 rw [hG19] at Ho21
 replace H : some _ = some _ := Ho21
 obtain rfl := os H
 exact fin1 Try.f38 rfl rfl hR_ ⟨rfl, HS.b⟩
def sPN.b0 (l0 : List Int) (rec_ : (List Int) → Int → Option ((ByteArray × Bool) ⊕ ((List Int) × Int))) (k28 : Nat) (xs15 : List Int) (i18 : Int) : Option ((ByteArray × Bool) ⊕ ((List Int) × Int)) := (if i18 < (l0.length : Int) then (((if 0 ≤ i18 ∧ i18 < (l0.length : Int) then ((sI.f (l0.getD i18.toNat 0) (-8) 7).bind fun t48 => (if t48 = true then (if (Int.tmod i18 2) = 0 then (if (xs15.length) < 4294967296 then (some (Sum.inr (xs15 ++ [IntKind.u8.wrap (Int.tmod (wrap64 ((l0.getD i18.toNat 0) + 16)) 16)]))) else none) else (if 0 ≤ (wrap64 (Int.tdiv i18 2)) ∧ (wrap64 (Int.tdiv i18 2)) < ((xs15.length : Nat) : Int) then (some (Sum.inr (xs15.set (wrap64 (Int.tdiv i18 2)).toNat (IntKind.u8.wrap ((xs15.getD (wrap64 (Int.tdiv i18 2)).toNat 0) + (IntKind.u8.wrap (wrap64 (16 * (Int.tmod (wrap64 ((l0.getD i18.toNat 0) + 16)) 16))))))))) else none)) else (some (Sum.inl ((⟨#[]⟩ : ByteArray), false))))) else none) : Option ((ByteArray × Bool) ⊕ (List Int))).bind (fun oc42 => match oc42 with | .inl r_ => some (Sum.inl r_) | .inr xs37 => (rec_ xs37 (wrap64 (i18 + 1))))) else (some (Sum.inr (xs15, i18))))
def sPN.l0 (l0 : List Int) : Nat → (List Int) → Int → Option ((ByteArray × Bool) ⊕ ((List Int) × Int))
 | 0, _, _ => none
 | k + 1, xs15, i18 => sPN.b0 l0 (sPN.l0 l0 k) k xs15 i18
def sPN.g (k : Nat) (l0 : List Int) : Option (ByteArray × Bool) := (if (l0.length : Int) > 2400 then (some ((⟨#[]⟩ : ByteArray), false)) else ((sPN.l0 l0 k ([] : List Int) 0).bind (fun oc26 => match oc26 with | .inl r_ => some r_ | .inr ⟨xs15, i18⟩ => (some ((strOfNums xs15), true)))))
theorem sPN.runs (k : Nat) (A0 : Option Addr) (c0 : Nat) (l0 : List Int) (r1 : ByteArray) (r2 : Bool) (w : World) (hr0 : kI.C w A0 l0.length l0) (hc0 : l0.length ≤ c0) (H : sPN.g k l0 = some (r1, r2)) :
   Calls prog 67 #[.slice A0 l0.length c0] w fun e w' => e = .returned (.tuple #[.string r1, .bool r2]) ∧ Below w.heap.size w w' := by
 unfold sPN.g at H
 have HS : St (fun _ => True) w w [] [(cF kI A0 l0)] [] := St.start (foot_cons (foot_C (Kd.heap_int _) hr0) foot_nil)
 refine cw_ (n := 52) func67 fun R_ hR_ => ?_
 refine sr_ fun _ hK1 => ?_
 refine as_ ?_
 refine ad_ hK1 ?_
 refine WC.seq fun _ hK2 => ?_
 refine sr_ fun _ hK3 => ?_
 refine mv_ ?_
 refine ln_ underlying27 ?_
 refine b_ bin_gtr ?_
 refine dn_ hK3 ?_
 rcases ite_ H with ⟨c4, H⟩ | ⟨c4, H⟩
 · refine wy_ (dT c4) (sr_ fun _ hK5 => ?_)
   refine as_ ?_
   refine ad_ hK5 ?_
   obtain ⟨rfl, rfl⟩ := Prod.mk.inj (os H)
   exact rt2 Try.f67 rfl rfl rfl hR_ ⟨rfl, HS.b⟩
 refine wn_ (dF c4) (WC.skip (via_ hK2 (sr_ fun _ hK6 => ?_)))
 refine WL.lit0 HS rfl rfl (by decide) rfl underlying22 (sz := 1) (by kernel_rfl) (fun v7 w8 HS => ?_)
 replace HS := HS.deriveO (p := (rF kU ([] : List Int) [])) (fun _ _ _ => Reps.none _ _)
 refine ad_ hK6 ?_
 refine WC.seq fun K9 hK9 => ?_
 refine sr_ fun _ hK10 => ?_
 refine ad_ hK10 ?_
 refine WC.block ?_
 obtain ⟨G11, hG12, oc13, H, Ho14⟩ := open_G H
 let J19 := fun (xs15 : List Int) v16 I17 (i18 : Int) (E_ : Env) (W_ : World) => E_ = [(0, .slice A0 l0.length c0), (4, v16), (5, vi i18)] ∧ St (fun _ => True) w W_ [rowM w.heap.size 5 1 v16 xs15.length I17] [(rF kU xs15 I17), (cF kI A0 l0)] []
 have X20 : ∀ E_ W_, (∃ xs15 v16 I17 i18, G11 (Sum.inr (xs15, i18)) = some (r1, r2) ∧ J19 xs15 v16 I17 i18 E_ W_) → ∀ a, Fits a 52 E_ → K9 a W_ := by
   rintro E_ w21 ⟨xs15, v16, I17, i18, H, rfl, HS⟩
   rw [hG12] at H
   (try dsimp only at H)
   refine hK9 _ _ ?_
   refine sr_ fun _ hK22 => ?_
   refine mv_ ?_
   obtain ⟨A23, c24, rfl⟩ := row_slice (HS.mu 0 rfl)
   have le25 := row_le (HS.mu 0 rfl)
   replace HS := HS.freezeO 0 (p := (cF kU A23 (xs15))) rfl (fun W_ hm_ h_ => row_C (by rfl) hm_ h_.1)
   dsimp only [List.eraseIdx] at HS
   refine v_ (Run.str (xs := xs15) rfl underlying22 underlying5 underlying9 rfl (HS.getO 0 rfl)) ?_
   refine as_ ?_
   refine ad_ hK22 ?_
   obtain ⟨rfl, rfl⟩ := Prod.mk.inj (os H)
   exact rt2 Try.f67 rfl rfl rfl hR_ ⟨rfl, HS.b⟩
 clear hK9
 refine WC.loop (fun k_ E_ W_ => ∃ xs15 v16 I17 i18, (∃ o_, sPN.l0 l0 k_ xs15 i18 = some o_ ∧ G11 o_ = some (r1, r2)) ∧ J19 xs15 v16 I17 i18 E_ W_) k ⟨([] : List Int), v7, ([]), 0, ⟨_, H, Ho14⟩, rfl, HS⟩ (sb rfl) ?_
 rintro k_ E_ w27 ⟨xs15, v16, I17, i18, ⟨oc13, H, Ho14⟩, rfl, HS⟩
 rcases k_ with _ | k28
 · exact no_ H
 replace H : sPN.b0 l0 (sPN.l0 l0 k28) k28 xs15 i18 = some oc13 := H
 unfold sPN.b0 at H
 refine WC.seq fun _ hK29 => ?_
 refine sr_ fun _ hK30 => ?_
 refine mv_ ?_
 refine mv_ ?_
 refine ln_ underlying27 ?_
 refine b_ bin_lss ?_
 refine dn_ hK30 ?_
 rcases eti_ H with ⟨c31, H⟩ | ⟨c31, H⟩
 · refine wn_ (dF c31) (WC.exit ?_)
   obtain rfl := os H
   exact wv_ iq X20 ⟨xs15, v16, I17, i18, Ho14, rfl, HS⟩
 refine wy_ (dT c31) (WC.skip (via_ hK29 (WC.seq fun K32 hK32 => ?_)))
 obtain ⟨G33, hG34, oc35, H, Ho36⟩ := open_G H
 have X40 : ∀ E_ W_, (∃ (xs37 : List Int) (v38 : Value) (I39 : List Value), E_ = [(0, .slice A0 l0.length c0), (4, v38), (5, vi i18)] ∧ G33 (Sum.inr xs37) = some oc13 ∧ St (fun _ => True) w W_ [rowM w.heap.size 5 1 v38 xs37.length I39] [(rF kU xs37 I39), (cF kI A0 l0)] []) → ∀ a, Fits a 52 E_ → K32 a W_ := by
   rintro E_ w41 ⟨xs37, v38, I39, rfl, H, HS⟩
   rw [hG34] at H
   (try dsimp only at H)
   refine hK32 _ _ ?_
   refine rg_ (mv_ ?_)
   refine b_ bin_add64 ?_
   refine as_ ?_
   refine WL.done ?_
   exact wr_ k28 iq ⟨xs37, v38, I39, (wrap64 (i18 + 1)), ⟨_, H, Ho14⟩, rfl, HS⟩
 clear hK32
 refine WC.block (WC.seq fun _ hK43 => ?_)
 refine sr_ fun _ hK44 => ?_
 refine mv_ ?_
 refine mv_ ?_
 obtain ⟨⟨q45, q46⟩, H⟩ := if_some H
 obtain ⟨ad47, rfl⟩ := C_open (HS.getO 1 rfl) (by omega)
 refine v_ (ia_ underlying27 1 q45 q46) ?_
 refine v_ (Run.load rfl rfl underlying3 rfl (int_cell (HS.getO 1 rfl) i18 q45 q46)) ?_
 obtain ⟨t48, ha49, H⟩ := bind_some H
 refine cs0_ HS func33 (sI.calls (l0.getD i18.toNat 0) (-8) 7 t48 _ ha49) (fun w50 HS => ?_)
 clear ha49
 refine nt_ ?_
 refine dn_ hK44 ?_
 rcases eti_ H with ⟨c51, H⟩ | ⟨c51, H⟩
 · refine wy_ (nB (bF c51)) (sr_ fun _ hK68 => ?_)
   refine as_ ?_
   refine ad_ hK68 ?_
   refine WC.ret ?_
   obtain rfl := os H
   rw [hG34] at Ho36
   replace H : some _ = some _ := Ho36
   obtain rfl := os H
   rw [hG12] at Ho14
   replace H : some _ = some _ := Ho14
   obtain ⟨rfl, rfl⟩ := Prod.mk.inj (os H)
   exact fin2 Try.f67 rfl rfl rfl hR_ ⟨rfl, HS.b⟩
 refine wn_ (nB c51) (WC.skip (via_ hK43 (sr_ fun _ hK52 => ?_)))
 refine mv_ ?_
 refine mv_ ?_
 refine v_ (ia_ underlying27 1 q45 q46) ?_
 refine v_ (Run.load rfl rfl underlying3 rfl (int_cell (HS.getO 1 rfl) i18 q45 q46)) ?_
 refine b_ bin_add64 ?_
 refine v_ (Run.bin rfl rfl rfl (bin_rem (show (16 : Int) ≠ 0 by decide))) ?_
 refine ad_ hK52 ?_
 refine sr_ fun _ hK53 => ?_
 refine mv_ ?_
 refine v_ (Run.bin rfl rfl rfl (bin_rem (show (2 : Int) ≠ 0 by decide))) ?_
 refine b_ bin_eql ?_
 refine dn_ hK53 ?_
 rcases ite_ H with ⟨c54, H⟩ | ⟨c54, H⟩
 · refine wy_ (eT c54) (rg_ (mv_ ?_))
   refine mv_ ?_
   refine v_ (Run.convI rfl underlying3 underlying5 rfl) ?_
   refine WL.val rfl rfl (by decide) (Run.lit1 (z := (.int .u8 0)) (vs := [.int .u8 (IntKind.u8.wrap (Int.tmod (wrap64 ((l0.getD i18.toNat 0) + 16)) 16))]) rfl rfl rfl underlying22 (by kernel_rfl) (ble_ rfl) (ble_ rfl)) ?_
   have HS1 := HS.below (below_alloc (Below.refl _ _) (.cells #[.int .u8 (IntKind.u8.wrap (Int.tmod (wrap64 ((l0.getD i18.toNat 0) + 16)) 16))] 5))
   obtain ⟨q55, H⟩ := if_some H
   refine WL.append HS1 0 rfl rfl rfl (by decide) rfl (.int .u8 0) 1 underlying22 (by kernel_rfl) rfl (by decide) (by decide) rfl rfl [.int .u8 (IntKind.u8.wrap (Int.tmod (wrap64 ((l0.getD i18.toNat 0) + 16)) 16))] rfl (lit_news _ _ _) (oneL rfl) (by omega) ((xs15 ++ [IntKind.u8.wrap (Int.tmod (wrap64 ((l0.getD i18.toNat 0) + 16)) 16)]).length) (by simp) (fun v56 w57 I58 hI59 HS => ?_)
   dsimp only [List.set] at HS
   replace HS := HS.deriveO (p := (rF kU (xs15 ++ [IntKind.u8.wrap (Int.tmod (wrap64 ((l0.getD i18.toNat 0) + 16)) 16)]) I58)) (fun W_ hO_ hN_ => reps_snoc hI59 hO_.1 (K_int _))
   clear HS1
   refine as_ ?_
   refine WL.done ?_
   obtain rfl := os H
   exact wv_ iq X40 ⟨(xs15 ++ [IntKind.u8.wrap (Int.tmod (wrap64 ((l0.getD i18.toNat 0) + 16)) 16)]), v56, I58, rfl, Ho36, (St.pk HS [0, 2] [] rfl rfl)⟩
 refine wn_ (eF c54) (rg_ (mv_ ?_))
 refine mv_ ?_
 refine v_ (Run.bin rfl rfl rfl (bin_quo64 (show (2 : Int) ≠ 0 by decide))) ?_
 refine mv_ ?_
 refine mv_ ?_
 refine v_ (Run.bin rfl rfl rfl (bin_quo64 (show (2 : Int) ≠ 0 by decide))) ?_
 obtain ⟨⟨q60, q61⟩, H⟩ := if_some H
 obtain ⟨A62, c63, rfl⟩ := row_slice (HS.mu 0 rfl)
 obtain ⟨ad64, rfl⟩ := row_open (HS.mu 0 rfl) (by omega)
 refine v_ (ia_ underlying22 1 q60 q61) ?_
 refine v_ (Run.load rfl rfl underlying5 rfl (row_int (HS.mu 0 rfl) (HS.getO 0 rfl) q60 q61)) ?_
 refine mv_ ?_
 refine b_ bin_mul64 ?_
 refine v_ (Run.convI rfl underlying3 underlying5 rfl) ?_
 refine b_ bin_add ?_
 refine v_ (ia_ underlying22 1 q60 q61) ?_
 have hk_ := mul_room q60 q61 1
 refine WL.putEl HS 0 rfl rfl rfl rfl rfl rfl [.int .u8 (IntKind.u8.wrap ((xs15.getD (wrap64 (Int.tdiv i18 2)).toNat 0) + (IntKind.u8.wrap (wrap64 (16 * (Int.tmod (wrap64 ((l0.getD i18.toNat 0) + 16)) 16))))))] rfl (oneL rfl) (by kernel_rfl) (by first | omega | (rw [List.length_nil]; omega) | (simp; omega)) (fun w65 I66 hI67 HS => ?_)
 dsimp only [List.set] at HS
 clear hk_
 replace HS := HS.deriveO (p := (rF kU (xs15.set (wrap64 (Int.tdiv i18 2)).toNat (IntKind.u8.wrap ((xs15.getD (wrap64 (Int.tdiv i18 2)).toNat 0) + (IntKind.u8.wrap (wrap64 (16 * (Int.tmod (wrap64 ((l0.getD i18.toNat 0) + 16)) 16))))))) I66)) (fun W_ hO_ hN_ => reps_set hI67 hO_.1 (K_int _) (toNat_lt q60 q61))
 replace HS := HS.rowN 0 rfl (show xs15.length = (xs15.set (wrap64 (Int.tdiv i18 2)).toNat (IntKind.u8.wrap ((xs15.getD (wrap64 (Int.tdiv i18 2)).toNat 0) + (IntKind.u8.wrap (wrap64 (16 * (Int.tmod (wrap64 ((l0.getD i18.toNat 0) + 16)) 16))))))).length from (List.length_set ..).symm)
 dsimp only [List.set] at HS
 refine WL.done ?_
 obtain rfl := os H
 exact wv_ iq X40 ⟨(xs15.set (wrap64 (Int.tdiv i18 2)).toNat (IntKind.u8.wrap ((xs15.getD (wrap64 (Int.tdiv i18 2)).toNat 0) + (IntKind.u8.wrap (wrap64 (16 * (Int.tmod (wrap64 ((l0.getD i18.toNat 0) + 16)) 16))))))), (.slice (some ad64) xs15.length c63), I66, rfl, Ho36, (St.pk HS [0, 2] [] rfl rfl)⟩
def impl_rowOk.g (k : Nat) (l0 : List Int) (l1 : List Int) : Option Bool := ((impl_isWidth.f (l0.length : Int)).bind fun t3 => (if t3 = true then ((impl_allIn.f l0 (-8) 7).bind fun t7 => (if t7 = true then (if (l1.length : Int) = (wrap64 (Int.tdiv (l0.length : Int) 4)) then ((impl_allIn.f l1 1 127).bind fun t12 => (some t12)) else (some false)) else (some false))) else (some false)))
theorem impl_rowOk.runs (k : Nat) (A0 : Option Addr) (c0 : Nat) (l0 : List Int) (A1 : Option Addr) (c1 : Nat) (l1 : List Int) (r : Bool) (w : World) (hr0 : kI.C w A0 l0.length l0) (hc0 : l0.length ≤ c0) (hr1 : kI.C w A1 l1.length l1) (hc1 : l1.length ≤ c1) (H : impl_rowOk.g k l0 l1 = some r) :
   Calls prog 95 #[.slice A0 l0.length c0, .slice A1 l1.length c1] w fun e w' => e = .returned (.bool r) ∧ Below w.heap.size w w' := by
 unfold impl_rowOk.g at H
 have HS : St (fun _ => True) w w [] [(cF kI A0 l0), (cF kI A1 l1)] [] := St.start (foot_cons (foot_C (Kd.heap_int _) hr0) (foot_cons (foot_C (Kd.heap_int _) hr1) foot_nil))
 refine cw_ (n := 24) func95 fun R_ hR_ => ?_
 refine sr_ fun _ hK1 => ?_
 refine ad_ hK1 ?_
 refine sr_ fun _ hK2 => ?_
 refine mv_ ?_
 refine ln_ underlying27 ?_
 obtain ⟨t3, ha4, H⟩ := bind_some H
 refine cs0_ HS func44 (impl_isWidth.calls (l0.length : Int) t3 _ ha4) (fun w5 HS => ?_)
 clear ha4
 refine mv_ ?_
 rcases eti_ H with ⟨c6, H⟩ | ⟨c6, H⟩
 · refine off_ (c' := false) (bF c6) ?_
   refine WL.know 8 (bF c6) ?_
   refine fast_ ?_
   refine via_ hK2 ?_
   obtain rfl := os H
   exact rt1 Try.f95 rfl rfl hR_ ⟨rfl, HS.b⟩
 refine on_ c6 ?_
 refine mv_ ?_
 refine on_ c6 ?_
 obtain ⟨t7, ha8, H⟩ := bind_some H
 refine cs_ HS func50 (impl_allIn.calls A0 c0 l0 (-8) 7 t7 _ (HS.getO 0 rfl) hc0 ha8) (fun w9 HS => ?_)
 clear ha8
 refine v_ (Run.pickT rfl rfl c6 rfl) ?_
 refine mv_ ?_
 rcases eti_ H with ⟨c10, H⟩ | ⟨c10, H⟩
 · refine off_ (c' := false) (bF c10) ?_
   refine WL.know 12 (bF c10) ?_
   refine fast_ ?_
   refine via_ hK2 ?_
   obtain rfl := os H
   exact rt1 Try.f95 rfl rfl hR_ ⟨rfl, HS.b⟩
 refine on_ c10 ?_
 refine mv_ ?_
 refine on_ c10 ?_
 refine ln_ underlying27 ?_
 refine on_ c10 ?_
 refine mv_ ?_
 refine on_ c10 ?_
 refine ln_ underlying27 ?_
 refine on_ c10 ?_
 refine v_ (Run.bin rfl rfl rfl (bin_quo64 (show (4 : Int) ≠ 0 by decide))) ?_
 refine on_ c10 ?_
 refine b_ bin_eql ?_
 refine v_ (Run.pickT rfl rfl c10 rfl) ?_
 refine mv_ ?_
 rcases eti_ H with ⟨c11, H⟩ | ⟨c11, H⟩
 · refine off_ (c' := false) (eF c11) ?_
   refine WL.know 20 (eF c11) ?_
   refine fast_ ?_
   refine via_ hK2 ?_
   obtain rfl := os H
   exact rt1 Try.f95 rfl rfl hR_ ⟨rfl, HS.b⟩
 refine on_ (eT c11) (mv_ ?_)
 refine on_ (eT c11) ?_
 obtain ⟨t12, ha13, H⟩ := bind_some H
 refine cs_ HS func50 (impl_allIn.calls A1 c1 l1 1 127 t12 _ (HS.getO 1 rfl) hc1 ha13) (fun w14 HS => ?_)
 clear ha13
 refine v_ (Run.pickT rfl rfl (eT c11) rfl) ?_
 refine ad_ hK2 ?_
 obtain rfl := os H
 exact rt1 Try.f95 rfl rfl hR_ ⟨rfl, HS.b⟩
def iMO.b0 (x0 : S29) (rec_ : Int → Option (Bool ⊕ Int)) (k34 : Nat) (i27 : Int) : Option (Bool ⊕ Int) := (if i27 < (x0.f1.length : Int) then (if 0 ≤ i27 ∧ i27 < (x0.f1.length : Int) then (if ((x0.f1.getD i27.toNat []).length : Int) = x0.f0 then (if 0 ≤ i27 ∧ i27 < (x0.f2.length : Int) then ((impl_rowOk.g k34 (x0.f1.getD i27.toNat []) (x0.f2.getD i27.toNat [])).bind fun t54 => (if t54 = true then (rec_ (wrap64 (i27 + 1))) else (some (Sum.inl false)))) else none) else (some (Sum.inl false))) else none) else (some (Sum.inr i27)))
def iMO.l0 (x0 : S29) : Nat → Int → Option (Bool ⊕ Int)
 | 0, _ => none
 | k + 1, i27 => iMO.b0 x0 (iMO.l0 x0 k) k i27
def iMO.g (k : Nat) (x0 : S29) : Option Bool := ((impl_isWidth.f x0.f0).bind fun t6 => (if t6 = true then (if (x0.f1.length : Int) > 300 then (some false) else (if (x0.f2.length : Int) = (x0.f1.length : Int) then ((impl_in.f x0.f3 0 65536).bind fun t13 => (if t13 = true then ((impl_in.f x0.f4 0 24).bind fun t17 => (if t17 = true then ((iMO.l0 x0 k 0).bind (fun oc32 => match oc32 with | .inl r_ => some r_ | .inr i27 => (some true))) else (some false))) else (some false))) else (some false))) else (some false)))
theorem iMO.runs (k : Nat) (x0 : S29) (A0_1 : Option Addr) (c0_1 : Nat) (A0_2 : Option Addr) (c0_2 : Nat) (r : Bool) (w : World) (hr0_1 : kS3.C w A0_1 x0.f1.length x0.f1) (hc0_1 : x0.f1.length ≤ c0_1) (hr0_2 : kS3.C w A0_2 x0.f2.length x0.f2) (hc0_2 : x0.f2.length ≤ c0_2) (H : iMO.g k x0 = some r) :
   Calls prog 80 #[.agg #[vi x0.f0, .slice A0_1 x0.f1.length c0_1, .slice A0_2 x0.f2.length c0_2, vi x0.f3, vi x0.f4]] w fun e w' => e = .returned (.bool r) ∧ Below w.heap.size w w' := by
 unfold iMO.g at H
 have HS : St (fun _ => True) w w [] [(cF kS3 A0_1 x0.f1), (cF kS3 A0_2 x0.f2)] [] := St.start (foot_cons (foot_C (Kd.heap_slice _ (Kd.heap_int _)) hr0_1) (foot_cons (foot_C (Kd.heap_slice _ (Kd.heap_int _)) hr0_2) foot_nil))
 refine cw_ (n := 60) func80 fun R_ hR_ => ?_
 refine sr_ fun _ hK1 => ?_
 refine bo_ HS (fun b2 w3 hb2 HS => ?_)
 refine ad_ hK1 ?_
 refine WC.seq fun _ hK4 => ?_
 refine sr_ fun _ hK5 => ?_
 refine v_ (fa_ underlying29) ?_
 refine v_ (lb_ (HS.mu 0 rfl) underlying3 rfl) ?_
 obtain ⟨t6, ha7, H⟩ := bind_some H
 refine cs0_ HS func44 (impl_isWidth.calls x0.f0 t6 _ ha7) (fun w8 HS => ?_)
 clear ha7
 refine nt_ ?_
 refine mv_ ?_
 rcases eti_ H with ⟨c9, H⟩ | ⟨c9, H⟩
 · refine off_ (c' := true) (nB (bF c9)) ?_
   refine WL.know 9 (nB (bF c9)) ?_
   refine fast_ ?_
   refine via_ hK5 (wy_ rfl ?_)
   refine sr_ fun _ hK63 => ?_
   refine ad_ hK63 ?_
   obtain rfl := os H
   exact rt1 Try.f80 rfl rfl hR_ ⟨rfl, HS.b⟩
 refine on_ (nB c9) (v_ (fa_ underlying29) ?_)
 refine on_ (nB c9) (v_ (lb_ (HS.mu 0 rfl) underlying25 rfl) ?_)
 refine on_ (nB c9) (ln_ underlying25 ?_)
 refine on_ (nB c9) (b_ bin_gtr ?_)
 refine v_ (Run.pickF rfl rfl (nB c9) rfl) ?_
 refine mv_ ?_
 rcases ite_ H with ⟨c10, H⟩ | ⟨c10, H⟩
 · refine off_ (c' := true) (dT c10) ?_
   refine WL.know 15 (dT c10) ?_
   refine fast_ ?_
   refine via_ hK5 (wy_ rfl ?_)
   refine sr_ fun _ hK11 => ?_
   refine ad_ hK11 ?_
   obtain rfl := os H
   exact rt1 Try.f80 rfl rfl hR_ ⟨rfl, HS.b⟩
 refine on_ (dF c10) (v_ (fa_ underlying29) ?_)
 refine on_ (dF c10) (v_ (lb_ (HS.mu 0 rfl) underlying25 rfl) ?_)
 refine on_ (dF c10) (ln_ underlying25 ?_)
 refine on_ (dF c10) (v_ (fa_ underlying29) ?_)
 refine on_ (dF c10) (v_ (lb_ (HS.mu 0 rfl) underlying25 rfl) ?_)
 refine on_ (dF c10) (ln_ underlying25 ?_)
 refine on_ (dF c10) (b_ bin_neq ?_)
 refine v_ (Run.pickF rfl rfl (dF c10) rfl) ?_
 refine mv_ ?_
 rcases eti_ H with ⟨c12, H⟩ | ⟨c12, H⟩
 · refine off_ (c' := true) (qT c12) ?_
   refine WL.know 24 (qT c12) ?_
   refine fast_ ?_
   refine via_ hK5 (wy_ rfl ?_)
   refine sr_ fun _ hK62 => ?_
   refine ad_ hK62 ?_
   obtain rfl := os H
   exact rt1 Try.f80 rfl rfl hR_ ⟨rfl, HS.b⟩
 refine on_ (qF c12) (v_ (fa_ underlying29) ?_)
 refine on_ (qF c12) (v_ (lb_ (HS.mu 0 rfl) underlying3 rfl) ?_)
 refine on_ (qF c12) ?_
 obtain ⟨t13, ha14, H⟩ := bind_some H
 refine cs0_ HS func45 (impl_in.calls x0.f3 0 65536 t13 _ ha14) (fun w15 HS => ?_)
 clear ha14
 refine on_ (qF c12) (nt_ ?_)
 refine v_ (Run.pickF rfl rfl (qF c12) rfl) ?_
 refine mv_ ?_
 rcases eti_ H with ⟨c16, H⟩ | ⟨c16, H⟩
 · refine off_ (c' := true) (nB (bF c16)) ?_
   refine WL.know 30 (nB (bF c16)) ?_
   refine fast_ ?_
   refine via_ hK5 (wy_ rfl ?_)
   refine sr_ fun _ hK61 => ?_
   refine ad_ hK61 ?_
   obtain rfl := os H
   exact rt1 Try.f80 rfl rfl hR_ ⟨rfl, HS.b⟩
 refine on_ (nB c16) (v_ (fa_ underlying29) ?_)
 refine on_ (nB c16) (v_ (lb_ (HS.mu 0 rfl) underlying3 rfl) ?_)
 refine on_ (nB c16) ?_
 obtain ⟨t17, ha18, H⟩ := bind_some H
 refine cs0_ HS func45 (impl_in.calls x0.f4 0 24 t17 _ ha18) (fun w19 HS => ?_)
 clear ha18
 refine on_ (nB c16) (nt_ ?_)
 refine v_ (Run.pickF rfl rfl (nB c16) rfl) ?_
 refine dn_ hK5 ?_
 rcases eti_ H with ⟨c20, H⟩ | ⟨c20, H⟩
 · refine wy_ (nB (bF c20)) (sr_ fun _ hK60 => ?_)
   refine ad_ hK60 ?_
   obtain rfl := os H
   exact rt1 Try.f80 rfl rfl hR_ ⟨rfl, HS.b⟩
 refine wn_ (nB c20) (WC.skip (via_ hK4 (WC.seq fun K21 hK21 => ?_)))
 refine sr_ fun _ hK22 => ?_
 refine v_ (fa_ underlying29) ?_
 refine v_ (lb_ (HS.mu 0 rfl) underlying25 rfl) ?_
 refine ln_ underlying25 ?_
 refine mv_ ?_
 refine dn_ hK22 (WC.block ?_)
 obtain ⟨G23, hG24, oc25, H, Ho26⟩ := open_G H
 let J28 := fun (i27 : Int) (E_ : Env) (W_ : World) => E_ = [(1, .pointer (some ⟨b2, 0, none⟩)), (37, .slice A0_1 x0.f1.length c0_1), (38, vi (x0.f1.length : Int)), (39, vi i27)] ∧ St (fun _ => True) w W_ [boxM b2 #[vi x0.f0, .slice A0_1 x0.f1.length c0_1, .slice A0_2 x0.f2.length c0_2, vi x0.f3, vi x0.f4] 29] [(cF kS3 A0_1 x0.f1), (cF kS3 A0_2 x0.f2)] []
 have X29 : ∀ E_ W_, (∃ i27, G23 (Sum.inr i27) = some r ∧ J28 i27 E_ W_) → ∀ a, Fits a 60 E_ → K21 a W_ := by
   rintro E_ w30 ⟨i27, H, rfl, HS⟩
   rw [hG24] at H
   (try dsimp only at H)
   refine hK21 _ _ ?_
   refine sr_ fun _ hK31 => ?_
   refine ad_ hK31 ?_
   obtain rfl := os H
   exact rt1 Try.f80 rfl rfl hR_ ⟨rfl, HS.b⟩
 clear hK21
 refine WC.loop (fun k_ E_ W_ => ∃ i27, (∃ o_, iMO.l0 x0 k_ i27 = some o_ ∧ G23 o_ = some r) ∧ J28 i27 E_ W_) k ⟨0, ⟨_, H, Ho26⟩, rfl, HS⟩ (sb rfl) ?_
 rintro k_ E_ w33 ⟨i27, ⟨oc25, H, Ho26⟩, rfl, HS⟩
 rcases k_ with _ | k34
 · exact no_ H
 replace H : iMO.b0 x0 (iMO.l0 x0 k34) k34 i27 = some oc25 := H
 unfold iMO.b0 at H
 refine sr_ fun _ hK35 => ?_
 refine b_ bin_lss ?_
 refine dn_ hK35 (WC.seq fun _ hK36 => ?_)
 rcases eti_ H with ⟨c37, H⟩ | ⟨c37, H⟩
 · refine wn_ (dF c37) (WC.exit ?_)
   obtain rfl := os H
   exact wv_ iq X29 ⟨i27, Ho26, rfl, HS⟩
 refine wy_ (dT c37) (WC.skip (via_ hK36 (WC.seq fun _ hK38 => ?_)))
 refine WC.block (sr_ fun _ hK39 => ?_)
 refine mv_ ?_
 obtain ⟨⟨q40, q41⟩, H⟩ := if_some H
 obtain ⟨ad42, rfl⟩ := C_open (HS.getO 0 rfl) (by omega)
 refine v_ (ia_ underlying25 1 q40 q41) ?_
 obtain ⟨A43, c44, le45, HS⟩ := HS.slO 0 rfl i27 q40 q41
 refine v_ (Run.load rfl rfl underlying27 rfl (HS.getO 1 rfl)) ?_
 refine as_ ?_
 refine ad_ hK39 ?_
 refine sr_ fun _ hK46 => ?_
 refine mv_ ?_
 refine ln_ underlying27 ?_
 refine v_ (fa_ underlying29) ?_
 refine v_ (lb_ (HS.mu 0 rfl) underlying3 rfl) ?_
 refine b_ bin_neq ?_
 refine mv_ ?_
 rcases eti_ H with ⟨c47, H⟩ | ⟨c47, H⟩
 · refine off_ (c' := true) (qT c47) ?_
   refine WL.know 49 (qT c47) ?_
   refine fast_ ?_
   refine via_ hK46 (wy_ rfl ?_)
   refine sr_ fun _ hK59 => ?_
   refine ad_ hK59 ?_
   refine WC.ret ?_
   obtain rfl := os H
   rw [hG24] at Ho26
   replace H : some _ = some _ := Ho26
   obtain rfl := os H
   exact fin1 Try.f80 rfl rfl hR_ ⟨rfl, HS.b⟩
 refine on_ (qF c47) (mv_ ?_)
 refine on_ (qF c47) (v_ (fa_ underlying29) ?_)
 refine on_ (qF c47) (v_ (lb_ (HS.mu 0 rfl) underlying25 rfl) ?_)
 refine on_ (qF c47) (mv_ ?_)
 refine on_ (qF c47) ?_
 obtain ⟨⟨q48, q49⟩, H⟩ := if_some H
 obtain ⟨ad50, rfl⟩ := C_open (HS.getO 3 rfl) (by omega)
 refine v_ (ia_ underlying25 1 q48 q49) ?_
 refine on_ (qF c47) ?_
 obtain ⟨A51, c52, le53, HS⟩ := HS.slO 3 rfl i27 q48 q49
 refine v_ (Run.load rfl rfl underlying27 rfl (HS.getO 1 rfl)) ?_
 refine on_ (qF c47) ?_
 obtain ⟨t54, ha55, H⟩ := bind_some H
 refine cs_ HS func95 (impl_rowOk.runs k34 A43 c44 (x0.f1.getD i27.toNat []) A51 c52 (x0.f2.getD i27.toNat []) t54 _ (HS.getO 2 rfl) le45 (HS.getO 0 rfl) le53 ha55) (fun w56 HS => ?_)
 clear ha55
 refine on_ (qF c47) (nt_ ?_)
 refine v_ (Run.pickF rfl rfl (qF c47) rfl) ?_
 refine dn_ hK46 ?_
 rcases ite_ H with ⟨c57, H⟩ | ⟨c57, H⟩
 · refine wn_ (nB c57) (WC.skip (via_ hK38 (rg_ (b_ bin_add64 ?_))))
   refine mv_ ?_
   refine WL.done ?_
   exact wr_ k34 iq ⟨(wrap64 (i27 + 1)), ⟨_, H, Ho26⟩, rfl, (St.pk HS [4, 5] [] rfl rfl)⟩
 refine wy_ (nB (bF c57)) (sr_ fun _ hK58 => ?_)
 refine ad_ hK58 ?_
 refine WC.ret ?_
 obtain rfl := os H
 rw [hG24] at Ho26
 replace H : some _ = some _ := Ho26
 obtain rfl := os H
 exact fin1 Try.f80 rfl rfl hR_ ⟨rfl, HS.b⟩
def iW.b0 (l0 : List Int) (l1 : List Int) (rec_ : Int → Int → Option (Int × Int)) (k23 : Nat) (i15 : Int) (i16 : Int) : Option (Int × Int) := (if i16 < (l0.length : Int) then (if 0 ≤ i16 ∧ i16 < (l0.length : Int) then (if 0 ≤ (wrap64 (Int.tdiv i16 4)) ∧ (wrap64 (Int.tdiv i16 4)) < (l1.length : Int) then (rec_ (wrap64 (i15 + (wrap64 ((wrap64 ((l1.getD (wrap64 (Int.tdiv i16 4)).toNat 0) * 127)) * (if (l0.getD i16.toNat 0) < wrap64 (0 - (l0.getD i16.toNat 0)) then wrap64 (0 - (l0.getD i16.toNat 0)) else (l0.getD i16.toNat 0)))))) (wrap64 (i16 + 1))) else none) else none) else (some (i15, i16)))
def iW.l0 (l0 : List Int) (l1 : List Int) : Nat → Int → Int → Option (Int × Int)
 | 0, _, _ => none
 | k + 1, i15, i16 => iW.b0 l0 l1 (iW.l0 l0 l1 k) k i15 i16
def iW.g (k : Nat) (l0 : List Int) (l1 : List Int) : Option Int := ((impl_rowOk.g k l0 l1).bind fun t4 => (if t4 = true then ((iW.l0 l0 l1 k 0 0).bind (fun oc21 => (some oc21.1))) else (some 0)))
theorem iW.runs (k : Nat) (A0 : Option Addr) (c0 : Nat) (l0 : List Int) (A1 : Option Addr) (c1 : Nat) (l1 : List Int) (r : Int) (w : World) (hr0 : kI.C w A0 l0.length l0) (hc0 : l0.length ≤ c0) (hr1 : kI.C w A1 l1.length l1) (hc1 : l1.length ≤ c1) (H : iW.g k l0 l1 = some r) :
   Calls prog 81 #[.slice A0 l0.length c0, .slice A1 l1.length c1] w fun e w' => e = .returned (vi r) ∧ Below w.heap.size w w' := by
 unfold iW.g at H
 have HS : St (fun _ => True) w w [] [(cF kI A0 l0), (cF kI A1 l1)] [] := St.start (foot_cons (foot_C (Kd.heap_int _) hr0) (foot_cons (foot_C (Kd.heap_int _) hr1) foot_nil))
 refine cw_ (n := 34) func81 fun R_ hR_ => ?_
 refine sr_ fun _ hK1 => ?_
 refine ad_ hK1 ?_
 refine WC.seq fun _ hK2 => ?_
 refine sr_ fun _ hK3 => ?_
 refine mv_ ?_
 refine mv_ ?_
 obtain ⟨t4, ha5, H⟩ := bind_some H
 refine cs_ HS func95 (impl_rowOk.runs k A0 c0 l0 A1 c1 l1 t4 _ (HS.getO 0 rfl) hc0 (HS.getO 1 rfl) hc1 ha5) (fun w6 HS => ?_)
 clear ha5
 refine nt_ ?_
 refine dn_ hK3 ?_
 rcases eti_ H with ⟨c7, H⟩ | ⟨c7, H⟩
 · refine wy_ (nB (bF c7)) (sr_ fun _ hK35 => ?_)
   refine ad_ hK35 ?_
   obtain rfl := os H
   exact rt1 Try.f81 rfl rfl hR_ ⟨rfl, HS.b⟩
 refine wn_ (nB c7) (WC.skip (via_ hK2 (sr_ fun _ hK8 => ?_)))
 refine ad_ hK8 ?_
 refine WC.seq fun K9 hK9 => ?_
 refine sr_ fun _ hK10 => ?_
 refine mv_ ?_
 refine ln_ underlying27 ?_
 refine mv_ ?_
 refine dn_ hK10 (WC.block ?_)
 obtain ⟨G11, hG12, oc13, H, Ho14⟩ := open_G H
 let J17 := fun (i15 : Int) (i16 : Int) (E_ : Env) (W_ : World) => E_ = [(1, .slice A1 l1.length c1), (5, vi i15), (12, .slice A0 l0.length c0), (13, vi (l0.length : Int)), (14, vi i16)] ∧ St (fun _ => True) w W_ [] [(cF kI A0 l0), (cF kI A1 l1)] []
 have X18 : ∀ E_ W_, (∃ i15 i16, G11 (i15, i16) = some r ∧ J17 i15 i16 E_ W_) → ∀ a, Fits a 34 E_ → K9 a W_ := by
   rintro E_ w19 ⟨i15, i16, H, rfl, HS⟩
   rw [hG12] at H
   (try dsimp only at H)
   refine hK9 _ _ ?_
   refine sr_ fun _ hK20 => ?_
   refine mv_ ?_
   refine ad_ hK20 ?_
   obtain rfl := os H
   exact rt1 Try.f81 rfl rfl hR_ ⟨rfl, HS.b⟩
 clear hK9
 refine WC.loop (fun k_ E_ W_ => ∃ i15 i16, (∃ o_, iW.l0 l0 l1 k_ i15 i16 = some o_ ∧ G11 o_ = some r) ∧ J17 i15 i16 E_ W_) k ⟨0, 0, ⟨_, H, Ho14⟩, rfl, HS⟩ (sb rfl) ?_
 rintro k_ E_ w22 ⟨i15, i16, ⟨oc13, H, Ho14⟩, rfl, HS⟩
 rcases k_ with _ | k23
 · exact no_ H
 replace H : iW.b0 l0 l1 (iW.l0 l0 l1 k23) k23 i15 i16 = some oc13 := H
 unfold iW.b0 at H
 refine sr_ fun _ hK24 => ?_
 refine b_ bin_lss ?_
 refine dn_ hK24 (WC.seq fun _ hK25 => ?_)
 rcases eti_ H with ⟨c26, H⟩ | ⟨c26, H⟩
 · refine wn_ (dF c26) (WC.exit ?_)
   obtain rfl := os H
   exact wv_ iq X18 ⟨i15, i16, Ho14, rfl, HS⟩
 refine wy_ (dT c26) (WC.skip (via_ hK25 (WC.seq fun _ hK27 => ?_)))
 refine WC.block (sr_ fun _ hK28 => ?_)
 refine mv_ ?_
 obtain ⟨⟨q29, q30⟩, H⟩ := if_some H
 obtain ⟨ad31, rfl⟩ := C_open (HS.getO 0 rfl) (by omega)
 refine v_ (ia_ underlying27 1 q29 q30) ?_
 refine v_ (Run.load rfl rfl underlying3 rfl (int_cell (HS.getO 0 rfl) i16 q29 q30)) ?_
 refine as_ ?_
 refine ad_ hK28 ?_
 refine rg_ (mv_ ?_)
 refine mv_ ?_
 refine mv_ ?_
 refine v_ (Run.bin rfl rfl rfl (bin_quo64 (show (4 : Int) ≠ 0 by decide))) ?_
 obtain ⟨⟨q32, q33⟩, H⟩ := if_some H
 obtain ⟨ad34, rfl⟩ := C_open (HS.getO 1 rfl) (by omega)
 refine v_ (ia_ underlying27 1 q32 q33) ?_
 refine v_ (Run.load rfl rfl underlying3 rfl (int_cell (HS.getO 1 rfl) (wrap64 (Int.tdiv i16 4)) q32 q33)) ?_
 refine b_ bin_mul64 ?_
 refine mv_ ?_
 refine mv_ ?_
 refine v_ (Run.neg64 rfl rfl) ?_
 refine v_ (Run.max2 rfl rfl rfl) ?_
 refine b_ bin_mul64 ?_
 refine b_ bin_add64 ?_
 refine ad_ hK27 ?_
 refine rg_ (b_ bin_add64 ?_)
 refine mv_ ?_
 refine WL.done ?_
 exact wr_ k23 iq ⟨(wrap64 (i15 + (wrap64 ((wrap64 ((l1.getD (wrap64 (Int.tdiv i16 4)).toNat 0) * 127)) * (if (l0.getD i16.toNat 0) < wrap64 (0 - (l0.getD i16.toNat 0)) then wrap64 (0 - (l0.getD i16.toNat 0)) else (l0.getD i16.toNat 0)))))), (wrap64 (i16 + 1)), ⟨_, H, Ho14⟩, rfl, HS⟩
def iwithi.b0 (x0 : S29) (rec_ : Int → Option (Bool ⊕ Int)) (k25 : Nat) (i18 : Int) : Option (Bool ⊕ Int) := (if i18 < (x0.f1.length : Int) then (if 0 ≤ i18 ∧ i18 < (x0.f1.length : Int) then (if 0 ≤ i18 ∧ i18 < (x0.f2.length : Int) then ((iW.g k25 (x0.f1.getD i18.toNat []) (x0.f2.getD i18.toNat [])).bind fun t44 => (if t44 > 600000 then (some (Sum.inl false)) else (rec_ (wrap64 (i18 + 1))))) else none) else none) else (some (Sum.inr i18)))
def iwithi.l0 (x0 : S29) : Nat → Int → Option (Bool ⊕ Int)
 | 0, _ => none
 | k + 1, i18 => iwithi.b0 x0 (iwithi.l0 x0 k) k i18
def iwithi.g (k : Nat) (x0 : S29) (a1 : Int) (a2 : Int) : Option Bool := ((iMO.g k (⟨x0.f0, x0.f1, x0.f2, x0.f3, x0.f4⟩ : S29)).bind fun t6 => (if t6 = true then (if x0.f0 = a1 then (if (x0.f1.length : Int) = a2 then ((iwithi.l0 x0 k 0).bind (fun oc23 => match oc23 with | .inl r_ => some r_ | .inr i18 => (some true))) else (some false)) else (some false)) else (some false)))
theorem iwithi.runs (k : Nat) (x0 : S29) (A0_1 : Option Addr) (c0_1 : Nat) (A0_2 : Option Addr) (c0_2 : Nat) (a1 : Int) (a2 : Int) (r : Bool) (w : World) (hr0_1 : kS3.C w A0_1 x0.f1.length x0.f1) (hc0_1 : x0.f1.length ≤ c0_1) (hr0_2 : kS3.C w A0_2 x0.f2.length x0.f2) (hc0_2 : x0.f2.length ≤ c0_2) (H : iwithi.g k x0 a1 a2 = some r) :
   Calls prog 55 #[.agg #[vi x0.f0, .slice A0_1 x0.f1.length c0_1, .slice A0_2 x0.f2.length c0_2, vi x0.f3, vi x0.f4], vi a1, vi a2] w fun e w' => e = .returned (.bool r) ∧ Below w.heap.size w w' := by
 unfold iwithi.g at H
 have HS : St (fun _ => True) w w [] [(cF kS3 A0_1 x0.f1), (cF kS3 A0_2 x0.f2)] [] := St.start (foot_cons (foot_C (Kd.heap_slice _ (Kd.heap_int _)) hr0_1) (foot_cons (foot_C (Kd.heap_slice _ (Kd.heap_int _)) hr0_2) foot_nil))
 refine cw_ (n := 42) func55 fun R_ hR_ => ?_
 refine sr_ fun _ hK1 => ?_
 refine bo_ HS (fun b2 w3 hb2 HS => ?_)
 refine ad_ hK1 ?_
 refine WC.seq fun _ hK4 => ?_
 refine sr_ fun _ hK5 => ?_
 refine v_ (ls_ (HS.mu 0 rfl) underlying29 part_all) ?_
 obtain ⟨t6, ha7, H⟩ := bind_some H
 refine cs_ HS func80 (iMO.runs k (⟨x0.f0, x0.f1, x0.f2, x0.f3, x0.f4⟩ : S29) A0_1 c0_1 A0_2 c0_2 t6 _ (HS.getO 0 rfl) hc0_1 (HS.getO 1 rfl) hc0_2 ha7) (fun w8 HS => ?_)
 clear ha7
 refine nt_ ?_
 refine mv_ ?_
 rcases eti_ H with ⟨c9, H⟩ | ⟨c9, H⟩
 · refine off_ (c' := true) (nB (bF c9)) ?_
   refine WL.know 12 (nB (bF c9)) ?_
   refine fast_ ?_
   refine via_ hK5 (wy_ rfl ?_)
   refine sr_ fun _ hK51 => ?_
   refine ad_ hK51 ?_
   obtain rfl := os H
   exact rt1 Try.f55 rfl rfl hR_ ⟨rfl, HS.b⟩
 refine on_ (nB c9) (v_ (fa_ underlying29) ?_)
 refine on_ (nB c9) (v_ (lb_ (HS.mu 0 rfl) underlying3 rfl) ?_)
 refine on_ (nB c9) (mv_ ?_)
 refine on_ (nB c9) (b_ bin_neq ?_)
 refine v_ (Run.pickF rfl rfl (nB c9) rfl) ?_
 refine mv_ ?_
 rcases eti_ H with ⟨c10, H⟩ | ⟨c10, H⟩
 · refine off_ (c' := true) (qT c10) ?_
   refine WL.know 18 (qT c10) ?_
   refine fast_ ?_
   refine via_ hK5 (wy_ rfl ?_)
   refine sr_ fun _ hK50 => ?_
   refine ad_ hK50 ?_
   obtain rfl := os H
   exact rt1 Try.f55 rfl rfl hR_ ⟨rfl, HS.b⟩
 refine on_ (qF c10) (v_ (fa_ underlying29) ?_)
 refine on_ (qF c10) (v_ (lb_ (HS.mu 0 rfl) underlying25 rfl) ?_)
 refine on_ (qF c10) (ln_ underlying25 ?_)
 refine on_ (qF c10) (mv_ ?_)
 refine on_ (qF c10) (b_ bin_neq ?_)
 refine v_ (Run.pickF rfl rfl (qF c10) rfl) ?_
 refine dn_ hK5 ?_
 rcases eti_ H with ⟨c11, H⟩ | ⟨c11, H⟩
 · refine wy_ (qT c11) (sr_ fun _ hK49 => ?_)
   refine ad_ hK49 ?_
   obtain rfl := os H
   exact rt1 Try.f55 rfl rfl hR_ ⟨rfl, HS.b⟩
 refine wn_ (qF c11) (WC.skip (via_ hK4 (WC.seq fun K12 hK12 => ?_)))
 refine sr_ fun _ hK13 => ?_
 refine v_ (fa_ underlying29) ?_
 refine v_ (lb_ (HS.mu 0 rfl) underlying25 rfl) ?_
 refine ln_ underlying25 ?_
 refine mv_ ?_
 refine dn_ hK13 (WC.block ?_)
 obtain ⟨G14, hG15, oc16, H, Ho17⟩ := open_G H
 let J19 := fun (i18 : Int) (E_ : Env) (W_ : World) => E_ = [(3, .pointer (some ⟨b2, 0, none⟩)), (26, .slice A0_1 x0.f1.length c0_1), (27, vi (x0.f1.length : Int)), (28, vi i18)] ∧ St (fun _ => True) w W_ [boxM b2 #[vi x0.f0, .slice A0_1 x0.f1.length c0_1, .slice A0_2 x0.f2.length c0_2, vi x0.f3, vi x0.f4] 29] [(cF kS3 A0_1 x0.f1), (cF kS3 A0_2 x0.f2)] []
 have X20 : ∀ E_ W_, (∃ i18, G14 (Sum.inr i18) = some r ∧ J19 i18 E_ W_) → ∀ a, Fits a 42 E_ → K12 a W_ := by
   rintro E_ w21 ⟨i18, H, rfl, HS⟩
   rw [hG15] at H
   (try dsimp only at H)
   refine hK12 _ _ ?_
   refine sr_ fun _ hK22 => ?_
   refine ad_ hK22 ?_
   obtain rfl := os H
   exact rt1 Try.f55 rfl rfl hR_ ⟨rfl, HS.b⟩
 clear hK12
 refine WC.loop (fun k_ E_ W_ => ∃ i18, (∃ o_, iwithi.l0 x0 k_ i18 = some o_ ∧ G14 o_ = some r) ∧ J19 i18 E_ W_) k ⟨0, ⟨_, H, Ho17⟩, rfl, HS⟩ (sb rfl) ?_
 rintro k_ E_ w24 ⟨i18, ⟨oc16, H, Ho17⟩, rfl, HS⟩
 rcases k_ with _ | k25
 · exact no_ H
 replace H : iwithi.b0 x0 (iwithi.l0 x0 k25) k25 i18 = some oc16 := H
 unfold iwithi.b0 at H
 refine sr_ fun _ hK26 => ?_
 refine b_ bin_lss ?_
 refine dn_ hK26 (WC.seq fun _ hK27 => ?_)
 rcases eti_ H with ⟨c28, H⟩ | ⟨c28, H⟩
 · refine wn_ (dF c28) (WC.exit ?_)
   obtain rfl := os H
   exact wv_ iq X20 ⟨i18, Ho17, rfl, HS⟩
 refine wy_ (dT c28) (WC.skip (via_ hK27 (WC.seq fun _ hK29 => ?_)))
 refine WC.block (sr_ fun _ hK30 => ?_)
 refine mv_ ?_
 obtain ⟨⟨q31, q32⟩, H⟩ := if_some H
 obtain ⟨ad33, rfl⟩ := C_open (HS.getO 0 rfl) (by omega)
 refine v_ (ia_ underlying25 1 q31 q32) ?_
 obtain ⟨A34, c35, le36, HS⟩ := HS.slO 0 rfl i18 q31 q32
 refine v_ (Run.load rfl rfl underlying27 rfl (HS.getO 1 rfl)) ?_
 refine as_ ?_
 refine ad_ hK30 ?_
 refine sr_ fun _ hK37 => ?_
 refine mv_ ?_
 refine v_ (fa_ underlying29) ?_
 refine v_ (lb_ (HS.mu 0 rfl) underlying25 rfl) ?_
 refine mv_ ?_
 obtain ⟨⟨q38, q39⟩, H⟩ := if_some H
 obtain ⟨ad40, rfl⟩ := C_open (HS.getO 3 rfl) (by omega)
 refine v_ (ia_ underlying25 1 q38 q39) ?_
 obtain ⟨A41, c42, le43, HS⟩ := HS.slO 3 rfl i18 q38 q39
 refine v_ (Run.load rfl rfl underlying27 rfl (HS.getO 1 rfl)) ?_
 obtain ⟨t44, ha45, H⟩ := bind_some H
 refine cs_ HS func81 (iW.runs k25 A34 c35 (x0.f1.getD i18.toNat []) A41 c42 (x0.f2.getD i18.toNat []) t44 _ (HS.getO 2 rfl) le36 (HS.getO 0 rfl) le43 ha45) (fun w46 HS => ?_)
 clear ha45
 refine b_ bin_gtr ?_
 refine dn_ hK37 ?_
 rcases eti_ H with ⟨c47, H⟩ | ⟨c47, H⟩
 · refine wn_ (dF c47) (WC.skip (via_ hK29 (rg_ (b_ bin_add64 ?_))))
   refine mv_ ?_
   refine WL.done ?_
   exact wr_ k25 iq ⟨(wrap64 (i18 + 1)), ⟨_, H, Ho17⟩, rfl, (St.pk HS [4, 5] [] rfl rfl)⟩
 refine wy_ (dT c47) (sr_ fun _ hK48 => ?_)
 refine ad_ hK48 ?_
 refine WC.ret ?_
 obtain rfl := os H
 rw [hG15] at Ho17
 replace H : some _ = some _ := Ho17
 obtain rfl := os H
 exact fin1 Try.f55 rfl rfl hR_ ⟨rfl, HS.b⟩
def impl_GainOk.g (k : Nat) (l0 : List Int) (a1 : Int) : Option Bool := (if (l0.length : Int) = a1 then ((impl_allIn.f l0 0 127).bind fun t4 => (some t4)) else (some false))
theorem impl_GainOk.runs (k : Nat) (A0 : Option Addr) (c0 : Nat) (l0 : List Int) (a1 : Int) (r : Bool) (w : World) (hr0 : kI.C w A0 l0.length l0) (hc0 : l0.length ≤ c0) (H : impl_GainOk.g k l0 a1 = some r) :
   Calls prog 54 #[.slice A0 l0.length c0, vi a1] w fun e w' => e = .returned (.bool r) ∧ Below w.heap.size w w' := by
 unfold impl_GainOk.g at H
 have HS : St (fun _ => True) w w [] [(cF kI A0 l0)] [] := St.start (foot_cons (foot_C (Kd.heap_int _) hr0) foot_nil)
 refine cw_ (n := 13) func54 fun R_ hR_ => ?_
 refine sr_ fun _ hK1 => ?_
 refine ad_ hK1 ?_
 refine sr_ fun _ hK2 => ?_
 refine mv_ ?_
 refine ln_ underlying27 ?_
 refine mv_ ?_
 refine b_ bin_eql ?_
 refine mv_ ?_
 rcases eti_ H with ⟨c3, H⟩ | ⟨c3, H⟩
 · refine off_ (c' := false) (eF c3) ?_
   refine WL.know 9 (eF c3) ?_
   refine fast_ ?_
   refine via_ hK2 ?_
   obtain rfl := os H
   exact rt1 Try.f54 rfl rfl hR_ ⟨rfl, HS.b⟩
 refine on_ (eT c3) (mv_ ?_)
 refine on_ (eT c3) ?_
 obtain ⟨t4, ha5, H⟩ := bind_some H
 refine cs_ HS func50 (impl_allIn.calls A0 c0 l0 0 127 t4 _ (HS.getO 0 rfl) hc0 ha5) (fun w6 HS => ?_)
 clear ha5
 refine v_ (Run.pickT rfl rfl (eT c3) rfl) ?_
 refine ad_ hK2 ?_
 obtain rfl := os H
 exact rt1 Try.f54 rfl rfl hR_ ⟨rfl, HS.b⟩
def impl_TurnsOk.g (k : Nat) (x0 : S31) (a1 : Int) (a2 : Int) : Option Bool := ((impl_in.f a1 4 24).bind fun t5 => (if t5 = true then ((impl_in.f a2 1 4).bind fun t9 => (if t9 = true then ((impl_turnLists.f x0.f0 a1 a2).bind fun t13 => (if t13 = true then ((impl_turnLists.f x0.f1 a1 a2).bind fun t17 => (some t17)) else (some false))) else (some false))) else (some false)))
theorem impl_TurnsOk.runs (k : Nat) (x0 : S31) (A0_0 : Option Addr) (c0_0 : Nat) (A0_1 : Option Addr) (c0_1 : Nat) (a1 : Int) (a2 : Int) (r : Bool) (w : World) (hr0_0 : kS3.C w A0_0 x0.f0.length x0.f0) (hc0_0 : x0.f0.length ≤ c0_0) (hr0_1 : kS3.C w A0_1 x0.f1.length x0.f1) (hc0_1 : x0.f1.length ≤ c0_1) (H : impl_TurnsOk.g k x0 a1 a2 = some r) :
   Calls prog 56 #[.agg #[.slice A0_0 x0.f0.length c0_0, .slice A0_1 x0.f1.length c0_1], vi a1, vi a2] w fun e w' => e = .returned (.bool r) ∧ Below w.heap.size w w' := by
 unfold impl_TurnsOk.g at H
 have HS : St (fun _ => True) w w [] [(cF kS3 A0_0 x0.f0), (cF kS3 A0_1 x0.f1)] [] := St.start (foot_cons (foot_C (Kd.heap_slice _ (Kd.heap_int _)) hr0_0) (foot_cons (foot_C (Kd.heap_slice _ (Kd.heap_int _)) hr0_1) foot_nil))
 refine cw_ (n := 27) func56 fun R_ hR_ => ?_
 refine sr_ fun _ hK1 => ?_
 refine bo_ HS (fun b2 w3 hb2 HS => ?_)
 refine ad_ hK1 ?_
 refine sr_ fun _ hK4 => ?_
 refine mv_ ?_
 obtain ⟨t5, ha6, H⟩ := bind_some H
 refine cs0_ HS func45 (impl_in.calls a1 4 24 t5 _ ha6) (fun w7 HS => ?_)
 clear ha6
 refine mv_ ?_
 rcases eti_ H with ⟨c8, H⟩ | ⟨c8, H⟩
 · refine off_ (c' := false) (bF c8) ?_
   refine WL.know 9 (bF c8) ?_
   refine fast_ ?_
   refine via_ hK4 ?_
   obtain rfl := os H
   exact rt1 Try.f56 rfl rfl hR_ ⟨rfl, HS.b⟩
 refine on_ c8 ?_
 refine mv_ ?_
 refine on_ c8 ?_
 obtain ⟨t9, ha10, H⟩ := bind_some H
 refine cs0_ HS func45 (impl_in.calls a2 1 4 t9 _ ha10) (fun w11 HS => ?_)
 clear ha10
 refine v_ (Run.pickT rfl rfl c8 rfl) ?_
 refine mv_ ?_
 rcases eti_ H with ⟨c12, H⟩ | ⟨c12, H⟩
 · refine off_ (c' := false) (bF c12) ?_
   refine WL.know 13 (bF c12) ?_
   refine fast_ ?_
   refine via_ hK4 ?_
   obtain rfl := os H
   exact rt1 Try.f56 rfl rfl hR_ ⟨rfl, HS.b⟩
 refine on_ c12 ?_
 refine v_ (fa_ underlying31) ?_
 refine on_ c12 ?_
 refine v_ (lb_ (HS.mu 0 rfl) underlying25 rfl) ?_
 refine on_ c12 ?_
 refine mv_ ?_
 refine on_ c12 ?_
 refine mv_ ?_
 refine on_ c12 ?_
 obtain ⟨t13, ha14, H⟩ := bind_some H
 refine cs_ HS func82 (impl_turnLists.calls A0_0 c0_0 x0.f0 a1 a2 t13 _ (HS.getO 0 rfl) hc0_0 ha14) (fun w15 HS => ?_)
 clear ha14
 refine v_ (Run.pickT rfl rfl c12 rfl) ?_
 refine mv_ ?_
 rcases eti_ H with ⟨c16, H⟩ | ⟨c16, H⟩
 · refine off_ (c' := false) (bF c16) ?_
   refine WL.know 20 (bF c16) ?_
   refine fast_ ?_
   refine via_ hK4 ?_
   obtain rfl := os H
   exact rt1 Try.f56 rfl rfl hR_ ⟨rfl, HS.b⟩
 refine on_ c16 ?_
 refine v_ (fa_ underlying31) ?_
 refine on_ c16 ?_
 refine v_ (lb_ (HS.mu 0 rfl) underlying25 rfl) ?_
 refine on_ c16 ?_
 refine mv_ ?_
 refine on_ c16 ?_
 refine mv_ ?_
 refine on_ c16 ?_
 obtain ⟨t17, ha18, H⟩ := bind_some H
 refine cs_ HS func82 (impl_turnLists.calls A0_1 c0_1 x0.f1 a1 a2 t17 _ (HS.getO 1 rfl) hc0_1 ha18) (fun w19 HS => ?_)
 clear ha18
 refine v_ (Run.pickT rfl rfl c16 rfl) ?_
 refine ad_ hK4 ?_
 obtain rfl := os H
 exact rt1 Try.f56 rfl rfl hR_ ⟨rfl, HS.b⟩
def sM4.b0 (l0 : List S54) (x1 : S54) (rec_ : Int → Option (Int ⊕ Int)) (k17 : Nat) (i10 : Int) : Option (Int ⊕ Int) := (if i10 < (l0.length : Int) then (if 0 ≤ i10 ∧ i10 < (l0.length : Int) then (if (x1.f0 == ((l0.getD i10.toNat o54).f0) && (x1.f1 == ((l0.getD i10.toNat o54).f1))) = true then (some (Sum.inl i10)) else (rec_ (wrap64 (i10 + 1)))) else none) else (some (Sum.inr i10)))
def sM4.l0 (l0 : List S54) (x1 : S54) : Nat → Int → Option (Int ⊕ Int)
 | 0, _ => none
 | k + 1, i10 => sM4.b0 l0 x1 (sM4.l0 l0 x1 k) k i10
def sM4.g (k : Nat) (l0 : List S54) (x1 : S54) : Option Int := ((sM4.l0 l0 x1 k 0).bind (fun oc15 => match oc15 with | .inl r_ => some r_ | .inr i10 => (some (-1))))
theorem sM4.runs (k : Nat) (A0 : Option Addr) (c0 : Nat) (l0 : List S54) (x1 : S54) (r : Int) (w : World) (hr0 : k54.C w A0 l0.length l0) (hc0 : l0.length ≤ c0) (H : sM4.g k l0 x1 = some r) :
   Calls prog 91 #[.slice A0 l0.length c0, .agg #[vi x1.f0, vi x1.f1]] w fun e w' => e = .returned (vi r) ∧ Below w.heap.size w w' := by
 unfold sM4.g at H
 have HS : St (fun _ => True) w w [] [(cF k54 A0 l0)] [] := St.start (foot_cons (foot_C h54 hr0) foot_nil)
 refine cw_ (n := 19) func91 fun R_ hR_ => ?_
 refine sr_ fun _ hK1 => ?_
 refine bo_ HS (fun b2 w3 hb2 HS => ?_)
 refine ad_ hK1 ?_
 refine WC.seq fun K4 hK4 => ?_
 refine sr_ fun _ hK5 => ?_
 refine mv_ ?_
 refine ln_ underlying24 ?_
 refine mv_ ?_
 refine dn_ hK5 (WC.block ?_)
 obtain ⟨G6, hG7, oc8, H, Ho9⟩ := open_G H
 let J11 := fun (i10 : Int) (E_ : Env) (W_ : World) => E_ = [(0, .slice A0 l0.length c0), (3, .pointer (some ⟨b2, 0, none⟩)), (7, vi (l0.length : Int)), (8, vi i10)] ∧ St (fun _ => True) w W_ [boxM b2 #[vi x1.f0, vi x1.f1] 54] [(cF k54 A0 l0)] []
 have X12 : ∀ E_ W_, (∃ i10, G6 (Sum.inr i10) = some r ∧ J11 i10 E_ W_) → ∀ a, Fits a 19 E_ → K4 a W_ := by
   rintro E_ w13 ⟨i10, H, rfl, HS⟩
   rw [hG7] at H
   (try dsimp only at H)
   refine hK4 _ _ ?_
   refine sr_ fun _ hK14 => ?_
   refine ad_ hK14 ?_
   obtain rfl := os H
   exact rt1 Try.f91 rfl rfl hR_ ⟨rfl, HS.b⟩
 clear hK4
 refine WC.loop (fun k_ E_ W_ => ∃ i10, (∃ o_, sM4.l0 l0 x1 k_ i10 = some o_ ∧ G6 o_ = some r) ∧ J11 i10 E_ W_) k ⟨0, ⟨_, H, Ho9⟩, rfl, HS⟩ (sb rfl) ?_
 rintro k_ E_ w16 ⟨i10, ⟨oc8, H, Ho9⟩, rfl, HS⟩
 rcases k_ with _ | k17
 · exact no_ H
 replace H : sM4.b0 l0 x1 (sM4.l0 l0 x1 k17) k17 i10 = some oc8 := H
 unfold sM4.b0 at H
 refine sr_ fun _ hK18 => ?_
 refine b_ bin_lss ?_
 refine dn_ hK18 (WC.seq fun _ hK19 => ?_)
 rcases eti_ H with ⟨c20, H⟩ | ⟨c20, H⟩
 · refine wn_ (dF c20) (WC.exit ?_)
   obtain rfl := os H
   exact wv_ iq X12 ⟨i10, Ho9, rfl, HS⟩
 refine wy_ (dT c20) (WC.skip (via_ hK19 (WC.seq fun _ hK21 => ?_)))
 refine WC.block (sr_ fun _ hK22 => ?_)
 refine mv_ ?_
 refine ad_ hK22 ?_
 refine WC.seq fun _ hK23 => ?_
 refine WC.drawS HS [] rfl rfl (fun w24 HS => ?_)
 have HB := Below.refl w24.heap.size w24
 have HSW := HS
 refine dm_ 1 ?_
 refine dm_ 2 ?_
 obtain ⟨⟨q25, q26⟩, H⟩ := if_some H
 obtain ⟨ad27, rfl⟩ := C_open (HS.getO 0 rfl) (by omega)
 refine di_ 3 underlying24 2 q25 q26 ?_
 refine dt_ 0 (Below.refl _ _) (fun w_ hw_ => Run.loadS (cs := [vi x1.f0, vi x1.f1]) rfl rfl underlying54 rfl (by kernel_rfl) (box_part ((HS.below hw_).mu 0 rfl) part_all)) ?_
 obtain ⟨e28, el29, HS⟩ := HS.elO 0 rfl (by decide) o54 i10 q25 q26
 refine dt_ 4 (Below.refl _ _) (fun w_ hw_ => Run.loadS (cs := [vi ((l0.getD i10.toNat o54).f0), vi ((l0.getD i10.toNat o54).f1)]) rfl rfl underlying54 rfl (by kernel_rfl) (cells_part ((HS.below hw_).getO 0 rfl).2 (part_cons (at54_0 (AtK.whole ((HS.below hw_).getO 0 rfl).1)).int (part_cons (at54_1 (AtK.whole ((HS.below hw_).getO 0 rfl).1)).int part_nil)))) ?_
 refine dp_ 5 (fun _ => Run.eqS rfl rfl rfl (by kernel_rfl) (eqs54 _ _ _ _ _)) ?_
 refine dd_ ?_
 clear HB HSW
 refine via_ hK23 ?_
 rcases eti_ H with ⟨c30, H⟩ | ⟨c30, H⟩
 · refine wn_ (bF c30) (WC.skip (via_ hK21 (rg_ (b_ bin_add64 ?_))))
   refine mv_ ?_
   refine WL.done ?_
   exact wr_ k17 iq ⟨(wrap64 (i10 + 1)), ⟨_, H, Ho9⟩, rfl, (St.pk HS [1] [] rfl rfl)⟩
 refine wy_ c30 ?_
 refine sr_ fun _ hK31 => ?_
 refine mv_ ?_
 refine ad_ hK31 ?_
 refine WC.ret ?_
 obtain rfl := os H
 rw [hG7] at Ho9
 replace H : some _ = some _ := Ho9
 obtain rfl := os H
 exact fin1 Try.f91 rfl rfl hR_ ⟨rfl, HS.b⟩
def sM5.g (k : Nat) (l0 : List S54) (x1 : S54) : Option Bool := ((sM4.g k l0 (⟨x1.f0, x1.f1⟩ : S54)).bind fun t5 => (some (decide (t5 ≥ 0))))
theorem sM5.runs (k : Nat) (A0 : Option Addr) (c0 : Nat) (l0 : List S54) (x1 : S54) (r : Bool) (w : World) (hr0 : k54.C w A0 l0.length l0) (hc0 : l0.length ≤ c0) (H : sM5.g k l0 x1 = some r) :
   Calls prog 74 #[.slice A0 l0.length c0, .agg #[vi x1.f0, vi x1.f1]] w fun e w' => e = .returned (.bool r) ∧ Below w.heap.size w w' := by
 unfold sM5.g at H
 have HS : St (fun _ => True) w w [] [(cF k54 A0 l0)] [] := St.start (foot_cons (foot_C h54 hr0) foot_nil)
 refine cw_ (n := 9) func74 fun R_ hR_ => ?_
 refine sr_ fun _ hK1 => ?_
 refine bo_ HS (fun b2 w3 hb2 HS => ?_)
 refine ad_ hK1 ?_
 refine sr_ fun _ hK4 => ?_
 refine mv_ ?_
 refine v_ (ls_ (HS.mu 0 rfl) underlying54 part_all) ?_
 obtain ⟨t5, ha6, H⟩ := bind_some H
 refine cs_ HS func91 (sM4.runs k A0 c0 l0 (⟨x1.f0, x1.f1⟩ : S54) t5 _ (HS.getO 0 rfl) hc0 ha6) (fun w7 HS => ?_)
 clear ha6
 refine b_ bin_geq ?_
 refine ad_ hK4 ?_
 obtain rfl := os H
 exact rt1 Try.f74 rfl rfl hR_ ⟨rfl, HS.b⟩
def sN.b0 (l0 : List Int) (rec_ : Int → Int → Option (Int × Int)) (k19 : Nat) (i9 : Int) (i10 : Int) : Option (Int × Int) := (if i10 < (l0.length : Int) then (if i10 < 4000 then (if 0 ≤ i10 ∧ i10 < (l0.length : Int) then (rec_ (Go.bits .and .i64 (wrap64 ((wrap64 ((wrap64 (i9 * 131)) + (wrap64 ((l0.getD i10.toNat 0))))) + 7)) 1073741823) (wrap64 (i10 + 1))) else none) else (some (i9, i10))) else (some (i9, i10)))
def sN.l0 (l0 : List Int) : Nat → Int → Int → Option (Int × Int)
 | 0, _, _ => none
 | k + 1, i9, i10 => sN.b0 l0 (sN.l0 l0 k) k i9 i10
def sN.g (k : Nat) (l0 : List Int) : Option S83 := ((sN.l0 l0 k (wrap64 (11201 + (l0.length : Int))) 0).bind (fun oc17 => (some (⟨l0, 0, oc17.1⟩ : S83))))
theorem sN.runs (k : Nat) (A0 : Option Addr) (c0 : Nat) (l0 : List Int) (r : S83) (w : World) (hr0 : kU.C w A0 l0.length l0) (hc0 : l0.length ≤ c0) (H : sN.g k l0 = some r) :
   Calls prog 12 #[.slice A0 l0.length c0] w fun e w' => ∃ (b0_ : Nat), e = .returned (.pointer (some ⟨b0_, 0, none⟩)) ∧ w.heap.size ≤ b0_ ∧ w'.heap[b0_]? = some (.cells #[.slice A0 l0.length c0, vi r.f1, vi r.f2] 83 (0, 0)) ∧ Below w.heap.size w w' := by
 unfold sN.g at H
 have HS : St (fun _ => True) w w [] [(cF kU A0 l0)] [] := St.start (foot_cons (foot_C (Kd.heap_int _) hr0) foot_nil)
 refine cw_ (n := 32) func12 fun R_ hR_ => ?_
 refine sr_ fun _ hK1 => ?_
 refine ad_ hK1 ?_
 refine sr_ fun _ hK2 => ?_
 refine mv_ ?_
 refine ln_ underlying22 ?_
 refine b_ bin_add64 ?_
 refine ad_ hK2 ?_
 refine WC.seq fun K3 hK3 => ?_
 refine sr_ fun _ hK4 => ?_
 refine ad_ hK4 ?_
 refine WC.block ?_
 obtain ⟨G5, hG6, oc7, H, Ho8⟩ := open_G H
 let J11 := fun (i9 : Int) (i10 : Int) (E_ : Env) (W_ : World) => E_ = [(0, .slice A0 l0.length c0), (3, vi i9), (4, vi i10)] ∧ St (fun _ => True) w W_ [] [(cF kU A0 l0)] []
 have X12 : ∀ E_ W_, (∃ i9 i10, G5 (i9, i10) = some r ∧ J11 i9 i10 E_ W_) → ∀ a, Fits a 32 E_ → K3 a W_ := by
   rintro E_ w13 ⟨i9, i10, H, rfl, HS⟩
   rw [hG6] at H
   (try dsimp only at H)
   refine hK3 _ _ ?_
   refine sr_ fun _ hK14 => ?_
   refine mv_ ?_
   refine mv_ ?_
   refine v_ (Run.build (cells := #[.slice A0 l0.length c0, vi 0, vi i9]) rfl [(0, .slice A0 l0.length c0), (2, vi i9)] ⟨⟨rfl, rfl⟩, ⟨⟨rfl, rfl⟩, trivial⟩⟩ (by kernel_rfl)) ?_
   refine bo_ HS (fun b15 w16 hb15 HS => ?_)
   refine ad_ hK14 ?_
   obtain rfl := os H
   exact rt1 Try.f12 rfl rfl hR_ ⟨_, rfl, hb15, (HS.mu 0 rfl), HS.b⟩
 clear hK3
 refine WC.loop (fun k_ E_ W_ => ∃ i9 i10, (∃ o_, sN.l0 l0 k_ i9 i10 = some o_ ∧ G5 o_ = some r) ∧ J11 i9 i10 E_ W_) k ⟨(wrap64 (11201 + (l0.length : Int))), 0, ⟨_, H, Ho8⟩, rfl, HS⟩ (sb rfl) ?_
 rintro k_ E_ w18 ⟨i9, i10, ⟨oc7, H, Ho8⟩, rfl, HS⟩
 rcases k_ with _ | k19
 · exact no_ H
 replace H : sN.b0 l0 (sN.l0 l0 k19) k19 i9 i10 = some oc7 := H
 unfold sN.b0 at H
 refine WC.seq fun _ hK20 => ?_
 refine sr_ fun _ hK21 => ?_
 refine mv_ ?_
 refine mv_ ?_
 refine ln_ underlying22 ?_
 refine b_ bin_lss ?_
 refine mv_ ?_
 rcases eti_ H with ⟨c22, H⟩ | ⟨c22, H⟩
 · refine off_ (c' := false) (dF c22) ?_
   refine off_ (c' := false) (dF c22) ?_
   refine v_ (Run.pickF rfl rfl (dF c22) rfl) ?_
   refine dn_ hK21 (wn_ rfl ?_)
   refine WC.exit ?_
   obtain rfl := os H
   exact wv_ iq X12 ⟨i9, i10, Ho8, rfl, HS⟩
 refine on_ (dT c22) (mv_ ?_)
 refine on_ (dT c22) (b_ bin_lss ?_)
 refine v_ (Run.pickT rfl rfl (dT c22) rfl) ?_
 refine dn_ hK21 ?_
 rcases eti_ H with ⟨c23, H⟩ | ⟨c23, H⟩
 · refine wn_ (dF c23) (WC.exit ?_)
   obtain rfl := os H
   exact wv_ iq X12 ⟨i9, i10, Ho8, rfl, HS⟩
 refine wy_ (dT c23) (WC.skip (via_ hK20 (WC.seq fun _ hK24 => ?_)))
 refine WC.block (rg_ (mv_ ?_))
 refine b_ bin_mul64 ?_
 refine mv_ ?_
 refine mv_ ?_
 obtain ⟨⟨q25, q26⟩, H⟩ := if_some H
 obtain ⟨ad27, rfl⟩ := C_open (HS.getO 0 rfl) (by omega)
 refine v_ (ia_ underlying22 1 q25 q26) ?_
 refine v_ (Run.load rfl rfl underlying5 rfl (int_cell (HS.getO 0 rfl) i10 q25 q26)) ?_
 refine v_ (Run.conv64 rfl underlying5 underlying3 rfl) ?_
 refine b_ bin_add64 ?_
 refine b_ bin_add64 ?_
 refine b_ bin_and ?_
 refine ad_ hK24 ?_
 refine rg_ (mv_ ?_)
 refine b_ bin_add64 ?_
 refine as_ ?_
 refine WL.done ?_
 exact wr_ k19 iq ⟨(Go.bits .and .i64 (wrap64 ((wrap64 ((wrap64 (i9 * 131)) + (wrap64 ((l0.getD i10.toNat 0))))) + 7)) 1073741823), (wrap64 (i10 + 1)), ⟨_, H, Ho8⟩, rfl, HS⟩
def sB2.g (k : Nat) (x0 : S83) : Option (Int × S83) := (if x0.f1 < (x0.f0.length : Int) then (if 0 ≤ x0.f1 ∧ x0.f1 < (x0.f0.length : Int) then (some (Go.bits .and .i64 (wrap64 ((Go.bits .and .i64 (Go.bits .xor .i64 ((wrap64 ((wrap64 (x0.f2 * 6364136223846793005)) + 1442695040888963407)) / 8589934592) ((wrap64 ((wrap64 (x0.f2 * 6364136223846793005)) + 1442695040888963407)) / 35184372088832)) 255) + (wrap64 ((x0.f0.getD x0.f1.toNat 0))))) 255, (⟨x0.f0, wrap64 (x0.f1 + 1), wrap64 ((wrap64 (x0.f2 * 6364136223846793005)) + 1442695040888963407)⟩ : S83))) else none) else (some (Go.bits .and .i64 (Go.bits .xor .i64 ((wrap64 ((wrap64 (x0.f2 * 6364136223846793005)) + 1442695040888963407)) / 8589934592) ((wrap64 ((wrap64 (x0.f2 * 6364136223846793005)) + 1442695040888963407)) / 35184372088832)) 255, (⟨x0.f0, x0.f1, wrap64 ((wrap64 (x0.f2 * 6364136223846793005)) + 1442695040888963407)⟩ : S83))))
theorem sB2.runs (k : Nat) (b0 : Nat) (x0 : S83) (A0_0 : Option Addr) (c0_0 : Nat) (bs_ : List Nat) (r1 : Int) (y_ : S83) (w0 w : World) (hB_ : Below w0.heap.size w0 w) (hn_ : (b0 :: bs_).Nodup) (hl_ : ∀ k, k ∈ b0 :: bs_ → w0.heap.size ≤ k ∧ k < w.heap.size) (hr0_0 : Foot (cF kU A0_0 x0.f0) w (fun k_ => k_ ∉ b0 :: bs_)) (hc0_0 : x0.f0.length ≤ c0_0) (hb0 : w.heap[b0]? = some (.cells #[.slice A0_0 x0.f0.length c0_0, vi x0.f1, vi x0.f2] 83 (0, 0))) (H : sB2.g k x0 = some (r1, y_)) :
   Calls prog 39 #[.pointer (some ⟨b0, 0, none⟩)] w fun e w' => e = .returned (vi r1) ∧ w'.heap[b0]? = some (.cells #[.slice A0_0 x0.f0.length c0_0, vi y_.f1, vi y_.f2] 83 (0, 0)) ∧ RestOf w w' b0 ∧ Below w0.heap.size w0 w' := by
 unfold sB2.g at H
 have HS : St (fun _ => True) w0 w [boxM b0 #[.slice A0_0 x0.f0.length c0_0, vi x0.f1, vi x0.f2] 83, keepM w bs_] [(frameF w b0 bs_), (cF kU A0_0 x0.f0)] [] := St.startM hB_ hn_ hl_ hb0 (foot_cons hr0_0 foot_nil)
 refine cw_ (n := 58) func39 fun R_ hR_ => ?_
 refine sr_ fun _ hK1 => ?_
 refine ad_ hK1 ?_
 refine sr_ fun _ hK2 => ?_
 refine mv_ ?_
 refine mv_ ?_
 refine v_ (Run.nilCheck rfl rfl) ?_
 refine v_ (fa_ underlying83) ?_
 refine v_ (lb_ (HS.mu 0 rfl) underlying3 rfl) ?_
 refine b_ bin_mul64 ?_
 refine b_ bin_add64 ?_
 refine v_ (Run.nilCheck rfl rfl) ?_
 refine v_ (fa_ underlying83) ?_
 refine WL.store HS 0 rfl rfl rfl rfl rfl rfl rfl (by kernel_rfl) (ble_ rfl) (cs' := #[.slice A0_0 x0.f0.length c0_0, vi x0.f1, vi (wrap64 ((wrap64 (x0.f2 * 6364136223846793005)) + 1442695040888963407))]) (by kernel_rfl) (fun w3 HS => ?_)
 dsimp only [List.set] at HS
 refine dn_ hK2 (WC.seq fun _ hK4 => ?_)
 refine WC.drawS HS [] rfl rfl (fun w5 HS => ?_)
 have HB := Below.refl w5.heap.size w5
 have HSW := HS
 refine dm_ 0 ?_
 refine dp_ 1 (fun _ => Run.nilCheck rfl rfl) ?_
 refine df_ 2 underlying83 ?_
 refine dm_ 5 ?_
 refine dp_ 6 (fun _ => Run.nilCheck rfl rfl) ?_
 refine df_ 7 underlying83 ?_
 refine bl_ 3 HS (Below.refl _ _) 0 underlying3 rfl ?_
 refine dp_ 4 (fun _ => Run.shr (k := .i64) (j := 33) rfl rfl rfl 8589934592 (by decide) (by decide)) ?_
 refine bl_ 8 HS (Below.refl _ _) 0 underlying3 rfl ?_
 refine dp_ 9 (fun _ => Run.shr (k := .i64) (j := 45) rfl rfl rfl 35184372088832 (by decide) (by decide)) ?_
 refine dp_ 10 (fun _ => Run.bin rfl rfl rfl bin_xor) ?_
 refine dp_ 11 (fun _ => Run.bin rfl rfl rfl bin_and) ?_
 refine dp_ 12 (fun _ => Run.assign rfl rfl) ?_
 refine dd_ ?_
 clear HB HSW
 refine via_ hK4 (WC.seq fun _ hK6 => ?_)
 refine WC.seq fun _ hK7 => ?_
 refine WC.drawS HS [] rfl rfl (fun w8 HS => ?_)
 have HB := Below.refl w8.heap.size w8
 have HSW := HS
 refine dm_ 0 ?_
 refine dp_ 1 (fun _ => Run.nilCheck rfl rfl) ?_
 refine df_ 2 underlying83 ?_
 refine dm_ 4 ?_
 refine dp_ 5 (fun _ => Run.nilCheck rfl rfl) ?_
 refine df_ 6 underlying83 ?_
 refine bl_ 3 HS (Below.refl _ _) 0 underlying3 rfl ?_
 refine bl_ 7 HS (Below.refl _ _) 0 underlying22 rfl ?_
 refine dp_ 8 (fun _ => Run.len (ts := #[]) rfl underlying22 rfl) ?_
 refine dp_ 9 (fun _ => Run.bin rfl rfl rfl bin_lss) ?_
 refine dd_ ?_
 clear HB HSW
 refine via_ hK7 ?_
 rcases eti_ H with ⟨c9, H⟩ | ⟨c9, H⟩
 · refine wn_ (dF c9) (WC.skip (via_ hK6 (sr_ fun _ hK17 => ?_)))
   refine mv_ ?_
   refine ad_ hK17 ?_
   refine WC.ret ?_
   obtain ⟨rfl, rfl⟩ := Prod.mk.inj (os H)
   have HSf := HS
   exact fin1 Try.f39 rfl rfl hR_ ⟨rfl, (HSf.mu 0 rfl), (rest_of (HSf.getO 0 rfl) (HSf.mu 1 rfl)), HSf.b⟩
 refine wy_ (dT c9) (WC.seq fun _ hK10 => ?_)
 refine WC.drawS HS [] rfl rfl (fun w11 HS => ?_)
 have HB := Below.refl w11.heap.size w11
 have HSW := HS
 refine dm_ 0 ?_
 refine dm_ 1 ?_
 refine dp_ 2 (fun _ => Run.nilCheck rfl rfl) ?_
 refine df_ 3 underlying83 ?_
 refine dm_ 5 ?_
 refine dp_ 6 (fun _ => Run.nilCheck rfl rfl) ?_
 refine df_ 7 underlying83 ?_
 refine bl_ 4 HS (Below.refl _ _) 0 underlying22 rfl ?_
 refine bl_ 8 HS (Below.refl _ _) 0 underlying3 rfl ?_
 obtain ⟨⟨q12, q13⟩, H⟩ := if_some H
 obtain ⟨ad14, rfl⟩ := C_open (HS.getO 1 rfl) (by omega)
 refine di_ 9 underlying22 1 q12 q13 ?_
 refine dt_ 10 (Below.refl _ _) (fun w_ hw_ => Run.load rfl rfl underlying5 rfl (int_cell ((HS.below hw_).getO 1 rfl) x0.f1 q12 q13)) ?_
 refine dp_ 11 (fun _ => Run.conv64 rfl underlying5 underlying3 rfl) ?_
 refine dp_ 12 (fun _ => Run.bin rfl rfl rfl bin_add64) ?_
 refine dp_ 13 (fun _ => Run.bin rfl rfl rfl bin_and) ?_
 refine dp_ 14 (fun _ => Run.assign rfl rfl) ?_
 refine dd_ ?_
 clear HB HSW
 refine via_ hK10 (rg_ (mv_ ?_))
 refine mv_ ?_
 refine v_ (Run.nilCheck rfl rfl) ?_
 refine v_ (fa_ underlying83) ?_
 refine v_ (lb_ (HS.mu 0 rfl) underlying3 rfl) ?_
 refine b_ bin_add64 ?_
 refine v_ (Run.nilCheck rfl rfl) ?_
 refine v_ (fa_ underlying83) ?_
 refine WL.store HS 0 rfl rfl rfl rfl rfl rfl rfl (by kernel_rfl) (ble_ rfl) (cs' := #[.slice (some ad14) x0.f0.length c0_0, vi (wrap64 (x0.f1 + 1)), vi (wrap64 ((wrap64 (x0.f2 * 6364136223846793005)) + 1442695040888963407))]) (by kernel_rfl) (fun w15 HS => ?_)
 dsimp only [List.set] at HS
 refine dn_ hK6 (sr_ fun _ hK16 => ?_)
 refine mv_ ?_
 refine ad_ hK16 ?_
 refine WC.ret ?_
 obtain ⟨rfl, rfl⟩ := Prod.mk.inj (os H)
 have HSf := HS
 exact fin1 Try.f39 rfl rfl hR_ ⟨rfl, (HSf.mu 0 rfl), (rest_of (HSf.getO 0 rfl) (HSf.mu 1 rfl)), HSf.b⟩
def sB.g (k : Nat) (x0 : S83) (a1 : Int) : Option (Int × S83) := (if a1 ≤ 0 then (some (0, (⟨x0.f0, x0.f1, x0.f2⟩ : S83))) else (if a1 ≤ 256 then ((sB2.g k (⟨x0.f0, x0.f1, x0.f2⟩ : S83)).bind fun t10 => (if a1 ≠ 0 then (some (Int.tmod t10.1 a1, (⟨x0.f0, t10.2.f1, t10.2.f2⟩ : S83))) else none)) else ((sB2.g k (⟨x0.f0, x0.f1, x0.f2⟩ : S83)).bind fun t15 => ((sB2.g k (⟨x0.f0, t15.2.f1, t15.2.f2⟩ : S83)).bind fun t19 => ((sB2.g k (⟨x0.f0, t19.2.f1, t19.2.f2⟩ : S83)).bind fun t23 => ((sB2.g k (⟨x0.f0, t23.2.f1, t23.2.f2⟩ : S83)).bind fun t27 => (if a1 ≠ 0 then (some (Int.tmod (wrap64 ((wrap64 ((wrap64 ((wrap64 (t15.1 * 16777216)) + (wrap64 (t19.1 * 65536)))) + (wrap64 (t23.1 * 256)))) + t27.1)) a1, (⟨x0.f0, t27.2.f1, t27.2.f2⟩ : S83))) else none)))))))
theorem sB.runs (k : Nat) (b0 : Nat) (x0 : S83) (A0_0 : Option Addr) (c0_0 : Nat) (a1 : Int) (bs_ : List Nat) (r1 : Int) (y_ : S83) (w0 w : World) (hB_ : Below w0.heap.size w0 w) (hn_ : (b0 :: bs_).Nodup) (hl_ : ∀ k, k ∈ b0 :: bs_ → w0.heap.size ≤ k ∧ k < w.heap.size) (hr0_0 : Foot (cF kU A0_0 x0.f0) w (fun k_ => k_ ∉ b0 :: bs_)) (hc0_0 : x0.f0.length ≤ c0_0) (hb0 : w.heap[b0]? = some (.cells #[.slice A0_0 x0.f0.length c0_0, vi x0.f1, vi x0.f2] 83 (0, 0))) (H : sB.g k x0 a1 = some (r1, y_)) :
   Calls prog 14 #[.pointer (some ⟨b0, 0, none⟩), vi a1] w fun e w' => e = .returned (vi r1) ∧ w'.heap[b0]? = some (.cells #[.slice A0_0 x0.f0.length c0_0, vi y_.f1, vi y_.f2] 83 (0, 0)) ∧ RestOf w w' b0 ∧ Below w0.heap.size w0 w' := by
 unfold sB.g at H
 have HS : St (fun _ => True) w0 w [boxM b0 #[.slice A0_0 x0.f0.length c0_0, vi x0.f1, vi x0.f2] 83, keepM w bs_] [(frameF w b0 bs_), (cF kU A0_0 x0.f0)] [] := St.startM hB_ hn_ hl_ hb0 (foot_cons hr0_0 foot_nil)
 refine cw_ (n := 37) func14 fun R_ hR_ => ?_
 refine sr_ fun _ hK1 => ?_
 refine ad_ hK1 ?_
 refine WC.seq fun _ hK2 => ?_
 refine sr_ fun _ hK3 => ?_
 refine mv_ ?_
 refine b_ bin_leq ?_
 refine dn_ hK3 ?_
 rcases ite_ H with ⟨c4, H⟩ | ⟨c4, H⟩
 · refine wy_ (dT c4) (sr_ fun _ hK5 => ?_)
   refine ad_ hK5 ?_
   refine WC.ret ?_
   obtain ⟨rfl, rfl⟩ := Prod.mk.inj (os H)
   have HSf := HS
   exact fin1 Try.f14 rfl rfl hR_ ⟨rfl, (HSf.mu 0 rfl), (rest_of (HSf.getO 0 rfl) (HSf.mu 1 rfl)), HSf.b⟩
 refine wn_ (dF c4) (WC.skip (via_ hK2 (WC.seq fun _ hK6 => ?_)))
 refine sr_ fun _ hK7 => ?_
 refine mv_ ?_
 refine b_ bin_leq ?_
 refine dn_ hK7 ?_
 rcases ite_ H with ⟨c8, H⟩ | ⟨c8, H⟩
 · refine wy_ (dT c8) (sr_ fun _ hK9 => ?_)
   refine mv_ ?_
   obtain ⟨t10, ha11, H⟩ := bind_some H
   refine c_ func39 (sB2.runs k b0 (⟨x0.f0, x0.f1, x0.f2⟩ : S83) A0_0 c0_0 _ t10.1 t10.2 _ _ HS.b (HS.nodupM 0 rfl) (HS.boundM 0 rfl) (HS.footOM 0 rfl 1 rfl) hc0_0 (HS.mu 0 rfl) ha11) ?_
   clear ha11
   rintro _ w12 ⟨rfl, hbx_, hrest_, hB1_⟩
   replace HS := HS.calledM 0 rfl hB1_ hrest_ hbx_
   dsimp only [List.set] at HS
   clear hB1_ hrest_ hbx_
   refine ⟨_, rfl, ?_⟩
   refine mv_ ?_
   obtain ⟨z13, H⟩ := if_some H
   refine b_ (bin_rem z13) ?_
   refine ad_ hK9 ?_
   refine WC.ret ?_
   obtain ⟨rfl, rfl⟩ := Prod.mk.inj (os H)
   have HSf := HS
   exact fin1 Try.f14 rfl rfl hR_ ⟨rfl, (HSf.mu 0 rfl), (rest_of (HSf.getO 0 rfl) (HSf.mu 1 rfl)), HSf.b⟩
 refine wn_ (dF c8) (WC.skip (via_ hK6 (sr_ fun _ hK14 => ?_)))
 refine mv_ ?_
 obtain ⟨t15, ha16, H⟩ := bind_some H
 refine c_ func39 (sB2.runs k b0 (⟨x0.f0, x0.f1, x0.f2⟩ : S83) A0_0 c0_0 _ t15.1 t15.2 _ _ HS.b (HS.nodupM 0 rfl) (HS.boundM 0 rfl) (HS.footOM 0 rfl 1 rfl) hc0_0 (HS.mu 0 rfl) ha16) ?_
 clear ha16
 rintro _ w17 ⟨rfl, hbx_, hrest_, hB1_⟩
 replace HS := HS.calledM 0 rfl hB1_ hrest_ hbx_
 dsimp only [List.set] at HS
 clear hB1_ hrest_ hbx_
 refine ⟨_, rfl, ?_⟩
 refine ad_ hK14 ?_
 refine sr_ fun _ hK18 => ?_
 refine mv_ ?_
 obtain ⟨t19, ha20, H⟩ := bind_some H
 refine c_ func39 (sB2.runs k b0 (⟨x0.f0, t15.2.f1, t15.2.f2⟩ : S83) A0_0 c0_0 _ t19.1 t19.2 _ _ HS.b (HS.nodupM 0 rfl) (HS.boundM 0 rfl) (HS.footOM 0 rfl 1 rfl) hc0_0 (HS.mu 0 rfl) ha20) ?_
 clear ha20
 rintro _ w21 ⟨rfl, hbx_, hrest_, hB1_⟩
 replace HS := HS.calledM 0 rfl hB1_ hrest_ hbx_
 dsimp only [List.set] at HS
 clear hB1_ hrest_ hbx_
 refine ⟨_, rfl, ?_⟩
 refine ad_ hK18 ?_
 refine sr_ fun _ hK22 => ?_
 refine mv_ ?_
 obtain ⟨t23, ha24, H⟩ := bind_some H
 refine c_ func39 (sB2.runs k b0 (⟨x0.f0, t19.2.f1, t19.2.f2⟩ : S83) A0_0 c0_0 _ t23.1 t23.2 _ _ HS.b (HS.nodupM 0 rfl) (HS.boundM 0 rfl) (HS.footOM 0 rfl 1 rfl) hc0_0 (HS.mu 0 rfl) ha24) ?_
 clear ha24
 rintro _ w25 ⟨rfl, hbx_, hrest_, hB1_⟩
 replace HS := HS.calledM 0 rfl hB1_ hrest_ hbx_
 dsimp only [List.set] at HS
 clear hB1_ hrest_ hbx_
 refine ⟨_, rfl, ?_⟩
 refine ad_ hK22 ?_
 refine sr_ fun _ hK26 => ?_
 refine mv_ ?_
 obtain ⟨t27, ha28, H⟩ := bind_some H
 refine c_ func39 (sB2.runs k b0 (⟨x0.f0, t23.2.f1, t23.2.f2⟩ : S83) A0_0 c0_0 _ t27.1 t27.2 _ _ HS.b (HS.nodupM 0 rfl) (HS.boundM 0 rfl) (HS.footOM 0 rfl 1 rfl) hc0_0 (HS.mu 0 rfl) ha28) ?_
 clear ha28
 rintro _ w29 ⟨rfl, hbx_, hrest_, hB1_⟩
 replace HS := HS.calledM 0 rfl hB1_ hrest_ hbx_
 dsimp only [List.set] at HS
 clear hB1_ hrest_ hbx_
 refine ⟨_, rfl, ?_⟩
 refine ad_ hK26 ?_
 refine sr_ fun _ hK30 => ?_
 refine mv_ ?_
 refine b_ bin_mul64 ?_
 refine mv_ ?_
 refine b_ bin_mul64 ?_
 refine b_ bin_add64 ?_
 refine mv_ ?_
 refine b_ bin_mul64 ?_
 refine b_ bin_add64 ?_
 refine mv_ ?_
 refine b_ bin_add64 ?_
 refine mv_ ?_
 obtain ⟨z31, H⟩ := if_some H
 refine b_ (bin_rem z31) ?_
 refine ad_ hK30 ?_
 refine WC.ret ?_
 obtain ⟨rfl, rfl⟩ := Prod.mk.inj (os H)
 have HSf := HS
 exact fin1 Try.f14 rfl rfl hR_ ⟨rfl, (HSf.mu 0 rfl), (rest_of (HSf.getO 0 rfl) (HSf.mu 1 rfl)), HSf.b⟩
def spec_l01Once.g (k : Nat) (x0 : S83) (a1 : Int) : Option (Bool × S83) := ((sB.g k (⟨x0.f0, x0.f1, x0.f2⟩ : S83) a1).bind fun t3 => (some (t3.1 == 0, (⟨x0.f0, t3.2.f1, t3.2.f2⟩ : S83))))
theorem spec_l01Once.runs (k : Nat) (b0 : Nat) (x0 : S83) (A0_0 : Option Addr) (c0_0 : Nat) (a1 : Int) (bs_ : List Nat) (r1 : Bool) (y_ : S83) (w0 w : World) (hB_ : Below w0.heap.size w0 w) (hn_ : (b0 :: bs_).Nodup) (hl_ : ∀ k, k ∈ b0 :: bs_ → w0.heap.size ≤ k ∧ k < w.heap.size) (hr0_0 : Foot (cF kU A0_0 x0.f0) w (fun k_ => k_ ∉ b0 :: bs_)) (hc0_0 : x0.f0.length ≤ c0_0) (hb0 : w.heap[b0]? = some (.cells #[.slice A0_0 x0.f0.length c0_0, vi x0.f1, vi x0.f2] 83 (0, 0))) (H : spec_l01Once.g k x0 a1 = some (r1, y_)) :
   Calls prog 72 #[.pointer (some ⟨b0, 0, none⟩), vi a1] w fun e w' => e = .returned (.bool r1) ∧ w'.heap[b0]? = some (.cells #[.slice A0_0 x0.f0.length c0_0, vi y_.f1, vi y_.f2] 83 (0, 0)) ∧ RestOf w w' b0 ∧ Below w0.heap.size w0 w' := by
 unfold spec_l01Once.g at H
 have HS : St (fun _ => True) w0 w [boxM b0 #[.slice A0_0 x0.f0.length c0_0, vi x0.f1, vi x0.f2] 83, keepM w bs_] [(frameF w b0 bs_), (cF kU A0_0 x0.f0)] [] := St.startM hB_ hn_ hl_ hb0 (foot_cons hr0_0 foot_nil)
 refine cw_ (n := 9) func72 fun R_ hR_ => ?_
 refine sr_ fun _ hK1 => ?_
 refine ad_ hK1 ?_
 refine sr_ fun _ hK2 => ?_
 refine mv_ ?_
 refine mv_ ?_
 obtain ⟨t3, ha4, H⟩ := bind_some H
 refine c_ func14 (sB.runs k b0 (⟨x0.f0, x0.f1, x0.f2⟩ : S83) A0_0 c0_0 a1 _ t3.1 t3.2 _ _ HS.b (HS.nodupM 0 rfl) (HS.boundM 0 rfl) (HS.footOM 0 rfl 1 rfl) hc0_0 (HS.mu 0 rfl) ha4) ?_
 clear ha4
 rintro _ w5 ⟨rfl, hbx_, hrest_, hB1_⟩
 replace HS := HS.calledM 0 rfl hB1_ hrest_ hbx_
 dsimp only [List.set] at HS
 clear hB1_ hrest_ hbx_
 refine ⟨_, rfl, ?_⟩
 refine b_ bin_eql ?_
 refine ad_ hK2 ?_
 refine WC.ret ?_
 obtain ⟨rfl, rfl⟩ := Prod.mk.inj (os H)
 have HSf := HS
 exact fin1 Try.f72 rfl rfl hR_ ⟨rfl, (HSf.mu 0 rfl), (rest_of (HSf.getO 0 rfl) (HSf.mu 1 rfl)), HSf.b⟩
def sS.b0 (x0 : S83) (a1 : Int) (rec_ : (List Int) → Int → Int → Int → Option ((List Int) × Int × Int × Int)) (k26 : Nat) (xs11 : List Int) (i14 : Int) (i15 : Int) (i16 : Int) : Option ((List Int) × Int × Int × Int) := (if i14 < a1 then ((sB.g k26 (⟨x0.f0, i15, i16⟩ : S83) 16).bind fun t31 => (if (xs11.length) < 4294967296 then (rec_ (xs11 ++ [wrap64 (t31.1 - 8)]) (wrap64 (i14 + 1)) t31.2.f1 t31.2.f2) else none)) else (some (xs11, i14, i15, i16)))
def sS.l0 (x0 : S83) (a1 : Int) : Nat → (List Int) → Int → Int → Int → Option ((List Int) × Int × Int × Int)
 | 0, _, _, _, _ => none
 | k + 1, xs11, i14, i15, i16 => sS.b0 x0 a1 (sS.l0 x0 a1 k) k xs11 i14 i15 i16
def sS.g (k : Nat) (x0 : S83) (a1 : Int) : Option ((List Int) × S83) := ((sS.l0 x0 a1 k ([] : List Int) 0 x0.f1 x0.f2).bind (fun oc24 => (some (oc24.1, (⟨x0.f0, oc24.2.2.1, oc24.2.2.2⟩ : S83)))))
theorem sS.runs (k : Nat) (b0 : Nat) (x0 : S83) (A0_0 : Option Addr) (c0_0 : Nat) (a1 : Int) (bs_ : List Nat) (r1 : List Int) (y_ : S83) (w0 w : World) (hB_ : Below w0.heap.size w0 w) (hn_ : (b0 :: bs_).Nodup) (hl_ : ∀ k, k ∈ b0 :: bs_ → w0.heap.size ≤ k ∧ k < w.heap.size) (hr0_0 : Foot (cF kU A0_0 x0.f0) w (fun k_ => k_ ∉ b0 :: bs_)) (hc0_0 : x0.f0.length ≤ c0_0) (hb0 : w.heap[b0]? = some (.cells #[.slice A0_0 x0.f0.length c0_0, vi x0.f1, vi x0.f2] 83 (0, 0))) (H : sS.g k x0 a1 = some (r1, y_)) :
   Calls prog 73 #[.pointer (some ⟨b0, 0, none⟩), vi a1] w fun e w' => ∃ (A0_ : Option Addr) (c0_ : Nat), e = .returned (.slice A0_ r1.length c0_) ∧ r1.length ≤ c0_ ∧ Foot (cF kI A0_ r1) w' (fun k_ => w0.heap.size ≤ k_ ∧ k_ ∉ b0 :: bs_) ∧ w'.heap[b0]? = some (.cells #[.slice A0_0 x0.f0.length c0_0, vi y_.f1, vi y_.f2] 83 (0, 0)) ∧ RestOf w w' b0 ∧ Below w0.heap.size w0 w' := by
 unfold sS.g at H
 have HS : St (fun _ => True) w0 w [boxM b0 #[.slice A0_0 x0.f0.length c0_0, vi x0.f1, vi x0.f2] 83, keepM w bs_] [(frameF w b0 bs_), (cF kU A0_0 x0.f0)] [] := St.startM hB_ hn_ hl_ hb0 (foot_cons hr0_0 foot_nil)
 refine cw_ (n := 20) func73 fun R_ hR_ => ?_
 refine sr_ fun _ hK1 => ?_
 refine ad_ hK1 ?_
 refine sr_ fun _ hK2 => ?_
 refine WL.lit0 HS rfl rfl (by decide) rfl underlying27 (sz := 1) (by kernel_rfl) (fun v3 w4 HS => ?_)
 replace HS := HS.deriveN (p := (rF kI ([] : List Int) [])) (fun _ _ => Reps.none _ _)
 refine ad_ hK2 ?_
 refine WC.seq fun K5 hK5 => ?_
 refine sr_ fun _ hK6 => ?_
 refine ad_ hK6 ?_
 refine WC.block ?_
 obtain ⟨G7, hG8, oc9, H, Ho10⟩ := open_G H
 let J17 := fun (xs11 : List Int) v12 I13 (i14 : Int) (i15 : Int) (i16 : Int) (E_ : Env) (W_ : World) => E_ = [(0, .pointer (some ⟨b0, 0, none⟩)), (1, vi a1), (5, v12), (6, vi i14)] ∧ St (fun _ => True) w0 W_ [rowM w0.heap.size 3 1 v12 xs11.length I13, boxM b0 #[.slice A0_0 x0.f0.length c0_0, vi i15, vi i16] 83, keepM w bs_] [(frameF w b0 bs_), (cF kU A0_0 x0.f0)] [(rF kI xs11 I13)]
 have X18 : ∀ E_ W_, (∃ xs11 v12 I13 i14 i15 i16, G7 (xs11, i14, i15, i16) = some (r1, y_) ∧ J17 xs11 v12 I13 i14 i15 i16 E_ W_) → ∀ a, Fits a 20 E_ → K5 a W_ := by
   rintro E_ w19 ⟨xs11, v12, I13, i14, i15, i16, H, rfl, HS⟩
   rw [hG8] at H
   (try dsimp only at H)
   refine hK5 _ _ ?_
   refine sr_ fun _ hK20 => ?_
   refine mv_ ?_
   refine ad_ hK20 ?_
   refine WC.ret ?_
   obtain ⟨A21, c22, rfl⟩ := row_slice (HS.mu 0 rfl)
   have le23 := row_le (HS.mu 0 rfl)
   replace HS := HS.freezeN 0 (p := (cF kI A21 (xs11))) rfl (fun W_ hm_ h_ => row_C (by rfl) hm_ h_.1)
   dsimp only [List.eraseIdx] at HS
   obtain ⟨rfl, rfl⟩ := Prod.mk.inj (os H)
   have HSf := HS
   exact fin1 Try.f73 rfl rfl hR_ ⟨_, _, rfl, le23, (foot_freshM (HSf.footN 0 rfl)), (HSf.mu 0 rfl), (rest_of (HSf.getO 0 rfl) (HSf.mu 1 rfl)), HSf.b⟩
 clear hK5
 refine WC.loop (fun k_ E_ W_ => ∃ xs11 v12 I13 i14 i15 i16, (∃ o_, sS.l0 x0 a1 k_ xs11 i14 i15 i16 = some o_ ∧ G7 o_ = some (r1, y_)) ∧ J17 xs11 v12 I13 i14 i15 i16 E_ W_) k ⟨([] : List Int), v3, ([]), 0, x0.f1, x0.f2, ⟨_, H, Ho10⟩, rfl, HS⟩ (sb rfl) ?_
 rintro k_ E_ w25 ⟨xs11, v12, I13, i14, i15, i16, ⟨oc9, H, Ho10⟩, rfl, HS⟩
 rcases k_ with _ | k26
 · exact no_ H
 replace H : sS.b0 x0 a1 (sS.l0 x0 a1 k26) k26 xs11 i14 i15 i16 = some oc9 := H
 unfold sS.b0 at H
 refine WC.seq fun _ hK27 => ?_
 refine sr_ fun _ hK28 => ?_
 refine mv_ ?_
 refine mv_ ?_
 refine b_ bin_lss ?_
 refine dn_ hK28 ?_
 rcases eti_ H with ⟨c29, H⟩ | ⟨c29, H⟩
 · refine wn_ (dF c29) (WC.exit ?_)
   obtain rfl := os H
   exact wv_ iq X18 ⟨xs11, v12, I13, i14, i15, i16, Ho10, rfl, HS⟩
 refine wy_ (dT c29) (WC.skip (via_ hK27 (WC.seq fun _ hK30 => ?_)))
 refine WC.block (rg_ (mv_ ?_))
 refine mv_ ?_
 obtain ⟨t31, ha32, H⟩ := bind_some H
 refine c_ func14 (sB.runs k26 b0 (⟨x0.f0, i15, i16⟩ : S83) A0_0 c0_0 16 _ t31.1 t31.2 _ _ HS.b (HS.nodupM 1 rfl) (HS.boundM 1 rfl) (HS.footOM 1 rfl 1 rfl) hc0_0 (HS.mu 1 rfl) ha32) ?_
 clear ha32
 rintro _ w33 ⟨rfl, hbx_, hrest_, hB1_⟩
 replace HS := HS.calledM 1 rfl hB1_ hrest_ hbx_
 dsimp only [List.set] at HS
 clear hB1_ hrest_ hbx_
 refine ⟨_, rfl, ?_⟩
 refine b_ bin_sub64 ?_
 refine WL.val rfl rfl (by decide) (Run.lit1 (z := (vi 0)) (vs := [vi (wrap64 (t31.1 - 8))]) rfl rfl rfl underlying27 (by kernel_rfl) (ble_ rfl) (ble_ rfl)) ?_
 have HS1 := HS.below (below_alloc (Below.refl _ _) (.cells #[vi (wrap64 (t31.1 - 8))] 3))
 obtain ⟨q34, H⟩ := if_some H
 refine WL.append HS1 0 rfl rfl rfl (by decide) rfl (vi 0) 8 underlying27 (by kernel_rfl) rfl (by decide) (by decide) rfl rfl [vi (wrap64 (t31.1 - 8))] rfl (lit_news _ _ _) (oneL rfl) (by omega) ((xs11 ++ [wrap64 (t31.1 - 8)]).length) (by simp) (fun v35 w36 I37 hI38 HS => ?_)
 dsimp only [List.set] at HS
 replace HS := HS.deriveN (p := (rF kI (xs11 ++ [wrap64 (t31.1 - 8)]) I37)) (fun W_ hN_ => reps_snoc hI38 hN_.1 (K_int _))
 clear HS1
 refine ad_ hK30 ?_
 refine rg_ (mv_ ?_)
 refine b_ bin_add64 ?_
 refine as_ ?_
 refine WL.done ?_
 exact wr_ k26 iq ⟨(xs11 ++ [wrap64 (t31.1 - 8)]), v35, I37, (wrap64 (i14 + 1)), t31.2.f1, t31.2.f2, ⟨_, H, Ho10⟩, rfl, (St.pk HS [0, 1] [0] rfl rfl)⟩
end Go.Proofs.Ytbdbadkinjbpcaa.PFnFiles
