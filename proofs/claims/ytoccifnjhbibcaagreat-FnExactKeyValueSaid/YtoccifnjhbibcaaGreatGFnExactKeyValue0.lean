/- Functions that the statement reaches, as Lean functions, and the proof that a call of each comes to just its answer; written by this claim's own program. No conditions. -/
import Derived.Test.YtoccifnjhbibcaaGreatPFnExactKeyValuex0
import Derived.Test.YtoccifnjhbibcaaGreatPFnExactKeyValuex1
import Derived.Test.YtoccifnjhbibcaaGreatPFnExactKeyValuex2
import Derived.Test.YtoccifnjhbibcaaGreatVFnExactKeyValue1
namespace Go.Proofs.YtoccifnjhbibcaaGreat.PFnExactKeyValue
open Tryz
open Go.RowKit Go.Proofs.YtoccifnjhbibcaaGreatW.PrintWords Go.Proofs.YtoccifnjhbibcaaGreatW.PrintLast Go.Proofs.YtoccifnjhbibcaaGreatW.PrintMore Go.Proofs.YtoccifnjhbibcaaGreat.XW Go.Proofs.YtoccifnjhbibcaaGreat.XOp Go.Proofs.YtoccifnjhbibcaaGreat.XSt Go.Proofs.YtoccifnjhbibcaaGreat.XDraw
set_option linter.unusedVariables false
set_option linter.unusedSimpArgs false
set_option maxHeartbeats 4000000
set_option maxRecDepth 20000
structure S30 where
 f0 : Int
 f1 : List (List Int)
 f2 : List (List Int)
 f3 : Int
 f4 : Int
abbrev kS3 := Kd.slice 3 kI
abbrev kS28 := Kd.slice 28 kS3
def k30 : Kd S30 := Kd.iso (Kd.pair kI (Kd.pair kS28 (Kd.pair kS28 (Kd.pair kI kI)))) (fun x : S30 => (x.f0, x.f1, x.f2, x.f3, x.f4))
theorem k30_mk (w : World) (x : S30) {A1 : Option Addr} {c1 : Nat} (l1 : x.f1.length ≤ c1) (g1 : kS3.C w A1 x.f1.length x.f1) {A2 : Option Addr} {c2 : Nat} (l2 : x.f2.length ≤ c2) (g2 : kS3.C w A2 x.f2.length x.f2) : k30.K w x [vi x.f0, .slice A1 x.f1.length c1, .slice A2 x.f2.length c2, vi x.f3, vi x.f4] := (pI (pS l1 g1 (pS l2 g2 (pI rfl))))
structure S32 where
 f0 : List (List Int)
 f1 : List (List Int)
def k32 : Kd S32 := Kd.iso (Kd.pair kS28 kS28) (fun x : S32 => (x.f0, x.f1))
structure S114 where
 f0 : Int
 f1 : Int
def k114 : Kd S114 := Kd.iso (Kd.pair kI kI) (fun x : S114 => (x.f0, x.f1))
theorem k114_mk (w : World) (x : S114)  : k114.K w x [vi x.f0, vi x.f1] := (pI rfl)
structure S118 where
 f0 : List Int
 f1 : S30
 f2 : S30
 f3 : S30
 f4 : S30
 f5 : List Int
 f6 : S30
 f7 : S30
def k118 : Kd S118 := Kd.iso (Kd.pair kS3 (Kd.pair k30 (Kd.pair k30 (Kd.pair k30 (Kd.pair k30 (Kd.pair kS3 (Kd.pair k30 k30))))))) (fun x : S118 => (x.f0, x.f1, x.f2, x.f3, x.f4, x.f5, x.f6, x.f7))
structure S34 where
 f0 : Int
 f1 : Int
 f2 : Int
 f3 : List S114
 f4 : List (List Int)
 f5 : List S118
 f6 : List Int
 f7 : S30
 f8 : S32
abbrev kS114 := Kd.slice 114 k114
abbrev kS118 := Kd.slice 118 k118
def k34 : Kd S34 := Kd.iso (Kd.pair kI (Kd.pair kI (Kd.pair kI (Kd.pair kS114 (Kd.pair kS28 (Kd.pair kS118 (Kd.pair kS3 (Kd.pair k30 k32)))))))) (fun x : S34 => (x.f0, x.f1, x.f2, x.f3, x.f4, x.f5, x.f6, x.f7, x.f8))
structure S44 where
 f0 : Int
 f1 : List (List Int)
 f2 : List (List Int)
 f3 : Int
 f4 : Int
def k44 : Kd S44 := Kd.iso (Kd.pair kI (Kd.pair kS28 (Kd.pair kS28 (Kd.pair kI kI)))) (fun x : S44 => (x.f0, x.f1, x.f2, x.f3, x.f4))
structure S45 where
 f0 : List (List Int)
 f1 : List (List Int)
def k45 : Kd S45 := Kd.iso (Kd.pair kS28 kS28) (fun x : S45 => (x.f0, x.f1))
structure S225 where
 f0 : Int
 f1 : Int
def k225 : Kd S225 := Kd.iso (Kd.pair kI kI) (fun x : S225 => (x.f0, x.f1))
structure S215 where
 f0 : List Int
 f1 : S44
 f2 : S44
 f3 : S44
 f4 : S44
 f5 : List Int
 f6 : S44
 f7 : S44
def k215 : Kd S215 := Kd.iso (Kd.pair kS3 (Kd.pair k44 (Kd.pair k44 (Kd.pair k44 (Kd.pair k44 (Kd.pair kS3 (Kd.pair k44 k44))))))) (fun x : S215 => (x.f0, x.f1, x.f2, x.f3, x.f4, x.f5, x.f6, x.f7))
structure S47 where
 f0 : Int
 f1 : Int
 f2 : Int
 f3 : List S225
 f4 : List (List Int)
 f5 : List S215
 f6 : List Int
 f7 : S44
 f8 : S45
abbrev kS225 := Kd.slice 225 k225
abbrev kS215 := Kd.slice 215 k215
def k47 : Kd S47 := Kd.iso (Kd.pair kI (Kd.pair kI (Kd.pair kI (Kd.pair kS225 (Kd.pair kS28 (Kd.pair kS215 (Kd.pair kS3 (Kd.pair k44 k45)))))))) (fun x : S47 => (x.f0, x.f1, x.f2, x.f3, x.f4, x.f5, x.f6, x.f7, x.f8))
structure S67 where
 f0 : Int
 f1 : List Int
def k67 : Kd S67 := Kd.iso (Kd.pair kI kS3) (fun x : S67 => (x.f0, x.f1))
theorem k67_mk (w : World) (x : S67) {A1 : Option Addr} {c1 : Nat} (l1 : x.f1.length ≤ c1) (g1 : kI.C w A1 x.f1.length x.f1) : k67.K w x [vi x.f0, .slice A1 x.f1.length c1] := (pI (lS l1 g1))
structure S148 where
 f0 : Int
 f1 : Int
structure S157 where
 f0 : S34
 f1 : Unit
def k157 : Kd S157 := Kd.iso (Kd.pair k34 kNil) (fun x : S157 => (x.f0, x.f1))
abbrev zz1 : Array Value := #[sn, vi 0, sn, sn, vi 0, vi 0, vi 0, sn, sn, vi 0, vi 0, vi 0, sn, sn, vi 0, vi 0, vi 0, sn, sn, vi 0, vi 0, sn, vi 0, sn, sn, vi 0, vi 0, vi 0, sn, sn, vi 0, vi 0]
abbrev zz2 : Array Value := #[vi 0, vi 0, vi 0, sn, sn, sn, sn, vi 0, sn, sn, vi 0, vi 0, sn, sn]
def o30 : S30 := ⟨0, [], [], 0, 0⟩
theorem h30 : Kd.Heap k30 := Kd.heap_iso _ (Kd.heap_pair (Kd.heap_int _) (Kd.heap_pair (Kd.heap_slice _ (Kd.heap_slice _ (Kd.heap_int _))) (Kd.heap_pair (Kd.heap_slice _ (Kd.heap_slice _ (Kd.heap_int _))) (Kd.heap_pair (Kd.heap_int _) (Kd.heap_int _)))))
theorem h32 : Kd.Heap k32 := Kd.heap_iso _ (Kd.heap_pair (Kd.heap_slice _ (Kd.heap_slice _ (Kd.heap_int _))) (Kd.heap_slice _ (Kd.heap_slice _ (Kd.heap_int _))))
def o114 : S114 := ⟨0, 0⟩
theorem h114 : Kd.Heap k114 := Kd.heap_iso _ (Kd.heap_pair (Kd.heap_int _) (Kd.heap_int _))
def o118 : S118 := ⟨[], o30, o30, o30, o30, [], o30, o30⟩
theorem h118 : Kd.Heap k118 := Kd.heap_iso _ (Kd.heap_pair (Kd.heap_slice _ (Kd.heap_int _)) (Kd.heap_pair h30 (Kd.heap_pair h30 (Kd.heap_pair h30 (Kd.heap_pair h30 (Kd.heap_pair (Kd.heap_slice _ (Kd.heap_int _)) (Kd.heap_pair h30 h30)))))))
theorem h34 : Kd.Heap k34 := Kd.heap_iso _ (Kd.heap_pair (Kd.heap_int _) (Kd.heap_pair (Kd.heap_int _) (Kd.heap_pair (Kd.heap_int _) (Kd.heap_pair (Kd.heap_slice _ h114) (Kd.heap_pair (Kd.heap_slice _ (Kd.heap_slice _ (Kd.heap_int _))) (Kd.heap_pair (Kd.heap_slice _ h118) (Kd.heap_pair (Kd.heap_slice _ (Kd.heap_int _)) (Kd.heap_pair h30 h32))))))))
def o44 : S44 := ⟨0, [], [], 0, 0⟩
theorem h44 : Kd.Heap k44 := Kd.heap_iso _ (Kd.heap_pair (Kd.heap_int _) (Kd.heap_pair (Kd.heap_slice _ (Kd.heap_slice _ (Kd.heap_int _))) (Kd.heap_pair (Kd.heap_slice _ (Kd.heap_slice _ (Kd.heap_int _))) (Kd.heap_pair (Kd.heap_int _) (Kd.heap_int _)))))
theorem h45 : Kd.Heap k45 := Kd.heap_iso _ (Kd.heap_pair (Kd.heap_slice _ (Kd.heap_slice _ (Kd.heap_int _))) (Kd.heap_slice _ (Kd.heap_slice _ (Kd.heap_int _))))
def o225 : S225 := ⟨0, 0⟩
theorem h225 : Kd.Heap k225 := Kd.heap_iso _ (Kd.heap_pair (Kd.heap_int _) (Kd.heap_int _))
def o215 : S215 := ⟨[], o44, o44, o44, o44, [], o44, o44⟩
theorem h215 : Kd.Heap k215 := Kd.heap_iso _ (Kd.heap_pair (Kd.heap_slice _ (Kd.heap_int _)) (Kd.heap_pair h44 (Kd.heap_pair h44 (Kd.heap_pair h44 (Kd.heap_pair h44 (Kd.heap_pair (Kd.heap_slice _ (Kd.heap_int _)) (Kd.heap_pair h44 h44)))))))
theorem h47 : Kd.Heap k47 := Kd.heap_iso _ (Kd.heap_pair (Kd.heap_int _) (Kd.heap_pair (Kd.heap_int _) (Kd.heap_pair (Kd.heap_int _) (Kd.heap_pair (Kd.heap_slice _ h225) (Kd.heap_pair (Kd.heap_slice _ (Kd.heap_slice _ (Kd.heap_int _))) (Kd.heap_pair (Kd.heap_slice _ h215) (Kd.heap_pair (Kd.heap_slice _ (Kd.heap_int _)) (Kd.heap_pair h44 h45))))))))
def o67 : S67 := ⟨0, []⟩
theorem h67 : Kd.Heap k67 := Kd.heap_iso _ (Kd.heap_pair (Kd.heap_int _) (Kd.heap_slice _ (Kd.heap_int _)))
theorem h157 : Kd.Heap k157 := Kd.heap_iso _ (Kd.heap_pair h34 hNil)
theorem at30_0 {w : World} {x : S30} {cs : List Value} (h : AtK k30 w x cs 0) : AtK kI w x.f0 cs 0 := h.iso.fst
theorem at30_1 {w : World} {x : S30} {cs : List Value} (h : AtK k30 w x cs 0) : AtK kS28 w x.f1 cs 1 := (h.iso.snd rfl).fst
theorem at30_2 {w : World} {x : S30} {cs : List Value} (h : AtK k30 w x cs 0) : AtK kS28 w x.f2 cs 2 := ((h.iso.snd rfl).snd rfl).fst
theorem at30_3 {w : World} {x : S30} {cs : List Value} (h : AtK k30 w x cs 0) : AtK kI w x.f3 cs 3 := (((h.iso.snd rfl).snd rfl).snd rfl).fst
theorem at30_4 {w : World} {x : S30} {cs : List Value} (h : AtK k30 w x cs 0) : AtK kI w x.f4 cs 4 := ((((h.iso.snd rfl).snd rfl).snd rfl).snd rfl)
theorem at34_0 {w : World} {x : S34} {cs : List Value} (h : AtK k34 w x cs 0) : AtK kI w x.f0 cs 0 := h.iso.fst
theorem at34_1 {w : World} {x : S34} {cs : List Value} (h : AtK k34 w x cs 0) : AtK kI w x.f1 cs 1 := (h.iso.snd rfl).fst
theorem at34_2 {w : World} {x : S34} {cs : List Value} (h : AtK k34 w x cs 0) : AtK kI w x.f2 cs 2 := ((h.iso.snd rfl).snd rfl).fst
theorem at34_3 {w : World} {x : S34} {cs : List Value} (h : AtK k34 w x cs 0) : AtK kS114 w x.f3 cs 3 := (((h.iso.snd rfl).snd rfl).snd rfl).fst
theorem at34_4 {w : World} {x : S34} {cs : List Value} (h : AtK k34 w x cs 0) : AtK kS28 w x.f4 cs 4 := ((((h.iso.snd rfl).snd rfl).snd rfl).snd rfl).fst
theorem at34_5 {w : World} {x : S34} {cs : List Value} (h : AtK k34 w x cs 0) : AtK kS118 w x.f5 cs 5 := (((((h.iso.snd rfl).snd rfl).snd rfl).snd rfl).snd rfl).fst
theorem at34_6 {w : World} {x : S34} {cs : List Value} (h : AtK k34 w x cs 0) : AtK kS3 w x.f6 cs 6 := ((((((h.iso.snd rfl).snd rfl).snd rfl).snd rfl).snd rfl).snd rfl).fst
theorem at34_7 {w : World} {x : S34} {cs : List Value} (h : AtK k34 w x cs 0) : AtK kI w x.f7.f0 cs 7 := (((((((h.iso.snd rfl).snd rfl).snd rfl).snd rfl).snd rfl).snd rfl).snd rfl).fst.iso.fst
theorem at34_8 {w : World} {x : S34} {cs : List Value} (h : AtK k34 w x cs 0) : AtK kS28 w x.f7.f1 cs 8 := ((((((((h.iso.snd rfl).snd rfl).snd rfl).snd rfl).snd rfl).snd rfl).snd rfl).fst.iso.snd rfl).fst
theorem at34_9 {w : World} {x : S34} {cs : List Value} (h : AtK k34 w x cs 0) : AtK kS28 w x.f7.f2 cs 9 := (((((((((h.iso.snd rfl).snd rfl).snd rfl).snd rfl).snd rfl).snd rfl).snd rfl).fst.iso.snd rfl).snd rfl).fst
theorem at34_10 {w : World} {x : S34} {cs : List Value} (h : AtK k34 w x cs 0) : AtK kI w x.f7.f3 cs 10 := ((((((((((h.iso.snd rfl).snd rfl).snd rfl).snd rfl).snd rfl).snd rfl).snd rfl).fst.iso.snd rfl).snd rfl).snd rfl).fst
theorem at34_11 {w : World} {x : S34} {cs : List Value} (h : AtK k34 w x cs 0) : AtK kI w x.f7.f4 cs 11 := (((((((((((h.iso.snd rfl).snd rfl).snd rfl).snd rfl).snd rfl).snd rfl).snd rfl).fst.iso.snd rfl).snd rfl).snd rfl).snd rfl)
theorem at34_12 {w : World} {x : S34} {cs : List Value} (h : AtK k34 w x cs 0) : AtK kS28 w x.f8.f0 cs 12 := ((((((((h.iso.snd rfl).snd rfl).snd rfl).snd rfl).snd rfl).snd rfl).snd rfl).snd rfl).iso.fst
theorem at34_13 {w : World} {x : S34} {cs : List Value} (h : AtK k34 w x cs 0) : AtK kS28 w x.f8.f1 cs 13 := (((((((((h.iso.snd rfl).snd rfl).snd rfl).snd rfl).snd rfl).snd rfl).snd rfl).snd rfl).iso.snd rfl)
theorem at47_0 {w : World} {x : S47} {cs : List Value} (h : AtK k47 w x cs 0) : AtK kI w x.f0 cs 0 := h.iso.fst
theorem at47_1 {w : World} {x : S47} {cs : List Value} (h : AtK k47 w x cs 0) : AtK kI w x.f1 cs 1 := (h.iso.snd rfl).fst
theorem at47_2 {w : World} {x : S47} {cs : List Value} (h : AtK k47 w x cs 0) : AtK kI w x.f2 cs 2 := ((h.iso.snd rfl).snd rfl).fst
theorem at47_3 {w : World} {x : S47} {cs : List Value} (h : AtK k47 w x cs 0) : AtK kS225 w x.f3 cs 3 := (((h.iso.snd rfl).snd rfl).snd rfl).fst
theorem at47_4 {w : World} {x : S47} {cs : List Value} (h : AtK k47 w x cs 0) : AtK kS28 w x.f4 cs 4 := ((((h.iso.snd rfl).snd rfl).snd rfl).snd rfl).fst
theorem at47_5 {w : World} {x : S47} {cs : List Value} (h : AtK k47 w x cs 0) : AtK kS215 w x.f5 cs 5 := (((((h.iso.snd rfl).snd rfl).snd rfl).snd rfl).snd rfl).fst
theorem at47_6 {w : World} {x : S47} {cs : List Value} (h : AtK k47 w x cs 0) : AtK kS3 w x.f6 cs 6 := ((((((h.iso.snd rfl).snd rfl).snd rfl).snd rfl).snd rfl).snd rfl).fst
theorem at47_7 {w : World} {x : S47} {cs : List Value} (h : AtK k47 w x cs 0) : AtK kI w x.f7.f0 cs 7 := (((((((h.iso.snd rfl).snd rfl).snd rfl).snd rfl).snd rfl).snd rfl).snd rfl).fst.iso.fst
theorem at47_8 {w : World} {x : S47} {cs : List Value} (h : AtK k47 w x cs 0) : AtK kS28 w x.f7.f1 cs 8 := ((((((((h.iso.snd rfl).snd rfl).snd rfl).snd rfl).snd rfl).snd rfl).snd rfl).fst.iso.snd rfl).fst
theorem at47_9 {w : World} {x : S47} {cs : List Value} (h : AtK k47 w x cs 0) : AtK kS28 w x.f7.f2 cs 9 := (((((((((h.iso.snd rfl).snd rfl).snd rfl).snd rfl).snd rfl).snd rfl).snd rfl).fst.iso.snd rfl).snd rfl).fst
theorem at47_10 {w : World} {x : S47} {cs : List Value} (h : AtK k47 w x cs 0) : AtK kI w x.f7.f3 cs 10 := ((((((((((h.iso.snd rfl).snd rfl).snd rfl).snd rfl).snd rfl).snd rfl).snd rfl).fst.iso.snd rfl).snd rfl).snd rfl).fst
theorem at47_11 {w : World} {x : S47} {cs : List Value} (h : AtK k47 w x cs 0) : AtK kI w x.f7.f4 cs 11 := (((((((((((h.iso.snd rfl).snd rfl).snd rfl).snd rfl).snd rfl).snd rfl).snd rfl).fst.iso.snd rfl).snd rfl).snd rfl).snd rfl)
theorem at47_12 {w : World} {x : S47} {cs : List Value} (h : AtK k47 w x cs 0) : AtK kS28 w x.f8.f0 cs 12 := ((((((((h.iso.snd rfl).snd rfl).snd rfl).snd rfl).snd rfl).snd rfl).snd rfl).snd rfl).iso.fst
theorem at47_13 {w : World} {x : S47} {cs : List Value} (h : AtK k47 w x cs 0) : AtK kS28 w x.f8.f1 cs 13 := (((((((((h.iso.snd rfl).snd rfl).snd rfl).snd rfl).snd rfl).snd rfl).snd rfl).snd rfl).iso.snd rfl)
theorem at67_0 {w : World} {x : S67} {cs : List Value} (h : AtK k67 w x cs 0) : AtK kI w x.f0 cs 0 := h.iso.fst
theorem at67_1 {w : World} {x : S67} {cs : List Value} (h : AtK k67 w x cs 0) : AtK kS3 w x.f1 cs 1 := (h.iso.snd rfl)
theorem at114_0 {w : World} {x : S114} {cs : List Value} (h : AtK k114 w x cs 0) : AtK kI w x.f0 cs 0 := h.iso.fst
theorem at114_1 {w : World} {x : S114} {cs : List Value} (h : AtK k114 w x cs 0) : AtK kI w x.f1 cs 1 := (h.iso.snd rfl)
theorem at118_0 {w : World} {x : S118} {cs : List Value} (h : AtK k118 w x cs 0) : AtK kS3 w x.f0 cs 0 := h.iso.fst
theorem at118_1 {w : World} {x : S118} {cs : List Value} (h : AtK k118 w x cs 0) : AtK kI w x.f1.f0 cs 1 := (h.iso.snd rfl).fst.iso.fst
theorem at118_2 {w : World} {x : S118} {cs : List Value} (h : AtK k118 w x cs 0) : AtK kS28 w x.f1.f1 cs 2 := ((h.iso.snd rfl).fst.iso.snd rfl).fst
theorem at118_3 {w : World} {x : S118} {cs : List Value} (h : AtK k118 w x cs 0) : AtK kS28 w x.f1.f2 cs 3 := (((h.iso.snd rfl).fst.iso.snd rfl).snd rfl).fst
theorem at118_4 {w : World} {x : S118} {cs : List Value} (h : AtK k118 w x cs 0) : AtK kI w x.f1.f3 cs 4 := ((((h.iso.snd rfl).fst.iso.snd rfl).snd rfl).snd rfl).fst
theorem at118_5 {w : World} {x : S118} {cs : List Value} (h : AtK k118 w x cs 0) : AtK kI w x.f1.f4 cs 5 := (((((h.iso.snd rfl).fst.iso.snd rfl).snd rfl).snd rfl).snd rfl)
theorem at118_6 {w : World} {x : S118} {cs : List Value} (h : AtK k118 w x cs 0) : AtK kI w x.f2.f0 cs 6 := ((h.iso.snd rfl).snd rfl).fst.iso.fst
theorem at118_7 {w : World} {x : S118} {cs : List Value} (h : AtK k118 w x cs 0) : AtK kS28 w x.f2.f1 cs 7 := (((h.iso.snd rfl).snd rfl).fst.iso.snd rfl).fst
theorem at118_8 {w : World} {x : S118} {cs : List Value} (h : AtK k118 w x cs 0) : AtK kS28 w x.f2.f2 cs 8 := ((((h.iso.snd rfl).snd rfl).fst.iso.snd rfl).snd rfl).fst
theorem at118_9 {w : World} {x : S118} {cs : List Value} (h : AtK k118 w x cs 0) : AtK kI w x.f2.f3 cs 9 := (((((h.iso.snd rfl).snd rfl).fst.iso.snd rfl).snd rfl).snd rfl).fst
theorem at118_10 {w : World} {x : S118} {cs : List Value} (h : AtK k118 w x cs 0) : AtK kI w x.f2.f4 cs 10 := ((((((h.iso.snd rfl).snd rfl).fst.iso.snd rfl).snd rfl).snd rfl).snd rfl)
theorem at118_11 {w : World} {x : S118} {cs : List Value} (h : AtK k118 w x cs 0) : AtK kI w x.f3.f0 cs 11 := (((h.iso.snd rfl).snd rfl).snd rfl).fst.iso.fst
theorem at118_12 {w : World} {x : S118} {cs : List Value} (h : AtK k118 w x cs 0) : AtK kS28 w x.f3.f1 cs 12 := ((((h.iso.snd rfl).snd rfl).snd rfl).fst.iso.snd rfl).fst
theorem at118_13 {w : World} {x : S118} {cs : List Value} (h : AtK k118 w x cs 0) : AtK kS28 w x.f3.f2 cs 13 := (((((h.iso.snd rfl).snd rfl).snd rfl).fst.iso.snd rfl).snd rfl).fst
theorem at118_14 {w : World} {x : S118} {cs : List Value} (h : AtK k118 w x cs 0) : AtK kI w x.f3.f3 cs 14 := ((((((h.iso.snd rfl).snd rfl).snd rfl).fst.iso.snd rfl).snd rfl).snd rfl).fst
theorem at118_15 {w : World} {x : S118} {cs : List Value} (h : AtK k118 w x cs 0) : AtK kI w x.f3.f4 cs 15 := (((((((h.iso.snd rfl).snd rfl).snd rfl).fst.iso.snd rfl).snd rfl).snd rfl).snd rfl)
theorem at118_16 {w : World} {x : S118} {cs : List Value} (h : AtK k118 w x cs 0) : AtK kI w x.f4.f0 cs 16 := ((((h.iso.snd rfl).snd rfl).snd rfl).snd rfl).fst.iso.fst
theorem at118_17 {w : World} {x : S118} {cs : List Value} (h : AtK k118 w x cs 0) : AtK kS28 w x.f4.f1 cs 17 := (((((h.iso.snd rfl).snd rfl).snd rfl).snd rfl).fst.iso.snd rfl).fst
theorem at118_18 {w : World} {x : S118} {cs : List Value} (h : AtK k118 w x cs 0) : AtK kS28 w x.f4.f2 cs 18 := ((((((h.iso.snd rfl).snd rfl).snd rfl).snd rfl).fst.iso.snd rfl).snd rfl).fst
theorem at118_19 {w : World} {x : S118} {cs : List Value} (h : AtK k118 w x cs 0) : AtK kI w x.f4.f3 cs 19 := (((((((h.iso.snd rfl).snd rfl).snd rfl).snd rfl).fst.iso.snd rfl).snd rfl).snd rfl).fst
theorem at118_20 {w : World} {x : S118} {cs : List Value} (h : AtK k118 w x cs 0) : AtK kI w x.f4.f4 cs 20 := ((((((((h.iso.snd rfl).snd rfl).snd rfl).snd rfl).fst.iso.snd rfl).snd rfl).snd rfl).snd rfl)
theorem at118_21 {w : World} {x : S118} {cs : List Value} (h : AtK k118 w x cs 0) : AtK kS3 w x.f5 cs 21 := (((((h.iso.snd rfl).snd rfl).snd rfl).snd rfl).snd rfl).fst
theorem at118_22 {w : World} {x : S118} {cs : List Value} (h : AtK k118 w x cs 0) : AtK kI w x.f6.f0 cs 22 := ((((((h.iso.snd rfl).snd rfl).snd rfl).snd rfl).snd rfl).snd rfl).fst.iso.fst
theorem at118_23 {w : World} {x : S118} {cs : List Value} (h : AtK k118 w x cs 0) : AtK kS28 w x.f6.f1 cs 23 := (((((((h.iso.snd rfl).snd rfl).snd rfl).snd rfl).snd rfl).snd rfl).fst.iso.snd rfl).fst
theorem at118_24 {w : World} {x : S118} {cs : List Value} (h : AtK k118 w x cs 0) : AtK kS28 w x.f6.f2 cs 24 := ((((((((h.iso.snd rfl).snd rfl).snd rfl).snd rfl).snd rfl).snd rfl).fst.iso.snd rfl).snd rfl).fst
theorem at118_25 {w : World} {x : S118} {cs : List Value} (h : AtK k118 w x cs 0) : AtK kI w x.f6.f3 cs 25 := (((((((((h.iso.snd rfl).snd rfl).snd rfl).snd rfl).snd rfl).snd rfl).fst.iso.snd rfl).snd rfl).snd rfl).fst
theorem at118_26 {w : World} {x : S118} {cs : List Value} (h : AtK k118 w x cs 0) : AtK kI w x.f6.f4 cs 26 := ((((((((((h.iso.snd rfl).snd rfl).snd rfl).snd rfl).snd rfl).snd rfl).fst.iso.snd rfl).snd rfl).snd rfl).snd rfl)
theorem at118_27 {w : World} {x : S118} {cs : List Value} (h : AtK k118 w x cs 0) : AtK kI w x.f7.f0 cs 27 := (((((((h.iso.snd rfl).snd rfl).snd rfl).snd rfl).snd rfl).snd rfl).snd rfl).iso.fst
theorem at118_28 {w : World} {x : S118} {cs : List Value} (h : AtK k118 w x cs 0) : AtK kS28 w x.f7.f1 cs 28 := ((((((((h.iso.snd rfl).snd rfl).snd rfl).snd rfl).snd rfl).snd rfl).snd rfl).iso.snd rfl).fst
theorem at118_29 {w : World} {x : S118} {cs : List Value} (h : AtK k118 w x cs 0) : AtK kS28 w x.f7.f2 cs 29 := (((((((((h.iso.snd rfl).snd rfl).snd rfl).snd rfl).snd rfl).snd rfl).snd rfl).iso.snd rfl).snd rfl).fst
theorem at118_30 {w : World} {x : S118} {cs : List Value} (h : AtK k118 w x cs 0) : AtK kI w x.f7.f3 cs 30 := ((((((((((h.iso.snd rfl).snd rfl).snd rfl).snd rfl).snd rfl).snd rfl).snd rfl).iso.snd rfl).snd rfl).snd rfl).fst
theorem at118_31 {w : World} {x : S118} {cs : List Value} (h : AtK k118 w x cs 0) : AtK kI w x.f7.f4 cs 31 := (((((((((((h.iso.snd rfl).snd rfl).snd rfl).snd rfl).snd rfl).snd rfl).snd rfl).iso.snd rfl).snd rfl).snd rfl).snd rfl)
theorem at157_0 {w : World} {x : S157} {cs : List Value} (h : AtK k157 w x cs 0) : AtK kI w x.f0.f0 cs 0 := h.iso.fst.iso.fst
theorem at157_1 {w : World} {x : S157} {cs : List Value} (h : AtK k157 w x cs 0) : AtK kI w x.f0.f1 cs 1 := (h.iso.fst.iso.snd rfl).fst
theorem at157_5 {w : World} {x : S157} {cs : List Value} (h : AtK k157 w x cs 0) : AtK kS118 w x.f0.f5 cs 5 := (((((h.iso.fst.iso.snd rfl).snd rfl).snd rfl).snd rfl).snd rfl).fst
theorem at157_12 {w : World} {x : S157} {cs : List Value} (h : AtK k157 w x cs 0) : AtK kS28 w x.f0.f8.f0 cs 12 := ((((((((h.iso.fst.iso.snd rfl).snd rfl).snd rfl).snd rfl).snd rfl).snd rfl).snd rfl).snd rfl).iso.fst
theorem at157_13 {w : World} {x : S157} {cs : List Value} (h : AtK k157 w x cs 0) : AtK kS28 w x.f0.f8.f1 cs 13 := (((((((((h.iso.fst.iso.snd rfl).snd rfl).snd rfl).snd rfl).snd rfl).snd rfl).snd rfl).snd rfl).iso.snd rfl)
theorem at157_14 {w : World} {x : S157} {cs : List Value} (h : AtK k157 w x cs 0) : AtK kNil w x.f1 cs 14 := (h.iso.snd rfl)
theorem at215_0 {w : World} {x : S215} {cs : List Value} (h : AtK k215 w x cs 0) : AtK kS3 w x.f0 cs 0 := h.iso.fst
theorem at215_1 {w : World} {x : S215} {cs : List Value} (h : AtK k215 w x cs 0) : AtK kI w x.f1.f0 cs 1 := (h.iso.snd rfl).fst.iso.fst
theorem at215_2 {w : World} {x : S215} {cs : List Value} (h : AtK k215 w x cs 0) : AtK kS28 w x.f1.f1 cs 2 := ((h.iso.snd rfl).fst.iso.snd rfl).fst
theorem at215_3 {w : World} {x : S215} {cs : List Value} (h : AtK k215 w x cs 0) : AtK kS28 w x.f1.f2 cs 3 := (((h.iso.snd rfl).fst.iso.snd rfl).snd rfl).fst
theorem at215_4 {w : World} {x : S215} {cs : List Value} (h : AtK k215 w x cs 0) : AtK kI w x.f1.f3 cs 4 := ((((h.iso.snd rfl).fst.iso.snd rfl).snd rfl).snd rfl).fst
theorem at215_5 {w : World} {x : S215} {cs : List Value} (h : AtK k215 w x cs 0) : AtK kI w x.f1.f4 cs 5 := (((((h.iso.snd rfl).fst.iso.snd rfl).snd rfl).snd rfl).snd rfl)
theorem at215_6 {w : World} {x : S215} {cs : List Value} (h : AtK k215 w x cs 0) : AtK kI w x.f2.f0 cs 6 := ((h.iso.snd rfl).snd rfl).fst.iso.fst
theorem at215_7 {w : World} {x : S215} {cs : List Value} (h : AtK k215 w x cs 0) : AtK kS28 w x.f2.f1 cs 7 := (((h.iso.snd rfl).snd rfl).fst.iso.snd rfl).fst
theorem at215_8 {w : World} {x : S215} {cs : List Value} (h : AtK k215 w x cs 0) : AtK kS28 w x.f2.f2 cs 8 := ((((h.iso.snd rfl).snd rfl).fst.iso.snd rfl).snd rfl).fst
theorem at215_9 {w : World} {x : S215} {cs : List Value} (h : AtK k215 w x cs 0) : AtK kI w x.f2.f3 cs 9 := (((((h.iso.snd rfl).snd rfl).fst.iso.snd rfl).snd rfl).snd rfl).fst
theorem at215_10 {w : World} {x : S215} {cs : List Value} (h : AtK k215 w x cs 0) : AtK kI w x.f2.f4 cs 10 := ((((((h.iso.snd rfl).snd rfl).fst.iso.snd rfl).snd rfl).snd rfl).snd rfl)
theorem at215_11 {w : World} {x : S215} {cs : List Value} (h : AtK k215 w x cs 0) : AtK kI w x.f3.f0 cs 11 := (((h.iso.snd rfl).snd rfl).snd rfl).fst.iso.fst
theorem at215_12 {w : World} {x : S215} {cs : List Value} (h : AtK k215 w x cs 0) : AtK kS28 w x.f3.f1 cs 12 := ((((h.iso.snd rfl).snd rfl).snd rfl).fst.iso.snd rfl).fst
theorem at215_13 {w : World} {x : S215} {cs : List Value} (h : AtK k215 w x cs 0) : AtK kS28 w x.f3.f2 cs 13 := (((((h.iso.snd rfl).snd rfl).snd rfl).fst.iso.snd rfl).snd rfl).fst
theorem at215_14 {w : World} {x : S215} {cs : List Value} (h : AtK k215 w x cs 0) : AtK kI w x.f3.f3 cs 14 := ((((((h.iso.snd rfl).snd rfl).snd rfl).fst.iso.snd rfl).snd rfl).snd rfl).fst
theorem at215_15 {w : World} {x : S215} {cs : List Value} (h : AtK k215 w x cs 0) : AtK kI w x.f3.f4 cs 15 := (((((((h.iso.snd rfl).snd rfl).snd rfl).fst.iso.snd rfl).snd rfl).snd rfl).snd rfl)
theorem at215_16 {w : World} {x : S215} {cs : List Value} (h : AtK k215 w x cs 0) : AtK kI w x.f4.f0 cs 16 := ((((h.iso.snd rfl).snd rfl).snd rfl).snd rfl).fst.iso.fst
theorem at215_17 {w : World} {x : S215} {cs : List Value} (h : AtK k215 w x cs 0) : AtK kS28 w x.f4.f1 cs 17 := (((((h.iso.snd rfl).snd rfl).snd rfl).snd rfl).fst.iso.snd rfl).fst
theorem at215_18 {w : World} {x : S215} {cs : List Value} (h : AtK k215 w x cs 0) : AtK kS28 w x.f4.f2 cs 18 := ((((((h.iso.snd rfl).snd rfl).snd rfl).snd rfl).fst.iso.snd rfl).snd rfl).fst
theorem at215_19 {w : World} {x : S215} {cs : List Value} (h : AtK k215 w x cs 0) : AtK kI w x.f4.f3 cs 19 := (((((((h.iso.snd rfl).snd rfl).snd rfl).snd rfl).fst.iso.snd rfl).snd rfl).snd rfl).fst
theorem at215_20 {w : World} {x : S215} {cs : List Value} (h : AtK k215 w x cs 0) : AtK kI w x.f4.f4 cs 20 := ((((((((h.iso.snd rfl).snd rfl).snd rfl).snd rfl).fst.iso.snd rfl).snd rfl).snd rfl).snd rfl)
theorem at215_21 {w : World} {x : S215} {cs : List Value} (h : AtK k215 w x cs 0) : AtK kS3 w x.f5 cs 21 := (((((h.iso.snd rfl).snd rfl).snd rfl).snd rfl).snd rfl).fst
theorem at215_22 {w : World} {x : S215} {cs : List Value} (h : AtK k215 w x cs 0) : AtK kI w x.f6.f0 cs 22 := ((((((h.iso.snd rfl).snd rfl).snd rfl).snd rfl).snd rfl).snd rfl).fst.iso.fst
theorem at215_23 {w : World} {x : S215} {cs : List Value} (h : AtK k215 w x cs 0) : AtK kS28 w x.f6.f1 cs 23 := (((((((h.iso.snd rfl).snd rfl).snd rfl).snd rfl).snd rfl).snd rfl).fst.iso.snd rfl).fst
theorem at215_24 {w : World} {x : S215} {cs : List Value} (h : AtK k215 w x cs 0) : AtK kS28 w x.f6.f2 cs 24 := ((((((((h.iso.snd rfl).snd rfl).snd rfl).snd rfl).snd rfl).snd rfl).fst.iso.snd rfl).snd rfl).fst
theorem at215_25 {w : World} {x : S215} {cs : List Value} (h : AtK k215 w x cs 0) : AtK kI w x.f6.f3 cs 25 := (((((((((h.iso.snd rfl).snd rfl).snd rfl).snd rfl).snd rfl).snd rfl).fst.iso.snd rfl).snd rfl).snd rfl).fst
theorem at215_26 {w : World} {x : S215} {cs : List Value} (h : AtK k215 w x cs 0) : AtK kI w x.f6.f4 cs 26 := ((((((((((h.iso.snd rfl).snd rfl).snd rfl).snd rfl).snd rfl).snd rfl).fst.iso.snd rfl).snd rfl).snd rfl).snd rfl)
theorem at215_27 {w : World} {x : S215} {cs : List Value} (h : AtK k215 w x cs 0) : AtK kI w x.f7.f0 cs 27 := (((((((h.iso.snd rfl).snd rfl).snd rfl).snd rfl).snd rfl).snd rfl).snd rfl).iso.fst
theorem at215_28 {w : World} {x : S215} {cs : List Value} (h : AtK k215 w x cs 0) : AtK kS28 w x.f7.f1 cs 28 := ((((((((h.iso.snd rfl).snd rfl).snd rfl).snd rfl).snd rfl).snd rfl).snd rfl).iso.snd rfl).fst
theorem at215_29 {w : World} {x : S215} {cs : List Value} (h : AtK k215 w x cs 0) : AtK kS28 w x.f7.f2 cs 29 := (((((((((h.iso.snd rfl).snd rfl).snd rfl).snd rfl).snd rfl).snd rfl).snd rfl).iso.snd rfl).snd rfl).fst
theorem at215_30 {w : World} {x : S215} {cs : List Value} (h : AtK k215 w x cs 0) : AtK kI w x.f7.f3 cs 30 := ((((((((((h.iso.snd rfl).snd rfl).snd rfl).snd rfl).snd rfl).snd rfl).snd rfl).iso.snd rfl).snd rfl).snd rfl).fst
theorem at215_31 {w : World} {x : S215} {cs : List Value} (h : AtK k215 w x cs 0) : AtK kI w x.f7.f4 cs 31 := (((((((((((h.iso.snd rfl).snd rfl).snd rfl).snd rfl).snd rfl).snd rfl).snd rfl).iso.snd rfl).snd rfl).snd rfl).snd rfl)
theorem at225_0 {w : World} {x : S225} {cs : List Value} (h : AtK k225 w x cs 0) : AtK kI w x.f0 cs 0 := h.iso.fst
theorem at225_1 {w : World} {x : S225} {cs : List Value} (h : AtK k225 w x cs 0) : AtK kI w x.f1 cs 1 := (h.iso.snd rfl)
theorem eqs114 (w : World) (x0 y0 : Int) (x1 y1 : Int) : (Op.equal 114 (.agg #[vi x0, vi x1]) (.agg #[vi y0, vi y1])).run prog w = .ok (x0 == y0 && (x1 == y1)) w := by
 unfold Op.equal
 refine eqA_of underlying114 (by kernel_rfl) ?_
 refine eqf_cons (by rfl) (by go_simp; rfl) (by go_simp; rfl) (by go_simp) ?_
 exact eqf_last (by rfl) (by go_simp; rfl) (by go_simp; rfl) (by go_simp)
def dq30 : Dk S30 := Dk.iso (Dk.pair (Dk.int .i64) (Dk.pair (Dk.slice 28 (Dk.slice 3 (Dk.int .i64))) (Dk.pair (Dk.slice 28 (Dk.slice 3 (Dk.int .i64))) (Dk.pair (Dk.int .i64) (Dk.int .i64))))) (fun x : S30 => (x.f0, x.f1, x.f2, x.f3, x.f4))
def dq32 : Dk S32 := Dk.iso (Dk.pair (Dk.slice 28 (Dk.slice 3 (Dk.int .i64))) (Dk.slice 28 (Dk.slice 3 (Dk.int .i64)))) (fun x : S32 => (x.f0, x.f1))
def dq114 : Dk S114 := Dk.iso (Dk.pair (Dk.int .i64) (Dk.int .i64)) (fun x : S114 => (x.f0, x.f1))
theorem dq114_flat {w : World} {x : S114} {cs : List Value} (h : k114.K w x cs) : dq114.B w x cs [] := by
 obtain ⟨c0, d0, e0, h0, h1⟩ := h
 exact ⟨c0, d0, [], [], e0, rfl, ⟨h0, rfl⟩, ⟨h1, rfl⟩⟩
def dq118 : Dk S118 := Dk.iso (Dk.pair (Dk.slice 3 (Dk.int .i64)) (Dk.pair dq30 (Dk.pair dq30 (Dk.pair dq30 (Dk.pair dq30 (Dk.pair (Dk.slice 3 (Dk.int .i64)) (Dk.pair dq30 dq30))))))) (fun x : S118 => (x.f0, x.f1, x.f2, x.f3, x.f4, x.f5, x.f6, x.f7))
theorem dq118_mk (w : World) (x : S118) {v0 : Value} {b0 : List Nat} (h0 : (Dk.slice 3 (Dk.int .i64)).B w x.f0 [v0] b0) {v2 : Value} {b2 : List Nat} (h2 : (Dk.slice 28 (Dk.slice 3 (Dk.int .i64))).B w x.f1.f1 [v2] b2) {v3 : Value} {b3 : List Nat} (h3 : (Dk.slice 28 (Dk.slice 3 (Dk.int .i64))).B w x.f1.f2 [v3] b3) {v7 : Value} {b7 : List Nat} (h7 : (Dk.slice 28 (Dk.slice 3 (Dk.int .i64))).B w x.f2.f1 [v7] b7) {v8 : Value} {b8 : List Nat} (h8 : (Dk.slice 28 (Dk.slice 3 (Dk.int .i64))).B w x.f2.f2 [v8] b8) {v12 : Value} {b12 : List Nat} (h12 : (Dk.slice 28 (Dk.slice 3 (Dk.int .i64))).B w x.f3.f1 [v12] b12) {v13 : Value} {b13 : List Nat} (h13 : (Dk.slice 28 (Dk.slice 3 (Dk.int .i64))).B w x.f3.f2 [v13] b13) {v17 : Value} {b17 : List Nat} (h17 : (Dk.slice 28 (Dk.slice 3 (Dk.int .i64))).B w x.f4.f1 [v17] b17) {v18 : Value} {b18 : List Nat} (h18 : (Dk.slice 28 (Dk.slice 3 (Dk.int .i64))).B w x.f4.f2 [v18] b18) {v21 : Value} {b21 : List Nat} (h21 : (Dk.slice 3 (Dk.int .i64)).B w x.f5 [v21] b21) {v23 : Value} {b23 : List Nat} (h23 : (Dk.slice 28 (Dk.slice 3 (Dk.int .i64))).B w x.f6.f1 [v23] b23) {v24 : Value} {b24 : List Nat} (h24 : (Dk.slice 28 (Dk.slice 3 (Dk.int .i64))).B w x.f6.f2 [v24] b24) {v28 : Value} {b28 : List Nat} (h28 : (Dk.slice 28 (Dk.slice 3 (Dk.int .i64))).B w x.f7.f1 [v28] b28) {v29 : Value} {b29 : List Nat} (h29 : (Dk.slice 28 (Dk.slice 3 (Dk.int .i64))).B w x.f7.f2 [v29] b29) : dq118.B w x [v0, vi x.f1.f0, v2, v3, vi x.f1.f3, vi x.f1.f4, vi x.f2.f0, v7, v8, vi x.f2.f3, vi x.f2.f4, vi x.f3.f0, v12, v13, vi x.f3.f3, vi x.f3.f4, vi x.f4.f0, v17, v18, vi x.f4.f3, vi x.f4.f4, v21, vi x.f6.f0, v23, v24, vi x.f6.f3, vi x.f6.f4, vi x.f7.f0, v28, v29, vi x.f7.f3, vi x.f7.f4] (((((((((((((b0 ++ b2) ++ b3) ++ b7) ++ b8) ++ b12) ++ b13) ++ b17) ++ b18) ++ b21) ++ b23) ++ b24) ++ b28) ++ b29) := ⟨[v0], [vi x.f1.f0, v2, v3, vi x.f1.f3, vi x.f1.f4, vi x.f2.f0, v7, v8, vi x.f2.f3, vi x.f2.f4, vi x.f3.f0, v12, v13, vi x.f3.f3, vi x.f3.f4, vi x.f4.f0, v17, v18, vi x.f4.f3, vi x.f4.f4, v21, vi x.f6.f0, v23, v24, vi x.f6.f3, vi x.f6.f4, vi x.f7.f0, v28, v29, vi x.f7.f3, vi x.f7.f4], b0, (([] ++ (b2 ++ (b3 ++ ([] ++ [])))) ++ (([] ++ (b7 ++ (b8 ++ ([] ++ [])))) ++ (([] ++ (b12 ++ (b13 ++ ([] ++ [])))) ++ (([] ++ (b17 ++ (b18 ++ ([] ++ [])))) ++ (b21 ++ (([] ++ (b23 ++ (b24 ++ ([] ++ [])))) ++ ([] ++ (b28 ++ (b29 ++ ([] ++ [])))))))))), rfl, (by simp), h0, ⟨[vi x.f1.f0, v2, v3, vi x.f1.f3, vi x.f1.f4], [vi x.f2.f0, v7, v8, vi x.f2.f3, vi x.f2.f4, vi x.f3.f0, v12, v13, vi x.f3.f3, vi x.f3.f4, vi x.f4.f0, v17, v18, vi x.f4.f3, vi x.f4.f4, v21, vi x.f6.f0, v23, v24, vi x.f6.f3, vi x.f6.f4, vi x.f7.f0, v28, v29, vi x.f7.f3, vi x.f7.f4], ([] ++ (b2 ++ (b3 ++ ([] ++ [])))), (([] ++ (b7 ++ (b8 ++ ([] ++ [])))) ++ (([] ++ (b12 ++ (b13 ++ ([] ++ [])))) ++ (([] ++ (b17 ++ (b18 ++ ([] ++ [])))) ++ (b21 ++ (([] ++ (b23 ++ (b24 ++ ([] ++ [])))) ++ ([] ++ (b28 ++ (b29 ++ ([] ++ []))))))))), rfl, rfl, ⟨[vi x.f1.f0], [v2, v3, vi x.f1.f3, vi x.f1.f4], [], (b2 ++ (b3 ++ ([] ++ []))), rfl, rfl, ⟨rfl, rfl⟩, ⟨[v2], [v3, vi x.f1.f3, vi x.f1.f4], b2, (b3 ++ ([] ++ [])), rfl, rfl, h2, ⟨[v3], [vi x.f1.f3, vi x.f1.f4], b3, ([] ++ []), rfl, rfl, h3, ⟨[vi x.f1.f3], [vi x.f1.f4], [], [], rfl, rfl, ⟨rfl, rfl⟩, ⟨rfl, rfl⟩⟩⟩⟩⟩, ⟨[vi x.f2.f0, v7, v8, vi x.f2.f3, vi x.f2.f4], [vi x.f3.f0, v12, v13, vi x.f3.f3, vi x.f3.f4, vi x.f4.f0, v17, v18, vi x.f4.f3, vi x.f4.f4, v21, vi x.f6.f0, v23, v24, vi x.f6.f3, vi x.f6.f4, vi x.f7.f0, v28, v29, vi x.f7.f3, vi x.f7.f4], ([] ++ (b7 ++ (b8 ++ ([] ++ [])))), (([] ++ (b12 ++ (b13 ++ ([] ++ [])))) ++ (([] ++ (b17 ++ (b18 ++ ([] ++ [])))) ++ (b21 ++ (([] ++ (b23 ++ (b24 ++ ([] ++ [])))) ++ ([] ++ (b28 ++ (b29 ++ ([] ++ [])))))))), rfl, rfl, ⟨[vi x.f2.f0], [v7, v8, vi x.f2.f3, vi x.f2.f4], [], (b7 ++ (b8 ++ ([] ++ []))), rfl, rfl, ⟨rfl, rfl⟩, ⟨[v7], [v8, vi x.f2.f3, vi x.f2.f4], b7, (b8 ++ ([] ++ [])), rfl, rfl, h7, ⟨[v8], [vi x.f2.f3, vi x.f2.f4], b8, ([] ++ []), rfl, rfl, h8, ⟨[vi x.f2.f3], [vi x.f2.f4], [], [], rfl, rfl, ⟨rfl, rfl⟩, ⟨rfl, rfl⟩⟩⟩⟩⟩, ⟨[vi x.f3.f0, v12, v13, vi x.f3.f3, vi x.f3.f4], [vi x.f4.f0, v17, v18, vi x.f4.f3, vi x.f4.f4, v21, vi x.f6.f0, v23, v24, vi x.f6.f3, vi x.f6.f4, vi x.f7.f0, v28, v29, vi x.f7.f3, vi x.f7.f4], ([] ++ (b12 ++ (b13 ++ ([] ++ [])))), (([] ++ (b17 ++ (b18 ++ ([] ++ [])))) ++ (b21 ++ (([] ++ (b23 ++ (b24 ++ ([] ++ [])))) ++ ([] ++ (b28 ++ (b29 ++ ([] ++ []))))))), rfl, rfl, ⟨[vi x.f3.f0], [v12, v13, vi x.f3.f3, vi x.f3.f4], [], (b12 ++ (b13 ++ ([] ++ []))), rfl, rfl, ⟨rfl, rfl⟩, ⟨[v12], [v13, vi x.f3.f3, vi x.f3.f4], b12, (b13 ++ ([] ++ [])), rfl, rfl, h12, ⟨[v13], [vi x.f3.f3, vi x.f3.f4], b13, ([] ++ []), rfl, rfl, h13, ⟨[vi x.f3.f3], [vi x.f3.f4], [], [], rfl, rfl, ⟨rfl, rfl⟩, ⟨rfl, rfl⟩⟩⟩⟩⟩, ⟨[vi x.f4.f0, v17, v18, vi x.f4.f3, vi x.f4.f4], [v21, vi x.f6.f0, v23, v24, vi x.f6.f3, vi x.f6.f4, vi x.f7.f0, v28, v29, vi x.f7.f3, vi x.f7.f4], ([] ++ (b17 ++ (b18 ++ ([] ++ [])))), (b21 ++ (([] ++ (b23 ++ (b24 ++ ([] ++ [])))) ++ ([] ++ (b28 ++ (b29 ++ ([] ++ [])))))), rfl, rfl, ⟨[vi x.f4.f0], [v17, v18, vi x.f4.f3, vi x.f4.f4], [], (b17 ++ (b18 ++ ([] ++ []))), rfl, rfl, ⟨rfl, rfl⟩, ⟨[v17], [v18, vi x.f4.f3, vi x.f4.f4], b17, (b18 ++ ([] ++ [])), rfl, rfl, h17, ⟨[v18], [vi x.f4.f3, vi x.f4.f4], b18, ([] ++ []), rfl, rfl, h18, ⟨[vi x.f4.f3], [vi x.f4.f4], [], [], rfl, rfl, ⟨rfl, rfl⟩, ⟨rfl, rfl⟩⟩⟩⟩⟩, ⟨[v21], [vi x.f6.f0, v23, v24, vi x.f6.f3, vi x.f6.f4, vi x.f7.f0, v28, v29, vi x.f7.f3, vi x.f7.f4], b21, (([] ++ (b23 ++ (b24 ++ ([] ++ [])))) ++ ([] ++ (b28 ++ (b29 ++ ([] ++ []))))), rfl, rfl, h21, ⟨[vi x.f6.f0, v23, v24, vi x.f6.f3, vi x.f6.f4], [vi x.f7.f0, v28, v29, vi x.f7.f3, vi x.f7.f4], ([] ++ (b23 ++ (b24 ++ ([] ++ [])))), ([] ++ (b28 ++ (b29 ++ ([] ++ [])))), rfl, rfl, ⟨[vi x.f6.f0], [v23, v24, vi x.f6.f3, vi x.f6.f4], [], (b23 ++ (b24 ++ ([] ++ []))), rfl, rfl, ⟨rfl, rfl⟩, ⟨[v23], [v24, vi x.f6.f3, vi x.f6.f4], b23, (b24 ++ ([] ++ [])), rfl, rfl, h23, ⟨[v24], [vi x.f6.f3, vi x.f6.f4], b24, ([] ++ []), rfl, rfl, h24, ⟨[vi x.f6.f3], [vi x.f6.f4], [], [], rfl, rfl, ⟨rfl, rfl⟩, ⟨rfl, rfl⟩⟩⟩⟩⟩, ⟨[vi x.f7.f0], [v28, v29, vi x.f7.f3, vi x.f7.f4], [], (b28 ++ (b29 ++ ([] ++ []))), rfl, rfl, ⟨rfl, rfl⟩, ⟨[v28], [v29, vi x.f7.f3, vi x.f7.f4], b28, (b29 ++ ([] ++ [])), rfl, rfl, h28, ⟨[v29], [vi x.f7.f3, vi x.f7.f4], b29, ([] ++ []), rfl, rfl, h29, ⟨[vi x.f7.f3], [vi x.f7.f4], [], [], rfl, rfl, ⟨rfl, rfl⟩, ⟨rfl, rfl⟩⟩⟩⟩⟩⟩⟩⟩⟩⟩⟩⟩
def dq34 : Dk S34 := Dk.iso (Dk.pair (Dk.int .i64) (Dk.pair (Dk.int .i64) (Dk.pair (Dk.int .i64) (Dk.pair (Dk.slice 114 dq114) (Dk.pair (Dk.slice 28 (Dk.slice 3 (Dk.int .i64))) (Dk.pair (Dk.slice 118 dq118) (Dk.pair (Dk.slice 3 (Dk.int .i64)) (Dk.pair dq30 dq32)))))))) (fun x : S34 => (x.f0, x.f1, x.f2, x.f3, x.f4, x.f5, x.f6, x.f7, x.f8))
theorem dq34_mk (w : World) (x : S34) {v3 : Value} {b3 : List Nat} (h3 : (Dk.slice 114 dq114).B w x.f3 [v3] b3) {v4 : Value} {b4 : List Nat} (h4 : (Dk.slice 28 (Dk.slice 3 (Dk.int .i64))).B w x.f4 [v4] b4) {v5 : Value} {b5 : List Nat} (h5 : (Dk.slice 118 dq118).B w x.f5 [v5] b5) {v6 : Value} {b6 : List Nat} (h6 : (Dk.slice 3 (Dk.int .i64)).B w x.f6 [v6] b6) {v8 : Value} {b8 : List Nat} (h8 : (Dk.slice 28 (Dk.slice 3 (Dk.int .i64))).B w x.f7.f1 [v8] b8) {v9 : Value} {b9 : List Nat} (h9 : (Dk.slice 28 (Dk.slice 3 (Dk.int .i64))).B w x.f7.f2 [v9] b9) {v12 : Value} {b12 : List Nat} (h12 : (Dk.slice 28 (Dk.slice 3 (Dk.int .i64))).B w x.f8.f0 [v12] b12) {v13 : Value} {b13 : List Nat} (h13 : (Dk.slice 28 (Dk.slice 3 (Dk.int .i64))).B w x.f8.f1 [v13] b13) : dq34.B w x [vi x.f0, vi x.f1, vi x.f2, v3, v4, v5, v6, vi x.f7.f0, v8, v9, vi x.f7.f3, vi x.f7.f4, v12, v13] (((((((b3 ++ b4) ++ b5) ++ b6) ++ b8) ++ b9) ++ b12) ++ b13) := ⟨[vi x.f0], [vi x.f1, vi x.f2, v3, v4, v5, v6, vi x.f7.f0, v8, v9, vi x.f7.f3, vi x.f7.f4, v12, v13], [], ([] ++ ([] ++ (b3 ++ (b4 ++ (b5 ++ (b6 ++ (([] ++ (b8 ++ (b9 ++ ([] ++ [])))) ++ (b12 ++ b13)))))))), rfl, (by simp), ⟨rfl, rfl⟩, ⟨[vi x.f1], [vi x.f2, v3, v4, v5, v6, vi x.f7.f0, v8, v9, vi x.f7.f3, vi x.f7.f4, v12, v13], [], ([] ++ (b3 ++ (b4 ++ (b5 ++ (b6 ++ (([] ++ (b8 ++ (b9 ++ ([] ++ [])))) ++ (b12 ++ b13))))))), rfl, rfl, ⟨rfl, rfl⟩, ⟨[vi x.f2], [v3, v4, v5, v6, vi x.f7.f0, v8, v9, vi x.f7.f3, vi x.f7.f4, v12, v13], [], (b3 ++ (b4 ++ (b5 ++ (b6 ++ (([] ++ (b8 ++ (b9 ++ ([] ++ [])))) ++ (b12 ++ b13)))))), rfl, rfl, ⟨rfl, rfl⟩, ⟨[v3], [v4, v5, v6, vi x.f7.f0, v8, v9, vi x.f7.f3, vi x.f7.f4, v12, v13], b3, (b4 ++ (b5 ++ (b6 ++ (([] ++ (b8 ++ (b9 ++ ([] ++ [])))) ++ (b12 ++ b13))))), rfl, rfl, h3, ⟨[v4], [v5, v6, vi x.f7.f0, v8, v9, vi x.f7.f3, vi x.f7.f4, v12, v13], b4, (b5 ++ (b6 ++ (([] ++ (b8 ++ (b9 ++ ([] ++ [])))) ++ (b12 ++ b13)))), rfl, rfl, h4, ⟨[v5], [v6, vi x.f7.f0, v8, v9, vi x.f7.f3, vi x.f7.f4, v12, v13], b5, (b6 ++ (([] ++ (b8 ++ (b9 ++ ([] ++ [])))) ++ (b12 ++ b13))), rfl, rfl, h5, ⟨[v6], [vi x.f7.f0, v8, v9, vi x.f7.f3, vi x.f7.f4, v12, v13], b6, (([] ++ (b8 ++ (b9 ++ ([] ++ [])))) ++ (b12 ++ b13)), rfl, rfl, h6, ⟨[vi x.f7.f0, v8, v9, vi x.f7.f3, vi x.f7.f4], [v12, v13], ([] ++ (b8 ++ (b9 ++ ([] ++ [])))), (b12 ++ b13), rfl, rfl, ⟨[vi x.f7.f0], [v8, v9, vi x.f7.f3, vi x.f7.f4], [], (b8 ++ (b9 ++ ([] ++ []))), rfl, rfl, ⟨rfl, rfl⟩, ⟨[v8], [v9, vi x.f7.f3, vi x.f7.f4], b8, (b9 ++ ([] ++ [])), rfl, rfl, h8, ⟨[v9], [vi x.f7.f3, vi x.f7.f4], b9, ([] ++ []), rfl, rfl, h9, ⟨[vi x.f7.f3], [vi x.f7.f4], [], [], rfl, rfl, ⟨rfl, rfl⟩, ⟨rfl, rfl⟩⟩⟩⟩⟩, ⟨[v12], [v13], b12, b13, rfl, rfl, h12, h13⟩⟩⟩⟩⟩⟩⟩⟩⟩
def dq67 : Dk S67 := Dk.iso (Dk.pair (Dk.int .i64) (Dk.slice 3 (Dk.int .i64))) (fun x : S67 => (x.f0, x.f1))
theorem dq67_mk (w : World) (x : S67) {v1 : Value} {b1 : List Nat} (h1 : (Dk.slice 3 (Dk.int .i64)).B w x.f1 [v1] b1) : dq67.B w x [vi x.f0, v1] b1 := ⟨[vi x.f0], [v1], [], b1, rfl, (by simp), ⟨rfl, rfl⟩, h1⟩
abbrev sh3 : XLeaf.Sh := .int
def n3 (_ : Int) : Nat := 1
theorem lf3 : LeafB (Dk.int .i64) sh3 n3 := LeafB.int
abbrev sh114 : XLeaf.Sh := .both sh3 sh3
def n114 (x : S114) : Nat := n3 x.f0 + (n3 x.f1)
theorem lf114 : LeafB dq114 sh114 n114 := LeafB.iso (LeafB.pair lf3 lf3) (fun x : S114 => (x.f0, x.f1))
def n25 (x : List S114) : Nat := (x.map n114).sum
abbrev sh28 : XLeaf.Sh := .row sh3
def n28 (x : List Int) : Nat := (x.map n3).sum
theorem lf28 : LeafB (Dk.slice 3 (Dk.int .i64)) sh28 n28 := LeafB.slice lf3 3
abbrev sh26 : XLeaf.Sh := .row sh28
def n26 (x : List (List Int)) : Nat := (x.map n28).sum
theorem lf26 : LeafB (Dk.slice 28 (Dk.slice 3 (Dk.int .i64))) sh26 n26 := LeafB.slice lf28 28
abbrev sh30 : XLeaf.Sh := .both sh3 (.both sh26 (.both sh26 (.both sh3 sh3)))
def n30 (x : S30) : Nat := n3 x.f0 + (n26 x.f1 + (n26 x.f2 + (n3 x.f3 + (n3 x.f4))))
theorem lf30 : LeafB dq30 sh30 n30 := LeafB.iso (LeafB.pair lf3 (LeafB.pair lf26 (LeafB.pair lf26 (LeafB.pair lf3 lf3)))) (fun x : S30 => (x.f0, x.f1, x.f2, x.f3, x.f4))
abbrev sh118 : XLeaf.Sh := .both sh28 (.both sh30 (.both sh30 (.both sh30 (.both sh30 (.both sh28 (.both sh30 sh30))))))
def n118 (x : S118) : Nat := n28 x.f0 + (n30 x.f1 + (n30 x.f2 + (n30 x.f3 + (n30 x.f4 + (n28 x.f5 + (n30 x.f6 + (n30 x.f7)))))))
theorem lf118 : LeafB dq118 sh118 n118 := LeafB.iso (LeafB.pair lf28 (LeafB.pair lf30 (LeafB.pair lf30 (LeafB.pair lf30 (LeafB.pair lf30 (LeafB.pair lf28 (LeafB.pair lf30 lf30))))))) (fun x : S118 => (x.f0, x.f1, x.f2, x.f3, x.f4, x.f5, x.f6, x.f7))
def n27 (x : List S118) : Nat := (x.map n118).sum
abbrev sh67 : XLeaf.Sh := .both sh3 sh28
def n67 (x : S67) : Nat := n3 x.f0 + (n28 x.f1)
theorem lf67 : LeafB dq67 sh67 n67 := LeafB.iso (LeafB.pair lf3 lf28) (fun x : S67 => (x.f0, x.f1))
def n49 (x : List S67) : Nat := (x.map n67).sum
def spec_l05All.b0 (l0 : List Int) (a1 : Int) (a2 : Int) (rec_ : Int → Option (Bool ⊕ Int)) (k15 : Nat) (i8 : Int) : Option (Bool ⊕ Int) := (if i8 < (l0.length : Int) then (if 0 ≤ i8 ∧ i8 < (l0.length : Int) then ((spec_l01In.f (l0.getD i8.toNat 0) a1 a2).bind fun t24 => (if t24 = true then (rec_ (wrap64 (i8 + 1))) else (some (Sum.inl false)))) else none) else (some (Sum.inr i8)))
def spec_l05All.l0 (l0 : List Int) (a1 : Int) (a2 : Int) : Nat → Int → Option (Bool ⊕ Int)
 | 0, _ => none
 | k + 1, i8 => spec_l05All.b0 l0 a1 a2 (spec_l05All.l0 l0 a1 a2 k) k i8
def spec_l05All.g (k : Nat) (l0 : List Int) (a1 : Int) (a2 : Int) : Option Bool := ((spec_l05All.l0 l0 a1 a2 k 0).bind (fun oc13 => match oc13 with | .inl r_ => some r_ | .inr i8 => (some true)))
theorem spec_l05All.runs (k : Nat) (A0 : Option Addr) (c0 : Nat) (l0 : List Int) (a1 : Int) (a2 : Int) (r : Bool) (w : World) (hr0 : kI.C w A0 l0.length l0) (hc0 : l0.length ≤ c0) (H : spec_l05All.g k l0 a1 a2 = some r) :
   Calls prog 170 #[.slice A0 l0.length c0, vi a1, vi a2] w fun e w' => e = .returned (.bool r) ∧ Below w.heap.size w w' := by
 unfold spec_l05All.g at H
 have HS : St (fun _ => True) w w [] [(cF kI A0 l0)] [] := St.start (foot_cons (foot_C (Kd.heap_int _) hr0) foot_nil)
 refine cw_ (n := 22) func170 fun R_ hR_ => ?_
 refine sr_ fun _ hK1 => ?_
 refine ad_ hK1 ?_
 refine WC.seq fun K2 hK2 => ?_
 refine sr_ fun _ hK3 => ?_
 refine ad_ hK3 ?_
 refine WC.block ?_
 obtain ⟨G4, hG5, oc6, H, Ho7⟩ := open_G H
 let J9 := fun (i8 : Int) (E_ : Env) (W_ : World) => E_ = [(0, .slice A0 l0.length c0), (1, vi a1), (2, vi a2), (7, vi i8)] ∧ St (fun _ => True) w W_ [] [(cF kI A0 l0)] []
 have X10 : ∀ E_ W_, (∃ i8, G4 (Sum.inr i8) = some r ∧ J9 i8 E_ W_) → ∀ a, Fits a 22 E_ → K2 a W_ := by
   rintro E_ w11 ⟨i8, H, rfl, HS⟩
   rw [hG5] at H
   (try dsimp only at H)
   refine hK2 _ _ ?_
   refine sr_ fun _ hK12 => ?_
   refine ad_ hK12 ?_
   obtain rfl := os H
   exact rt1 Tryz.f170 rfl rfl hR_ ⟨rfl, HS.b⟩
 clear hK2
 refine WC.loop (fun k_ E_ W_ => ∃ i8, (∃ o_, spec_l05All.l0 l0 a1 a2 k_ i8 = some o_ ∧ G4 o_ = some r) ∧ J9 i8 E_ W_) k ⟨0, ⟨_, H, Ho7⟩, rfl, HS⟩ (sb rfl) ?_
 rintro k_ E_ w14 ⟨i8, ⟨oc6, H, Ho7⟩, rfl, HS⟩
 rcases k_ with _ | k15
 · exact no_ H
 replace H : spec_l05All.b0 l0 a1 a2 (spec_l05All.l0 l0 a1 a2 k15) k15 i8 = some oc6 := H
 unfold spec_l05All.b0 at H
 refine WC.seq fun _ hK16 => ?_
 refine sr_ fun _ hK17 => ?_
 refine mv_ ?_
 refine mv_ ?_
 refine ln_ underlying28 ?_
 refine b_ bin_lss ?_
 refine dn_ hK17 ?_
 rcases eti_ H with ⟨c18, H⟩ | ⟨c18, H⟩
 · refine wn_ (dF c18) (WC.exit ?_)
   obtain rfl := os H
   exact wv_ iq X10 ⟨i8, Ho7, rfl, HS⟩
 refine wy_ (dT c18) (WC.skip (via_ hK16 (WC.seq fun _ hK19 => ?_)))
 refine WC.block (sr_ fun _ hK20 => ?_)
 refine mv_ ?_
 refine mv_ ?_
 obtain ⟨⟨q21, q22⟩, H⟩ := if_some H
 obtain ⟨ad23, rfl⟩ := C_open (HS.getO 0 rfl) (lenpos q21 q22)
 refine v_ (ia_ underlying28 1 q21 q22) ?_
 refine v_ (Run.load rfl rfl underlying3 rfl (int_cell (HS.getO 0 rfl) i8 q21 q22)) ?_
 refine mv_ ?_
 refine mv_ ?_
 obtain ⟨t24, ha25, H⟩ := bind_some H
 refine cs0_ HS func96 (spec_l01In.calls (l0.getD i8.toNat 0) a1 a2 t24 _ ha25) (fun w26 HS => ?_)
 clear ha25
 refine nt_ ?_
 refine dn_ hK20 ?_
 rcases ite_ H with ⟨c27, H⟩ | ⟨c27, H⟩
 · refine wn_ (nB c27) (WC.skip (via_ hK19 (rg_ (mv_ ?_))))
   refine b_ bin_add64 ?_
   refine as_ ?_
   refine WL.done ?_
   exact wr_ k15 iq ⟨(wrap64 (i8 + 1)), ⟨_, H, Ho7⟩, rfl, HS⟩
 refine wy_ (nB (bF c27)) (sr_ fun _ hK28 => ?_)
 refine ad_ hK28 ?_
 refine WC.ret ?_
 obtain rfl := os H
 rw [hG5] at Ho7
 replace H : some _ = some _ := Ho7
 obtain rfl := os H
 exact fin1 Tryz.f170 rfl rfl hR_ ⟨rfl, HS.b⟩
def spec_l05Fits.g (k : Nat) (l0 : List Int) (l1 : List Int) : Option Bool := ((spec_l05Width.f (l0.length : Int)).bind fun t3 => (if t3 = true then ((spec_l05All.g k l0 (-8) 7).bind fun t7 => (if t7 = true then (if (l1.length : Int) = (wrap64 (Int.tdiv (l0.length : Int) 4)) then ((spec_l05All.g k l1 1 127).bind fun t12 => (some t12)) else (some false)) else (some false))) else (some false)))
theorem spec_l05Fits.runs (k : Nat) (A0 : Option Addr) (c0 : Nat) (l0 : List Int) (A1 : Option Addr) (c1 : Nat) (l1 : List Int) (r : Bool) (w : World) (hr0 : kI.C w A0 l0.length l0) (hc0 : l0.length ≤ c0) (hr1 : kI.C w A1 l1.length l1) (hc1 : l1.length ≤ c1) (H : spec_l05Fits.g k l0 l1 = some r) :
   Calls prog 270 #[.slice A0 l0.length c0, .slice A1 l1.length c1] w fun e w' => e = .returned (.bool r) ∧ Below w.heap.size w w' := by
 unfold spec_l05Fits.g at H
 have HS : St (fun _ => True) w w [] [(cF kI A0 l0), (cF kI A1 l1)] [] := St.start (foot_cons (foot_C (Kd.heap_int _) hr0) (foot_cons (foot_C (Kd.heap_int _) hr1) foot_nil))
 refine cw_ (n := 24) func270 fun R_ hR_ => ?_
 refine sr_ fun _ hK1 => ?_
 refine ad_ hK1 ?_
 refine sr_ fun _ hK2 => ?_
 refine mv_ ?_
 refine ln_ underlying28 ?_
 obtain ⟨t3, ha4, H⟩ := bind_some H
 refine cs0_ HS func168 (spec_l05Width.calls (l0.length : Int) t3 _ ha4) (fun w5 HS => ?_)
 clear ha4
 refine mv_ ?_
 rcases eti_ H with ⟨c6, H⟩ | ⟨c6, H⟩
 · refine off_ (c' := false) (bF c6) ?_
   refine WL.know 8 (bF c6) ?_
   refine fast_ ?_
   refine via_ hK2 ?_
   obtain rfl := os H
   exact rt1 Tryz.f270 rfl rfl hR_ ⟨rfl, HS.b⟩
 refine on_ c6 ?_
 refine mv_ ?_
 refine on_ c6 ?_
 obtain ⟨t7, ha8, H⟩ := bind_some H
 refine cs_ HS func170 (spec_l05All.runs k A0 c0 l0 (-8) 7 t7 _ (HS.getO 0 rfl) hc0 ha8) (fun w9 HS => ?_)
 clear ha8
 refine v_ (Run.pickT rfl rfl c6 rfl) ?_
 refine mv_ ?_
 rcases eti_ H with ⟨c10, H⟩ | ⟨c10, H⟩
 · refine off_ (c' := false) (bF c10) ?_
   refine WL.know 12 (bF c10) ?_
   refine fast_ ?_
   refine via_ hK2 ?_
   obtain rfl := os H
   exact rt1 Tryz.f270 rfl rfl hR_ ⟨rfl, HS.b⟩
 refine on_ c10 ?_
 refine mv_ ?_
 refine on_ c10 ?_
 refine ln_ underlying28 ?_
 refine on_ c10 ?_
 refine mv_ ?_
 refine on_ c10 ?_
 refine ln_ underlying28 ?_
 refine on_ c10 ?_
 refine v_ (Run.bin rfl rfl rfl (bin_quo64 (show (4 : Int) ≠ 0 by decide))) ?_
 refine on_ c10 ?_
 refine b_ bin_eql ?_
 refine v_ (Run.pickT rfl rfl c10 rfl) ?_
 refine mv_ ?_
 rcases eti_ H with ⟨c11, H⟩ | ⟨c11, H⟩
 · refine off_ (c' := false) (eF c11) ?_
   refine WL.know 20 (eF c11) ?_
   refine fast_ ?_
   refine via_ hK2 ?_
   obtain rfl := os H
   exact rt1 Tryz.f270 rfl rfl hR_ ⟨rfl, HS.b⟩
 refine on_ (eT c11) (mv_ ?_)
 refine on_ (eT c11) ?_
 obtain ⟨t12, ha13, H⟩ := bind_some H
 refine cs_ HS func170 (spec_l05All.runs k A1 c1 l1 1 127 t12 _ (HS.getO 1 rfl) hc1 ha13) (fun w14 HS => ?_)
 clear ha13
 refine v_ (Run.pickT rfl rfl (eT c11) rfl) ?_
 refine ad_ hK2 ?_
 obtain rfl := os H
 exact rt1 Tryz.f270 rfl rfl hR_ ⟨rfl, HS.b⟩
def spec_MatrixOk.b0 (x0 : S30) (rec_ : Int → Option (Bool ⊕ Int)) (k34 : Nat) (i27 : Int) : Option (Bool ⊕ Int) := (if i27 < (x0.f1.length : Int) then (if 0 ≤ i27 ∧ i27 < (x0.f1.length : Int) then (if ((x0.f1.getD i27.toNat []).length : Int) = x0.f0 then (if 0 ≤ i27 ∧ i27 < (x0.f2.length : Int) then ((spec_l05Fits.g k34 (x0.f1.getD i27.toNat []) (x0.f2.getD i27.toNat [])).bind fun t54 => (if t54 = true then (rec_ (wrap64 (i27 + 1))) else (some (Sum.inl false)))) else none) else (some (Sum.inl false))) else none) else (some (Sum.inr i27)))
def spec_MatrixOk.l0 (x0 : S30) : Nat → Int → Option (Bool ⊕ Int)
 | 0, _ => none
 | k + 1, i27 => spec_MatrixOk.b0 x0 (spec_MatrixOk.l0 x0 k) k i27
def spec_MatrixOk.g (k : Nat) (x0 : S30) : Option Bool := ((spec_l05Width.f x0.f0).bind fun t6 => (if t6 = true then (if (x0.f1.length : Int) > 300 then (some false) else (if (x0.f2.length : Int) = (x0.f1.length : Int) then ((spec_l01In.f x0.f3 0 65536).bind fun t13 => (if t13 = true then ((spec_l01In.f x0.f4 0 24).bind fun t17 => (if t17 = true then ((spec_MatrixOk.l0 x0 k 0).bind (fun oc32 => match oc32 with | .inl r_ => some r_ | .inr i27 => (some true))) else (some false))) else (some false))) else (some false))) else (some false)))
theorem spec_MatrixOk.runs (k : Nat) (x0 : S30) (A0_1 : Option Addr) (c0_1 : Nat) (A0_2 : Option Addr) (c0_2 : Nat) (r : Bool) (w : World) (hr0_1 : kS3.C w A0_1 x0.f1.length x0.f1) (hc0_1 : x0.f1.length ≤ c0_1) (hr0_2 : kS3.C w A0_2 x0.f2.length x0.f2) (hc0_2 : x0.f2.length ≤ c0_2) (H : spec_MatrixOk.g k x0 = some r) :
   Calls prog 232 #[.agg #[vi x0.f0, .slice A0_1 x0.f1.length c0_1, .slice A0_2 x0.f2.length c0_2, vi x0.f3, vi x0.f4]] w fun e w' => e = .returned (.bool r) ∧ Below w.heap.size w w' := by
 unfold spec_MatrixOk.g at H
 have HS : St (fun _ => True) w w [] [(cF kS3 A0_1 x0.f1), (cF kS3 A0_2 x0.f2)] [] := St.start (foot_cons (foot_C (Kd.heap_slice _ (Kd.heap_int _)) hr0_1) (foot_cons (foot_C (Kd.heap_slice _ (Kd.heap_int _)) hr0_2) foot_nil))
 refine cw_ (n := 65) func232 fun R_ hR_ => ?_
 refine sr_ fun _ hK1 => ?_
 refine bo_ HS (fun b2 w3 hb2 HS => ?_)
 refine ad_ hK1 ?_
 refine WC.seq fun _ hK4 => ?_
 refine sr_ fun _ hK5 => ?_
 refine v_ (fa_ underlying30) ?_
 refine v_ (lb_ (HS.mu 0 rfl) underlying3 rfl) ?_
 obtain ⟨t6, ha7, H⟩ := bind_some H
 refine cs0_ HS func168 (spec_l05Width.calls x0.f0 t6 _ ha7) (fun w8 HS => ?_)
 clear ha7
 refine nt_ ?_
 refine mv_ ?_
 rcases eti_ H with ⟨c9, H⟩ | ⟨c9, H⟩
 · refine off_ (c' := true) (nB (bF c9)) ?_
   refine WL.know 8 (nB (bF c9)) ?_
   refine fast_ ?_
   refine via_ hK5 (wy_ rfl ?_)
   refine sr_ fun _ hK63 => ?_
   refine ad_ hK63 ?_
   obtain rfl := os H
   exact rt1 Tryz.f232 rfl rfl hR_ ⟨rfl, HS.b⟩
 refine on_ (nB c9) (v_ (fa_ underlying30) ?_)
 refine on_ (nB c9) (v_ (lb_ (HS.mu 0 rfl) underlying26 rfl) ?_)
 refine on_ (nB c9) (ln_ underlying26 ?_)
 refine on_ (nB c9) (b_ bin_gtr ?_)
 refine v_ (Run.pickF rfl rfl (nB c9) rfl) ?_
 refine mv_ ?_
 rcases ite_ H with ⟨c10, H⟩ | ⟨c10, H⟩
 · refine off_ (c' := true) (dT c10) ?_
   refine WL.know 14 (dT c10) ?_
   refine fast_ ?_
   refine via_ hK5 (wy_ rfl ?_)
   refine sr_ fun _ hK11 => ?_
   refine ad_ hK11 ?_
   obtain rfl := os H
   exact rt1 Tryz.f232 rfl rfl hR_ ⟨rfl, HS.b⟩
 refine on_ (dF c10) (v_ (fa_ underlying30) ?_)
 refine on_ (dF c10) (v_ (lb_ (HS.mu 0 rfl) underlying26 rfl) ?_)
 refine on_ (dF c10) (ln_ underlying26 ?_)
 refine on_ (dF c10) (v_ (fa_ underlying30) ?_)
 refine on_ (dF c10) (v_ (lb_ (HS.mu 0 rfl) underlying26 rfl) ?_)
 refine on_ (dF c10) (ln_ underlying26 ?_)
 refine on_ (dF c10) (b_ bin_neq ?_)
 refine v_ (Run.pickF rfl rfl (dF c10) rfl) ?_
 refine mv_ ?_
 rcases eti_ H with ⟨c12, H⟩ | ⟨c12, H⟩
 · refine off_ (c' := true) (qT c12) ?_
   refine WL.know 23 (qT c12) ?_
   refine fast_ ?_
   refine via_ hK5 (wy_ rfl ?_)
   refine sr_ fun _ hK62 => ?_
   refine ad_ hK62 ?_
   obtain rfl := os H
   exact rt1 Tryz.f232 rfl rfl hR_ ⟨rfl, HS.b⟩
 refine on_ (qF c12) (v_ (fa_ underlying30) ?_)
 refine on_ (qF c12) (v_ (lb_ (HS.mu 0 rfl) underlying3 rfl) ?_)
 refine on_ (qF c12) ?_
 obtain ⟨t13, ha14, H⟩ := bind_some H
 refine cs0_ HS func96 (spec_l01In.calls x0.f3 0 65536 t13 _ ha14) (fun w15 HS => ?_)
 clear ha14
 refine on_ (qF c12) (nt_ ?_)
 refine v_ (Run.pickF rfl rfl (qF c12) rfl) ?_
 refine mv_ ?_
 rcases eti_ H with ⟨c16, H⟩ | ⟨c16, H⟩
 · refine off_ (c' := true) (nB (bF c16)) ?_
   refine WL.know 29 (nB (bF c16)) ?_
   refine fast_ ?_
   refine via_ hK5 (wy_ rfl ?_)
   refine sr_ fun _ hK61 => ?_
   refine ad_ hK61 ?_
   obtain rfl := os H
   exact rt1 Tryz.f232 rfl rfl hR_ ⟨rfl, HS.b⟩
 refine on_ (nB c16) (v_ (fa_ underlying30) ?_)
 refine on_ (nB c16) (v_ (lb_ (HS.mu 0 rfl) underlying3 rfl) ?_)
 refine on_ (nB c16) ?_
 obtain ⟨t17, ha18, H⟩ := bind_some H
 refine cs0_ HS func96 (spec_l01In.calls x0.f4 0 24 t17 _ ha18) (fun w19 HS => ?_)
 clear ha18
 refine on_ (nB c16) (nt_ ?_)
 refine v_ (Run.pickF rfl rfl (nB c16) rfl) ?_
 refine dn_ hK5 ?_
 rcases eti_ H with ⟨c20, H⟩ | ⟨c20, H⟩
 · refine wy_ (nB (bF c20)) (sr_ fun _ hK60 => ?_)
   refine ad_ hK60 ?_
   obtain rfl := os H
   exact rt1 Tryz.f232 rfl rfl hR_ ⟨rfl, HS.b⟩
 refine wn_ (nB c20) (WC.skip (via_ hK4 (WC.seq fun K21 hK21 => ?_)))
 refine sr_ fun _ hK22 => ?_
 refine ad_ hK22 ?_
 refine WC.block ?_
 obtain ⟨G23, hG24, oc25, H, Ho26⟩ := open_G H
 let J28 := fun (i27 : Int) (E_ : Env) (W_ : World) => E_ = [(1, .pointer (some ⟨b2, 0, none⟩)), (3, vi i27)] ∧ St (fun _ => True) w W_ [boxM b2 #[vi x0.f0, .slice A0_1 x0.f1.length c0_1, .slice A0_2 x0.f2.length c0_2, vi x0.f3, vi x0.f4] 30] [(cF kS3 A0_1 x0.f1), (cF kS3 A0_2 x0.f2)] []
 have X29 : ∀ E_ W_, (∃ i27, G23 (Sum.inr i27) = some r ∧ J28 i27 E_ W_) → ∀ a, Fits a 65 E_ → K21 a W_ := by
   rintro E_ w30 ⟨i27, H, rfl, HS⟩
   rw [hG24] at H
   (try dsimp only at H)
   refine hK21 _ _ ?_
   refine sr_ fun _ hK31 => ?_
   refine ad_ hK31 ?_
   obtain rfl := os H
   exact rt1 Tryz.f232 rfl rfl hR_ ⟨rfl, HS.b⟩
 clear hK21
 refine WC.loop (fun k_ E_ W_ => ∃ i27, (∃ o_, spec_MatrixOk.l0 x0 k_ i27 = some o_ ∧ G23 o_ = some r) ∧ J28 i27 E_ W_) k ⟨0, ⟨_, H, Ho26⟩, rfl, HS⟩ (sb rfl) ?_
 rintro k_ E_ w33 ⟨i27, ⟨oc25, H, Ho26⟩, rfl, HS⟩
 rcases k_ with _ | k34
 · exact no_ H
 replace H : spec_MatrixOk.b0 x0 (spec_MatrixOk.l0 x0 k34) k34 i27 = some oc25 := H
 unfold spec_MatrixOk.b0 at H
 refine WC.seq fun _ hK35 => ?_
 refine sr_ fun _ hK36 => ?_
 refine mv_ ?_
 refine v_ (fa_ underlying30) ?_
 refine v_ (lb_ (HS.mu 0 rfl) underlying26 rfl) ?_
 refine ln_ underlying26 ?_
 refine b_ bin_lss ?_
 refine dn_ hK36 ?_
 rcases eti_ H with ⟨c37, H⟩ | ⟨c37, H⟩
 · refine wn_ (dF c37) (WC.exit ?_)
   obtain rfl := os H
   exact wv_ iq X29 ⟨i27, Ho26, rfl, HS⟩
 refine wy_ (dT c37) (WC.skip (via_ hK35 (WC.seq fun _ hK38 => ?_)))
 refine WC.block (WC.seq fun _ hK39 => ?_)
 refine WC.drawS HS [] rfl rfl (fun w40 HS => ?_)
 have HB := Below.refl w40.heap.size w40
 have HSW := HS
 refine df_ 0 underlying30 ?_
 refine dm_ 2 ?_
 refine df_ 6 underlying30 ?_
 refine bl_ 1 HS (Below.refl _ _) 0 underlying26 rfl ?_
 obtain ⟨⟨q41, q42⟩, H⟩ := if_some H
 obtain ⟨ad43, rfl⟩ := C_open (HS.getO 0 rfl) (lenpos q41 q42)
 refine di_ 3 underlying26 1 q41 q42 ?_
 obtain ⟨A44, c45, le46, HS⟩ := HS.slO 0 rfl i27 q41 q42
 replace HSW := HS
 refine dt_ 4 (Below.refl _ _) (fun w_ hw_ => Run.load rfl rfl underlying28 rfl ((HS.below hw_).getO 1 rfl)) ?_
 refine dp_ 5 (fun _ => Run.len (ts := #[]) rfl underlying28 rfl) ?_
 refine bl_ 7 HS (Below.refl _ _) 0 underlying3 rfl ?_
 refine dp_ 8 (fun _ => Run.bin rfl rfl rfl bin_neq) ?_
 refine dm_ 9 ?_
 rcases eti_ H with ⟨c47, H⟩ | ⟨c47, H⟩
 · refine doTs_ 12 51 [10, 11, 12, 13, 14, 15, 16, 17, 18, 19, 20, 21] [52, 53, 54, 55, 56, 57, 58, 59, 60, 61, 62, 63] (qT c47) ?_
   refine dp_ 22 (fun _ => Run.pickT rfl rfl (qT c47) rfl) ?_
   refine dd_ ?_
   clear HB HSW
   refine via_ hK39 (wy_ rfl ?_)
   refine sr_ fun _ hK59 => ?_
   refine ad_ hK59 ?_
   refine WC.ret ?_
   obtain rfl := os H
   rw [hG24] at Ho26
   replace H : some _ = some _ := Ho26
   obtain rfl := os H
   exact fin1 Tryz.f232 rfl rfl hR_ ⟨rfl, HS.b⟩
 refine dfg_ 10 (qF c47) underlying30 ?_
 refine dg_ 12 (qF c47) (fun _ => Run.move rfl rfl) ?_
 refine dfg_ 15 (qF c47) underlying30 ?_
 refine dg_ 17 (qF c47) (fun _ => Run.move rfl rfl) ?_
 refine blg_ 11 (qF c47) HS (Below.refl _ _) 0 underlying26 rfl ?_
 refine dg_ 13 (qF c47) (fun _ => Run.indexAddr rfl rfl rfl underlying26 (sz := 1) (by kernel_rfl) q41 q42) ?_
 refine dh_ 14 (qF c47) (Below.refl _ _) (fun w_ hw_ => Run.load rfl rfl underlying28 rfl ((HS.below hw_).getO 1 rfl)) ?_
 refine blg_ 16 (qF c47) HS (Below.refl _ _) 0 underlying26 rfl ?_
 obtain ⟨⟨q48, q49⟩, H⟩ := if_some H
 obtain ⟨ad50, rfl⟩ := C_open (HS.getO 3 rfl) (lenpos q48 q49)
 refine dg_ 18 (qF c47) (fun _ => Run.indexAddr rfl rfl rfl underlying26 (sz := 1) (by kernel_rfl) q48 q49) ?_
 obtain ⟨A51, c52, le53, HS⟩ := HS.slO 3 rfl i27 q48 q49
 replace HSW := HS
 refine dh_ 19 (qF c47) (Below.refl _ _) (fun w_ hw_ => Run.load rfl rfl underlying28 rfl ((HS.below hw_).getO 1 rfl)) ?_
 obtain ⟨t54, ha55, H⟩ := bind_some H
 refine dcs_ HS HB 20 (w_on rfl rfl rfl (qF c47)) func270 (spec_l05Fits.runs k34 A44 c45 (x0.f1.getD i27.toNat []) A51 c52 (x0.f2.getD i27.toNat []) t54 _ (HS.getO 2 rfl) le46 (HS.getO 0 rfl) le53 ha55) (fun w56 HS HB => ?_)
 clear ha55
 refine dg_ 21 (qF c47) (fun _ => Run.not rfl rfl) ?_
 refine dp_ 22 (fun _ => Run.pickF rfl rfl (qF c47) rfl) ?_
 refine dd_ ?_
 clear HB HSW
 refine via_ hK39 ?_
 rcases ite_ H with ⟨c57, H⟩ | ⟨c57, H⟩
 · refine wn_ (nB c57) (WC.skip (via_ hK38 (rg_ (mv_ ?_))))
   refine b_ bin_add64 ?_
   refine as_ ?_
   refine WL.done ?_
   exact wr_ k34 iq ⟨(wrap64 (i27 + 1)), ⟨_, H, Ho26⟩, rfl, (St.pk HS [4, 5] [] rfl rfl)⟩
 refine wy_ (nB (bF c57)) (sr_ fun _ hK58 => ?_)
 refine ad_ hK58 ?_
 refine WC.ret ?_
 obtain rfl := os H
 rw [hG24] at Ho26
 replace H : some _ = some _ := Ho26
 obtain rfl := os H
 exact fin1 Tryz.f232 rfl rfl hR_ ⟨rfl, HS.b⟩
def spec_Worst.b0 (l0 : List Int) (l1 : List Int) (rec_ : Int → Int → Option (Int × Int)) (k23 : Nat) (i15 : Int) (i16 : Int) : Option (Int × Int) := (if i16 < (l0.length : Int) then (if 0 ≤ (wrap64 (Int.tdiv i16 4)) ∧ (wrap64 (Int.tdiv i16 4)) < (l1.length : Int) then (if 0 ≤ i16 ∧ i16 < (l0.length : Int) then ((spec_l05Abs.f (l0.getD i16.toNat 0)).bind fun t35 => (rec_ (wrap64 (i15 + (wrap64 ((wrap64 ((l1.getD (wrap64 (Int.tdiv i16 4)).toNat 0) * 127)) * t35)))) (wrap64 (i16 + 1)))) else none) else none) else (some (i15, i16)))
def spec_Worst.l0 (l0 : List Int) (l1 : List Int) : Nat → Int → Int → Option (Int × Int)
 | 0, _, _ => none
 | k + 1, i15, i16 => spec_Worst.b0 l0 l1 (spec_Worst.l0 l0 l1 k) k i15 i16
def spec_Worst.g (k : Nat) (l0 : List Int) (l1 : List Int) : Option Int := ((spec_l05Fits.g k l0 l1).bind fun t4 => (if t4 = true then ((spec_Worst.l0 l0 l1 k 0 0).bind (fun oc21 => (some oc21.1))) else (some 0)))
theorem spec_Worst.runs (k : Nat) (A0 : Option Addr) (c0 : Nat) (l0 : List Int) (A1 : Option Addr) (c1 : Nat) (l1 : List Int) (r : Int) (w : World) (hr0 : kI.C w A0 l0.length l0) (hc0 : l0.length ≤ c0) (hr1 : kI.C w A1 l1.length l1) (hc1 : l1.length ≤ c1) (H : spec_Worst.g k l0 l1 = some r) :
   Calls prog 271 #[.slice A0 l0.length c0, .slice A1 l1.length c1] w fun e w' => e = .returned (vi r) ∧ Below w.heap.size w w' := by
 unfold spec_Worst.g at H
 have HS : St (fun _ => True) w w [] [(cF kI A0 l0), (cF kI A1 l1)] [] := St.start (foot_cons (foot_C (Kd.heap_int _) hr0) (foot_cons (foot_C (Kd.heap_int _) hr1) foot_nil))
 refine cw_ (n := 32) func271 fun R_ hR_ => ?_
 refine sr_ fun _ hK1 => ?_
 refine ad_ hK1 ?_
 refine WC.seq fun _ hK2 => ?_
 refine sr_ fun _ hK3 => ?_
 refine mv_ ?_
 refine mv_ ?_
 obtain ⟨t4, ha5, H⟩ := bind_some H
 refine cs_ HS func270 (spec_l05Fits.runs k A0 c0 l0 A1 c1 l1 t4 _ (HS.getO 0 rfl) hc0 (HS.getO 1 rfl) hc1 ha5) (fun w6 HS => ?_)
 clear ha5
 refine nt_ ?_
 refine dn_ hK3 ?_
 rcases eti_ H with ⟨c7, H⟩ | ⟨c7, H⟩
 · refine wy_ (nB (bF c7)) (sr_ fun _ hK38 => ?_)
   refine ad_ hK38 ?_
   obtain rfl := os H
   exact rt1 Tryz.f271 rfl rfl hR_ ⟨rfl, HS.b⟩
 refine wn_ (nB c7) (WC.skip (via_ hK2 (sr_ fun _ hK8 => ?_)))
 refine ad_ hK8 ?_
 refine WC.seq fun K9 hK9 => ?_
 refine sr_ fun _ hK10 => ?_
 refine ad_ hK10 ?_
 refine WC.block ?_
 obtain ⟨G11, hG12, oc13, H, Ho14⟩ := open_G H
 let J17 := fun (i15 : Int) (i16 : Int) (E_ : Env) (W_ : World) => E_ = [(0, .slice A0 l0.length c0), (1, .slice A1 l1.length c1), (5, vi i15), (6, vi i16)] ∧ St (fun _ => True) w W_ [] [(cF kI A0 l0), (cF kI A1 l1)] []
 have X18 : ∀ E_ W_, (∃ i15 i16, G11 (i15, i16) = some r ∧ J17 i15 i16 E_ W_) → ∀ a, Fits a 32 E_ → K9 a W_ := by
   rintro E_ w19 ⟨i15, i16, H, rfl, HS⟩
   rw [hG12] at H
   (try dsimp only at H)
   refine hK9 _ _ ?_
   refine sr_ fun _ hK20 => ?_
   refine mv_ ?_
   refine ad_ hK20 ?_
   obtain rfl := os H
   exact rt1 Tryz.f271 rfl rfl hR_ ⟨rfl, HS.b⟩
 clear hK9
 refine WC.loop (fun k_ E_ W_ => ∃ i15 i16, (∃ o_, spec_Worst.l0 l0 l1 k_ i15 i16 = some o_ ∧ G11 o_ = some r) ∧ J17 i15 i16 E_ W_) k ⟨0, 0, ⟨_, H, Ho14⟩, rfl, HS⟩ (sb rfl) ?_
 rintro k_ E_ w22 ⟨i15, i16, ⟨oc13, H, Ho14⟩, rfl, HS⟩
 rcases k_ with _ | k23
 · exact no_ H
 replace H : spec_Worst.b0 l0 l1 (spec_Worst.l0 l0 l1 k23) k23 i15 i16 = some oc13 := H
 unfold spec_Worst.b0 at H
 refine WC.seq fun _ hK24 => ?_
 refine sr_ fun _ hK25 => ?_
 refine mv_ ?_
 refine mv_ ?_
 refine ln_ underlying28 ?_
 refine b_ bin_lss ?_
 refine dn_ hK25 ?_
 rcases eti_ H with ⟨c26, H⟩ | ⟨c26, H⟩
 · refine wn_ (dF c26) (WC.exit ?_)
   obtain rfl := os H
   exact wv_ iq X18 ⟨i15, i16, Ho14, rfl, HS⟩
 refine wy_ (dT c26) (WC.skip (via_ hK24 (WC.seq fun _ hK27 => ?_)))
 refine WC.block (WC.drawS HS [] rfl rfl (fun w28 HS => ?_))
 have HB := Below.refl w28.heap.size w28
 have HSW := HS
 refine dm_ 0 ?_
 refine dm_ 1 ?_
 refine dm_ 2 ?_
 refine dp_ 3 (fun _ => Run.bin rfl rfl rfl (bin_quo64 (show (4 : Int) ≠ 0 by decide))) ?_
 obtain ⟨⟨q29, q30⟩, H⟩ := if_some H
 obtain ⟨ad31, rfl⟩ := C_open (HS.getO 1 rfl) (lenpos q29 q30)
 refine di_ 4 underlying28 1 q29 q30 ?_
 refine dm_ 7 ?_
 refine dm_ 8 ?_
 obtain ⟨⟨q32, q33⟩, H⟩ := if_some H
 obtain ⟨ad34, rfl⟩ := C_open (HS.getO 0 rfl) (lenpos q32 q33)
 refine di_ 9 underlying28 1 q32 q33 ?_
 refine dt_ 5 (Below.refl _ _) (fun w_ hw_ => Run.load rfl rfl underlying3 rfl (int_cell ((HS.below hw_).getO 1 rfl) (wrap64 (Int.tdiv i16 4)) q29 q30)) ?_
 refine dp_ 6 (fun _ => Run.bin rfl rfl rfl bin_mul64) ?_
 refine dt_ 10 (Below.refl _ _) (fun w_ hw_ => Run.load rfl rfl underlying3 rfl (int_cell ((HS.below hw_).getO 0 rfl) i16 q32 q33)) ?_
 obtain ⟨t35, ha36, H⟩ := bind_some H
 refine dcs0_ HS HB 11 (w_none rfl) func197 (spec_l05Abs.calls (l0.getD i16.toNat 0) t35 _ ha36) (fun w37 HS HB => ?_)
 clear ha36
 refine dp_ 12 (fun _ => Run.bin rfl rfl rfl bin_mul64) ?_
 refine dp_ 13 (fun _ => Run.bin rfl rfl rfl bin_add64) ?_
 refine dp_ 14 (fun _ => Run.assign rfl rfl) ?_
 refine dd_ ?_
 clear HB HSW
 refine via_ hK27 (rg_ (mv_ ?_))
 refine b_ bin_add64 ?_
 refine as_ ?_
 refine WL.done ?_
 exact wr_ k23 iq ⟨(wrap64 (i15 + (wrap64 ((wrap64 ((l1.getD (wrap64 (Int.tdiv i16 4)).toNat 0) * 127)) * t35)))), (wrap64 (i16 + 1)), ⟨_, H, Ho14⟩, rfl, HS⟩
def spec_l10Worst.b0 (x0 : S30) (rec_ : Int → Int → Option (Int × Int)) (k19 : Nat) (i11 : Int) (i12 : Int) : Option (Int × Int) := (if i12 < (x0.f1.length : Int) then (((if 0 ≤ i12 ∧ i12 < (x0.f1.length : Int) then (if 0 ≤ i12 ∧ i12 < (x0.f2.length : Int) then ((spec_Worst.g k19 (x0.f1.getD i12.toNat []) (x0.f2.getD i12.toNat [])).bind fun t46 => (if t46 > i11 then (some t46) else (some i11))) else none) else none) : Option Int).bind (fun oc31 => (rec_ oc31 (wrap64 (i12 + 1))))) else (some (i11, i12)))
def spec_l10Worst.l0 (x0 : S30) : Nat → Int → Int → Option (Int × Int)
 | 0, _, _ => none
 | k + 1, i11, i12 => spec_l10Worst.b0 x0 (spec_l10Worst.l0 x0 k) k i11 i12
def spec_l10Worst.g (k : Nat) (x0 : S30) : Option Int := ((spec_l10Worst.l0 x0 k 0 0).bind (fun oc17 => (some oc17.1)))
theorem spec_l10Worst.runs (k : Nat) (x0 : S30) (A0_1 : Option Addr) (c0_1 : Nat) (A0_2 : Option Addr) (c0_2 : Nat) (r : Int) (w : World) (hr0_1 : kS3.C w A0_1 x0.f1.length x0.f1) (hc0_1 : x0.f1.length ≤ c0_1) (hr0_2 : kS3.C w A0_2 x0.f2.length x0.f2) (hc0_2 : x0.f2.length ≤ c0_2) (H : spec_l10Worst.g k x0 = some r) :
   Calls prog 233 #[.agg #[vi x0.f0, .slice A0_1 x0.f1.length c0_1, .slice A0_2 x0.f2.length c0_2, vi x0.f3, vi x0.f4]] w fun e w' => e = .returned (vi r) ∧ Below w.heap.size w w' := by
 unfold spec_l10Worst.g at H
 have HS : St (fun _ => True) w w [] [(cF kS3 A0_1 x0.f1), (cF kS3 A0_2 x0.f2)] [] := St.start (foot_cons (foot_C (Kd.heap_slice _ (Kd.heap_int _)) hr0_1) (foot_cons (foot_C (Kd.heap_slice _ (Kd.heap_int _)) hr0_2) foot_nil))
 refine cw_ (n := 29) func233 fun R_ hR_ => ?_
 refine sr_ fun _ hK1 => ?_
 refine bo_ HS (fun b2 w3 hb2 HS => ?_)
 refine ad_ hK1 ?_
 refine sr_ fun _ hK4 => ?_
 refine ad_ hK4 ?_
 refine WC.seq fun K5 hK5 => ?_
 refine sr_ fun _ hK6 => ?_
 refine ad_ hK6 ?_
 refine WC.block ?_
 obtain ⟨G7, hG8, oc9, H, Ho10⟩ := open_G H
 let J13 := fun (i11 : Int) (i12 : Int) (E_ : Env) (W_ : World) => E_ = [(1, .pointer (some ⟨b2, 0, none⟩)), (3, vi i11), (4, vi i12)] ∧ St (fun _ => True) w W_ [boxM b2 #[vi x0.f0, .slice A0_1 x0.f1.length c0_1, .slice A0_2 x0.f2.length c0_2, vi x0.f3, vi x0.f4] 30] [(cF kS3 A0_1 x0.f1), (cF kS3 A0_2 x0.f2)] []
 have X14 : ∀ E_ W_, (∃ i11 i12, G7 (i11, i12) = some r ∧ J13 i11 i12 E_ W_) → ∀ a, Fits a 29 E_ → K5 a W_ := by
   rintro E_ w15 ⟨i11, i12, H, rfl, HS⟩
   rw [hG8] at H
   (try dsimp only at H)
   refine hK5 _ _ ?_
   refine sr_ fun _ hK16 => ?_
   refine mv_ ?_
   refine ad_ hK16 ?_
   obtain rfl := os H
   exact rt1 Tryz.f233 rfl rfl hR_ ⟨rfl, HS.b⟩
 clear hK5
 refine WC.loop (fun k_ E_ W_ => ∃ i11 i12, (∃ o_, spec_l10Worst.l0 x0 k_ i11 i12 = some o_ ∧ G7 o_ = some r) ∧ J13 i11 i12 E_ W_) k ⟨0, 0, ⟨_, H, Ho10⟩, rfl, HS⟩ (sb rfl) ?_
 rintro k_ E_ w18 ⟨i11, i12, ⟨oc9, H, Ho10⟩, rfl, HS⟩
 rcases k_ with _ | k19
 · exact no_ H
 replace H : spec_l10Worst.b0 x0 (spec_l10Worst.l0 x0 k19) k19 i11 i12 = some oc9 := H
 unfold spec_l10Worst.b0 at H
 refine WC.seq fun _ hK20 => ?_
 refine sr_ fun _ hK21 => ?_
 refine mv_ ?_
 refine v_ (fa_ underlying30) ?_
 refine v_ (lb_ (HS.mu 0 rfl) underlying26 rfl) ?_
 refine ln_ underlying26 ?_
 refine b_ bin_lss ?_
 refine dn_ hK21 ?_
 rcases eti_ H with ⟨c22, H⟩ | ⟨c22, H⟩
 · refine wn_ (dF c22) (WC.exit ?_)
   obtain rfl := os H
   exact wv_ iq X14 ⟨i11, i12, Ho10, rfl, HS⟩
 refine wy_ (dT c22) (WC.skip (via_ hK20 (WC.seq fun K23 hK23 => ?_)))
 obtain ⟨G24, hG25, oc26, H, Ho27⟩ := open_G H
 have X29 : ∀ E_ W_, (∃ (i28 : Int), E_ = [(1, .pointer (some ⟨b2, 0, none⟩)), (3, vi i28), (4, vi i12)] ∧ G24 i28 = some oc9 ∧ St (fun _ => True) w W_ [boxM b2 #[vi x0.f0, .slice A0_1 x0.f1.length c0_1, .slice A0_2 x0.f2.length c0_2, vi x0.f3, vi x0.f4] 30] [(cF kS3 A0_1 x0.f1), (cF kS3 A0_2 x0.f2)] []) → ∀ a, Fits a 29 E_ → K23 a W_ := by
   rintro E_ w30 ⟨i28, rfl, H, HS⟩
   rw [hG25] at H
   (try dsimp only at H)
   refine hK23 _ _ ?_
   refine rg_ (mv_ ?_)
   refine b_ bin_add64 ?_
   refine as_ ?_
   refine WL.done ?_
   exact wr_ k19 iq ⟨i28, (wrap64 (i12 + 1)), ⟨_, H, Ho10⟩, rfl, HS⟩
 clear hK23
 refine WC.block (WC.seq fun _ hK32 => ?_)
 refine WC.drawS HS [] rfl rfl (fun w33 HS => ?_)
 have HB := Below.refl w33.heap.size w33
 have HSW := HS
 refine df_ 0 underlying30 ?_
 refine dm_ 2 ?_
 refine df_ 5 underlying30 ?_
 refine dm_ 7 ?_
 refine bl_ 1 HS (Below.refl _ _) 0 underlying26 rfl ?_
 obtain ⟨⟨q34, q35⟩, H⟩ := if_some H
 obtain ⟨ad36, rfl⟩ := C_open (HS.getO 0 rfl) (lenpos q34 q35)
 refine di_ 3 underlying26 1 q34 q35 ?_
 obtain ⟨A37, c38, le39, HS⟩ := HS.slO 0 rfl i12 q34 q35
 replace HSW := HS
 refine dt_ 4 (Below.refl _ _) (fun w_ hw_ => Run.load rfl rfl underlying28 rfl ((HS.below hw_).getO 1 rfl)) ?_
 refine bl_ 6 HS (Below.refl _ _) 0 underlying26 rfl ?_
 obtain ⟨⟨q40, q41⟩, H⟩ := if_some H
 obtain ⟨ad42, rfl⟩ := C_open (HS.getO 3 rfl) (lenpos q40 q41)
 refine di_ 8 underlying26 1 q40 q41 ?_
 obtain ⟨A43, c44, le45, HS⟩ := HS.slO 3 rfl i12 q40 q41
 replace HSW := HS
 refine dt_ 9 (Below.refl _ _) (fun w_ hw_ => Run.load rfl rfl underlying28 rfl ((HS.below hw_).getO 1 rfl)) ?_
 obtain ⟨t46, ha47, H⟩ := bind_some H
 refine dcs_ HS HB 10 (w_none rfl) func271 (spec_Worst.runs k19 A37 c38 (x0.f1.getD i12.toNat []) A43 c44 (x0.f2.getD i12.toNat []) t46 _ (HS.getO 2 rfl) le39 (HS.getO 0 rfl) le45 ha47) (fun w48 HS HB => ?_)
 clear ha47
 refine dp_ 11 (fun _ => Run.assign rfl rfl) ?_
 refine dd_ ?_
 clear HB HSW
 refine via_ hK32 (sr_ fun _ hK49 => ?_)
 refine mv_ ?_
 refine mv_ ?_
 refine b_ bin_gtr ?_
 refine dn_ hK49 ?_
 rcases eti_ H with ⟨c50, H⟩ | ⟨c50, H⟩
 · refine wn_ (dF c50) (WC.skip ?_)
   obtain rfl := os H
   exact wv_ iq X29 ⟨i11, rfl, Ho27, (St.pk HS [4, 5] [] rfl rfl)⟩
 refine wy_ (dT c50) (rg_ (mv_ ?_))
 refine as_ ?_
 refine WL.done ?_
 obtain rfl := os H
 exact wv_ iq X29 ⟨t46, rfl, Ho27, (St.pk HS [4, 5] [] rfl rfl)⟩
def spec_GainOk.g (k : Nat) (l0 : List Int) (a1 : Int) : Option Bool := (if (l0.length : Int) = a1 then ((spec_l05All.g k l0 0 127).bind fun t4 => (some t4)) else (some false))
theorem spec_GainOk.runs (k : Nat) (A0 : Option Addr) (c0 : Nat) (l0 : List Int) (a1 : Int) (r : Bool) (w : World) (hr0 : kI.C w A0 l0.length l0) (hc0 : l0.length ≤ c0) (H : spec_GainOk.g k l0 a1 = some r) :
   Calls prog 172 #[.slice A0 l0.length c0, vi a1] w fun e w' => e = .returned (.bool r) ∧ Below w.heap.size w w' := by
 unfold spec_GainOk.g at H
 have HS : St (fun _ => True) w w [] [(cF kI A0 l0)] [] := St.start (foot_cons (foot_C (Kd.heap_int _) hr0) foot_nil)
 refine cw_ (n := 13) func172 fun R_ hR_ => ?_
 refine sr_ fun _ hK1 => ?_
 refine ad_ hK1 ?_
 refine sr_ fun _ hK2 => ?_
 refine mv_ ?_
 refine ln_ underlying28 ?_
 refine mv_ ?_
 refine b_ bin_eql ?_
 refine mv_ ?_
 rcases eti_ H with ⟨c3, H⟩ | ⟨c3, H⟩
 · refine off_ (c' := false) (eF c3) ?_
   refine WL.know 9 (eF c3) ?_
   refine fast_ ?_
   refine via_ hK2 ?_
   obtain rfl := os H
   exact rt1 Tryz.f172 rfl rfl hR_ ⟨rfl, HS.b⟩
 refine on_ (eT c3) (mv_ ?_)
 refine on_ (eT c3) ?_
 obtain ⟨t4, ha5, H⟩ := bind_some H
 refine cs_ HS func170 (spec_l05All.runs k A0 c0 l0 0 127 t4 _ (HS.getO 0 rfl) hc0 ha5) (fun w6 HS => ?_)
 clear ha5
 refine v_ (Run.pickT rfl rfl (eT c3) rfl) ?_
 refine ad_ hK2 ?_
 obtain rfl := os H
 exact rt1 Tryz.f172 rfl rfl hR_ ⟨rfl, HS.b⟩
def spec_MergesOk.b2 (l0 : List S114) (xs15 : List Int) (i18 : Int) (rec_ : Int → Int → Option (Int × Int)) (k95 : Nat) (i52 : Int) (i53 : Int) : Option (Int × Int) := (if i53 < 2 then (((((if i53 = 1 then (some ((l0.getD i18.toNat o114).f1)) else (some ((l0.getD i18.toNat o114).f0))) : Option Int).bind (fun oc126 => (if oc126 < 256 then (some (wrap64 (i52 + 1))) else (if 0 ≤ (wrap64 (oc126 - 256)) ∧ (wrap64 (oc126 - 256)) < ((xs15.length : Nat) : Int) then (some (wrap64 (i52 + (xs15.getD (wrap64 (oc126 - 256)).toNat 0)))) else none)))) : Option Int).bind (fun oc107 => (rec_ oc107 (wrap64 (i53 + 1))))) else (some (i52, i53)))
def spec_MergesOk.l2 (l0 : List S114) (xs15 : List Int) (i18 : Int) : Nat → Int → Int → Option (Int × Int)
 | 0, _, _ => none
 | k + 1, i52, i53 => spec_MergesOk.b2 l0 xs15 i18 (spec_MergesOk.l2 l0 xs15 i18 k) k i52 i53
def spec_MergesOk.b1 (l0 : List S114) (i18 : Int) (rec_ : Int → Option (Bool ⊕ Int)) (k78 : Nat) (i63 : Int) : Option (Bool ⊕ Int) := (if i63 < i18 then (if 0 ≤ i63 ∧ i63 < (l0.length : Int) then (if (((l0.getD i63.toNat o114).f0) == ((l0.getD i18.toNat o114).f0) && (((l0.getD i63.toNat o114).f1) == ((l0.getD i18.toNat o114).f1))) = true then (some (Sum.inl false)) else (rec_ (wrap64 (i63 + 1)))) else none) else (some (Sum.inr i63)))
def spec_MergesOk.l1 (l0 : List S114) (i18 : Int) : Nat → Int → Option (Bool ⊕ Int)
 | 0, _ => none
 | k + 1, i63 => spec_MergesOk.b1 l0 i18 (spec_MergesOk.l1 l0 i18 k) k i63
def spec_MergesOk.b0 (l0 : List S114) (rec_ : (List Int) → Int → Option (Bool ⊕ ((List Int) × Int))) (k25 : Nat) (xs15 : List Int) (i18 : Int) : Option (Bool ⊕ ((List Int) × Int)) := (if i18 < (l0.length : Int) then (if 0 ≤ i18 ∧ i18 < (l0.length : Int) then ((spec_l01In.f ((l0.getD i18.toNat o114).f0) 0 (wrap64 (255 + i18))).bind fun t37 => (if t37 = true then ((spec_l01In.f ((l0.getD i18.toNat o114).f1) 0 (wrap64 (255 + i18))).bind fun t41 => (if t41 = true then ((spec_MergesOk.l2 l0 xs15 i18 k25 0 0).bind (fun oc93 => ((spec_MergesOk.l1 l0 i18 k25 0).bind (fun oc76 => match oc76 with | .inl r_ => some (Sum.inl r_) | .inr i63 => (if oc93.1 > 64 then (some (Sum.inl false)) else (if (xs15.length) < 4294967296 then (rec_ (xs15 ++ [oc93.1]) (wrap64 (i18 + 1))) else none)))))) else (some (Sum.inl false)))) else (some (Sum.inl false)))) else none) else (some (Sum.inr (xs15, i18))))
def spec_MergesOk.l0 (l0 : List S114) : Nat → (List Int) → Int → Option (Bool ⊕ ((List Int) × Int))
 | 0, _, _ => none
 | k + 1, xs15, i18 => spec_MergesOk.b0 l0 (spec_MergesOk.l0 l0 k) k xs15 i18
def spec_MergesOk.g (k : Nat) (l0 : List S114) : Option Bool := (if (l0.length : Int) > 16 then (some false) else ((spec_MergesOk.l0 l0 k ([] : List Int) 0).bind (fun oc23 => match oc23 with | .inl r_ => some r_ | .inr ⟨xs15, i18⟩ => (some true))))
theorem spec_MergesOk.runs (k : Nat) (A0 : Option Addr) (c0 : Nat) (l0 : List S114) (r : Bool) (w : World) (hr0 : k114.C w A0 l0.length l0) (hc0 : l0.length ≤ c0) (H : spec_MergesOk.g k l0 = some r) :
   Calls prog 169 #[.slice A0 l0.length c0] w fun e w' => e = .returned (.bool r) ∧ Below w.heap.size w w' := by
 unfold spec_MergesOk.g at H
 have HS : St (fun _ => True) w w [] [(cF k114 A0 l0)] [] := St.start (foot_cons (foot_C h114 hr0) foot_nil)
 refine cw_ (n := 86) func169 fun R_ hR_ => ?_
 refine sr_ fun _ hK1 => ?_
 refine ad_ hK1 ?_
 clear hK1
 refine WC.seq fun _ hK2 => ?_
 refine sr_ fun _ hK3 => ?_
 exact by (
 refine mv_ ?_
 refine ln_ underlying25 ?_
 refine b_ bin_gtr ?_
 refine dn_ hK3 ?_
 clear hK3
 rcases ite_ H with ⟨c4, H⟩ | ⟨c4, H⟩
 · refine wy_ (dT c4) (sr_ fun _ hK5 => ?_)
   refine ad_ hK5 ?_
   exact by (
   clear hK5
   obtain rfl := os H
   exact rt1 Tryz.f169 rfl rfl hR_ ⟨rfl, HS.b⟩ )
 refine wn_ (dF c4) (WC.skip (via_ hK2 (sr_ fun _ hK6 => ?_)))
 clear hK2
 refine WL.lit0 HS rfl rfl (by decide) rfl underlying28 (sz := 1) (by kernel_rfl) (fun v7 w8 HS => ?_)
 replace HS := HS.deriveO (p := (rF kI ([] : List Int) [])) (fun _ _ _ => Reps.none _ _)
 refine ad_ hK6 ?_
 exact by (
 clear hK6
 refine WC.seq fun K9 hK9 => ?_
 refine sr_ fun _ hK10 => ?_
 refine ad_ hK10 ?_
 clear hK10
 refine WC.block ?_
 obtain ⟨G11, hG12, oc13, H, Ho14⟩ := open_G H
 let J19 := fun (xs15 : List Int) v16 I17 (i18 : Int) (E_ : Env) (W_ : World) => E_ = [(0, .slice A0 l0.length c0), (3, v16), (4, vi i18)] ∧ St (fun _ => True) w W_ [rowM w.heap.size 3 1 v16 xs15.length I17] [(rF kI xs15 I17), (cF k114 A0 l0)] []
 exact by (
 have X20 : ∀ E_ W_, (∃ xs15 v16 I17 i18, G11 (Sum.inr (xs15, i18)) = some r ∧ J19 xs15 v16 I17 i18 E_ W_) → ∀ a, Fits a 86 E_ → K9 a W_ := by
   rintro E_ w21 ⟨xs15, v16, I17, i18, H, rfl, HS⟩
   rw [hG12] at H
   (try dsimp only at H)
   refine hK9 _ _ ?_
   clear hK9
   refine sr_ fun _ hK22 => ?_
   refine ad_ hK22 ?_
   exact by (
   clear hK22
   obtain rfl := os H
   exact rt1 Tryz.f169 rfl rfl hR_ ⟨rfl, HS.b⟩ )
 clear hK9
 refine WC.loop (fun k_ E_ W_ => ∃ xs15 v16 I17 i18, (∃ o_, spec_MergesOk.l0 l0 k_ xs15 i18 = some o_ ∧ G11 o_ = some r) ∧ J19 xs15 v16 I17 i18 E_ W_) k ⟨([] : List Int), v7, ([]), 0, ⟨_, H, Ho14⟩, rfl, HS⟩ (sb rfl) ?_
 rintro k_ E_ w24 ⟨xs15, v16, I17, i18, ⟨oc13, H, Ho14⟩, rfl, HS⟩
 rcases k_ with _ | k25
 · exact no_ H
 exact by (
 replace H : spec_MergesOk.b0 l0 (spec_MergesOk.l0 l0 k25) k25 xs15 i18 = some oc13 := H
 unfold spec_MergesOk.b0 at H
 refine WC.seq fun _ hK26 => ?_
 refine sr_ fun _ hK27 => ?_
 refine mv_ ?_
 refine mv_ ?_
 refine ln_ underlying25 ?_
 refine b_ bin_lss ?_
 exact by (
 refine dn_ hK27 ?_
 clear hK27
 rcases eti_ H with ⟨c28, H⟩ | ⟨c28, H⟩
 · refine wn_ (dF c28) (WC.exit ?_)
   obtain rfl := os H
   exact wv_ iq X20 ⟨xs15, v16, I17, i18, Ho14, rfl, HS⟩
 refine wy_ (dT c28) (WC.skip (via_ hK26 (WC.seq fun _ hK29 => ?_)))
 clear hK26
 exact by (
 refine WC.block (WC.seq fun _ hK30 => ?_)
 refine sr_ fun _ hK31 => ?_
 refine mv_ ?_
 refine mv_ ?_
 obtain ⟨⟨q32, q33⟩, H⟩ := if_some H
 obtain ⟨ad34, rfl⟩ := C_open (HS.getO 1 rfl) (lenpos q32 q33)
 refine v_ (ia_ underlying25 2 q32 q33) ?_
 refine v_ (fa_ underlying114) ?_
 exact by (
 obtain ⟨e35, el36, HS⟩ := HS.elO 1 rfl (by decide) o114 i18 q32 q33
 refine v_ (Run.load rfl rfl underlying3 rfl ((HS.getO 0 rfl).2 0 _ (at114_0 (AtK.whole (HS.getO 0 rfl).1)).int)) ?_
 refine mv_ ?_
 refine b_ bin_add64 ?_
 obtain ⟨t37, ha38, H⟩ := bind_some H
 refine cs0_ HS func96 (spec_l01In.calls ((l0.getD i18.toNat o114).f0) 0 (wrap64 (255 + i18)) t37 _ ha38) (fun w39 HS => ?_)
 clear ha38
 refine nt_ ?_
 exact by (
 refine mv_ ?_
 rcases eti_ H with ⟨c40, H⟩ | ⟨c40, H⟩
 · refine off_ (c' := true) (nB (bF c40)) ?_
   refine WL.know 28 (nB (bF c40)) ?_
   refine fast_ ?_
   refine via_ hK31 (wy_ rfl ?_)
   clear hK31
   refine sr_ fun _ hK130 => ?_
   exact by (
   refine ad_ hK130 ?_
   clear hK130
   refine WC.ret ?_
   obtain rfl := os H
   rw [hG12] at Ho14
   replace H : some _ = some _ := Ho14
   obtain rfl := os H
   exact fin1 Tryz.f169 rfl rfl hR_ ⟨rfl, HS.b⟩ )
 exact by (
 refine on_ (nB c40) (mv_ ?_)
 refine on_ (nB c40) (mv_ ?_)
 refine on_ (nB c40) (v_ (ia_ underlying25 2 q32 q33) ?_)
 refine on_ (nB c40) (v_ (fa_ underlying114) ?_)
 refine on_ (nB c40) (v_ (Run.load rfl rfl underlying3 rfl ((HS.getO 0 rfl).2 1 _ (at114_1 (AtK.whole (HS.getO 0 rfl).1)).int)) ?_)
 refine on_ (nB c40) (mv_ ?_)
 refine on_ (nB c40) (b_ bin_add64 ?_)
 refine on_ (nB c40) ?_
 exact by (
 obtain ⟨t41, ha42, H⟩ := bind_some H
 refine cs0_ HS func96 (spec_l01In.calls ((l0.getD i18.toNat o114).f1) 0 (wrap64 (255 + i18)) t41 _ ha42) (fun w43 HS => ?_)
 clear ha42
 refine on_ (nB c40) (nt_ ?_)
 refine v_ (Run.pickF rfl rfl (nB c40) rfl) ?_
 refine dn_ hK31 ?_
 clear hK31
 rcases eti_ H with ⟨c44, H⟩ | ⟨c44, H⟩
 · refine wy_ (nB (bF c44)) (sr_ fun _ hK129 => ?_)
   exact by (
   refine ad_ hK129 ?_
   clear hK129
   refine WC.ret ?_
   obtain rfl := os H
   rw [hG12] at Ho14
   replace H : some _ = some _ := Ho14
   obtain rfl := os H
   exact fin1 Tryz.f169 rfl rfl hR_ ⟨rfl, HS.b⟩ )
 exact by (
 refine wn_ (nB c44) (WC.skip (via_ hK30 (sr_ fun _ hK45 => ?_)))
 clear hK30
 refine ad_ hK45 ?_
 clear hK45
 refine WC.seq fun K46 hK46 => ?_
 refine sr_ fun _ hK47 => ?_
 refine ad_ hK47 ?_
 clear hK47
 exact by (
 refine WC.block ?_
 obtain ⟨G48, hG49, oc50, H, Ho51⟩ := open_G H
 let J54 := fun (i52 : Int) (i53 : Int) (E_ : Env) (W_ : World) => E_ = [(0, .slice (some ad34) l0.length c0), (3, v16), (4, vi i18), (5, vi i52), (6, vi i53)] ∧ St (fun _ => True) w W_ [rowM w.heap.size 3 1 v16 xs15.length I17] [(rF kI xs15 I17), (cF k114 (some ad34) l0)] []
 have X55 : ∀ E_ W_, (∃ i52 i53, G48 (i52, i53) = some oc13 ∧ J54 i52 i53 E_ W_) → ∀ a, Fits a 86 E_ → K46 a W_ := by
   rintro E_ w56 ⟨i52, i53, H, rfl, HS⟩
   rw [hG49] at H
   (try dsimp only at H)
   refine hK46 _ _ ?_
   exact by (
   clear hK46
   refine WC.seq fun K57 hK57 => ?_
   refine sr_ fun _ hK58 => ?_
   refine ad_ hK58 ?_
   clear hK58
   refine WC.block ?_
   obtain ⟨G59, hG60, oc61, H, Ho62⟩ := open_G H
   let J64 := fun (i63 : Int) (E_ : Env) (W_ : World) => E_ = [(0, .slice (some ad34) l0.length c0), (3, v16), (4, vi i18), (5, vi i52), (8, vi i63)] ∧ St (fun _ => True) w W_ [rowM w.heap.size 3 1 v16 xs15.length I17] [(rF kI xs15 I17), (cF k114 (some ad34) l0)] []
   exact by (
   have X65 : ∀ E_ W_, (∃ i63, G59 (Sum.inr i63) = some oc13 ∧ J64 i63 E_ W_) → ∀ a, Fits a 86 E_ → K57 a W_ := by
     rintro E_ w66 ⟨i63, H, rfl, HS⟩
     rw [hG60] at H
     (try dsimp only at H)
     refine hK57 _ _ ?_
     clear hK57
     refine WC.seq fun _ hK67 => ?_
     refine sr_ fun _ hK68 => ?_
     exact by (
     refine mv_ ?_
     refine b_ bin_gtr ?_
     refine dn_ hK68 ?_
     clear hK68
     rcases ite_ H with ⟨c69, H⟩ | ⟨c69, H⟩
     · refine wy_ (dT c69) (sr_ fun _ hK70 => ?_)
       refine ad_ hK70 ?_
       clear hK70
       exact by (
       refine WC.ret ?_
       obtain rfl := os H
       rw [hG12] at Ho14
       replace H : some _ = some _ := Ho14
       obtain rfl := os H
       exact fin1 Tryz.f169 rfl rfl hR_ ⟨rfl, HS.b⟩ )
     refine wn_ (dF c69) (WC.skip (via_ hK67 (rg_ (mv_ ?_))))
     clear hK67
     exact by (
     refine mv_ ?_
     refine WL.val rfl rfl (by decide) (Run.lit1 (z := (vi 0)) (vs := [vi i52]) rfl rfl rfl underlying28 (by kernel_rfl) (ble_ rfl) (ble_ rfl)) ?_
     have HS1 := HS.below (below_alloc (Below.refl _ _) (.cells #[vi i52] 3))
     obtain ⟨q71, H⟩ := if_some H
     refine WL.append HS1 0 rfl rfl rfl (by decide) rfl (vi 0) 8 underlying28 (by kernel_rfl) rfl (by decide) (by decide) rfl rfl [vi i52] rfl (lit_news _ _ _) (oneL rfl) (by omega) ((xs15 ++ [i52]).length) (by simp) (fun v72 w73 I74 hI75 HS => ?_)
     dsimp only [List.set] at HS
     replace HS := HS.deriveO (p := (rF kI (xs15 ++ [i52]) I74)) (fun W_ hO_ hN_ => reps_snoc hI75 hO_.1 (K_int _))
     clear HS1
     exact by (
     refine ad_ hK29 ?_
     clear hK29
     refine rg_ (mv_ ?_)
     refine b_ bin_add64 ?_
     refine as_ ?_
     refine WL.done ?_
     exact wr_ k25 iq ⟨(xs15 ++ [i52]), v72, I74, (wrap64 (i18 + 1)), ⟨_, H, Ho14⟩, rfl, (St.pk HS [0, 2] [] rfl rfl)⟩ )))
   clear hK57
   exact by (
   refine WC.loop (fun k_ E_ W_ => ∃ i63, (∃ o_, spec_MergesOk.l1 l0 i18 k_ i63 = some o_ ∧ G59 o_ = some oc13) ∧ J64 i63 E_ W_) k25 ⟨0, ⟨_, H, Ho62⟩, rfl, HS⟩ (sb rfl) ?_
   rintro k_ E_ w77 ⟨i63, ⟨oc61, H, Ho62⟩, rfl, HS⟩
   rcases k_ with _ | k78
   · exact no_ H
   replace H : spec_MergesOk.b1 l0 i18 (spec_MergesOk.l1 l0 i18 k78) k78 i63 = some oc61 := H
   unfold spec_MergesOk.b1 at H
   refine WC.seq fun _ hK79 => ?_
   refine sr_ fun _ hK80 => ?_
   exact by (
   refine mv_ ?_
   refine mv_ ?_
   refine b_ bin_lss ?_
   refine dn_ hK80 ?_
   clear hK80
   rcases eti_ H with ⟨c81, H⟩ | ⟨c81, H⟩
   · refine wn_ (dF c81) (WC.exit ?_)
     obtain rfl := os H
     exact wv_ iq X65 ⟨i63, Ho62, rfl, HS⟩
   exact by (
   refine wy_ (dT c81) (WC.skip (via_ hK79 (WC.seq fun _ hK82 => ?_)))
   clear hK79
   refine WC.block (WC.seq fun _ hK83 => ?_)
   refine WC.drawS HS [] rfl rfl (fun w84 HS => ?_)
   have HB := Below.refl w84.heap.size w84
   have HSW := HS
   refine dm_ 0 ?_
   refine dm_ 1 ?_
   exact by (
   obtain ⟨⟨q85, q86⟩, H⟩ := if_some H
   refine di_ 2 underlying25 2 q85 q86 ?_
   refine dm_ 4 ?_
   refine dm_ 5 ?_
   refine di_ 6 underlying25 2 q32 q33 ?_
   obtain ⟨e87, el88, HS⟩ := HS.elO 1 rfl (by decide) o114 i63 q85 q86
   replace HSW := HS
   refine dt_ 3 (Below.refl _ _) (fun w_ hw_ => Run.loadS (cs := [vi ((l0.getD i63.toNat o114).f0), vi ((l0.getD i63.toNat o114).f1)]) rfl rfl underlying114 rfl (by kernel_rfl) (cells_part ((HS.below hw_).getO 0 rfl).2 (part_cons (at114_0 (AtK.whole ((HS.below hw_).getO 0 rfl).1)).int (part_cons (at114_1 (AtK.whole ((HS.below hw_).getO 0 rfl).1)).int part_nil)))) ?_
   exact by (
   obtain ⟨e89, el90, HS⟩ := HS.elO 2 rfl (by decide) o114 i18 q32 q33
   replace HSW := HS
   refine dt_ 7 (Below.refl _ _) (fun w_ hw_ => Run.loadS (cs := [vi ((l0.getD i18.toNat o114).f0), vi ((l0.getD i18.toNat o114).f1)]) rfl rfl underlying114 rfl (by kernel_rfl) (cells_part ((HS.below hw_).getO 0 rfl).2 (part_cons (at114_0 (AtK.whole ((HS.below hw_).getO 0 rfl).1)).int (part_cons (at114_1 (AtK.whole ((HS.below hw_).getO 0 rfl).1)).int part_nil)))) ?_
   refine dp_ 8 (fun _ => Run.eqS rfl rfl rfl (by kernel_rfl) (eqs114 _ _ _ _ _)) ?_
   refine dd_ ?_
   clear HB HSW
   refine via_ hK83 ?_
   clear hK83
   exact by (
   rcases eti_ H with ⟨c91, H⟩ | ⟨c91, H⟩
   · refine wn_ (bF c91) (WC.skip (via_ hK82 (rg_ (mv_ ?_))))
     clear hK82
     refine b_ bin_add64 ?_
     refine as_ ?_
     refine WL.done ?_
     exact wr_ k78 iq ⟨(wrap64 (i63 + 1)), ⟨_, H, Ho62⟩, rfl, (St.pk HS [2, 3] [] rfl rfl)⟩
   refine wy_ c91 ?_
   exact by (
   refine sr_ fun _ hK92 => ?_
   refine ad_ hK92 ?_
   clear hK92
   refine WC.ret ?_
   obtain rfl := os H
   rw [hG60] at Ho62
   replace H : some _ = some _ := Ho62
   obtain rfl := os H
   exact by (
   rw [hG12] at Ho14
   replace H : some _ = some _ := Ho14
   obtain rfl := os H
   exact fin1 Tryz.f169 rfl rfl hR_ ⟨rfl, HS.b⟩ ))))))))))
 clear hK46
 refine WC.loop (fun k_ E_ W_ => ∃ i52 i53, (∃ o_, spec_MergesOk.l2 l0 xs15 i18 k_ i52 i53 = some o_ ∧ G48 o_ = some oc13) ∧ J54 i52 i53 E_ W_) k25 ⟨0, 0, ⟨_, H, Ho51⟩, rfl, (St.pk HS [1, 2] [] rfl rfl)⟩ (sb rfl) ?_
 rintro k_ E_ w94 ⟨i52, i53, ⟨oc50, H, Ho51⟩, rfl, HS⟩
 rcases k_ with _ | k95
 · exact no_ H
 exact by (
 replace H : spec_MergesOk.b2 l0 xs15 i18 (spec_MergesOk.l2 l0 xs15 i18 k95) k95 i52 i53 = some oc50 := H
 unfold spec_MergesOk.b2 at H
 refine WC.seq fun _ hK96 => ?_
 refine sr_ fun _ hK97 => ?_
 refine mv_ ?_
 refine b_ bin_lss ?_
 refine dn_ hK97 ?_
 clear hK97
 exact by (
 rcases eti_ H with ⟨c98, H⟩ | ⟨c98, H⟩
 · refine wn_ (dF c98) (WC.exit ?_)
   obtain rfl := os H
   exact wv_ iq X55 ⟨i52, i53, Ho51, rfl, HS⟩
 refine wy_ (dT c98) (WC.skip (via_ hK96 (WC.seq fun K99 hK99 => ?_)))
 clear hK96
 obtain ⟨G100, hG101, oc102, H, Ho103⟩ := open_G H
 have X105 : ∀ E_ W_, (∃ (i104 : Int), E_ = [(0, .slice (some ad34) l0.length c0), (3, v16), (4, vi i18), (5, vi i104), (6, vi i53)] ∧ G100 i104 = some oc50 ∧ St (fun _ => True) w W_ [rowM w.heap.size 3 1 v16 xs15.length I17] [(rF kI xs15 I17), (cF k114 (some ad34) l0)] []) → ∀ a, Fits a 86 E_ → K99 a W_ := by
   exact by (
   rintro E_ w106 ⟨i104, rfl, H, HS⟩
   rw [hG101] at H
   (try dsimp only at H)
   refine hK99 _ _ ?_
   clear hK99
   refine rg_ (mv_ ?_)
   refine b_ bin_add64 ?_
   refine as_ ?_
   exact by (
   refine WL.done ?_
   exact wr_ k95 iq ⟨i104, (wrap64 (i53 + 1)), ⟨_, H, Ho51⟩, rfl, HS⟩ ))
 clear hK99
 refine WC.block (sr_ fun _ hK108 => ?_)
 refine mv_ ?_
 refine mv_ ?_
 refine v_ (ia_ underlying25 2 q32 q33) ?_
 refine v_ (fa_ underlying114) ?_
 exact by (
 obtain ⟨e109, el110, HS⟩ := HS.elO 1 rfl (by decide) o114 i18 q32 q33
 refine v_ (Run.load rfl rfl underlying3 rfl ((HS.getO 0 rfl).2 0 _ (at114_0 (AtK.whole (HS.getO 0 rfl).1)).int)) ?_
 refine ad_ hK108 ?_
 clear hK108
 refine WC.seq fun K111 hK111 => ?_
 obtain ⟨G112, hG113, oc114, H, Ho115⟩ := open_G H
 have X117 : ∀ E_ W_, (∃ (i116 : Int), E_ = [(0, .slice (some ad34) l0.length c0), (3, v16), (4, vi i18), (5, vi i52), (6, vi i53), (7, vi i116)] ∧ G112 i116 = some oc102 ∧ St (fun _ => True) w W_ [rowM w.heap.size 3 1 v16 xs15.length I17] [(rF kI xs15 I17), (cF k114 (some ad34) l0)] []) → ∀ a, Fits a 86 E_ → K111 a W_ := by
   rintro E_ w118 ⟨i116, rfl, H, HS⟩
   exact by (
   rw [hG113] at H
   (try dsimp only at H)
   refine hK111 _ _ ?_
   clear hK111
   refine sr_ fun _ hK119 => ?_
   refine mv_ ?_
   refine b_ bin_lss ?_
   refine dn_ hK119 ?_
   exact by (
   clear hK119
   rcases ite_ H with ⟨c120, H⟩ | ⟨c120, H⟩
   · refine wy_ (dT c120) (rg_ (mv_ ?_))
     refine b_ bin_add64 ?_
     refine as_ ?_
     refine WL.done ?_
     obtain rfl := os H
     exact wv_ iq X105 ⟨(wrap64 (i52 + 1)), rfl, Ho103, HS⟩
   exact by (
   refine wn_ (dF c120) (rg_ (mv_ ?_))
   refine mv_ ?_
   refine mv_ ?_
   refine b_ bin_sub64 ?_
   obtain ⟨⟨q121, q122⟩, H⟩ := if_some H
   obtain ⟨A123, c124, rfl⟩ := row_slice (HS.mu 0 rfl)
   obtain ⟨ad125, rfl⟩ := row_open (HS.mu 0 rfl) (lenpos q121 q122)
   refine v_ (ia_ underlying28 1 q121 q122) ?_
   exact by (
   refine v_ (Run.load rfl rfl underlying3 rfl (row_int (HS.mu 0 rfl) (HS.getO 0 rfl) q121 q122)) ?_
   refine b_ bin_add64 ?_
   refine as_ ?_
   refine WL.done ?_
   obtain rfl := os H
   exact wv_ iq X105 ⟨(wrap64 (i52 + (xs15.getD (wrap64 (i116 - 256)).toNat 0))), rfl, Ho103, HS⟩ ))))
 clear hK111
 refine sr_ fun _ hK127 => ?_
 exact by (
 refine mv_ ?_
 refine b_ bin_eql ?_
 refine dn_ hK127 ?_
 clear hK127
 rcases eti_ H with ⟨c128, H⟩ | ⟨c128, H⟩
 · refine wn_ (eF c128) (WC.skip ?_)
   obtain rfl := os H
   exact wv_ iq X117 ⟨((l0.getD i18.toNat o114).f0), rfl, Ho115, (St.pk HS [1, 2] [] rfl rfl)⟩
 exact by (
 refine wy_ (eT c128) (rg_ (mv_ ?_))
 refine mv_ ?_
 refine v_ (ia_ underlying25 2 q32 q33) ?_
 refine v_ (fa_ underlying114) ?_
 refine v_ (Run.load rfl rfl underlying3 rfl ((HS.getO 0 rfl).2 1 _ (at114_1 (AtK.whole (HS.getO 0 rfl).1)).int)) ?_
 refine as_ ?_
 refine WL.done ?_
 obtain rfl := os H
 exact wv_ iq X117 ⟨((l0.getD i18.toNat o114).f1), rfl, Ho115, (St.pk HS [1, 2] [] rfl rfl)⟩ )))))))))))))))))
def spec_TurnsOk.b0 (x0 : S32) (a1 : Int) (a2 : Int) (rec_ : Int → Option (Bool ⊕ Int)) (k29 : Nat) (i22 : Int) : Option (Bool ⊕ Int) := (if i22 < a1 then (if 0 ≤ i22 ∧ i22 < (x0.f0.length : Int) then (if ((x0.f0.getD i22.toNat []).length : Int) = a2 then (if 0 ≤ i22 ∧ i22 < (x0.f1.length : Int) then (if ((x0.f1.getD i22.toNat []).length : Int) = a2 then ((spec_l05All.g k29 (x0.f0.getD i22.toNat []) (-128) 128).bind fun t49 => (if t49 = true then ((spec_l05All.g k29 (x0.f1.getD i22.toNat []) (-128) 128).bind fun t53 => (if t53 = true then (rec_ (wrap64 (i22 + 1))) else (some (Sum.inl false)))) else (some (Sum.inl false)))) else (some (Sum.inl false))) else none) else (some (Sum.inl false))) else none) else (some (Sum.inr i22)))
def spec_TurnsOk.l0 (x0 : S32) (a1 : Int) (a2 : Int) : Nat → Int → Option (Bool ⊕ Int)
 | 0, _ => none
 | k + 1, i22 => spec_TurnsOk.b0 x0 a1 a2 (spec_TurnsOk.l0 x0 a1 a2 k) k i22
def spec_TurnsOk.g (k : Nat) (x0 : S32) (a1 : Int) (a2 : Int) : Option Bool := ((spec_l01In.f a1 4 24).bind fun t6 => (if t6 = true then ((spec_l01In.f a2 1 4).bind fun t10 => (if t10 = true then (if (x0.f0.length : Int) = a1 then (if (x0.f1.length : Int) = a1 then ((spec_TurnsOk.l0 x0 a1 a2 k 0).bind (fun oc27 => match oc27 with | .inl r_ => some r_ | .inr i22 => (some true))) else (some false)) else (some false)) else (some false))) else (some false)))
theorem spec_TurnsOk.runs (k : Nat) (x0 : S32) (A0_0 : Option Addr) (c0_0 : Nat) (A0_1 : Option Addr) (c0_1 : Nat) (a1 : Int) (a2 : Int) (r : Bool) (w : World) (hr0_0 : kS3.C w A0_0 x0.f0.length x0.f0) (hc0_0 : x0.f0.length ≤ c0_0) (hr0_1 : kS3.C w A0_1 x0.f1.length x0.f1) (hc0_1 : x0.f1.length ≤ c0_1) (H : spec_TurnsOk.g k x0 a1 a2 = some r) :
   Calls prog 174 #[.agg #[.slice A0_0 x0.f0.length c0_0, .slice A0_1 x0.f1.length c0_1], vi a1, vi a2] w fun e w' => e = .returned (.bool r) ∧ Below w.heap.size w w' := by
 unfold spec_TurnsOk.g at H
 have HS : St (fun _ => True) w w [] [(cF kS3 A0_0 x0.f0), (cF kS3 A0_1 x0.f1)] [] := St.start (foot_cons (foot_C (Kd.heap_slice _ (Kd.heap_int _)) hr0_0) (foot_cons (foot_C (Kd.heap_slice _ (Kd.heap_int _)) hr0_1) foot_nil))
 refine cw_ (n := 71) func174 fun R_ hR_ => ?_
 refine sr_ fun _ hK1 => ?_
 refine bo_ HS (fun b2 w3 hb2 HS => ?_)
 refine ad_ hK1 ?_
 refine WC.seq fun _ hK4 => ?_
 refine sr_ fun _ hK5 => ?_
 refine mv_ ?_
 obtain ⟨t6, ha7, H⟩ := bind_some H
 refine cs0_ HS func96 (spec_l01In.calls a1 4 24 t6 _ ha7) (fun w8 HS => ?_)
 clear ha7
 refine nt_ ?_
 refine mv_ ?_
 rcases eti_ H with ⟨c9, H⟩ | ⟨c9, H⟩
 · refine off_ (c' := true) (nB (bF c9)) ?_
   refine WL.know 11 (nB (bF c9)) ?_
   refine fast_ ?_
   refine via_ hK5 (wy_ rfl ?_)
   refine sr_ fun _ hK64 => ?_
   refine ad_ hK64 ?_
   obtain rfl := os H
   exact rt1 Tryz.f174 rfl rfl hR_ ⟨rfl, HS.b⟩
 refine on_ (nB c9) (mv_ ?_)
 refine on_ (nB c9) ?_
 obtain ⟨t10, ha11, H⟩ := bind_some H
 refine cs0_ HS func96 (spec_l01In.calls a2 1 4 t10 _ ha11) (fun w12 HS => ?_)
 clear ha11
 refine on_ (nB c9) (nt_ ?_)
 refine v_ (Run.pickF rfl rfl (nB c9) rfl) ?_
 refine mv_ ?_
 rcases eti_ H with ⟨c13, H⟩ | ⟨c13, H⟩
 · refine off_ (c' := true) (nB (bF c13)) ?_
   refine WL.know 16 (nB (bF c13)) ?_
   refine fast_ ?_
   refine via_ hK5 (wy_ rfl ?_)
   refine sr_ fun _ hK63 => ?_
   refine ad_ hK63 ?_
   obtain rfl := os H
   exact rt1 Tryz.f174 rfl rfl hR_ ⟨rfl, HS.b⟩
 refine on_ (nB c13) (v_ (fa_ underlying32) ?_)
 refine on_ (nB c13) (v_ (lb_ (HS.mu 0 rfl) underlying26 rfl) ?_)
 refine on_ (nB c13) (ln_ underlying26 ?_)
 refine on_ (nB c13) (mv_ ?_)
 refine on_ (nB c13) (b_ bin_neq ?_)
 refine v_ (Run.pickF rfl rfl (nB c13) rfl) ?_
 refine mv_ ?_
 rcases eti_ H with ⟨c14, H⟩ | ⟨c14, H⟩
 · refine off_ (c' := true) (qT c14) ?_
   refine WL.know 23 (qT c14) ?_
   refine fast_ ?_
   refine via_ hK5 (wy_ rfl ?_)
   refine sr_ fun _ hK62 => ?_
   refine ad_ hK62 ?_
   obtain rfl := os H
   exact rt1 Tryz.f174 rfl rfl hR_ ⟨rfl, HS.b⟩
 refine on_ (qF c14) (v_ (fa_ underlying32) ?_)
 refine on_ (qF c14) (v_ (lb_ (HS.mu 0 rfl) underlying26 rfl) ?_)
 refine on_ (qF c14) (ln_ underlying26 ?_)
 refine on_ (qF c14) (mv_ ?_)
 refine on_ (qF c14) (b_ bin_neq ?_)
 refine v_ (Run.pickF rfl rfl (qF c14) rfl) ?_
 refine dn_ hK5 ?_
 rcases eti_ H with ⟨c15, H⟩ | ⟨c15, H⟩
 · refine wy_ (qT c15) (sr_ fun _ hK61 => ?_)
   refine ad_ hK61 ?_
   obtain rfl := os H
   exact rt1 Tryz.f174 rfl rfl hR_ ⟨rfl, HS.b⟩
 refine wn_ (qF c15) (WC.skip (via_ hK4 (WC.seq fun K16 hK16 => ?_)))
 refine sr_ fun _ hK17 => ?_
 refine ad_ hK17 ?_
 refine WC.block ?_
 obtain ⟨G18, hG19, oc20, H, Ho21⟩ := open_G H
 let J23 := fun (i22 : Int) (E_ : Env) (W_ : World) => E_ = [(1, vi a1), (2, vi a2), (3, .pointer (some ⟨b2, 0, none⟩)), (7, vi i22)] ∧ St (fun _ => True) w W_ [boxM b2 #[.slice A0_0 x0.f0.length c0_0, .slice A0_1 x0.f1.length c0_1] 32] [(cF kS3 A0_0 x0.f0), (cF kS3 A0_1 x0.f1)] []
 have X24 : ∀ E_ W_, (∃ i22, G18 (Sum.inr i22) = some r ∧ J23 i22 E_ W_) → ∀ a, Fits a 71 E_ → K16 a W_ := by
   rintro E_ w25 ⟨i22, H, rfl, HS⟩
   rw [hG19] at H
   (try dsimp only at H)
   refine hK16 _ _ ?_
   refine sr_ fun _ hK26 => ?_
   refine ad_ hK26 ?_
   obtain rfl := os H
   exact rt1 Tryz.f174 rfl rfl hR_ ⟨rfl, HS.b⟩
 clear hK16
 refine WC.loop (fun k_ E_ W_ => ∃ i22, (∃ o_, spec_TurnsOk.l0 x0 a1 a2 k_ i22 = some o_ ∧ G18 o_ = some r) ∧ J23 i22 E_ W_) k ⟨0, ⟨_, H, Ho21⟩, rfl, HS⟩ (sb rfl) ?_
 rintro k_ E_ w28 ⟨i22, ⟨oc20, H, Ho21⟩, rfl, HS⟩
 rcases k_ with _ | k29
 · exact no_ H
 replace H : spec_TurnsOk.b0 x0 a1 a2 (spec_TurnsOk.l0 x0 a1 a2 k29) k29 i22 = some oc20 := H
 unfold spec_TurnsOk.b0 at H
 refine WC.seq fun _ hK30 => ?_
 refine sr_ fun _ hK31 => ?_
 refine mv_ ?_
 refine mv_ ?_
 refine b_ bin_lss ?_
 refine dn_ hK31 ?_
 rcases eti_ H with ⟨c32, H⟩ | ⟨c32, H⟩
 · refine wn_ (dF c32) (WC.exit ?_)
   obtain rfl := os H
   exact wv_ iq X24 ⟨i22, Ho21, rfl, HS⟩
 refine wy_ (dT c32) (WC.skip (via_ hK30 (WC.seq fun _ hK33 => ?_)))
 refine WC.block (sr_ fun _ hK34 => ?_)
 refine v_ (fa_ underlying32) ?_
 refine v_ (lb_ (HS.mu 0 rfl) underlying26 rfl) ?_
 refine mv_ ?_
 obtain ⟨⟨q35, q36⟩, H⟩ := if_some H
 obtain ⟨ad37, rfl⟩ := C_open (HS.getO 0 rfl) (lenpos q35 q36)
 refine v_ (ia_ underlying26 1 q35 q36) ?_
 obtain ⟨A38, c39, le40, HS⟩ := HS.slO 0 rfl i22 q35 q36
 refine v_ (Run.load rfl rfl underlying28 rfl (HS.getO 1 rfl)) ?_
 refine ln_ underlying28 ?_
 refine mv_ ?_
 refine b_ bin_neq ?_
 refine mv_ ?_
 rcases eti_ H with ⟨c41, H⟩ | ⟨c41, H⟩
 · refine off_ (c' := true) (qT c41) ?_
   refine WL.know 43 (qT c41) ?_
   refine fast_ ?_
   refine via_ hK34 (wy_ rfl ?_)
   refine sr_ fun _ hK60 => ?_
   refine ad_ hK60 ?_
   refine WC.ret ?_
   obtain rfl := os H
   rw [hG19] at Ho21
   replace H : some _ = some _ := Ho21
   obtain rfl := os H
   exact fin1 Tryz.f174 rfl rfl hR_ ⟨rfl, HS.b⟩
 refine on_ (qF c41) (v_ (fa_ underlying32) ?_)
 refine on_ (qF c41) (v_ (lb_ (HS.mu 0 rfl) underlying26 rfl) ?_)
 refine on_ (qF c41) (mv_ ?_)
 refine on_ (qF c41) ?_
 obtain ⟨⟨q42, q43⟩, H⟩ := if_some H
 obtain ⟨ad44, rfl⟩ := C_open (HS.getO 3 rfl) (lenpos q42 q43)
 refine v_ (ia_ underlying26 1 q42 q43) ?_
 refine on_ (qF c41) ?_
 obtain ⟨A45, c46, le47, HS⟩ := HS.slO 3 rfl i22 q42 q43
 refine v_ (Run.load rfl rfl underlying28 rfl (HS.getO 1 rfl)) ?_
 refine on_ (qF c41) (ln_ underlying28 ?_)
 refine on_ (qF c41) (mv_ ?_)
 refine on_ (qF c41) (b_ bin_neq ?_)
 refine v_ (Run.pickF rfl rfl (qF c41) rfl) ?_
 refine mv_ ?_
 rcases eti_ H with ⟨c48, H⟩ | ⟨c48, H⟩
 · refine off_ (c' := true) (qT c48) ?_
   refine WL.know 53 (qT c48) ?_
   refine fast_ ?_
   refine via_ hK34 (wy_ rfl ?_)
   refine sr_ fun _ hK59 => ?_
   refine ad_ hK59 ?_
   refine WC.ret ?_
   obtain rfl := os H
   rw [hG19] at Ho21
   replace H : some _ = some _ := Ho21
   obtain rfl := os H
   exact fin1 Tryz.f174 rfl rfl hR_ ⟨rfl, HS.b⟩
 refine on_ (qF c48) (v_ (fa_ underlying32) ?_)
 refine on_ (qF c48) (v_ (lb_ (HS.mu 0 rfl) underlying26 rfl) ?_)
 refine on_ (qF c48) (mv_ ?_)
 refine on_ (qF c48) (v_ (ia_ underlying26 1 q35 q36) ?_)
 refine on_ (qF c48) (v_ (Run.load rfl rfl underlying28 rfl (HS.getO 3 rfl)) ?_)
 refine on_ (qF c48) ?_
 obtain ⟨t49, ha50, H⟩ := bind_some H
 refine cs_ HS func170 (spec_l05All.runs k29 A38 c39 (x0.f0.getD i22.toNat []) (-128) 128 t49 _ (HS.getO 2 rfl) le40 ha50) (fun w51 HS => ?_)
 clear ha50
 refine on_ (qF c48) (nt_ ?_)
 refine v_ (Run.pickF rfl rfl (qF c48) rfl) ?_
 refine mv_ ?_
 rcases eti_ H with ⟨c52, H⟩ | ⟨c52, H⟩
 · refine off_ (c' := true) (nB (bF c52)) ?_
   refine WL.know 62 (nB (bF c52)) ?_
   refine fast_ ?_
   refine via_ hK34 (wy_ rfl ?_)
   refine sr_ fun _ hK58 => ?_
   refine ad_ hK58 ?_
   refine WC.ret ?_
   obtain rfl := os H
   rw [hG19] at Ho21
   replace H : some _ = some _ := Ho21
   obtain rfl := os H
   exact fin1 Tryz.f174 rfl rfl hR_ ⟨rfl, HS.b⟩
 refine on_ (nB c52) (v_ (fa_ underlying32) ?_)
 refine on_ (nB c52) (v_ (lb_ (HS.mu 0 rfl) underlying26 rfl) ?_)
 refine on_ (nB c52) (mv_ ?_)
 refine on_ (nB c52) (v_ (ia_ underlying26 1 q42 q43) ?_)
 refine on_ (nB c52) (v_ (Run.load rfl rfl underlying28 rfl (HS.getO 1 rfl)) ?_)
 refine on_ (nB c52) ?_
 obtain ⟨t53, ha54, H⟩ := bind_some H
 refine cs_ HS func170 (spec_l05All.runs k29 A45 c46 (x0.f1.getD i22.toNat []) (-128) 128 t53 _ (HS.getO 0 rfl) le47 ha54) (fun w55 HS => ?_)
 clear ha54
 refine on_ (nB c52) (nt_ ?_)
 refine v_ (Run.pickF rfl rfl (nB c52) rfl) ?_
 refine dn_ hK34 ?_
 rcases ite_ H with ⟨c56, H⟩ | ⟨c56, H⟩
 · refine wn_ (nB c56) (WC.skip (via_ hK33 (rg_ (mv_ ?_))))
   refine b_ bin_add64 ?_
   refine as_ ?_
   refine WL.done ?_
   exact wr_ k29 iq ⟨(wrap64 (i22 + 1)), ⟨_, H, Ho21⟩, rfl, (St.pk HS [4, 5] [] rfl rfl)⟩
 refine wy_ (nB (bF c56)) (sr_ fun _ hK57 => ?_)
 refine ad_ hK57 ?_
 refine WC.ret ?_
 obtain rfl := os H
 rw [hG19] at Ho21
 replace H : some _ = some _ := Ho21
 obtain rfl := os H
 exact fin1 Tryz.f174 rfl rfl hR_ ⟨rfl, HS.b⟩
def impl_rowOk.g (k : Nat) (l0 : List Int) (l1 : List Int) : Option Bool := ((impl_isWidth.f (l0.length : Int)).bind fun t3 => (if t3 = true then ((impl_allIn.f l0 (-8) 7).bind fun t7 => (if t7 = true then (if (l1.length : Int) = (wrap64 (Int.tdiv (l0.length : Int) 4)) then ((impl_allIn.f l1 1 127).bind fun t12 => (some t12)) else (some false)) else (some false))) else (some false)))
theorem impl_rowOk.runs (k : Nat) (A0 : Option Addr) (c0 : Nat) (l0 : List Int) (A1 : Option Addr) (c1 : Nat) (l1 : List Int) (r : Bool) (w : World) (hr0 : kI.C w A0 l0.length l0) (hc0 : l0.length ≤ c0) (hr1 : kI.C w A1 l1.length l1) (hc1 : l1.length ≤ c1) (H : impl_rowOk.g k l0 l1 = some r) :
   Calls prog 268 #[.slice A0 l0.length c0, .slice A1 l1.length c1] w fun e w' => e = .returned (.bool r) ∧ Below w.heap.size w w' := by
 unfold impl_rowOk.g at H
 have HS : St (fun _ => True) w w [] [(cF kI A0 l0), (cF kI A1 l1)] [] := St.start (foot_cons (foot_C (Kd.heap_int _) hr0) (foot_cons (foot_C (Kd.heap_int _) hr1) foot_nil))
 refine cw_ (n := 24) func268 fun R_ hR_ => ?_
 refine sr_ fun _ hK1 => ?_
 refine ad_ hK1 ?_
 refine sr_ fun _ hK2 => ?_
 refine mv_ ?_
 refine ln_ underlying28 ?_
 obtain ⟨t3, ha4, H⟩ := bind_some H
 refine cs0_ HS func143 (impl_isWidth.calls (l0.length : Int) t3 _ ha4) (fun w5 HS => ?_)
 clear ha4
 refine mv_ ?_
 rcases eti_ H with ⟨c6, H⟩ | ⟨c6, H⟩
 · refine off_ (c' := false) (bF c6) ?_
   refine WL.know 8 (bF c6) ?_
   refine fast_ ?_
   refine via_ hK2 ?_
   obtain rfl := os H
   exact rt1 Tryz.f268 rfl rfl hR_ ⟨rfl, HS.b⟩
 refine on_ c6 ?_
 refine mv_ ?_
 refine on_ c6 ?_
 obtain ⟨t7, ha8, H⟩ := bind_some H
 refine cs_ HS func157 (impl_allIn.calls A0 c0 l0 (-8) 7 t7 _ (HS.getO 0 rfl) hc0 ha8) (fun w9 HS => ?_)
 clear ha8
 refine v_ (Run.pickT rfl rfl c6 rfl) ?_
 refine mv_ ?_
 rcases eti_ H with ⟨c10, H⟩ | ⟨c10, H⟩
 · refine off_ (c' := false) (bF c10) ?_
   refine WL.know 12 (bF c10) ?_
   refine fast_ ?_
   refine via_ hK2 ?_
   obtain rfl := os H
   exact rt1 Tryz.f268 rfl rfl hR_ ⟨rfl, HS.b⟩
 refine on_ c10 ?_
 refine mv_ ?_
 refine on_ c10 ?_
 refine ln_ underlying28 ?_
 refine on_ c10 ?_
 refine mv_ ?_
 refine on_ c10 ?_
 refine ln_ underlying28 ?_
 refine on_ c10 ?_
 refine v_ (Run.bin rfl rfl rfl (bin_quo64 (show (4 : Int) ≠ 0 by decide))) ?_
 refine on_ c10 ?_
 refine b_ bin_eql ?_
 refine v_ (Run.pickT rfl rfl c10 rfl) ?_
 refine mv_ ?_
 rcases eti_ H with ⟨c11, H⟩ | ⟨c11, H⟩
 · refine off_ (c' := false) (eF c11) ?_
   refine WL.know 20 (eF c11) ?_
   refine fast_ ?_
   refine via_ hK2 ?_
   obtain rfl := os H
   exact rt1 Tryz.f268 rfl rfl hR_ ⟨rfl, HS.b⟩
 refine on_ (eT c11) (mv_ ?_)
 refine on_ (eT c11) ?_
 obtain ⟨t12, ha13, H⟩ := bind_some H
 refine cs_ HS func157 (impl_allIn.calls A1 c1 l1 1 127 t12 _ (HS.getO 1 rfl) hc1 ha13) (fun w14 HS => ?_)
 clear ha13
 refine v_ (Run.pickT rfl rfl (eT c11) rfl) ?_
 refine ad_ hK2 ?_
 obtain rfl := os H
 exact rt1 Tryz.f268 rfl rfl hR_ ⟨rfl, HS.b⟩
def impl_MatrixOk.b0 (x0 : S30) (rec_ : Int → Option (Bool ⊕ Int)) (k34 : Nat) (i27 : Int) : Option (Bool ⊕ Int) := (if i27 < (x0.f1.length : Int) then (if 0 ≤ i27 ∧ i27 < (x0.f1.length : Int) then (if ((x0.f1.getD i27.toNat []).length : Int) = x0.f0 then (if 0 ≤ i27 ∧ i27 < (x0.f2.length : Int) then ((impl_rowOk.g k34 (x0.f1.getD i27.toNat []) (x0.f2.getD i27.toNat [])).bind fun t54 => (if t54 = true then (rec_ (wrap64 (i27 + 1))) else (some (Sum.inl false)))) else none) else (some (Sum.inl false))) else none) else (some (Sum.inr i27)))
def impl_MatrixOk.l0 (x0 : S30) : Nat → Int → Option (Bool ⊕ Int)
 | 0, _ => none
 | k + 1, i27 => impl_MatrixOk.b0 x0 (impl_MatrixOk.l0 x0 k) k i27
def impl_MatrixOk.g (k : Nat) (x0 : S30) : Option Bool := ((impl_isWidth.f x0.f0).bind fun t6 => (if t6 = true then (if (x0.f1.length : Int) > 300 then (some false) else (if (x0.f2.length : Int) = (x0.f1.length : Int) then ((impl_in.f x0.f3 0 65536).bind fun t13 => (if t13 = true then ((impl_in.f x0.f4 0 24).bind fun t17 => (if t17 = true then ((impl_MatrixOk.l0 x0 k 0).bind (fun oc32 => match oc32 with | .inl r_ => some r_ | .inr i27 => (some true))) else (some false))) else (some false))) else (some false))) else (some false)))
theorem impl_MatrixOk.runs (k : Nat) (x0 : S30) (A0_1 : Option Addr) (c0_1 : Nat) (A0_2 : Option Addr) (c0_2 : Nat) (r : Bool) (w : World) (hr0_1 : kS3.C w A0_1 x0.f1.length x0.f1) (hc0_1 : x0.f1.length ≤ c0_1) (hr0_2 : kS3.C w A0_2 x0.f2.length x0.f2) (hc0_2 : x0.f2.length ≤ c0_2) (H : impl_MatrixOk.g k x0 = some r) :
   Calls prog 227 #[.agg #[vi x0.f0, .slice A0_1 x0.f1.length c0_1, .slice A0_2 x0.f2.length c0_2, vi x0.f3, vi x0.f4]] w fun e w' => e = .returned (.bool r) ∧ Below w.heap.size w w' := by
 unfold impl_MatrixOk.g at H
 have HS : St (fun _ => True) w w [] [(cF kS3 A0_1 x0.f1), (cF kS3 A0_2 x0.f2)] [] := St.start (foot_cons (foot_C (Kd.heap_slice _ (Kd.heap_int _)) hr0_1) (foot_cons (foot_C (Kd.heap_slice _ (Kd.heap_int _)) hr0_2) foot_nil))
 refine cw_ (n := 60) func227 fun R_ hR_ => ?_
 refine sr_ fun _ hK1 => ?_
 refine bo_ HS (fun b2 w3 hb2 HS => ?_)
 refine ad_ hK1 ?_
 refine WC.seq fun _ hK4 => ?_
 refine sr_ fun _ hK5 => ?_
 refine v_ (fa_ underlying30) ?_
 refine v_ (lb_ (HS.mu 0 rfl) underlying3 rfl) ?_
 obtain ⟨t6, ha7, H⟩ := bind_some H
 refine cs0_ HS func143 (impl_isWidth.calls x0.f0 t6 _ ha7) (fun w8 HS => ?_)
 clear ha7
 refine nt_ ?_
 refine mv_ ?_
 rcases eti_ H with ⟨c9, H⟩ | ⟨c9, H⟩
 · refine off_ (c' := true) (nB (bF c9)) ?_
   refine WL.know 9 (nB (bF c9)) ?_
   refine fast_ ?_
   refine via_ hK5 (wy_ rfl ?_)
   refine sr_ fun _ hK63 => ?_
   refine ad_ hK63 ?_
   obtain rfl := os H
   exact rt1 Tryz.f227 rfl rfl hR_ ⟨rfl, HS.b⟩
 refine on_ (nB c9) (v_ (fa_ underlying30) ?_)
 refine on_ (nB c9) (v_ (lb_ (HS.mu 0 rfl) underlying26 rfl) ?_)
 refine on_ (nB c9) (ln_ underlying26 ?_)
 refine on_ (nB c9) (b_ bin_gtr ?_)
 refine v_ (Run.pickF rfl rfl (nB c9) rfl) ?_
 refine mv_ ?_
 rcases ite_ H with ⟨c10, H⟩ | ⟨c10, H⟩
 · refine off_ (c' := true) (dT c10) ?_
   refine WL.know 15 (dT c10) ?_
   refine fast_ ?_
   refine via_ hK5 (wy_ rfl ?_)
   refine sr_ fun _ hK11 => ?_
   refine ad_ hK11 ?_
   obtain rfl := os H
   exact rt1 Tryz.f227 rfl rfl hR_ ⟨rfl, HS.b⟩
 refine on_ (dF c10) (v_ (fa_ underlying30) ?_)
 refine on_ (dF c10) (v_ (lb_ (HS.mu 0 rfl) underlying26 rfl) ?_)
 refine on_ (dF c10) (ln_ underlying26 ?_)
 refine on_ (dF c10) (v_ (fa_ underlying30) ?_)
 refine on_ (dF c10) (v_ (lb_ (HS.mu 0 rfl) underlying26 rfl) ?_)
 refine on_ (dF c10) (ln_ underlying26 ?_)
 refine on_ (dF c10) (b_ bin_neq ?_)
 refine v_ (Run.pickF rfl rfl (dF c10) rfl) ?_
 refine mv_ ?_
 rcases eti_ H with ⟨c12, H⟩ | ⟨c12, H⟩
 · refine off_ (c' := true) (qT c12) ?_
   refine WL.know 24 (qT c12) ?_
   refine fast_ ?_
   refine via_ hK5 (wy_ rfl ?_)
   refine sr_ fun _ hK62 => ?_
   refine ad_ hK62 ?_
   obtain rfl := os H
   exact rt1 Tryz.f227 rfl rfl hR_ ⟨rfl, HS.b⟩
 refine on_ (qF c12) (v_ (fa_ underlying30) ?_)
 refine on_ (qF c12) (v_ (lb_ (HS.mu 0 rfl) underlying3 rfl) ?_)
 refine on_ (qF c12) ?_
 obtain ⟨t13, ha14, H⟩ := bind_some H
 refine cs0_ HS func139 (impl_in.calls x0.f3 0 65536 t13 _ ha14) (fun w15 HS => ?_)
 clear ha14
 refine on_ (qF c12) (nt_ ?_)
 refine v_ (Run.pickF rfl rfl (qF c12) rfl) ?_
 refine mv_ ?_
 rcases eti_ H with ⟨c16, H⟩ | ⟨c16, H⟩
 · refine off_ (c' := true) (nB (bF c16)) ?_
   refine WL.know 30 (nB (bF c16)) ?_
   refine fast_ ?_
   refine via_ hK5 (wy_ rfl ?_)
   refine sr_ fun _ hK61 => ?_
   refine ad_ hK61 ?_
   obtain rfl := os H
   exact rt1 Tryz.f227 rfl rfl hR_ ⟨rfl, HS.b⟩
 refine on_ (nB c16) (v_ (fa_ underlying30) ?_)
 refine on_ (nB c16) (v_ (lb_ (HS.mu 0 rfl) underlying3 rfl) ?_)
 refine on_ (nB c16) ?_
 obtain ⟨t17, ha18, H⟩ := bind_some H
 refine cs0_ HS func139 (impl_in.calls x0.f4 0 24 t17 _ ha18) (fun w19 HS => ?_)
 clear ha18
 refine on_ (nB c16) (nt_ ?_)
 refine v_ (Run.pickF rfl rfl (nB c16) rfl) ?_
 refine dn_ hK5 ?_
 rcases eti_ H with ⟨c20, H⟩ | ⟨c20, H⟩
 · refine wy_ (nB (bF c20)) (sr_ fun _ hK60 => ?_)
   refine ad_ hK60 ?_
   obtain rfl := os H
   exact rt1 Tryz.f227 rfl rfl hR_ ⟨rfl, HS.b⟩
 refine wn_ (nB c20) (WC.skip (via_ hK4 (WC.seq fun K21 hK21 => ?_)))
 refine sr_ fun _ hK22 => ?_
 refine v_ (fa_ underlying30) ?_
 refine v_ (lb_ (HS.mu 0 rfl) underlying26 rfl) ?_
 refine ln_ underlying26 ?_
 refine mv_ ?_
 refine dn_ hK22 (WC.block ?_)
 obtain ⟨G23, hG24, oc25, H, Ho26⟩ := open_G H
 let J28 := fun (i27 : Int) (E_ : Env) (W_ : World) => E_ = [(1, .pointer (some ⟨b2, 0, none⟩)), (37, .slice A0_1 x0.f1.length c0_1), (38, vi (x0.f1.length : Int)), (39, vi i27)] ∧ St (fun _ => True) w W_ [boxM b2 #[vi x0.f0, .slice A0_1 x0.f1.length c0_1, .slice A0_2 x0.f2.length c0_2, vi x0.f3, vi x0.f4] 30] [(cF kS3 A0_1 x0.f1), (cF kS3 A0_2 x0.f2)] []
 have X29 : ∀ E_ W_, (∃ i27, G23 (Sum.inr i27) = some r ∧ J28 i27 E_ W_) → ∀ a, Fits a 60 E_ → K21 a W_ := by
   rintro E_ w30 ⟨i27, H, rfl, HS⟩
   rw [hG24] at H
   (try dsimp only at H)
   refine hK21 _ _ ?_
   refine sr_ fun _ hK31 => ?_
   refine ad_ hK31 ?_
   obtain rfl := os H
   exact rt1 Tryz.f227 rfl rfl hR_ ⟨rfl, HS.b⟩
 clear hK21
 refine WC.loop (fun k_ E_ W_ => ∃ i27, (∃ o_, impl_MatrixOk.l0 x0 k_ i27 = some o_ ∧ G23 o_ = some r) ∧ J28 i27 E_ W_) k ⟨0, ⟨_, H, Ho26⟩, rfl, HS⟩ (sb rfl) ?_
 rintro k_ E_ w33 ⟨i27, ⟨oc25, H, Ho26⟩, rfl, HS⟩
 rcases k_ with _ | k34
 · exact no_ H
 replace H : impl_MatrixOk.b0 x0 (impl_MatrixOk.l0 x0 k34) k34 i27 = some oc25 := H
 unfold impl_MatrixOk.b0 at H
 refine sr_ fun _ hK35 => ?_
 refine b_ bin_lss ?_
 refine dn_ hK35 (WC.seq fun _ hK36 => ?_)
 rcases eti_ H with ⟨c37, H⟩ | ⟨c37, H⟩
 · refine wn_ (dF c37) (WC.exit ?_)
   obtain rfl := os H
   exact wv_ iq X29 ⟨i27, Ho26, rfl, HS⟩
 refine wy_ (dT c37) (WC.skip (via_ hK36 (WC.seq fun _ hK38 => ?_)))
 refine WC.block (sr_ fun _ hK39 => ?_)
 refine mv_ ?_
 obtain ⟨⟨q40, q41⟩, H⟩ := if_some H
 obtain ⟨ad42, rfl⟩ := C_open (HS.getO 0 rfl) (lenpos q40 q41)
 refine v_ (ia_ underlying26 1 q40 q41) ?_
 obtain ⟨A43, c44, le45, HS⟩ := HS.slO 0 rfl i27 q40 q41
 refine v_ (Run.load rfl rfl underlying28 rfl (HS.getO 1 rfl)) ?_
 refine as_ ?_
 refine ad_ hK39 ?_
 refine sr_ fun _ hK46 => ?_
 refine mv_ ?_
 refine ln_ underlying28 ?_
 refine v_ (fa_ underlying30) ?_
 refine v_ (lb_ (HS.mu 0 rfl) underlying3 rfl) ?_
 refine b_ bin_neq ?_
 refine mv_ ?_
 rcases eti_ H with ⟨c47, H⟩ | ⟨c47, H⟩
 · refine off_ (c' := true) (qT c47) ?_
   refine WL.know 49 (qT c47) ?_
   refine fast_ ?_
   refine via_ hK46 (wy_ rfl ?_)
   refine sr_ fun _ hK59 => ?_
   refine ad_ hK59 ?_
   refine WC.ret ?_
   obtain rfl := os H
   rw [hG24] at Ho26
   replace H : some _ = some _ := Ho26
   obtain rfl := os H
   exact fin1 Tryz.f227 rfl rfl hR_ ⟨rfl, HS.b⟩
 refine on_ (qF c47) (mv_ ?_)
 refine on_ (qF c47) (v_ (fa_ underlying30) ?_)
 refine on_ (qF c47) (v_ (lb_ (HS.mu 0 rfl) underlying26 rfl) ?_)
 refine on_ (qF c47) (mv_ ?_)
 refine on_ (qF c47) ?_
 obtain ⟨⟨q48, q49⟩, H⟩ := if_some H
 obtain ⟨ad50, rfl⟩ := C_open (HS.getO 3 rfl) (lenpos q48 q49)
 refine v_ (ia_ underlying26 1 q48 q49) ?_
 refine on_ (qF c47) ?_
 obtain ⟨A51, c52, le53, HS⟩ := HS.slO 3 rfl i27 q48 q49
 refine v_ (Run.load rfl rfl underlying28 rfl (HS.getO 1 rfl)) ?_
 refine on_ (qF c47) ?_
 obtain ⟨t54, ha55, H⟩ := bind_some H
 refine cs_ HS func268 (impl_rowOk.runs k34 A43 c44 (x0.f1.getD i27.toNat []) A51 c52 (x0.f2.getD i27.toNat []) t54 _ (HS.getO 2 rfl) le45 (HS.getO 0 rfl) le53 ha55) (fun w56 HS => ?_)
 clear ha55
 refine on_ (qF c47) (nt_ ?_)
 refine v_ (Run.pickF rfl rfl (qF c47) rfl) ?_
 refine dn_ hK46 ?_
 rcases ite_ H with ⟨c57, H⟩ | ⟨c57, H⟩
 · refine wn_ (nB c57) (WC.skip (via_ hK38 (rg_ (b_ bin_add64 ?_))))
   refine mv_ ?_
   refine WL.done ?_
   exact wr_ k34 iq ⟨(wrap64 (i27 + 1)), ⟨_, H, Ho26⟩, rfl, (St.pk HS [4, 5] [] rfl rfl)⟩
 refine wy_ (nB (bF c57)) (sr_ fun _ hK58 => ?_)
 refine ad_ hK58 ?_
 refine WC.ret ?_
 obtain rfl := os H
 rw [hG24] at Ho26
 replace H : some _ = some _ := Ho26
 obtain rfl := os H
 exact fin1 Tryz.f227 rfl rfl hR_ ⟨rfl, HS.b⟩
def impl_Worst.b0 (l0 : List Int) (l1 : List Int) (rec_ : Int → Int → Option (Int × Int)) (k23 : Nat) (i15 : Int) (i16 : Int) : Option (Int × Int) := (if i16 < (l0.length : Int) then (if 0 ≤ i16 ∧ i16 < (l0.length : Int) then (if 0 ≤ (wrap64 (Int.tdiv i16 4)) ∧ (wrap64 (Int.tdiv i16 4)) < (l1.length : Int) then (rec_ (wrap64 (i15 + (wrap64 ((wrap64 ((l1.getD (wrap64 (Int.tdiv i16 4)).toNat 0) * 127)) * (if (l0.getD i16.toNat 0) < wrap64 (0 - (l0.getD i16.toNat 0)) then wrap64 (0 - (l0.getD i16.toNat 0)) else (l0.getD i16.toNat 0)))))) (wrap64 (i16 + 1))) else none) else none) else (some (i15, i16)))
def impl_Worst.l0 (l0 : List Int) (l1 : List Int) : Nat → Int → Int → Option (Int × Int)
 | 0, _, _ => none
 | k + 1, i15, i16 => impl_Worst.b0 l0 l1 (impl_Worst.l0 l0 l1 k) k i15 i16
def impl_Worst.g (k : Nat) (l0 : List Int) (l1 : List Int) : Option Int := ((impl_rowOk.g k l0 l1).bind fun t4 => (if t4 = true then ((impl_Worst.l0 l0 l1 k 0 0).bind (fun oc21 => (some oc21.1))) else (some 0)))
theorem impl_Worst.runs (k : Nat) (A0 : Option Addr) (c0 : Nat) (l0 : List Int) (A1 : Option Addr) (c1 : Nat) (l1 : List Int) (r : Int) (w : World) (hr0 : kI.C w A0 l0.length l0) (hc0 : l0.length ≤ c0) (hr1 : kI.C w A1 l1.length l1) (hc1 : l1.length ≤ c1) (H : impl_Worst.g k l0 l1 = some r) :
   Calls prog 228 #[.slice A0 l0.length c0, .slice A1 l1.length c1] w fun e w' => e = .returned (vi r) ∧ Below w.heap.size w w' := by
 unfold impl_Worst.g at H
 have HS : St (fun _ => True) w w [] [(cF kI A0 l0), (cF kI A1 l1)] [] := St.start (foot_cons (foot_C (Kd.heap_int _) hr0) (foot_cons (foot_C (Kd.heap_int _) hr1) foot_nil))
 refine cw_ (n := 34) func228 fun R_ hR_ => ?_
 refine sr_ fun _ hK1 => ?_
 refine ad_ hK1 ?_
 refine WC.seq fun _ hK2 => ?_
 refine sr_ fun _ hK3 => ?_
 refine mv_ ?_
 refine mv_ ?_
 obtain ⟨t4, ha5, H⟩ := bind_some H
 refine cs_ HS func268 (impl_rowOk.runs k A0 c0 l0 A1 c1 l1 t4 _ (HS.getO 0 rfl) hc0 (HS.getO 1 rfl) hc1 ha5) (fun w6 HS => ?_)
 clear ha5
 refine nt_ ?_
 refine dn_ hK3 ?_
 rcases eti_ H with ⟨c7, H⟩ | ⟨c7, H⟩
 · refine wy_ (nB (bF c7)) (sr_ fun _ hK35 => ?_)
   refine ad_ hK35 ?_
   obtain rfl := os H
   exact rt1 Tryz.f228 rfl rfl hR_ ⟨rfl, HS.b⟩
 refine wn_ (nB c7) (WC.skip (via_ hK2 (sr_ fun _ hK8 => ?_)))
 refine ad_ hK8 ?_
 refine WC.seq fun K9 hK9 => ?_
 refine sr_ fun _ hK10 => ?_
 refine mv_ ?_
 refine ln_ underlying28 ?_
 refine mv_ ?_
 refine dn_ hK10 (WC.block ?_)
 obtain ⟨G11, hG12, oc13, H, Ho14⟩ := open_G H
 let J17 := fun (i15 : Int) (i16 : Int) (E_ : Env) (W_ : World) => E_ = [(1, .slice A1 l1.length c1), (5, vi i15), (12, .slice A0 l0.length c0), (13, vi (l0.length : Int)), (14, vi i16)] ∧ St (fun _ => True) w W_ [] [(cF kI A0 l0), (cF kI A1 l1)] []
 have X18 : ∀ E_ W_, (∃ i15 i16, G11 (i15, i16) = some r ∧ J17 i15 i16 E_ W_) → ∀ a, Fits a 34 E_ → K9 a W_ := by
   rintro E_ w19 ⟨i15, i16, H, rfl, HS⟩
   rw [hG12] at H
   (try dsimp only at H)
   refine hK9 _ _ ?_
   refine sr_ fun _ hK20 => ?_
   refine mv_ ?_
   refine ad_ hK20 ?_
   obtain rfl := os H
   exact rt1 Tryz.f228 rfl rfl hR_ ⟨rfl, HS.b⟩
 clear hK9
 refine WC.loop (fun k_ E_ W_ => ∃ i15 i16, (∃ o_, impl_Worst.l0 l0 l1 k_ i15 i16 = some o_ ∧ G11 o_ = some r) ∧ J17 i15 i16 E_ W_) k ⟨0, 0, ⟨_, H, Ho14⟩, rfl, HS⟩ (sb rfl) ?_
 rintro k_ E_ w22 ⟨i15, i16, ⟨oc13, H, Ho14⟩, rfl, HS⟩
 rcases k_ with _ | k23
 · exact no_ H
 replace H : impl_Worst.b0 l0 l1 (impl_Worst.l0 l0 l1 k23) k23 i15 i16 = some oc13 := H
 unfold impl_Worst.b0 at H
 refine sr_ fun _ hK24 => ?_
 refine b_ bin_lss ?_
 refine dn_ hK24 (WC.seq fun _ hK25 => ?_)
 rcases eti_ H with ⟨c26, H⟩ | ⟨c26, H⟩
 · refine wn_ (dF c26) (WC.exit ?_)
   obtain rfl := os H
   exact wv_ iq X18 ⟨i15, i16, Ho14, rfl, HS⟩
 refine wy_ (dT c26) (WC.skip (via_ hK25 (WC.seq fun _ hK27 => ?_)))
 refine WC.block (sr_ fun _ hK28 => ?_)
 refine mv_ ?_
 obtain ⟨⟨q29, q30⟩, H⟩ := if_some H
 obtain ⟨ad31, rfl⟩ := C_open (HS.getO 0 rfl) (lenpos q29 q30)
 refine v_ (ia_ underlying28 1 q29 q30) ?_
 refine v_ (Run.load rfl rfl underlying3 rfl (int_cell (HS.getO 0 rfl) i16 q29 q30)) ?_
 refine as_ ?_
 refine ad_ hK28 ?_
 refine rg_ (mv_ ?_)
 refine mv_ ?_
 refine mv_ ?_
 refine v_ (Run.bin rfl rfl rfl (bin_quo64 (show (4 : Int) ≠ 0 by decide))) ?_
 obtain ⟨⟨q32, q33⟩, H⟩ := if_some H
 obtain ⟨ad34, rfl⟩ := C_open (HS.getO 1 rfl) (lenpos q32 q33)
 refine v_ (ia_ underlying28 1 q32 q33) ?_
 refine v_ (Run.load rfl rfl underlying3 rfl (int_cell (HS.getO 1 rfl) (wrap64 (Int.tdiv i16 4)) q32 q33)) ?_
 refine b_ bin_mul64 ?_
 refine mv_ ?_
 refine mv_ ?_
 refine v_ (Run.neg64 rfl rfl) ?_
 refine v_ (Run.max2 rfl rfl rfl) ?_
 refine b_ bin_mul64 ?_
 refine b_ bin_add64 ?_
 refine ad_ hK27 ?_
 refine rg_ (b_ bin_add64 ?_)
 refine mv_ ?_
 refine WL.done ?_
 exact wr_ k23 iq ⟨(wrap64 (i15 + (wrap64 ((wrap64 ((l1.getD (wrap64 (Int.tdiv i16 4)).toNat 0) * 127)) * (if (l0.getD i16.toNat 0) < wrap64 (0 - (l0.getD i16.toNat 0)) then wrap64 (0 - (l0.getD i16.toNat 0)) else (l0.getD i16.toNat 0)))))), (wrap64 (i16 + 1)), ⟨_, H, Ho14⟩, rfl, HS⟩
def impl_withinBudget.b0 (x0 : S30) (rec_ : Int → Option (Bool ⊕ Int)) (k25 : Nat) (i18 : Int) : Option (Bool ⊕ Int) := (if i18 < (x0.f1.length : Int) then (if 0 ≤ i18 ∧ i18 < (x0.f1.length : Int) then (if 0 ≤ i18 ∧ i18 < (x0.f2.length : Int) then ((impl_Worst.g k25 (x0.f1.getD i18.toNat []) (x0.f2.getD i18.toNat [])).bind fun t44 => (if t44 > 600000 then (some (Sum.inl false)) else (rec_ (wrap64 (i18 + 1))))) else none) else none) else (some (Sum.inr i18)))
def impl_withinBudget.l0 (x0 : S30) : Nat → Int → Option (Bool ⊕ Int)
 | 0, _ => none
 | k + 1, i18 => impl_withinBudget.b0 x0 (impl_withinBudget.l0 x0 k) k i18
def impl_withinBudget.g (k : Nat) (x0 : S30) (a1 : Int) (a2 : Int) : Option Bool := ((impl_MatrixOk.g k (⟨x0.f0, x0.f1, x0.f2, x0.f3, x0.f4⟩ : S30)).bind fun t6 => (if t6 = true then (if x0.f0 = a1 then (if (x0.f1.length : Int) = a2 then ((impl_withinBudget.l0 x0 k 0).bind (fun oc23 => match oc23 with | .inl r_ => some r_ | .inr i18 => (some true))) else (some false)) else (some false)) else (some false)))
theorem impl_withinBudget.runs (k : Nat) (x0 : S30) (A0_1 : Option Addr) (c0_1 : Nat) (A0_2 : Option Addr) (c0_2 : Nat) (a1 : Int) (a2 : Int) (r : Bool) (w : World) (hr0_1 : kS3.C w A0_1 x0.f1.length x0.f1) (hc0_1 : x0.f1.length ≤ c0_1) (hr0_2 : kS3.C w A0_2 x0.f2.length x0.f2) (hc0_2 : x0.f2.length ≤ c0_2) (H : impl_withinBudget.g k x0 a1 a2 = some r) :
   Calls prog 162 #[.agg #[vi x0.f0, .slice A0_1 x0.f1.length c0_1, .slice A0_2 x0.f2.length c0_2, vi x0.f3, vi x0.f4], vi a1, vi a2] w fun e w' => e = .returned (.bool r) ∧ Below w.heap.size w w' := by
 unfold impl_withinBudget.g at H
 have HS : St (fun _ => True) w w [] [(cF kS3 A0_1 x0.f1), (cF kS3 A0_2 x0.f2)] [] := St.start (foot_cons (foot_C (Kd.heap_slice _ (Kd.heap_int _)) hr0_1) (foot_cons (foot_C (Kd.heap_slice _ (Kd.heap_int _)) hr0_2) foot_nil))
 refine cw_ (n := 42) func162 fun R_ hR_ => ?_
 refine sr_ fun _ hK1 => ?_
 refine bo_ HS (fun b2 w3 hb2 HS => ?_)
 refine ad_ hK1 ?_
 refine WC.seq fun _ hK4 => ?_
 refine sr_ fun _ hK5 => ?_
 refine v_ (ls_ (HS.mu 0 rfl) underlying30 part_all) ?_
 obtain ⟨t6, ha7, H⟩ := bind_some H
 refine cs_ HS func227 (impl_MatrixOk.runs k (⟨x0.f0, x0.f1, x0.f2, x0.f3, x0.f4⟩ : S30) A0_1 c0_1 A0_2 c0_2 t6 _ (HS.getO 0 rfl) hc0_1 (HS.getO 1 rfl) hc0_2 ha7) (fun w8 HS => ?_)
 clear ha7
 refine nt_ ?_
 refine mv_ ?_
 rcases eti_ H with ⟨c9, H⟩ | ⟨c9, H⟩
 · refine off_ (c' := true) (nB (bF c9)) ?_
   refine WL.know 12 (nB (bF c9)) ?_
   refine fast_ ?_
   refine via_ hK5 (wy_ rfl ?_)
   refine sr_ fun _ hK51 => ?_
   refine ad_ hK51 ?_
   obtain rfl := os H
   exact rt1 Tryz.f162 rfl rfl hR_ ⟨rfl, HS.b⟩
 refine on_ (nB c9) (v_ (fa_ underlying30) ?_)
 refine on_ (nB c9) (v_ (lb_ (HS.mu 0 rfl) underlying3 rfl) ?_)
 refine on_ (nB c9) (mv_ ?_)
 refine on_ (nB c9) (b_ bin_neq ?_)
 refine v_ (Run.pickF rfl rfl (nB c9) rfl) ?_
 refine mv_ ?_
 rcases eti_ H with ⟨c10, H⟩ | ⟨c10, H⟩
 · refine off_ (c' := true) (qT c10) ?_
   refine WL.know 18 (qT c10) ?_
   refine fast_ ?_
   refine via_ hK5 (wy_ rfl ?_)
   refine sr_ fun _ hK50 => ?_
   refine ad_ hK50 ?_
   obtain rfl := os H
   exact rt1 Tryz.f162 rfl rfl hR_ ⟨rfl, HS.b⟩
 refine on_ (qF c10) (v_ (fa_ underlying30) ?_)
 refine on_ (qF c10) (v_ (lb_ (HS.mu 0 rfl) underlying26 rfl) ?_)
 refine on_ (qF c10) (ln_ underlying26 ?_)
 refine on_ (qF c10) (mv_ ?_)
 refine on_ (qF c10) (b_ bin_neq ?_)
 refine v_ (Run.pickF rfl rfl (qF c10) rfl) ?_
 refine dn_ hK5 ?_
 rcases eti_ H with ⟨c11, H⟩ | ⟨c11, H⟩
 · refine wy_ (qT c11) (sr_ fun _ hK49 => ?_)
   refine ad_ hK49 ?_
   obtain rfl := os H
   exact rt1 Tryz.f162 rfl rfl hR_ ⟨rfl, HS.b⟩
 refine wn_ (qF c11) (WC.skip (via_ hK4 (WC.seq fun K12 hK12 => ?_)))
 refine sr_ fun _ hK13 => ?_
 refine v_ (fa_ underlying30) ?_
 refine v_ (lb_ (HS.mu 0 rfl) underlying26 rfl) ?_
 refine ln_ underlying26 ?_
 refine mv_ ?_
 refine dn_ hK13 (WC.block ?_)
 obtain ⟨G14, hG15, oc16, H, Ho17⟩ := open_G H
 let J19 := fun (i18 : Int) (E_ : Env) (W_ : World) => E_ = [(3, .pointer (some ⟨b2, 0, none⟩)), (26, .slice A0_1 x0.f1.length c0_1), (27, vi (x0.f1.length : Int)), (28, vi i18)] ∧ St (fun _ => True) w W_ [boxM b2 #[vi x0.f0, .slice A0_1 x0.f1.length c0_1, .slice A0_2 x0.f2.length c0_2, vi x0.f3, vi x0.f4] 30] [(cF kS3 A0_1 x0.f1), (cF kS3 A0_2 x0.f2)] []
 have X20 : ∀ E_ W_, (∃ i18, G14 (Sum.inr i18) = some r ∧ J19 i18 E_ W_) → ∀ a, Fits a 42 E_ → K12 a W_ := by
   rintro E_ w21 ⟨i18, H, rfl, HS⟩
   rw [hG15] at H
   (try dsimp only at H)
   refine hK12 _ _ ?_
   refine sr_ fun _ hK22 => ?_
   refine ad_ hK22 ?_
   obtain rfl := os H
   exact rt1 Tryz.f162 rfl rfl hR_ ⟨rfl, HS.b⟩
 clear hK12
 refine WC.loop (fun k_ E_ W_ => ∃ i18, (∃ o_, impl_withinBudget.l0 x0 k_ i18 = some o_ ∧ G14 o_ = some r) ∧ J19 i18 E_ W_) k ⟨0, ⟨_, H, Ho17⟩, rfl, HS⟩ (sb rfl) ?_
 rintro k_ E_ w24 ⟨i18, ⟨oc16, H, Ho17⟩, rfl, HS⟩
 rcases k_ with _ | k25
 · exact no_ H
 replace H : impl_withinBudget.b0 x0 (impl_withinBudget.l0 x0 k25) k25 i18 = some oc16 := H
 unfold impl_withinBudget.b0 at H
 refine sr_ fun _ hK26 => ?_
 refine b_ bin_lss ?_
 refine dn_ hK26 (WC.seq fun _ hK27 => ?_)
 rcases eti_ H with ⟨c28, H⟩ | ⟨c28, H⟩
 · refine wn_ (dF c28) (WC.exit ?_)
   obtain rfl := os H
   exact wv_ iq X20 ⟨i18, Ho17, rfl, HS⟩
 refine wy_ (dT c28) (WC.skip (via_ hK27 (WC.seq fun _ hK29 => ?_)))
 refine WC.block (sr_ fun _ hK30 => ?_)
 refine mv_ ?_
 obtain ⟨⟨q31, q32⟩, H⟩ := if_some H
 obtain ⟨ad33, rfl⟩ := C_open (HS.getO 0 rfl) (lenpos q31 q32)
 refine v_ (ia_ underlying26 1 q31 q32) ?_
 obtain ⟨A34, c35, le36, HS⟩ := HS.slO 0 rfl i18 q31 q32
 refine v_ (Run.load rfl rfl underlying28 rfl (HS.getO 1 rfl)) ?_
 refine as_ ?_
 refine ad_ hK30 ?_
 refine sr_ fun _ hK37 => ?_
 refine mv_ ?_
 refine v_ (fa_ underlying30) ?_
 refine v_ (lb_ (HS.mu 0 rfl) underlying26 rfl) ?_
 refine mv_ ?_
 obtain ⟨⟨q38, q39⟩, H⟩ := if_some H
 obtain ⟨ad40, rfl⟩ := C_open (HS.getO 3 rfl) (lenpos q38 q39)
 refine v_ (ia_ underlying26 1 q38 q39) ?_
 obtain ⟨A41, c42, le43, HS⟩ := HS.slO 3 rfl i18 q38 q39
 refine v_ (Run.load rfl rfl underlying28 rfl (HS.getO 1 rfl)) ?_
 obtain ⟨t44, ha45, H⟩ := bind_some H
 refine cs_ HS func228 (impl_Worst.runs k25 A34 c35 (x0.f1.getD i18.toNat []) A41 c42 (x0.f2.getD i18.toNat []) t44 _ (HS.getO 2 rfl) le36 (HS.getO 0 rfl) le43 ha45) (fun w46 HS => ?_)
 clear ha45
 refine b_ bin_gtr ?_
 refine dn_ hK37 ?_
 rcases eti_ H with ⟨c47, H⟩ | ⟨c47, H⟩
 · refine wn_ (dF c47) (WC.skip (via_ hK29 (rg_ (b_ bin_add64 ?_))))
   refine mv_ ?_
   refine WL.done ?_
   exact wr_ k25 iq ⟨(wrap64 (i18 + 1)), ⟨_, H, Ho17⟩, rfl, (St.pk HS [4, 5] [] rfl rfl)⟩
 refine wy_ (dT c47) (sr_ fun _ hK48 => ?_)
 refine ad_ hK48 ?_
 refine WC.ret ?_
 obtain rfl := os H
 rw [hG15] at Ho17
 replace H : some _ = some _ := Ho17
 obtain rfl := os H
 exact fin1 Tryz.f162 rfl rfl hR_ ⟨rfl, HS.b⟩
def impl_GainOk.g (k : Nat) (l0 : List Int) (a1 : Int) : Option Bool := (if (l0.length : Int) = a1 then ((impl_allIn.f l0 0 127).bind fun t4 => (some t4)) else (some false))
theorem impl_GainOk.runs (k : Nat) (A0 : Option Addr) (c0 : Nat) (l0 : List Int) (a1 : Int) (r : Bool) (w : World) (hr0 : kI.C w A0 l0.length l0) (hc0 : l0.length ≤ c0) (H : impl_GainOk.g k l0 a1 = some r) :
   Calls prog 161 #[.slice A0 l0.length c0, vi a1] w fun e w' => e = .returned (.bool r) ∧ Below w.heap.size w w' := by
 unfold impl_GainOk.g at H
 have HS : St (fun _ => True) w w [] [(cF kI A0 l0)] [] := St.start (foot_cons (foot_C (Kd.heap_int _) hr0) foot_nil)
 refine cw_ (n := 13) func161 fun R_ hR_ => ?_
 refine sr_ fun _ hK1 => ?_
 refine ad_ hK1 ?_
 refine sr_ fun _ hK2 => ?_
 refine mv_ ?_
 refine ln_ underlying28 ?_
 refine mv_ ?_
 refine b_ bin_eql ?_
 refine mv_ ?_
 rcases eti_ H with ⟨c3, H⟩ | ⟨c3, H⟩
 · refine off_ (c' := false) (eF c3) ?_
   refine WL.know 9 (eF c3) ?_
   refine fast_ ?_
   refine via_ hK2 ?_
   obtain rfl := os H
   exact rt1 Tryz.f161 rfl rfl hR_ ⟨rfl, HS.b⟩
 refine on_ (eT c3) (mv_ ?_)
 refine on_ (eT c3) ?_
 obtain ⟨t4, ha5, H⟩ := bind_some H
 refine cs_ HS func157 (impl_allIn.calls A0 c0 l0 0 127 t4 _ (HS.getO 0 rfl) hc0 ha5) (fun w6 HS => ?_)
 clear ha5
 refine v_ (Run.pickT rfl rfl (eT c3) rfl) ?_
 refine ad_ hK2 ?_
 obtain rfl := os H
 exact rt1 Tryz.f161 rfl rfl hR_ ⟨rfl, HS.b⟩
def impl_TurnsOk.g (k : Nat) (x0 : S32) (a1 : Int) (a2 : Int) : Option Bool := ((impl_in.f a1 4 24).bind fun t5 => (if t5 = true then ((impl_in.f a2 1 4).bind fun t9 => (if t9 = true then ((impl_turnLists.f x0.f0 a1 a2).bind fun t13 => (if t13 = true then ((impl_turnLists.f x0.f1 a1 a2).bind fun t17 => (some t17)) else (some false))) else (some false))) else (some false)))
theorem impl_TurnsOk.runs (k : Nat) (x0 : S32) (A0_0 : Option Addr) (c0_0 : Nat) (A0_1 : Option Addr) (c0_1 : Nat) (a1 : Int) (a2 : Int) (r : Bool) (w : World) (hr0_0 : kS3.C w A0_0 x0.f0.length x0.f0) (hc0_0 : x0.f0.length ≤ c0_0) (hr0_1 : kS3.C w A0_1 x0.f1.length x0.f1) (hc0_1 : x0.f1.length ≤ c0_1) (H : impl_TurnsOk.g k x0 a1 a2 = some r) :
   Calls prog 163 #[.agg #[.slice A0_0 x0.f0.length c0_0, .slice A0_1 x0.f1.length c0_1], vi a1, vi a2] w fun e w' => e = .returned (.bool r) ∧ Below w.heap.size w w' := by
 unfold impl_TurnsOk.g at H
 have HS : St (fun _ => True) w w [] [(cF kS3 A0_0 x0.f0), (cF kS3 A0_1 x0.f1)] [] := St.start (foot_cons (foot_C (Kd.heap_slice _ (Kd.heap_int _)) hr0_0) (foot_cons (foot_C (Kd.heap_slice _ (Kd.heap_int _)) hr0_1) foot_nil))
 refine cw_ (n := 27) func163 fun R_ hR_ => ?_
 refine sr_ fun _ hK1 => ?_
 refine bo_ HS (fun b2 w3 hb2 HS => ?_)
 refine ad_ hK1 ?_
 refine sr_ fun _ hK4 => ?_
 refine mv_ ?_
 obtain ⟨t5, ha6, H⟩ := bind_some H
 refine cs0_ HS func139 (impl_in.calls a1 4 24 t5 _ ha6) (fun w7 HS => ?_)
 clear ha6
 refine mv_ ?_
 rcases eti_ H with ⟨c8, H⟩ | ⟨c8, H⟩
 · refine off_ (c' := false) (bF c8) ?_
   refine WL.know 9 (bF c8) ?_
   refine fast_ ?_
   refine via_ hK4 ?_
   obtain rfl := os H
   exact rt1 Tryz.f163 rfl rfl hR_ ⟨rfl, HS.b⟩
 refine on_ c8 ?_
 refine mv_ ?_
 refine on_ c8 ?_
 obtain ⟨t9, ha10, H⟩ := bind_some H
 refine cs0_ HS func139 (impl_in.calls a2 1 4 t9 _ ha10) (fun w11 HS => ?_)
 clear ha10
 refine v_ (Run.pickT rfl rfl c8 rfl) ?_
 refine mv_ ?_
 rcases eti_ H with ⟨c12, H⟩ | ⟨c12, H⟩
 · refine off_ (c' := false) (bF c12) ?_
   refine WL.know 13 (bF c12) ?_
   refine fast_ ?_
   refine via_ hK4 ?_
   obtain rfl := os H
   exact rt1 Tryz.f163 rfl rfl hR_ ⟨rfl, HS.b⟩
 refine on_ c12 ?_
 refine v_ (fa_ underlying32) ?_
 refine on_ c12 ?_
 refine v_ (lb_ (HS.mu 0 rfl) underlying26 rfl) ?_
 refine on_ c12 ?_
 refine mv_ ?_
 refine on_ c12 ?_
 refine mv_ ?_
 refine on_ c12 ?_
 obtain ⟨t13, ha14, H⟩ := bind_some H
 refine cs_ HS func229 (impl_turnLists.calls A0_0 c0_0 x0.f0 a1 a2 t13 _ (HS.getO 0 rfl) hc0_0 ha14) (fun w15 HS => ?_)
 clear ha14
 refine v_ (Run.pickT rfl rfl c12 rfl) ?_
 refine mv_ ?_
 rcases eti_ H with ⟨c16, H⟩ | ⟨c16, H⟩
 · refine off_ (c' := false) (bF c16) ?_
   refine WL.know 20 (bF c16) ?_
   refine fast_ ?_
   refine via_ hK4 ?_
   obtain rfl := os H
   exact rt1 Tryz.f163 rfl rfl hR_ ⟨rfl, HS.b⟩
 refine on_ c16 ?_
 refine v_ (fa_ underlying32) ?_
 refine on_ c16 ?_
 refine v_ (lb_ (HS.mu 0 rfl) underlying26 rfl) ?_
 refine on_ c16 ?_
 refine mv_ ?_
 refine on_ c16 ?_
 refine mv_ ?_
 refine on_ c16 ?_
 obtain ⟨t17, ha18, H⟩ := bind_some H
 refine cs_ HS func229 (impl_turnLists.calls A0_1 c0_1 x0.f1 a1 a2 t17 _ (HS.getO 1 rfl) hc0_1 ha18) (fun w19 HS => ?_)
 clear ha18
 refine v_ (Run.pickT rfl rfl c16 rfl) ?_
 refine ad_ hK4 ?_
 obtain rfl := os H
 exact rt1 Tryz.f163 rfl rfl hR_ ⟨rfl, HS.b⟩
def slices_Index_impl_Merge_impl_Merge.b0 (l0 : List S114) (x1 : S114) (rec_ : Int → Option (Int ⊕ Int)) (k17 : Nat) (i10 : Int) : Option (Int ⊕ Int) := (if i10 < (l0.length : Int) then (if 0 ≤ i10 ∧ i10 < (l0.length : Int) then (if (x1.f0 == ((l0.getD i10.toNat o114).f0) && (x1.f1 == ((l0.getD i10.toNat o114).f1))) = true then (some (Sum.inl i10)) else (rec_ (wrap64 (i10 + 1)))) else none) else (some (Sum.inr i10)))
def slices_Index_impl_Merge_impl_Merge.l0 (l0 : List S114) (x1 : S114) : Nat → Int → Option (Int ⊕ Int)
 | 0, _ => none
 | k + 1, i10 => slices_Index_impl_Merge_impl_Merge.b0 l0 x1 (slices_Index_impl_Merge_impl_Merge.l0 l0 x1 k) k i10
def slices_Index_impl_Merge_impl_Merge.g (k : Nat) (l0 : List S114) (x1 : S114) : Option Int := ((slices_Index_impl_Merge_impl_Merge.l0 l0 x1 k 0).bind (fun oc15 => match oc15 with | .inl r_ => some r_ | .inr i10 => (some (-1))))
theorem slices_Index_impl_Merge_impl_Merge.runs (k : Nat) (A0 : Option Addr) (c0 : Nat) (l0 : List S114) (x1 : S114) (r : Int) (w : World) (hr0 : k114.C w A0 l0.length l0) (hc0 : l0.length ≤ c0) (H : slices_Index_impl_Merge_impl_Merge.g k l0 x1 = some r) :
   Calls prog 265 #[.slice A0 l0.length c0, .agg #[vi x1.f0, vi x1.f1]] w fun e w' => e = .returned (vi r) ∧ Below w.heap.size w w' := by
 unfold slices_Index_impl_Merge_impl_Merge.g at H
 have HS : St (fun _ => True) w w [] [(cF k114 A0 l0)] [] := St.start (foot_cons (foot_C h114 hr0) foot_nil)
 refine cw_ (n := 19) func265 fun R_ hR_ => ?_
 refine sr_ fun _ hK1 => ?_
 refine bo_ HS (fun b2 w3 hb2 HS => ?_)
 refine ad_ hK1 ?_
 refine WC.seq fun K4 hK4 => ?_
 refine sr_ fun _ hK5 => ?_
 refine mv_ ?_
 refine ln_ underlying25 ?_
 refine mv_ ?_
 refine dn_ hK5 (WC.block ?_)
 obtain ⟨G6, hG7, oc8, H, Ho9⟩ := open_G H
 let J11 := fun (i10 : Int) (E_ : Env) (W_ : World) => E_ = [(0, .slice A0 l0.length c0), (3, .pointer (some ⟨b2, 0, none⟩)), (7, vi (l0.length : Int)), (8, vi i10)] ∧ St (fun _ => True) w W_ [boxM b2 #[vi x1.f0, vi x1.f1] 114] [(cF k114 A0 l0)] []
 have X12 : ∀ E_ W_, (∃ i10, G6 (Sum.inr i10) = some r ∧ J11 i10 E_ W_) → ∀ a, Fits a 19 E_ → K4 a W_ := by
   rintro E_ w13 ⟨i10, H, rfl, HS⟩
   rw [hG7] at H
   (try dsimp only at H)
   refine hK4 _ _ ?_
   refine sr_ fun _ hK14 => ?_
   refine ad_ hK14 ?_
   obtain rfl := os H
   exact rt1 Tryz.f265 rfl rfl hR_ ⟨rfl, HS.b⟩
 clear hK4
 refine WC.loop (fun k_ E_ W_ => ∃ i10, (∃ o_, slices_Index_impl_Merge_impl_Merge.l0 l0 x1 k_ i10 = some o_ ∧ G6 o_ = some r) ∧ J11 i10 E_ W_) k ⟨0, ⟨_, H, Ho9⟩, rfl, HS⟩ (sb rfl) ?_
 rintro k_ E_ w16 ⟨i10, ⟨oc8, H, Ho9⟩, rfl, HS⟩
 rcases k_ with _ | k17
 · exact no_ H
 replace H : slices_Index_impl_Merge_impl_Merge.b0 l0 x1 (slices_Index_impl_Merge_impl_Merge.l0 l0 x1 k17) k17 i10 = some oc8 := H
 unfold slices_Index_impl_Merge_impl_Merge.b0 at H
 refine sr_ fun _ hK18 => ?_
 refine b_ bin_lss ?_
 refine dn_ hK18 (WC.seq fun _ hK19 => ?_)
 rcases eti_ H with ⟨c20, H⟩ | ⟨c20, H⟩
 · refine wn_ (dF c20) (WC.exit ?_)
   obtain rfl := os H
   exact wv_ iq X12 ⟨i10, Ho9, rfl, HS⟩
 refine wy_ (dT c20) (WC.skip (via_ hK19 (WC.seq fun _ hK21 => ?_)))
 refine WC.block (sr_ fun _ hK22 => ?_)
 refine mv_ ?_
 refine ad_ hK22 ?_
 refine WC.seq fun _ hK23 => ?_
 refine WC.drawS HS [] rfl rfl (fun w24 HS => ?_)
 have HB := Below.refl w24.heap.size w24
 have HSW := HS
 refine dm_ 1 ?_
 refine dm_ 2 ?_
 obtain ⟨⟨q25, q26⟩, H⟩ := if_some H
 obtain ⟨ad27, rfl⟩ := C_open (HS.getO 0 rfl) (lenpos q25 q26)
 refine di_ 3 underlying25 2 q25 q26 ?_
 refine dt_ 0 (Below.refl _ _) (fun w_ hw_ => Run.loadS (cs := [vi x1.f0, vi x1.f1]) rfl rfl underlying114 rfl (by kernel_rfl) (box_part ((HS.below hw_).mu 0 rfl) part_all)) ?_
 obtain ⟨e28, el29, HS⟩ := HS.elO 0 rfl (by decide) o114 i10 q25 q26
 replace HSW := HS
 refine dt_ 4 (Below.refl _ _) (fun w_ hw_ => Run.loadS (cs := [vi ((l0.getD i10.toNat o114).f0), vi ((l0.getD i10.toNat o114).f1)]) rfl rfl underlying114 rfl (by kernel_rfl) (cells_part ((HS.below hw_).getO 0 rfl).2 (part_cons (at114_0 (AtK.whole ((HS.below hw_).getO 0 rfl).1)).int (part_cons (at114_1 (AtK.whole ((HS.below hw_).getO 0 rfl).1)).int part_nil)))) ?_
 refine dp_ 5 (fun _ => Run.eqS rfl rfl rfl (by kernel_rfl) (eqs114 _ _ _ _ _)) ?_
 refine dd_ ?_
 clear HB HSW
 refine via_ hK23 ?_
 rcases eti_ H with ⟨c30, H⟩ | ⟨c30, H⟩
 · refine wn_ (bF c30) (WC.skip (via_ hK21 (rg_ (b_ bin_add64 ?_))))
   refine mv_ ?_
   refine WL.done ?_
   exact wr_ k17 iq ⟨(wrap64 (i10 + 1)), ⟨_, H, Ho9⟩, rfl, (St.pk HS [1] [] rfl rfl)⟩
 refine wy_ c30 ?_
 refine sr_ fun _ hK31 => ?_
 refine mv_ ?_
 refine ad_ hK31 ?_
 refine WC.ret ?_
 obtain rfl := os H
 rw [hG7] at Ho9
 replace H : some _ = some _ := Ho9
 obtain rfl := os H
 exact fin1 Tryz.f265 rfl rfl hR_ ⟨rfl, HS.b⟩
def slices_Contains_impl_Merge_impl_Merge.g (k : Nat) (l0 : List S114) (x1 : S114) : Option Bool := ((slices_Index_impl_Merge_impl_Merge.g k l0 (⟨x1.f0, x1.f1⟩ : S114)).bind fun t5 => (some (decide (t5 ≥ 0))))
theorem slices_Contains_impl_Merge_impl_Merge.runs (k : Nat) (A0 : Option Addr) (c0 : Nat) (l0 : List S114) (x1 : S114) (r : Bool) (w : World) (hr0 : k114.C w A0 l0.length l0) (hc0 : l0.length ≤ c0) (H : slices_Contains_impl_Merge_impl_Merge.g k l0 x1 = some r) :
   Calls prog 221 #[.slice A0 l0.length c0, .agg #[vi x1.f0, vi x1.f1]] w fun e w' => e = .returned (.bool r) ∧ Below w.heap.size w w' := by
 unfold slices_Contains_impl_Merge_impl_Merge.g at H
 have HS : St (fun _ => True) w w [] [(cF k114 A0 l0)] [] := St.start (foot_cons (foot_C h114 hr0) foot_nil)
 refine cw_ (n := 9) func221 fun R_ hR_ => ?_
 refine sr_ fun _ hK1 => ?_
 refine bo_ HS (fun b2 w3 hb2 HS => ?_)
 refine ad_ hK1 ?_
 refine sr_ fun _ hK4 => ?_
 refine mv_ ?_
 refine v_ (ls_ (HS.mu 0 rfl) underlying114 part_all) ?_
 obtain ⟨t5, ha6, H⟩ := bind_some H
 refine cs_ HS func265 (slices_Index_impl_Merge_impl_Merge.runs k A0 c0 l0 (⟨x1.f0, x1.f1⟩ : S114) t5 _ (HS.getO 0 rfl) hc0 ha6) (fun w7 HS => ?_)
 clear ha6
 refine b_ bin_geq ?_
 refine ad_ hK4 ?_
 obtain rfl := os H
 exact rt1 Tryz.f221 rfl rfl hR_ ⟨rfl, HS.b⟩
def laws_toIntS.b0 (l0 : List Int) (rec_ : Int → (List Int) → Option (Int × (List Int))) (k27 : Nat) (i15 : Int) (xs16 : List Int) : Option (Int × (List Int)) := (if i15 < (l0.length : Int) then (if 0 ≤ i15 ∧ i15 < (l0.length : Int) then (if 0 ≤ i15 ∧ i15 < ((xs16.length : Nat) : Int) then (rec_ (wrap64 (i15 + 1)) (xs16.set i15.toNat (l0.getD i15.toNat 0))) else none) else none) else (some (i15, xs16)))
def laws_toIntS.l0 (l0 : List Int) : Nat → Int → (List Int) → Option (Int × (List Int))
 | 0, _, _ => none
 | k + 1, i15, xs16 => laws_toIntS.b0 l0 (laws_toIntS.l0 l0 k) k i15 xs16
def laws_toIntS.g (k : Nat) (l0 : List Int) : Option (List Int) := (if 0 ≤ (l0.length : Int) ∧ (l0.length : Int) < 4294967296 then ((laws_toIntS.l0 l0 k 0 (List.replicate (l0.length : Int).toNat (0 : Int))).bind (fun oc25 => (some oc25.2))) else none)
theorem laws_toIntS.runs (k : Nat) (A0 : Option Addr) (c0 : Nat) (l0 : List Int) (r : List Int) (w : World) (hr0 : kI.C w A0 l0.length l0) (hc0 : l0.length ≤ c0) (H : laws_toIntS.g k l0 = some r) :
   Calls prog 21 #[.slice A0 l0.length c0] w fun e w' => ∃ (v0_ : Value) (bl0_ : List Nat), e = .returned (v0_) ∧ Owns w' w.heap.size [valM (Dk.slice 3 (Dk.int .i64)) r [v0_] bl0_] ∧ Below w.heap.size w w' := by
 unfold laws_toIntS.g at H
 have HS : St (fun _ => True) w w [] [(cF kI A0 l0)] [] := St.start (foot_cons (foot_C (Kd.heap_int _) hr0) foot_nil)
 refine cw_ (n := 22) func21 fun R_ hR_ => ?_
 refine sr_ fun _ hK1 => ?_
 refine ad_ hK1 ?_
 refine sr_ fun _ hK2 => ?_
 refine mv_ ?_
 refine ln_ underlying28 ?_
 obtain ⟨⟨q3, q4⟩, H⟩ := if_some H
 refine WL.make kI HS rfl rfl (by decide) rfl rfl rfl (vi 0) 8 0 underlying28 (by kernel_rfl) rfl (by decide) (by decide) (fun _ => (K_int _)) q3 (by omega) (fun v5 w6 I7 hI8 HS => ?_)
 replace HS := HS.deriveN (p := (rF kI (List.replicate (l0.length : Int).toNat (0 : Int)) I7)) (fun W_ hN_ => hI8 W_)
 refine ad_ hK2 ?_
 refine WC.seq fun K9 hK9 => ?_
 refine sr_ fun _ hK10 => ?_
 refine ad_ hK10 ?_
 refine WC.block ?_
 obtain ⟨G11, hG12, oc13, H, Ho14⟩ := open_G H
 let J19 := fun (i15 : Int) (xs16 : List Int) v17 I18 (E_ : Env) (W_ : World) => E_ = [(0, .slice A0 l0.length c0), (3, v17), (4, vi i15)] ∧ St (fun _ => True) w W_ [rowM w.heap.size 3 1 v17 xs16.length I18] [(cF kI A0 l0)] [(rF kI xs16 I18)]
 have X20 : ∀ E_ W_, (∃ i15 xs16 v17 I18, G11 (i15, xs16) = some r ∧ J19 i15 xs16 v17 I18 E_ W_) → ∀ a, Fits a 22 E_ → K9 a W_ := by
   rintro E_ w21 ⟨i15, xs16, v17, I18, H, rfl, HS⟩
   rw [hG12] at H
   (try dsimp only at H)
   refine hK9 _ _ ?_
   refine sr_ fun _ hK22 => ?_
   refine mv_ ?_
   refine ad_ hK22 ?_
   refine WC.ret ?_
   obtain ⟨A23, c24, rfl⟩ := row_slice (HS.mu 0 rfl)
   replace HS := HS.elsF (xs := xs16) (inner := I18) (Dk.int .i64) (fun _ _ _ h_ => ⟨h_, rfl⟩) (fun _ => (HS.getN 0 rfl))
   replace HS := HS.front 1 rfl
   dsimp only [List.eraseIdx] at HS
   replace HS := HS.seal rfl rfl
   obtain rfl := os H
   exact fin1 Tryz.f21 rfl rfl hR_ ⟨_, _, rfl, (St.owns HS), HS.b⟩
 clear hK9
 refine WC.loop (fun k_ E_ W_ => ∃ i15 xs16 v17 I18, (∃ o_, laws_toIntS.l0 l0 k_ i15 xs16 = some o_ ∧ G11 o_ = some r) ∧ J19 i15 xs16 v17 I18 E_ W_) k ⟨0, (List.replicate (l0.length : Int).toNat (0 : Int)), v5, I7, ⟨_, H, Ho14⟩, rfl, HS⟩ (sb rfl) ?_
 rintro k_ E_ w26 ⟨i15, xs16, v17, I18, ⟨oc13, H, Ho14⟩, rfl, HS⟩
 rcases k_ with _ | k27
 · exact no_ H
 replace H : laws_toIntS.b0 l0 (laws_toIntS.l0 l0 k27) k27 i15 xs16 = some oc13 := H
 unfold laws_toIntS.b0 at H
 refine WC.seq fun _ hK28 => ?_
 refine sr_ fun _ hK29 => ?_
 refine mv_ ?_
 refine mv_ ?_
 refine ln_ underlying28 ?_
 refine b_ bin_lss ?_
 refine dn_ hK29 ?_
 rcases eti_ H with ⟨c30, H⟩ | ⟨c30, H⟩
 · refine wn_ (dF c30) (WC.exit ?_)
   obtain rfl := os H
   exact wv_ iq X20 ⟨i15, xs16, v17, I18, Ho14, rfl, HS⟩
 refine wy_ (dT c30) (WC.skip (via_ hK28 (WC.seq fun _ hK31 => ?_)))
 refine WC.block (rg_ (mv_ ?_))
 refine mv_ ?_
 refine mv_ ?_
 refine mv_ ?_
 obtain ⟨⟨q32, q33⟩, H⟩ := if_some H
 obtain ⟨ad34, rfl⟩ := C_open (HS.getO 0 rfl) (lenpos q32 q33)
 refine v_ (ia_ underlying28 1 q32 q33) ?_
 refine v_ (Run.load rfl rfl underlying3 rfl (int_cell (HS.getO 0 rfl) i15 q32 q33)) ?_
 obtain ⟨⟨q35, q36⟩, H⟩ := if_some H
 obtain ⟨A37, c38, rfl⟩ := row_slice (HS.mu 0 rfl)
 obtain ⟨ad39, rfl⟩ := row_open (HS.mu 0 rfl) (lenpos q35 q36)
 refine v_ (ia_ underlying28 1 q35 q36) ?_
 have hk_ := mul_room q35 q36 1
 refine WL.putEl HS 0 rfl rfl rfl rfl rfl rfl [vi (l0.getD i15.toNat 0)] rfl (oneL rfl) (by kernel_rfl) (by first | omega | (rw [List.length_nil]; omega) | (simp; omega)) (fun w40 I41 hI42 HS => ?_)
 dsimp only [List.set] at HS
 clear hk_
 replace HS := HS.deriveN (p := (rF kI (xs16.set i15.toNat (l0.getD i15.toNat 0)) I41)) (fun W_ hN_ => reps_set hI42 hN_.1 (K_int _) (toNat_lt q35 q36))
 replace HS := HS.rowN 0 rfl (show xs16.length = (xs16.set i15.toNat (l0.getD i15.toNat 0)).length from (List.length_set ..).symm)
 dsimp only [List.set] at HS
 generalize hv44 : (Value.slice (some ad39) xs16.length c38) = v43 at HS ⊢
 refine dn_ hK31 (rg_ (mv_ ?_))
 refine b_ bin_add64 ?_
 refine as_ ?_
 refine WL.done ?_
 exact wr_ k27 iq ⟨(wrap64 (i15 + 1)), (xs16.set i15.toNat (l0.getD i15.toNat 0)), v43, I41, ⟨_, H, Ho14⟩, rfl, (St.pk HS [0] [0] rfl rfl)⟩
end Go.Proofs.YtoccifnjhbibcaaGreat.PFnExactKeyValue
