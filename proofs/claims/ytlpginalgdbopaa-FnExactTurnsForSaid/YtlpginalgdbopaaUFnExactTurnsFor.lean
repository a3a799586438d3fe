/- The walk of the law itself and of its marks; every test is decided ahead. No conditions. -/
import Derived.Test.YtlpginalgdbopaaPureFnExactTurnsFor
import Derived.Test.YtlpginalgdbopaaXLeaf
import Derived.Test.YtlpginalgdbopaaXClass
namespace Go.Proofs.Ytlpginalgdbopaa.Own
open Go.RowKit Go.Proofs.YtlpginalgdbopaaW.PrintWords Go.Proofs.YtlpginalgdbopaaW.PrintLast Go.Proofs.YtlpginalgdbopaaW.PrintMore Go.Proofs.Ytlpginalgdbopaa.XLeaf Go.Proofs.Ytlpginalgdbopaa.XLaw Go.Proofs.Ytlpginalgdbopaa.PFnExactTurnsFor Go.Proofs.Ytlpginalgdbopaa.Pure
attribute [local go_sem] max2_int min2_int max_two min_two max_three min_three max_four min_four
set_option linter.unusedVariables false
set_option linter.unusedSimpArgs false
/-! ### laws.markIntS -/
set_option maxHeartbeats 8000000 in
set_option maxRecDepth 100000 in
theorem laws_markIntS.leaf (A : Option Addr) (n c : Nat) (z : Int) (L : List Addr) (w : World) (h : RowLv w .int A n L) (h0 : 0 ≤ z) (h1 : z + (L.length : Int) ≤ 4611686018427387904) (r : Int) (hr0 : r = z + (L.length : Int)) :
    Calls Try.prog 20 #[.slice A n c, .int .i64 z] w fun e w' => e = .returned (.int .i64 r) ∧ Marked L z w w' := by
  obtain ⟨hn, f, rfl, hf⟩ := h
  have H := Aside0.mk hf
  have H0 := Aside0.mk h0
  have H1 := Aside0.mk h1
  have HE := Aside0.mk hr0
  clear hf h0 h1 hr0
  go_enter Try.func20, Try.ntmps20
  go_wp2
  go_loopg [1, 5] n (fun gg v1 v5 wr => ∃ (j : Nat) (y : Int), j ≤ n ∧ n - j ≤ gg ∧ v1 = .int .i64 y ∧ v5 = .int .i64 j ∧ Aside0 (y = z + (((List.range j).flatMap f).length : Int)) ∧ Aside0 (Marked ((List.range j).flatMap f) z w wr))
  case atStart => exact ⟨0, z, Nat.zero_le _, by omega, rfl, rfl, ⟨by simp⟩, ⟨Marked.nil _ _⟩⟩
  case round =>
    obtain ⟨j, y, hj, hg, rfl, rfl, HY, HM⟩ := hrel
    by_cases hlt : j < n
    · obtain ⟨g, rfl, hl⟩ := H.out j hlt
      have hl1 := Lv.ints hl HM.out.i
      have HS := Aside0.mk (Marked.set hl1 y)
      have hy0 : 0 ≤ y := by have := HY.out; have := H0.out; omega
      have hy1 : y ≤ 4611686018427387904 := by have := HY.out; have := H1.out; have := len_at f hlt; omega
      have HL := Aside0.mk hl
      obtain ⟨ef, cs, t, m, hb, ho⟩ := hl1
      have hx : wr.cell? ⟨g, j, none⟩ = some (.int .i64 m) := by rw [blk_cell hb]; simpa [Sh.sz] using ho
      have hfz : wr.frozen? ⟨g, j, none⟩ = false := blk_frozen hb _
      have EF := Aside0.mk ef
      clear hl ef hb ho
      go_wp2
      go_roundg (n - (j + 1))
      case measure => omega
      case rel =>
        refine ⟨j + 1, y + 1, by omega, by omega, rfl, by go_num, ⟨?_⟩, ⟨?_⟩⟩
        · rw [range_snoc, List.length_append, EF.out, HY.out]; simp; omega
        · have hs := HS.out
          rw [show j * Sh.int.sz = j by simp [Sh.sz]] at hs
          rw [range_snoc]
          exact HM.out.app (by rw [← HY.out]; exact hs)
    · have hltz : ¬ (j : Int) < (n : Int) := by omega
      obtain rfl : j = n := by omega
      obtain rfl : y = r := HY.out.trans HE.out.symm
      go_wp2
      go_ret
      exact ⟨rfl, HM.out⟩
/-! ### laws.markIntSS -/
set_option maxHeartbeats 8000000 in
set_option maxRecDepth 100000 in
theorem laws_markIntSS.leaf (A : Option Addr) (n c : Nat) (z : Int) (L : List Addr) (w : World) (h : RowLv w (.row .int) A n L) (h0 : 0 ≤ z) (h1 : z + (L.length : Int) ≤ 4611686018427387904) (r : Int) (hr0 : r = z + (L.length : Int)) :
    Calls Try.prog 21 #[.slice A n c, .int .i64 z] w fun e w' => e = .returned (.int .i64 r) ∧ Marked L z w w' := by
  obtain ⟨hn, f, rfl, hf⟩ := h
  have H := Aside0.mk hf
  have H0 := Aside0.mk h0
  have H1 := Aside0.mk h1
  have HE := Aside0.mk hr0
  clear hf h0 h1 hr0
  go_enter Try.func21, Try.ntmps21
  go_wp2
  go_loopg [1, 5] n (fun gg v1 v5 wr => ∃ (j : Nat) (y : Int), j ≤ n ∧ n - j ≤ gg ∧ v1 = .int .i64 y ∧ v5 = .int .i64 j ∧ Aside0 (y = z + (((List.range j).flatMap f).length : Int)) ∧ Aside0 (Marked ((List.range j).flatMap f) z w wr))
  case atStart => exact ⟨0, z, Nat.zero_le _, by omega, rfl, rfl, ⟨by simp⟩, ⟨Marked.nil _ _⟩⟩
  case round =>
    obtain ⟨j, y, hj, hg, rfl, rfl, HY, HM⟩ := hrel
    by_cases hlt : j < n
    · obtain ⟨g, rfl, hl⟩ := H.out j hlt
      have hy0 : 0 ≤ y := by have := HY.out; have := H0.out; omega
      have hy1 : y + ((f j).length : Int) ≤ 4611686018427387904 := by have := HY.out; have := H1.out; have := len_at f hlt; omega
      obtain ⟨cs, t, A1, n1, c1, hb, ho, hn1, hr⟩ := Lv.ints hl HM.out.i
      have hx : wr.cell? ⟨g, j, none⟩ = some (.slice A1 n1 c1) := by rw [blk_cell hb]; simpa [Sh.sz] using ho
      have HR := Aside0.mk (show RowLv wr .int A1 n1 (f j) from ⟨hn1, hr⟩)
      have HC := Aside0.mk (laws_markIntS.leaf A1 n1 c1 y (f j) wr HR.out hy0 hy1 _ rfl)
      clear hl hb ho hn1 hr
      go_wp2_with (go_at_call 20; refine HC.out.mono ?_; rintro e w9 ⟨rfl, hm⟩)
      go_roundg (n - (j + 1))
      case measure => omega
      case rel =>
        refine ⟨j + 1, y + ((f j).length : Int), by omega, by omega, rfl, by go_num, ⟨?_⟩, ⟨?_⟩⟩
        · rw [range_snoc, List.length_append, HY.out]; omega
        · rw [range_snoc]
          exact HM.out.app (by rw [← HY.out]; exact hm)
    · have hltz : ¬ (j : Int) < (n : Int) := by omega
      obtain rfl : j = n := by omega
      obtain rfl : y = r := HY.out.trans HE.out.symm
      go_wp2
      go_ret
      exact ⟨rfl, HM.out⟩
/-! ### laws.markTurns -/
set_option maxHeartbeats 8000000 in
set_option maxRecDepth 100000 in
theorem laws_markTurns.leaf (A0 : Option Addr) (n0 c0 : Nat) (A1 : Option Addr) (n1 c1 : Nat) (z : Int) (L0 L1 : List Addr) (w : World) (h0 : RowLv w (.row .int) A0 n0 L0) (h1 : RowLv w (.row .int) A1 n1 L1) (hz : 0 ≤ z) (hb : z + ((L0 ++ L1).length : Int) ≤ 4611686018427387904) (r : Int) (hr : r = z + ((L0 ++ L1).length : Int)) :
    Calls Try.prog 26 #[.agg #[.slice A0 n0 c0, .slice A1 n1 c1], .int .i64 z] w fun e w' => e = .returned (.int .i64 r) ∧ Marked (L0 ++ L1) z w w' := by
  rw [List.length_append] at hb hr
  have H0 := Aside0.mk h0
  have H1 := Aside0.mk h1
  obtain ⟨y, hy⟩ : ∃ y : Int, y = z + (L0.length : Int) := ⟨_, rfl⟩
  have hry : r = y + (L1.length : Int) := by omega
  have C0 := Aside0.mk (fun (W : World) (hW : Below w.heap.size w W) => laws_markIntSS.leaf A0 n0 c0 z L0 W (h0.ints (Ints.of_below (ok := fun _ => False) hW)) hz (by omega) y hy)
  have C1 := Aside0.mk (fun (W : World) (hW : Ints (fun b => ∃ p, p ∈ L0 ∧ p.block = b) w W) => laws_markIntSS.leaf A1 n1 c1 y L1 W (h1.ints hW) (by omega) (by omega) r hry)
  have HY := Aside0.mk hy
  clear h0 h1 hy hry hr hb hz
  have hlt : ∀ (i : Nat), (⟨w.heap.size, i, none⟩ : Addr) ∉ L0 := fun i hp => Nat.lt_irrefl _ (H0.out.lt _ hp)
  have HLT := Aside0.mk hlt
  clear hlt
  go_enter Try.func26, Try.ntmps26
  go_wp2_with (fail)
  refine (C0.out _ (by repeat (first | exact Below.refl _ _ | apply below_alloc | apply pw_below_drewN | apply below_drew1))).mono ?_
  rintro e w1 ⟨rfl, hm⟩
  have hc1 : w1.cell? ⟨w.heap.size, 1, none⟩ = some (.slice A1 n1 c1) := hm.rest _ _ (by simp) (HLT.out 1)
  have HM := Aside0.mk (Marked.before (w := w) (by repeat (first | exact Below.refl _ _ | apply below_alloc | apply pw_below_drewN | apply below_drew1)) hm)
  clear hm
  go_wp2_with (fail)
  refine (C1.out _ (HM.out.i.trans (Ints.of_below (by repeat (first | exact Below.refl _ _ | apply below_alloc | apply pw_below_drewN | apply below_drew1))))).mono ?_
  rintro e w2 ⟨rfl, hm⟩
  have HM2 := Aside0.mk (HM.out.app (by rw [← HY.out]; exact Marked.before (by repeat (first | exact Below.refl _ _ | apply below_alloc | apply pw_below_drewN | apply below_drew1)) hm))
  clear hm HM
  go_wp2
  go_ret
  exact ⟨rfl, HM2.out⟩
/-! ### laws.heldIntS -/
set_option maxHeartbeats 8000000 in
set_option maxRecDepth 100000 in
theorem laws_heldIntS.leaf (A : Option Addr) (n c : Nat) (z : Int) (L : List Addr) (w : World) (h : RowLv w .int A n L) (ht : ToldAt w L z) (h0 : 0 ≤ z) (h1 : z + (L.length : Int) ≤ 4611686018427387904) (r : Int) (hr0 : r = z + (L.length : Int)) :
    Calls Try.prog 32 #[.slice A n c, .int .i64 z] w fun e w' => e = .returned (.int .i64 r) ∧ Drawn0 w w' := by
  obtain ⟨hn, f, rfl, hf⟩ := h
  have H := Aside0.mk hf
  have HT := Aside0.mk ht
  have H0 := Aside0.mk h0
  have H1 := Aside0.mk h1
  have HE := Aside0.mk hr0
  clear hf h0 h1 ht hr0
  go_enter Try.func32, Try.ntmps32
  go_wp2
  go_loopg [1, 5] n (fun gg v1 v5 wr => ∃ (j : Nat) (y : Int), j ≤ n ∧ n - j ≤ gg ∧ v1 = .int .i64 y ∧ v5 = .int .i64 j ∧ Aside0 (y = z + (((List.range j).flatMap f).length : Int)) ∧ Drawn0 w wr)
  case atStart => exact ⟨0, z, Nat.zero_le _, by omega, rfl, rfl, ⟨by simp⟩, Drawn0.refl _⟩
  case round =>
    obtain ⟨j, y, hj, hg, rfl, rfl, HY, ⟨m1, rfl⟩⟩ := hrel
    by_cases hlt : j < n
    · obtain ⟨g, rfl, hl⟩ := H.out j hlt
      have hy0 : 0 ≤ y := by have := HY.out; have := H0.out; omega
      have hy1 : y ≤ 4611686018427387904 := by have := HY.out; have := H1.out; have := len_at f hlt; omega
      obtain ⟨ef, _⟩ := hl
      have hx : w.cell? ⟨g, j, none⟩ = some (.int .i64 y) := by
        have := told_at f HT.out hlt 0 ⟨g, j, none⟩ (by rw [ef]; simp [Sh.sz])
        rw [HY.out]
        simpa using this
      have EF := Aside0.mk ef
      clear ef
      go_wp2
      go_roundg (n - (j + 1))
      case measure => omega
      case rel =>
        refine ⟨j + 1, y + 1, by omega, by omega, rfl, by go_num, ⟨?_⟩, by repeat (first | exact Drawn0.refl _ | apply Drawn0.step)⟩
        rw [range_snoc, List.length_append, EF.out, HY.out]; simp; omega
    · have hltz : ¬ (j : Int) < (n : Int) := by omega
      obtain rfl : j = n := by omega
      obtain rfl : y = r := HY.out.trans HE.out.symm
      go_wp2
      go_ret
      exact ⟨rfl, by repeat (first | exact Drawn0.refl _ | apply Drawn0.step)⟩
/-! ### laws.heldIntSS -/
set_option maxHeartbeats 8000000 in
set_option maxRecDepth 100000 in
theorem laws_heldIntSS.leaf (A : Option Addr) (n c : Nat) (z : Int) (L : List Addr) (w : World) (h : RowLv w (.row .int) A n L) (ht : ToldAt w L z) (h0 : 0 ≤ z) (h1 : z + (L.length : Int) ≤ 4611686018427387904) (r : Int) (hr0 : r = z + (L.length : Int)) :
    Calls Try.prog 22 #[.slice A n c, .int .i64 z] w fun e w' => e = .returned (.int .i64 r) ∧ Drawn0 w w' := by
  obtain ⟨hn, f, rfl, hf⟩ := h
  have H := Aside0.mk hf
  have HT := Aside0.mk ht
  have H0 := Aside0.mk h0
  have H1 := Aside0.mk h1
  have HE := Aside0.mk hr0
  clear hf h0 h1 ht hr0
  go_enter Try.func22, Try.ntmps22
  go_wp2
  go_loopg [1, 5] n (fun gg v1 v5 wr => ∃ (j : Nat) (y : Int), j ≤ n ∧ n - j ≤ gg ∧ v1 = .int .i64 y ∧ v5 = .int .i64 j ∧ Aside0 (y = z + (((List.range j).flatMap f).length : Int)) ∧ Drawn0 w wr)
  case atStart => exact ⟨0, z, Nat.zero_le _, by omega, rfl, rfl, ⟨by simp⟩, Drawn0.refl _⟩
  case round =>
    obtain ⟨j, y, hj, hg, rfl, rfl, HY, HD⟩ := hrel
    by_cases hlt : j < n
    · obtain ⟨g, rfl, hl⟩ := H.out j hlt
      have hy0 : 0 ≤ y := by have := HY.out; have := H0.out; omega
      have hy1 : y + ((f j).length : Int) ≤ 4611686018427387904 := by have := HY.out; have := H1.out; have := len_at f hlt; omega
      obtain ⟨cs, t, A1, n1, c1, hb, ho, hn1, hr⟩ := Lv.ints hl (Ints.of_below (ok := fun _ => False) HD.below)
      have hx : wr.cell? ⟨g, j, none⟩ = some (.slice A1 n1 c1) := by rw [blk_cell hb]; simpa [Sh.sz] using ho
      have HC := Aside0.mk (laws_heldIntS.leaf A1 n1 c1 y (f j) wr ⟨hn1, hr⟩ (by rw [HY.out]; exact (told_at f HT.out hlt).below HD.below) hy0 hy1 _ rfl)
      have hneg : decide (y + ((f j).length : Int) < 0) = false := decide_eq_false (by omega)
      clear hl hb ho hn1 hr
      go_wp2_with (go_at_call 32; refine HC.out.mono ?_; rintro e w9 ⟨rfl, hm⟩)
      go_roundg (n - (j + 1))
      case measure => omega
      case rel =>
        refine ⟨j + 1, y + ((f j).length : Int), by omega, by omega, rfl, by go_num, ⟨?_⟩, ?_⟩
        · rw [range_snoc, List.length_append, HY.out]; omega
        · obtain ⟨a, rfl⟩ := HD
          obtain ⟨b, rfl⟩ := hm
          repeat (first | exact Drawn0.refl _ | apply Drawn0.step)
    · have hltz : ¬ (j : Int) < (n : Int) := by omega
      obtain rfl : j = n := by omega
      obtain rfl : y = r := HY.out.trans HE.out.symm
      go_wp2
      go_ret
      exact ⟨rfl, HD⟩
/-! ### laws.heldTurns -/
set_option maxHeartbeats 8000000 in
set_option maxRecDepth 100000 in
theorem laws_heldTurns.leaf (A0 : Option Addr) (n0 c0 : Nat) (A1 : Option Addr) (n1 c1 : Nat) (z : Int) (L0 L1 : List Addr) (w : World) (h0 : RowLv w (.row .int) A0 n0 L0) (h1 : RowLv w (.row .int) A1 n1 L1) (ht : ToldAt w (L0 ++ L1) z) (hz : 0 ≤ z) (hb : z + ((L0 ++ L1).length : Int) ≤ 4611686018427387904) (r : Int) (hr : r = z + ((L0 ++ L1).length : Int)) :
    Calls Try.prog 27 #[.agg #[.slice A0 n0 c0, .slice A1 n1 c1], .int .i64 z] w fun e w' => e = .returned (.int .i64 r) ∧ Below w.heap.size w w' := by
  rw [List.length_append] at hb hr
  obtain ⟨y, hy⟩ : ∃ y : Int, y = z + (L0.length : Int) := ⟨_, rfl⟩
  have hry : r = y + (L1.length : Int) := by omega
  have ht1 : ToldAt w L1 y := by rw [hy]; exact ht.right
  have C0 := Aside0.mk (fun (W : World) (hW : Below w.heap.size w W) => laws_heldIntSS.leaf A0 n0 c0 z L0 W (h0.ints (Ints.of_below (ok := fun _ => False) hW)) (ht.left.below hW) hz (by omega) y hy)
  have C1 := Aside0.mk (fun (W : World) (hW : Below w.heap.size w W) => laws_heldIntSS.leaf A1 n1 c1 y L1 W (h1.ints (Ints.of_below (ok := fun _ => False) hW)) (ht1.below hW) (by omega) (by omega) r hry)
  have d0 : decide (y < 0) = false := decide_eq_false (by omega)
  have d1 : decide (r < 0) = false := decide_eq_false (by omega)
  have HN := Now.start w
  clear h0 h1 ht ht1 hy hry hr hb hz
  go_enter Try.func27, Try.ntmps27
  go_wp2_with (fail)
  refine (C0.out _ (Now.b (by repeat (first | exact HN | (with_reducible first | apply Now.alloc | apply Now.drewN | apply Now.drew))))).mono ?_
  rintro e w1 ⟨rfl, hd⟩
  have hb := hd.below
  have hc1 : w1.cell? ⟨w.heap.size, 1, none⟩ = some (.slice A1 n1 c1) := (hb.cell (p := ⟨w.heap.size, 1, none⟩) (by simp)).trans (by simp)
  replace HN := Now.below (by repeat (first | exact HN | (with_reducible first | apply Now.alloc | apply Now.drewN | apply Now.drew))) hb
  clear hb hd
  go_wp2_with (fail)
  refine (C1.out _ (Now.b (by repeat (first | exact HN | (with_reducible first | apply Now.alloc | apply Now.drewN | apply Now.drew))))).mono ?_
  rintro e w2 ⟨rfl, hd⟩
  have hb := hd.below
  replace HN := Now.below (by repeat (first | exact HN | (with_reducible first | apply Now.alloc | apply Now.drewN | apply Now.drew))) hb
  clear hb hd
  go_wp2
  go_ret
  exact ⟨rfl, Now.b (by repeat (first | exact HN | (with_reducible first | apply Now.alloc | apply Now.drewN | apply Now.drew)))⟩
/-! ### laws_FnExactTurnsFor -/

open Go.Proofs.Ytlpginalgdbopaa.XClass
set_option maxHeartbeats 16000000 in
set_option maxRecDepth 100000 in
theorem impl_TurnsFor.apart1 (cx n : Nat) (w : World) (h4 : 4 ≤ cx) (hc : cx ≤ 24) (h1 : 1 ≤ n) (hn : n ≤ 4) :
    Calls Try.prog 24 #[.int .i64 (cx : Int), .int .i64 (n : Int)] w fun e w' => ∃ v0 v1 : Value, e = .returned (.tuple #[.agg #[v0, v1], .bool true]) ∧ (∃ f : Nat → Nat, Kd.S (Kd.slice 3 (Kd.int .i64)) 22 w' w.heap.size (fun k => f k = 0) v0 (rowsOf cosAt n cx) ∧ Kd.S (Kd.slice 3 (Kd.int .i64)) 22 w' w.heap.size (fun k => f k = 1) v1 (rowsOf sinAt n cx)) ∧ Below w.heap.size w w' := by
  have HI1 := Aside0.mk (show impl_in.f (cx : Int) 4 24 = some true by unfold impl_in.f; rw [if_pos (by omega), decide_eq_true (by omega)])
  have HI2 := Aside0.mk (show impl_in.f (n : Int) 1 4 = some true by unfold impl_in.f; rw [if_pos (by omega), decide_eq_true (by omega)])
  have HN := Now.start w
  have HCX := Aside0.mk hc
  have HNN := Aside0.mk hn
  clear h4 hc h1 hn
  go_enter Try.func24, Try.ntmps24
  go_wp2_with (fail)
  refine (impl_in.calls _ _ _ _ _ HI1.out).mono ?_
  rintro e w1 ⟨rfl, hd⟩
  have hb := hd.below
  have hg1 : w1.heap[w.heap.size]? = some (.cells #[.slice none 0 0, .slice none 0 0] 33 (0, 0)) := (hb.block _ (by simp)).trans (by show (w.heap.push _)[w.heap.size]? = _; rw [Array.getElem?_push_size])
  replace HN := Now.below (by repeat (first | exact HN | (with_reducible first | apply Now.alloc | apply Now.drewN | apply Now.drew))) hb
  clear hb hd
  go_wp2_with (fail)
  refine (impl_in.calls _ _ _ _ _ HI2.out).mono ?_
  rintro e w2 ⟨rfl, hd⟩
  have hb := hd.below
  have hg2 : w2.heap[w.heap.size]? = some (.cells #[.slice none 0 0, .slice none 0 0] 33 (0, 0)) := (hb.block _ (blk_lt hg1)).trans hg1
  replace HN := Now.below (by repeat (first | exact HN | (with_reducible first | apply Now.alloc | apply Now.drewN | apply Now.drew))) hb
  have hsz : w.heap.size < w2.heap.size := blk_lt hg2
  clear hb hd hg1
  have HG := Aside0.mk hg2
  clear hg2
  have HB := Aside0.mk HN.b
  have HG2 := Aside0.mk (show (w2.alloc (.cells #[.slice none 0 0, .slice none 0 0] 33)).heap[w2.heap.size]? = some (.cells #[.slice none 0 0, .slice none 0 0] 33 (0, 0)) by show (w2.heap.push _)[w2.heap.size]? = _; rw [Array.getElem?_push_size])
  have HGR := Aside0.mk (show (w2.alloc (.cells #[.slice none 0 0, .slice none 0 0] 33)).heap[w.heap.size]? = some (.cells #[.slice none 0 0, .slice none 0 0] 33 (0, 0)) from (Below.heap_alloc w2 _ _ hsz).trans HG.out)
  have HBA := Aside0.mk (below_alloc HN.b (.cells #[.slice none 0 0, .slice none 0 0] 33))
  obtain ⟨gt, hgt⟩ : ∃ gt, gt = w2.heap.size := ⟨_, rfl⟩
  have HNE := Aside0.mk (show w.heap.size < gt by rw [hgt]; exact hsz)
  rw [← hgt] at HG2
  clear HN HG hsz
  go_wp2
  rw [← hgt]
  clear hgt
  go_loopg [22] cx (fun gg s22 wr => ∃ (p : Nat) (v0 v1 : Value) (c : Nat → Nat), p ≤ cx ∧ cx - p ≤ gg ∧ s22 = .int .i64 (p : Int) ∧ Aside0 (wr.heap[gt]? = some (.cells #[v0, v1] 33 (0, 0))) ∧ Aside0 (wr.heap[w.heap.size]? = some (.cells #[.slice none 0 0, .slice none 0 0] 33 (0, 0))) ∧ Aside0 (Kd.S (Kd.slice 3 (Kd.int .i64)) 22 wr w.heap.size (fun k => c k = 0) v0 (rowsOf cosAt n p)) ∧ Aside0 (Kd.S (Kd.slice 3 (Kd.int .i64)) 22 wr w.heap.size (fun k => c k = 1) v1 (rowsOf sinAt n p)) ∧ Aside0 (Below w.heap.size w wr))
  case atStart => exact ⟨0, .slice none 0 0, .slice none 0 0, fun _ => 5, Nat.zero_le _, by omega, rfl, HG2, HGR, ⟨Kd.S_nil _ _ _ _ _⟩, ⟨Kd.S_nil _ _ _ _ _⟩, HBA⟩
  case round =>
    clear HG2 HGR HBA HB
    obtain ⟨p, v0, v1, c, hp, hgg, rfl, HG, HR, HS0, HS1, HB⟩ := hrel
    by_cases hlt : p < cx
    · have hltz : (p : Int) < (cx : Int) := by omega
      obtain ⟨WW, hWW⟩ : ∃ WW, WW = wr := ⟨_, rfl⟩
      subst hWW
      go_wp2
      obtain ⟨c1, hc1⟩ : ∃ c1 : Nat → Nat, c1 = fun k => if k < WW.heap.size then c k else if k = WW.heap.size then 2 else 3 := ⟨_, rfl⟩
      have hold : ∀ k, k < WW.heap.size → c1 k = c k := fun k hk => by rw [hc1]; exact if_pos hk
      have HS0' := Aside0.mk (Kd.S_alloc (Kd.S_alloc (S_re HS0.out (f := c1) (b := 0) (fun k hk e => (hold k hk).trans e)) (.cells #[] 3)) (.cells #[] 3))
      have HS1' := Aside0.mk (Kd.S_alloc (Kd.S_alloc (S_re HS1.out (f := c1) (b := 1) (fun k hk e => (hold k hk).trans e)) (.cells #[] 3)) (.cells #[] 3))
      have HR8 := Aside0.mk (R_empty (W := (WW.alloc (.cells #[] 3)).alloc (.cells #[] 3)) (e := 3) (g := WW.heap.size) (base := w.heap.size) (ok := fun k => c1 k = 2) ((Below.heap_alloc _ _ _ (by simp)).trans (by show (WW.heap.push _)[WW.heap.size]? = _; rw [Array.getElem?_push_size])) (below_size HB.out) (by show c1 WW.heap.size = 2; rw [hc1]; simp))
      have HR9 := Aside0.mk (R_empty (W := (WW.alloc (.cells #[] 3)).alloc (.cells #[] 3)) (e := 3) (g := WW.heap.size + 1) (base := w.heap.size) (ok := fun k => c1 k = 3) (by show ((WW.heap.push (.cells #[] 3)).push (.cells #[] 3))[WW.heap.size + 1]? = _; rw [show WW.heap.size + 1 = (WW.heap.push (.cells #[] 3)).size by simp, Array.getElem?_push_size]) (by have := below_size HB.out; omega) (by show c1 (WW.heap.size + 1) = 3; rw [hc1]; simp only []; rw [if_neg (by omega), if_neg (by omega)]))
      have HG' := Aside0.mk ((Below.heap_alloc (WW.alloc (.cells #[] 3)) (.cells #[] 3) gt (by have := blk_lt HG.out; simp; omega)).trans ((Below.heap_alloc WW (.cells #[] 3) gt (blk_lt HG.out)).trans HG.out))
      have HR' := Aside0.mk ((Below.heap_alloc (WW.alloc (.cells #[] 3)) (.cells #[] 3) w.heap.size (by have := blk_lt HR.out; simp; omega)).trans ((Below.heap_alloc WW (.cells #[] 3) w.heap.size (blk_lt HR.out)).trans HR.out))
      have HB' := Aside0.mk (below_alloc (below_alloc HB.out (.cells #[] 3)) (.cells #[] 3))
      clear HS0 HS1 HG HR HB hold hc1
      go_loopg [8, 9, 28] n (fun gg s8 s9 s28 w8 => ∃ (j : Nat) (c : Nat → Nat), j ≤ n ∧ n - j ≤ gg ∧ s28 = .int .i64 (j : Int) ∧ Aside0 (w8.heap[gt]? = some (.cells #[v0, v1] 33 (0, 0))) ∧ Aside0 (w8.heap[w.heap.size]? = some (.cells #[.slice none 0 0, .slice none 0 0] 33 (0, 0))) ∧ Aside0 (Kd.S (Kd.slice 3 (Kd.int .i64)) 22 w8 w.heap.size (fun k => c k = 0) v0 (rowsOf cosAt n p)) ∧ Aside0 (Kd.S (Kd.slice 3 (Kd.int .i64)) 22 w8 w.heap.size (fun k => c k = 1) v1 (rowsOf sinAt n p)) ∧ Aside0 (Kd.R (Kd.int .i64) 3 w8 w.heap.size (fun k => c k = 2) s8 (rowOf cosAt j p)) ∧ Aside0 (Kd.R (Kd.int .i64) 3 w8 w.heap.size (fun k => c k = 3) s9 (rowOf sinAt j p)) ∧ Aside0 (Below w.heap.size w w8))
      case atStart => exact ⟨0, c1, Nat.zero_le _, by omega, rfl, HG', HR', HS0', HS1', HR8, HR9, HB'⟩
      case round =>
        clear HG' HR' HS0' HS1' HR8 HR9 HB' c1 c
        obtain ⟨j, c, hj, hg2, rfl, HG, HR, HS0, HS1, HR8, HR9, HB⟩ := hrel
        by_cases hjl : j < n
        · have hjz : (j : Int) < (n : Int) := by omega
          have hj4 : (j : Int) ≤ 4 := by have := HNN.out; omega
          have hp24 : (p : Int) ≤ 24 := by have := HCX.out; omega
          go_wp2_with (first | ((with_reducible refine gate_builtin (b := .append) (xs := #[.tmp 31, .tmp 39]) rfl ?_); (try (refine gate_guard (by rfl) ?_; dsimp only)); at_builtin; refine Kd.R_append (Kd.int .i64) (w0 := w) (W := wr) w.heap.size rfl (.tmp 31) (.tmp 39) 22 3 (.int .i64 0) 8 rfl Try.underlying22 info3 rfl (by decide) (by omega) u8 (rowOf cosAt j p) (wrap64 (128 - wrap64 (2 * Int.tmod (wrap64 ((p : Int) * ((j : Int) + 1))) 64))) [.int .i64 (wrap64 (128 - wrap64 (2 * Int.tmod (wrap64 ((p : Int) * ((j : Int) + 1))) 64)))] (fun k => cUp c wr.heap.size 2 k = 2) (fun _ => False) rfl rfl ?aP (fun _ hk => hk.elim) ?aF ?aO ?aB ?aS ?aL ?_; (case aP => exact rfl); (case aB => exact HB.out); (case aF => exact (fun _ hk => cUp_new _ hk)); (case aO => exact R_up HR8.out 2); (case aS => exact below_size HB.out); (case aL => have := HNN.out; simp [rowOf]; omega); intro v31 w31 ho hb hg hat; have n_HS0 := Aside0.mk (S_off (S_up HS0.out 2) hg (fun k_ e_ => (R_up HR8.out 2).1 k_ e_) (by decide)); have n_HS1 := Aside0.mk (S_off (S_up HS1.out 2) hg (fun k_ e_ => (R_up HR8.out 2).1 k_ e_) (by decide)); have n_HR9 := Aside0.mk (R_off (R_up HR9.out 2) hg (fun k_ e_ => (R_up HR8.out 2).1 k_ e_) (by decide)); have n_HG := Aside0.mk (blk_grown HG.out hg (Kd.R_ne HR8.out HG.out (by decide))); have n_HR := Aside0.mk (blk_grown HR.out hg (Kd.R_ne HR8.out HR.out (by decide))); replace HB := Aside0.mk hb; replace HR8 := Aside0.mk ho; clear ho hb hg hat; replace HS0 := n_HS0; clear n_HS0; replace HS1 := n_HS1; clear n_HS1; replace HR9 := n_HR9; clear n_HR9; replace HG := n_HG; clear n_HG; replace HR := n_HR; clear n_HR) | ((with_reducible refine gate_builtin (b := .append) (xs := #[.tmp 41, .tmp 48]) rfl ?_); (try (refine gate_guard (by rfl) ?_; dsimp only)); at_builtin; refine Kd.R_append (Kd.int .i64) (w0 := w) (W := w31) w.heap.size rfl (.tmp 41) (.tmp 48) 22 3 (.int .i64 0) 8 rfl Try.underlying22 info3 rfl (by decide) (by omega) u9 (rowOf sinAt j p) ((8 * (p : Int) + 16 * (j : Int)) % 128) [.int .i64 ((8 * (p : Int) + 16 * (j : Int)) % 128)] (fun k => cUp (cUp c wr.heap.size 2) w31.heap.size 3 k = 3) (fun _ => False) rfl rfl ?aP (fun _ hk => hk.elim) ?aF ?aO ?aB ?aS ?aL ?_; (case aP => exact rfl); (case aB => exact HB.out); (case aF => exact (fun _ hk => cUp_new _ hk)); (case aO => exact R_up HR9.out 3); (case aS => exact below_size HB.out); (case aL => have := HNN.out; simp [rowOf]; omega); intro v32 w32 ho hb hg hat; have n_HS0 := Aside0.mk (S_off (S_up HS0.out 3) hg (fun k_ e_ => (R_up HR9.out 3).1 k_ e_) (by decide)); have n_HS1 := Aside0.mk (S_off (S_up HS1.out 3) hg (fun k_ e_ => (R_up HR9.out 3).1 k_ e_) (by decide)); have n_HR8 := Aside0.mk (R_off (R_up HR8.out 3) hg (fun k_ e_ => (R_up HR9.out 3).1 k_ e_) (by decide)); have n_HG := Aside0.mk (blk_grown HG.out hg (Kd.R_ne HR9.out HG.out (by decide))); have n_HR := Aside0.mk (blk_grown HR.out hg (Kd.R_ne HR9.out HR.out (by decide))); replace HB := Aside0.mk hb; replace HR9 := Aside0.mk ho; clear ho hb hg hat; replace HS0 := n_HS0; clear n_HS0; replace HS1 := n_HS1; clear n_HS1; replace HR8 := n_HR8; clear n_HR8; replace HG := n_HG; clear n_HG; replace HR := n_HR; clear n_HR))
          go_roundg (n - (j + 1))
          case measure => omega
          case rel =>
            have e1 : rowOf cosAt j p ++ [wrap64 (128 - wrap64 (2 * Int.tmod (wrap64 ((p : Int) * ((j : Int) + 1))) 64))] = rowOf cosAt (j + 1) p := by
              have h_ := cos_at p j (by omega) (by omega)
              rw [w64 (i := (j : Int) + 1) (by omega) (by omega)] at h_
              rw [h_]; exact (range_succ_map _ _).symm
            have e2 : rowOf sinAt j p ++ [(8 * (p : Int) + 16 * (j : Int)) % 128] = rowOf sinAt (j + 1) p := by
              rw [show (8 * (p : Int) + 16 * (j : Int)) % 128 = sinAt p j by unfold sinAt; omega]; exact (range_succ_map _ _).symm
            exact ⟨j + 1, cUp (cUp c wr.heap.size 2) w31.heap.size 3, by omega, by omega, by go_num, HG, HR, HS0, HS1, ⟨by rw [← e1]; exact HR8.out⟩, ⟨by rw [← e2]; exact HR9.out⟩, HB⟩
        · have hjz : ¬ (j : Int) < (n : Int) := by omega
          obtain rfl : j = n := by omega
          have hp24 : (p : Int) ≤ 24 := by have := HCX.out; omega
          obtain ⟨A8, c8, e8⟩ := Kd.R_slice HR8.out
          subst e8
          obtain ⟨A9, c9, e9⟩ := Kd.R_slice HR9.out
          subst e9
          obtain ⟨AA0, cc0, e0⟩ := Kd.S_slice HS0.out
          subst e0
          obtain ⟨AA1, cc1, e1⟩ := Kd.S_slice HS1.out
          subst e1
          have hx0 : wr.cell? ⟨gt, 0, none⟩ = some (.slice AA0 (rowsOf cosAt j p).length cc0) := (blk_cell HG.out 0).trans rfl
          have hf0 := blk_frozen HG.out 0
          have HGB := Aside0.mk (show w.heap.size ≤ gt by have := HNE.out; omega)
          go_wp2_with (first | ((with_reducible refine gate_builtin (b := .append) (xs := #[.tmp 52, .tmp 54]) rfl ?_); (try (refine gate_guard (by rfl) ?_; dsimp only)); at_builtin; refine Kd.S_append (Kd.slice 3 (Kd.int .i64)) (w0 := w) (W := wr) w.heap.size rfl (.tmp 52) (.tmp 54) 23 22 (.slice none 0 0) 24 rfl Try.underlying23 info22 rfl (by decide) (by omega) (.slice AA0 (rowsOf cosAt j p).length cc0) (rowsOf cosAt j p) (rowOf cosAt j p) [.slice A8 (rowOf cosAt j p).length c8] (fun k => cIn (c) wr.heap.size 0 2 k = 0) (fun k => (c) k = 2 ∧ k < wr.heap.size) rfl rfl ?aP ?aK ?aF ?aO ?aB ?aS ?aL ?_; (case aP => exact ⟨_, rfl, Kd.R_mono (Kd.R_bound HR8.out) (fun _ hk => ⟨hk.1, hk.2.2.1⟩)⟩); (case aK => exact fun k hk => ⟨cIn_q _ hk.1, fun e_ => by have := HS0.out.choose_spec.1 k e_.symm; have h2_ := hk.1; omega⟩); (case aF => exact (fun _ hk => cIn_new _ hk)); (case aO => exact Kd.S_mono (Kd.S_bound HS0.out) (fun k hk => ⟨(cIn_old _ hk.2.2.1 (by rw [hk.1]; decide)).trans hk.1, fun h2 => by have := hk.1; have := h2.1; omega⟩)); (case aB => exact HB.out); (case aS => exact below_size HB.out); (case aL => have := HCX.out; simp [rowsOf]; omega); intro v41 w41 ho hb hg hat; have n_HS1 := Aside0.mk (S_off (S_in HS1.out 0 2 (by decide)) hg (fun k_ e_ => (S_in HS0.out 0 2 (by decide)).choose_spec.1 k_ e_) (by decide)); have n_HR9 := Aside0.mk (R_off (R_in HR9.out 0 2 (by decide)) hg (fun k_ e_ => (S_in HS0.out 0 2 (by decide)).choose_spec.1 k_ e_) (by decide)); have n_HG := Aside0.mk (blk_grown HG.out hg (Kd.S_ne HS0.out HG.out (by decide))); have n_HR := Aside0.mk (blk_grown HR.out hg (Kd.S_ne HS0.out HR.out (by decide))); replace HB := Aside0.mk hb; obtain ⟨A_v41, c_v41, e_v41⟩ := Kd.S_slice ho; subst e_v41; rw [List.length_append, List.length_singleton] at ho; replace HS0 := Aside0.mk ho; clear ho hb hg hat; replace HS1 := n_HS1; clear n_HS1; replace HR9 := n_HR9; clear n_HR9; replace HG := n_HG; replace HR := n_HR; clear n_HG n_HR; have hx0 := (blk_cell HG.out 0).trans rfl; have hf0 := blk_frozen HG.out 0; have hx1 := (blk_cell HG.out 1).trans rfl; have hf1 := blk_frozen HG.out 1) | (have hx0_ := Aside0.mk (Kd.S_set HS0.out HG.out (by decide) 0 (.slice A_v41 ((rowsOf cosAt j p).length + 1) c_v41)); have hx1_ := Aside0.mk (Kd.S_set HS1.out HG.out (by decide) 0 (.slice A_v41 ((rowsOf cosAt j p).length + 1) c_v41)); have hx9_ := Aside0.mk (Kd.R_set HR9.out HG.out (by decide) 0 (.slice A_v41 ((rowsOf cosAt j p).length + 1) c_v41)); have hxb_ := Aside0.mk (below_set (g := gt) (j := 0) (v := .slice A_v41 ((rowsOf cosAt j p).length + 1) c_v41) HB.out HGB.out); have hxr_ := Aside0.mk (blk_far (p := ⟨gt, 0, none⟩) HR.out (by have := HNE.out; show w.heap.size ≠ gt; omega) (.slice A_v41 ((rowsOf cosAt j p).length + 1) c_v41)); have hxg_ := Aside0.mk ((blk_set HG.out 0 (.slice A_v41 ((rowsOf cosAt j p).length + 1) c_v41)).trans rfl); replace HS0 := hx0_; replace HS1 := hx1_; replace HR9 := hx9_; replace HB := hxb_; replace HR := hxr_; replace HG := hxg_; clear hx0_ hx1_ hx9_ hxb_ hxr_ hxg_; (with_reducible refine gate_builtin (b := .append) (xs := #[.tmp 58, .tmp 60]) rfl ?_); (try (refine gate_guard (by rfl) ?_; dsimp only)); at_builtin; refine Kd.S_append (Kd.slice 3 (Kd.int .i64)) (w0 := w) (W := (w41.setCell ⟨gt, 0, none⟩ (.slice A_v41 ((rowsOf cosAt j p).length + 1) c_v41))) w.heap.size rfl (.tmp 58) (.tmp 60) 23 22 (.slice none 0 0) 24 rfl Try.underlying23 info22 rfl (by decide) (by omega) (.slice AA1 (rowsOf sinAt j p).length cc1) (rowsOf sinAt j p) (rowOf sinAt j p) [.slice A9 (rowOf sinAt j p).length c9] (fun k => cIn (cIn c wr.heap.size 0 2) (w41.setCell ⟨gt, 0, none⟩ (.slice A_v41 ((rowsOf cosAt j p).length + 1) c_v41)).heap.size 1 3 k = 1) (fun k => (cIn c wr.heap.size 0 2) k = 3 ∧ k < (w41.setCell ⟨gt, 0, none⟩ (.slice A_v41 ((rowsOf cosAt j p).length + 1) c_v41)).heap.size) rfl (by first | rfl | (rw [show (w41.setCell ⟨gt, 0, none⟩ (.slice A_v41 ((rowsOf cosAt j p).length + 1) c_v41)).heap.size = w41.heap.size by simp [World.setCell]]; rfl)) ?aP ?aK ?aF ?aO ?aB ?aS ?aL ?_; (case aP => exact ⟨_, rfl, Kd.R_mono (Kd.R_bound HR9.out) (fun _ hk => ⟨hk.1, hk.2.2.1⟩)⟩); (case aK => exact fun k hk => ⟨cIn_q _ hk.1, fun e_ => by have := HS1.out.choose_spec.1 k e_.symm; have h2_ := hk.1; omega⟩); (case aF => exact (fun _ hk => cIn_new _ hk)); (case aO => exact Kd.S_mono (Kd.S_bound HS1.out) (fun k hk => ⟨(cIn_old _ hk.2.2.1 (by rw [hk.1]; decide)).trans hk.1, fun h2 => by have := hk.1; have := h2.1; omega⟩)); (case aB => exact HB.out); (case aS => exact below_size HB.out); (case aL => have := HCX.out; simp [rowsOf]; omega); intro v51 w51 ho hb hg hat; have n_HS0 := Aside0.mk (S_off (S_in HS0.out 1 3 (by decide)) hg (fun k_ e_ => (S_in HS1.out 1 3 (by decide)).choose_spec.1 k_ e_) (by decide)); have n_HG := Aside0.mk (blk_grown HG.out hg (Kd.S_ne HS1.out HG.out (by decide))); have n_HR := Aside0.mk (blk_grown HR.out hg (Kd.S_ne HS1.out HR.out (by decide))); replace HB := Aside0.mk hb; obtain ⟨A_v51, c_v51, e_v51⟩ := Kd.S_slice ho; subst e_v51; rw [List.length_append, List.length_singleton] at ho; replace HS1 := Aside0.mk ho; clear ho hb hg hat; replace HS0 := n_HS0; clear n_HS0; replace HG := n_HG; replace HR := n_HR; clear n_HG n_HR; have hx1 := (blk_cell HG.out 1).trans rfl; have hf1 := blk_frozen HG.out 1))
          go_roundg (cx - (p + 1))
          case measure => omega
          case rel =>
            exact ⟨p + 1, _, _, _, by omega, by omega, by go_num, ⟨(blk_set HG.out 1 _).trans rfl⟩, ⟨blk_far HR.out (by have := HNE.out; show w.heap.size ≠ gt; omega) _⟩, ⟨by rw [show rowsOf cosAt j (p + 1) = rowsOf cosAt j p ++ [rowOf cosAt j p] from range_succ_map _ _]; exact Kd.S_set HS0.out HG.out (by decide) 1 _⟩, ⟨by rw [show rowsOf sinAt j (p + 1) = rowsOf sinAt j p ++ [rowOf sinAt j p] from range_succ_map _ _]; exact Kd.S_set HS1.out HG.out (by decide) 1 _⟩, ⟨below_set HB.out HGB.out⟩⟩
    · have hpz : ¬ (p : Int) < (cx : Int) := by omega
      obtain rfl : p = cx := by omega
      obtain ⟨AA0, cc0, e0⟩ := Kd.S_slice HS0.out
      subst e0
      obtain ⟨AA1, cc1, e1⟩ := Kd.S_slice HS1.out
      subst e1
      have hx0 : wr.cell? ⟨gt, 0, none⟩ = some (.slice AA0 (rowsOf cosAt n p).length cc0) := (blk_cell HG.out 0).trans rfl
      have hx1 : wr.cell? ⟨gt, 1, none⟩ = some (.slice AA1 (rowsOf sinAt n p).length cc1) := (blk_cell HG.out 1).trans rfl
      have hy0 : wr.cell? ⟨w.heap.size, 0, none⟩ = some (.slice none 0 0) := (blk_cell HR.out 0).trans rfl
      have hy1 : wr.cell? ⟨w.heap.size, 1, none⟩ = some (.slice none 0 0) := (blk_cell HR.out 1).trans rfl
      have hf0 := blk_frozen HR.out 0
      have hf1 := blk_frozen HR.out 1
      go_wp2
      refine bodyPost_ret (results_ct rfl _ _ w.heap.size 33 #[.slice AA0 (rowsOf cosAt n p).length cc0, .slice AA1 (rowsOf sinAt n p).length cc1] (0, 0) _ rfl (by refine (blk_set (cs := #[.slice AA0 (rowsOf cosAt n p).length cc0, .slice none 0 0]) ?_ 1 _).trans rfl; exact (blk_set HR.out 0 _).trans rfl) Try.underlying33 rfl (by kernel_rfl)) rfl ?_
      exact ⟨_, _, rfl, ⟨c, Kd.S_set (Kd.S_set HS0.out HR.out (by decide) 0 _) ((blk_set HR.out 0 _).trans rfl) (by decide) 1 _, Kd.S_set (Kd.S_set HS1.out HR.out (by decide) 0 _) ((blk_set HR.out 0 _).trans rfl) (by decide) 1 _⟩, below_set (below_set HB.out (Nat.le_refl _)) (Nat.le_refl _)⟩

theorem impl_TurnsFor.apart (k : Nat) (a0 a1 : Int) (r1 r2 : List (List Int)) (r3 : Bool) (w : World) (h : impl_TurnsFor.f k a0 a1 = some (r1, r2, r3)) :
    Calls Try.prog 24 #[.int .i64 a0, .int .i64 a1] w fun e w' => ∃ v0 v1 : Value, e = .returned (.tuple #[.agg #[v0, v1], .bool r3]) ∧ (∃ f : Nat → Nat, Kd.S (Kd.slice 3 (Kd.int .i64)) 22 w' w.heap.size (fun k => f k = 0) v0 r1 ∧ Kd.S (Kd.slice 3 (Kd.int .i64)) 22 w' w.heap.size (fun k => f k = 1) v1 r2) ∧ Below w.heap.size w w' := by
  have h2 := at_rounds (fun k => impl_TurnsFor.mono a0 a1 k) (show k ≤ k + 301 by omega) h
  by_cases hin : inTurns a0 a1
  · obtain ⟨⟨q1, q2⟩, q3, q4⟩ := hin
    obtain ⟨c, rfl⟩ := Int.eq_ofNat_of_zero_le (show 0 ≤ a0 by omega)
    obtain ⟨n, rfl⟩ := Int.eq_ofNat_of_zero_le (show 0 ≤ a1 by omega)
    rw [impl_turnsFor n c (by omega) (by omega) (by omega) (by omega) _ (by omega)] at h2
    simp only [Option.some.injEq, Prod.mk.injEq] at h2
    obtain ⟨rfl, rfl, rfl⟩ := h2
    exact impl_TurnsFor.apart1 c n w (by omega) (by omega) (by omega) (by omega)
  · rw [show k + 301 = (k + 300) + 1 from rfl, (no_turns a0 a1 hin (k + 300)).1] at h2
    simp only [Option.some.injEq, Prod.mk.injEq] at h2
    obtain ⟨rfl, rfl, rfl⟩ := h2
    refine (impl_TurnsFor.calls k a0 a1 [] [] false w h).mono fun e w' ⟨v0, v1, he, h0, h1, hb⟩ => ⟨v0, v1, he, ⟨fun k => if some k = v1.ownBlock then 1 else 0, S_none h0 (fun k hk => if_neg ((Kd.S_R h0).1 k hk)), S_none h1 (fun k hk => if_pos hk.symm)⟩, hb⟩

set_option maxHeartbeats 8000000 in
set_option maxRecDepth 100000 in
theorem laws_FnExactTurnsFor.main (w : World) (a0 : Int) (a1 : Int) (kw kg kr0 : Nat) (r0_0 : List (List Int)) (r0_1 : List (List Int)) (r1 : Bool)  (pw : spec_TurnsFor.f kw a0 a1 = some (r0_0, r0_1, r1)) (pg : impl_TurnsFor.f kg a0 a1 = some (r0_0, r0_1, r1)) (pr0 : laws_eqTurns.f kr0 r0_0 r0_1 r0_0 r0_1 = some true) (mr0 : (r0_0.map (fun xs : List Int => (xs.map fun _ => 1).sum)).sum + (r0_1.map (fun xs : List Int => (xs.map fun _ => 1).sum)).sum ≤ 1048576) :
    Calls Try.prog 4 #[.int .i64 a0, .int .i64 a1] w fun e w' => e = .returned (.bool true) ∧ Below w.heap.size w w' := by
  have PR0 := Aside0.mk pr0
  have MR0 := Aside0.mk mr0
  clear pr0 mr0
  have PW := Aside0.mk pw
  have PG := Aside0.mk pg
  clear pw pg
  have HN := Now.start w
  go_enter Try.func4, Try.ntmps4
  go_wp2_with (fail)
  refine (spec_TurnsFor.calls _ a0 a1 r0_0 r0_1 r1 _  PW.out).mono ?_
  rintro e w1 ⟨v0, v1, rfl, g0, g1, hb⟩
  have hn_ := Now.at_ (by repeat (first | exact HN | (with_reducible first | apply Now.alloc | apply Now.drewN | apply Now.drew))) hb
  replace HN := Now.push hn_.2 hb (f := (Fct.and (ownS (Kd.slice 3 (Kd.int .i64)) 22 _ _ _ v0 r0_0) (ownS (Kd.slice 3 (Kd.int .i64)) 22 _ _ _ v1 r0_1))) rfl rfl ⟨in_ownS g0 hn_.1, (in_ownS g1 hn_.1)⟩
  clear hn_ hb g0 g1
  obtain ⟨A1_0, c1_0, rfl⟩ := ownS_slice (HN.get 0 rfl).1
  obtain ⟨A1_1, c1_1, rfl⟩ := ownS_slice (HN.get 0 rfl).2
  replace HN := Now.box HN (.cells #[.slice A1_0 r0_0.length c1_0, .slice A1_1 r0_1.length c1_1] 33)
  have hx0_ : (w1.alloc (.cells #[.slice A1_0 r0_0.length c1_0, .slice A1_1 r0_1.length c1_1] 33)).cell? ⟨w1.heap.size, 0, none⟩ = some (.slice A1_0 r0_0.length c1_0) := (blk_cell (Now.get (by repeat (first | exact HN | (with_reducible first | apply Now.alloc | apply Now.drewN | apply Now.drew))) 0 rfl) 0).trans rfl
  have hx1_ : (w1.alloc (.cells #[.slice A1_0 r0_0.length c1_0, .slice A1_1 r0_1.length c1_1] 33)).cell? ⟨w1.heap.size, 1, none⟩ = some (.slice A1_1 r0_1.length c1_1) := (blk_cell (Now.get (by repeat (first | exact HN | (with_reducible first | apply Now.alloc | apply Now.drewN | apply Now.drew))) 0 rfl) 1).trans rfl
  go_wp2_with (fail)
  clear hx0_ hx1_
  refine (impl_TurnsFor.apart _ a0 a1 r0_0 r0_1 r1 _  PG.out).mono ?_
  rintro e w2 ⟨v0, v1, rfl, ⟨f_, g0, g1⟩, hb⟩
  have hn_ := Now.at_ (by repeat (first | exact HN | (with_reducible first | apply Now.alloc | apply Now.drewN | apply Now.drew))) hb
  replace HN := Now.push hn_.2 hb (f := apart2 (Kd.slice 3 (Kd.int .i64)) 22 _ _ _ v0 r0_0 v1 r0_1) rfl rfl (in_apart2 g0 g1 hn_.1)
  clear hn_ hb g0 g1 f_
  obtain ⟨A2_0, c2_0, rfl⟩ := ownS_slice (apart2_0 (HN.get 0 rfl))
  obtain ⟨A2_1, c2_1, rfl⟩ := ownS_slice (apart2_1 (HN.get 0 rfl))
  replace HN := Now.box HN (.cells #[.slice A2_0 r0_0.length c2_0, .slice A2_1 r0_1.length c2_1] 33)
  have hx0_ : (w2.alloc (.cells #[.slice A2_0 r0_0.length c2_0, .slice A2_1 r0_1.length c2_1] 33)).cell? ⟨w1.heap.size, 0, none⟩ = some (.slice A1_0 r0_0.length c1_0) := (blk_cell (Now.get (by repeat (first | exact HN | (with_reducible first | apply Now.alloc | apply Now.drewN | apply Now.drew))) 2 rfl) 0).trans rfl
  have hx1_ : (w2.alloc (.cells #[.slice A2_0 r0_0.length c2_0, .slice A2_1 r0_1.length c2_1] 33)).cell? ⟨w1.heap.size, 1, none⟩ = some (.slice A1_1 r0_1.length c1_1) := (blk_cell (Now.get (by repeat (first | exact HN | (with_reducible first | apply Now.alloc | apply Now.drewN | apply Now.drew))) 2 rfl) 1).trans rfl
  have hx2_ : (w2.alloc (.cells #[.slice A2_0 r0_0.length c2_0, .slice A2_1 r0_1.length c2_1] 33)).cell? ⟨w2.heap.size, 0, none⟩ = some (.slice A2_0 r0_0.length c2_0) := (blk_cell (Now.get (by repeat (first | exact HN | (with_reducible first | apply Now.alloc | apply Now.drewN | apply Now.drew))) 0 rfl) 0).trans rfl
  have hx3_ : (w2.alloc (.cells #[.slice A2_0 r0_0.length c2_0, .slice A2_1 r0_1.length c2_1] 33)).cell? ⟨w2.heap.size, 1, none⟩ = some (.slice A2_1 r0_1.length c2_1) := (blk_cell (Now.get (by repeat (first | exact HN | (with_reducible first | apply Now.alloc | apply Now.drewN | apply Now.drew))) 0 rfl) 1).trans rfl
  go_wp2_with (fail)
  clear hx0_ hx1_ hx2_ hx3_
  refine (laws_eqTurns.calls _ A2_0 c2_0 r0_0 A2_1 c2_1 r0_1 A1_0 c1_0 r0_0 A1_1 c1_1 r0_1 true _ ?q0 ?q1 ?q2 ?q3 ?q4 ?q5 ?q6 ?q7 PR0.out).mono ?_
  case q0 => exact (ownS_C (apart2_0 (Now.get (by repeat (first | exact HN | (with_reducible first | apply Now.alloc | apply Now.drewN | apply Now.drew))) 1 rfl))).2.2
  case q1 => exact (ownS_C (apart2_0 (Now.get (by repeat (first | exact HN | (with_reducible first | apply Now.alloc | apply Now.drewN | apply Now.drew))) 1 rfl))).2.1
  case q2 => exact (ownS_C (apart2_1 (Now.get (by repeat (first | exact HN | (with_reducible first | apply Now.alloc | apply Now.drewN | apply Now.drew))) 1 rfl))).2.2
  case q3 => exact (ownS_C (apart2_1 (Now.get (by repeat (first | exact HN | (with_reducible first | apply Now.alloc | apply Now.drewN | apply Now.drew))) 1 rfl))).2.1
  case q4 => exact (ownS_C (Now.pick (by repeat (first | exact HN | (with_reducible first | apply Now.alloc | apply Now.drewN | apply Now.drew))) 3 (by rfl) (by exact fun h_ => h_.1))).2.2
  case q5 => exact (ownS_C (Now.pick (by repeat (first | exact HN | (with_reducible first | apply Now.alloc | apply Now.drewN | apply Now.drew))) 3 (by rfl) (by exact fun h_ => h_.1))).2.1
  case q6 => exact (ownS_C (Now.pick (by repeat (first | exact HN | (with_reducible first | apply Now.alloc | apply Now.drewN | apply Now.drew))) 3 (by rfl) (by exact fun h_ => h_.2))).2.2
  case q7 => exact (ownS_C (Now.pick (by repeat (first | exact HN | (with_reducible first | apply Now.alloc | apply Now.drewN | apply Now.drew))) 3 (by rfl) (by exact fun h_ => h_.2))).2.1
  rintro e w3 ⟨rfl, hb⟩
  (first | (replace hb := Drawn0.below hb) | skip)
  replace HN := Now.below (by repeat (first | exact HN | (with_reducible first | apply Now.alloc | apply Now.drewN | apply Now.drew))) hb
  clear hb
  have R0 : (0 : Int) ≤ 1 ∧ (1 : Int) ≤ 1 := by omega
  obtain ⟨Lg0_0, Lg0_1, hg0_0_r, hg0_1_r, hnd_, hg0_0_n, hg0_1_n, hg0_0_b, hg0_1_b⟩ := apart2_once (Now.get (by repeat (first | exact HN | (with_reducible first | apply Now.alloc | apply Now.drewN | apply Now.drew))) 1 rfl) (Once.ints _)
  have hn_g0 : (Lg0_0 ++ Lg0_1).length ≤ 1099511627776 := by have h_ := MR0.out; (try simp only [List.length_append]); simp only [sum_ones, sum_lens] at *; omega
  obtain ⟨kg0, hkg0⟩ : ∃ k_ : Int, k_ = 1 + ((Lg0_0 ++ Lg0_1).length : Int) := ⟨_, rfl⟩
  have R1 : (0 : Int) ≤ kg0 ∧ kg0 ≤ 1099511627777 := by omega
  have Dg0 : decide (kg0 < 0) = false := decide_eq_false (by omega)
  have HKM := Aside0.mk (fun (W : World) (hW : Ints (fun _ => False) _ W) => laws_markTurns.leaf A2_0 r0_0.length c2_0 A2_1 r0_1.length c2_1 1 Lg0_0 Lg0_1 W (hg0_0_r.ints hW) (hg0_1_r.ints hW) R0.1 (by omega) kg0 hkg0)
  have HKH := Aside0.mk (fun (W : World) (hW : Ints (fun b => ∃ p, p ∈ (Lg0_0 ++ Lg0_1) ∧ p.block = b) _ W) (hT : ToldAt W (Lg0_0 ++ Lg0_1) 1) => laws_heldTurns.leaf A2_0 r0_0.length c2_0 A2_1 r0_1.length c2_1 1 Lg0_0 Lg0_1 W (hg0_0_r.ints hW) (hg0_1_r.ints hW) hT R0.1 (by omega) kg0 hkg0)
  have HBL := Aside0.mk (show ∀ p, p ∈ (Lg0_0 ++ Lg0_1) → _ from by intro p hp; rcases List.mem_append.1 hp with hp | hp; exact hg0_0_b p hp; exact hg0_1_b p hp)
  have HND := Aside0.mk (show (Lg0_0 ++ Lg0_1).Nodup from hnd_)
  clear hkg0 hn_g0 hg0_0_r hg0_0_n hg0_0_b hg0_1_r hg0_1_n hg0_1_b hnd_
  have hx0_ : w3.cell? ⟨w1.heap.size, 0, none⟩ = some (.slice A1_0 r0_0.length c1_0) := (blk_cell (Now.get (by repeat (first | exact HN | (with_reducible first | apply Now.alloc | apply Now.drewN | apply Now.drew))) 2 rfl) 0).trans rfl
  have hx1_ : w3.cell? ⟨w1.heap.size, 1, none⟩ = some (.slice A1_1 r0_1.length c1_1) := (blk_cell (Now.get (by repeat (first | exact HN | (with_reducible first | apply Now.alloc | apply Now.drewN | apply Now.drew))) 2 rfl) 1).trans rfl
  have hx2_ : w3.cell? ⟨w2.heap.size, 0, none⟩ = some (.slice A2_0 r0_0.length c2_0) := (blk_cell (Now.get (by repeat (first | exact HN | (with_reducible first | apply Now.alloc | apply Now.drewN | apply Now.drew))) 0 rfl) 0).trans rfl
  have hx3_ : w3.cell? ⟨w2.heap.size, 1, none⟩ = some (.slice A2_1 r0_1.length c2_1) := (blk_cell (Now.get (by repeat (first | exact HN | (with_reducible first | apply Now.alloc | apply Now.drewN | apply Now.drew))) 0 rfl) 1).trans rfl
  go_wp2_with (fail)
  clear hx0_ hx1_ hx2_ hx3_
  refine (HKM.out _ (Ints.of_below (by repeat (first | exact Below.refl _ _ | apply below_alloc | apply pw_below_drewN | apply below_drew1)))).mono ?_
  rintro e w4 ⟨rfl, hm⟩
  replace HN := Now.marked (by repeat (first | exact HN | (with_reducible first | apply Now.alloc | apply Now.drewN | apply Now.drew))) 1 rfl hm HBL.out
  have HM := Now.start w4
  have HH0 := Aside0.mk (fun (W : World) (hW : Below w4.heap.size w4 W) => HKH.out W ((hm.before (by repeat (first | exact Below.refl _ _ | apply below_alloc | apply pw_below_drewN | apply below_drew1))).i.trans (Ints.of_below hW)) (ToldAt.below (hm.told HND.out) hW))
  clear hm HKM HKH HBL HND
  have hx0_ : w4.cell? ⟨w1.heap.size, 0, none⟩ = some (.slice A1_0 r0_0.length c1_0) := (blk_cell (Now.get (by repeat (first | exact HN | (with_reducible first | apply Now.alloc | apply Now.drewN | apply Now.drew))) 2 rfl) 0).trans rfl
  have hx1_ : w4.cell? ⟨w1.heap.size, 1, none⟩ = some (.slice A1_1 r0_1.length c1_1) := (blk_cell (Now.get (by repeat (first | exact HN | (with_reducible first | apply Now.alloc | apply Now.drewN | apply Now.drew))) 2 rfl) 1).trans rfl
  have hx2_ : w4.cell? ⟨w2.heap.size, 0, none⟩ = some (.slice A2_0 r0_0.length c2_0) := (blk_cell (Now.get (by repeat (first | exact HN | (with_reducible first | apply Now.alloc | apply Now.drewN | apply Now.drew))) 0 rfl) 0).trans rfl
  have hx3_ : w4.cell? ⟨w2.heap.size, 1, none⟩ = some (.slice A2_1 r0_1.length c2_1) := (blk_cell (Now.get (by repeat (first | exact HN | (with_reducible first | apply Now.alloc | apply Now.drewN | apply Now.drew))) 0 rfl) 1).trans rfl
  go_wp2_with (fail)
  clear hx0_ hx1_ hx2_ hx3_
  refine (HH0.out _ (Now.b (by repeat (first | exact HM | (with_reducible first | apply Now.alloc | apply Now.drewN | apply Now.drew))))).mono ?_
  rintro e w5 ⟨rfl, hb⟩
  (first | (replace hb := Drawn0.below hb) | skip)
  replace HN := Now.below (by repeat (first | exact HN | (with_reducible first | apply Now.alloc | apply Now.drewN | apply Now.drew))) hb
  replace HM := Now.below (by repeat (first | exact HM | (with_reducible first | apply Now.alloc | apply Now.drewN | apply Now.drew))) hb
  clear hb
  have hx0_ : w5.cell? ⟨w1.heap.size, 0, none⟩ = some (.slice A1_0 r0_0.length c1_0) := (blk_cell (Now.get (by repeat (first | exact HN | (with_reducible first | apply Now.alloc | apply Now.drewN | apply Now.drew))) 2 rfl) 0).trans rfl
  have hx1_ : w5.cell? ⟨w1.heap.size, 1, none⟩ = some (.slice A1_1 r0_1.length c1_1) := (blk_cell (Now.get (by repeat (first | exact HN | (with_reducible first | apply Now.alloc | apply Now.drewN | apply Now.drew))) 2 rfl) 1).trans rfl
  have hx2_ : w5.cell? ⟨w2.heap.size, 0, none⟩ = some (.slice A2_0 r0_0.length c2_0) := (blk_cell (Now.get (by repeat (first | exact HN | (with_reducible first | apply Now.alloc | apply Now.drewN | apply Now.drew))) 0 rfl) 0).trans rfl
  have hx3_ : w5.cell? ⟨w2.heap.size, 1, none⟩ = some (.slice A2_1 r0_1.length c2_1) := (blk_cell (Now.get (by repeat (first | exact HN | (with_reducible first | apply Now.alloc | apply Now.drewN | apply Now.drew))) 0 rfl) 1).trans rfl
  go_wp2_with (fail)
  clear hx0_ hx1_ hx2_ hx3_
  refine (impl_TurnsFor.apart _ a0 a1 r0_0 r0_1 r1 _  PG.out).mono ?_
  rintro e w6 ⟨v0, v1, rfl, ⟨f_, g0, g1⟩, hb⟩
  have hn_ := Now.at_ (by repeat (first | exact HN | (with_reducible first | apply Now.alloc | apply Now.drewN | apply Now.drew))) hb
  replace HN := Now.push hn_.2 hb (f := apart2 (Kd.slice 3 (Kd.int .i64)) 22 _ _ _ v0 r0_0 v1 r0_1) rfl rfl (in_apart2 g0 g1 hn_.1)
  replace HM := Now.below (by repeat (first | exact HM | (with_reducible first | apply Now.alloc | apply Now.drewN | apply Now.drew))) hb
  clear hn_ hb g0 g1 f_
  obtain ⟨A6_0, c6_0, rfl⟩ := ownS_slice (apart2_0 (HN.get 0 rfl))
  obtain ⟨A6_1, c6_1, rfl⟩ := ownS_slice (apart2_1 (HN.get 0 rfl))
  replace HN := Now.box HN (.cells #[.slice A6_0 r0_0.length c6_0, .slice A6_1 r0_1.length c6_1] 33)
  have hx0_ : (w6.alloc (.cells #[.slice A6_0 r0_0.length c6_0, .slice A6_1 r0_1.length c6_1] 33)).cell? ⟨w1.heap.size, 0, none⟩ = some (.slice A1_0 r0_0.length c1_0) := (blk_cell (Now.get (by repeat (first | exact HN | (with_reducible first | apply Now.alloc | apply Now.drewN | apply Now.drew))) 4 rfl) 0).trans rfl
  have hx1_ : (w6.alloc (.cells #[.slice A6_0 r0_0.length c6_0, .slice A6_1 r0_1.length c6_1] 33)).cell? ⟨w1.heap.size, 1, none⟩ = some (.slice A1_1 r0_1.length c1_1) := (blk_cell (Now.get (by repeat (first | exact HN | (with_reducible first | apply Now.alloc | apply Now.drewN | apply Now.drew))) 4 rfl) 1).trans rfl
  have hx2_ : (w6.alloc (.cells #[.slice A6_0 r0_0.length c6_0, .slice A6_1 r0_1.length c6_1] 33)).cell? ⟨w2.heap.size, 0, none⟩ = some (.slice A2_0 r0_0.length c2_0) := (blk_cell (Now.get (by repeat (first | exact HN | (with_reducible first | apply Now.alloc | apply Now.drewN | apply Now.drew))) 2 rfl) 0).trans rfl
  have hx3_ : (w6.alloc (.cells #[.slice A6_0 r0_0.length c6_0, .slice A6_1 r0_1.length c6_1] 33)).cell? ⟨w2.heap.size, 1, none⟩ = some (.slice A2_1 r0_1.length c2_1) := (blk_cell (Now.get (by repeat (first | exact HN | (with_reducible first | apply Now.alloc | apply Now.drewN | apply Now.drew))) 2 rfl) 1).trans rfl
  have hx4_ : (w6.alloc (.cells #[.slice A6_0 r0_0.length c6_0, .slice A6_1 r0_1.length c6_1] 33)).cell? ⟨w6.heap.size, 0, none⟩ = some (.slice A6_0 r0_0.length c6_0) := (blk_cell (Now.get (by repeat (first | exact HN | (with_reducible first | apply Now.alloc | apply Now.drewN | apply Now.drew))) 0 rfl) 0).trans rfl
  have hx5_ : (w6.alloc (.cells #[.slice A6_0 r0_0.length c6_0, .slice A6_1 r0_1.length c6_1] 33)).cell? ⟨w6.heap.size, 1, none⟩ = some (.slice A6_1 r0_1.length c6_1) := (blk_cell (Now.get (by repeat (first | exact HN | (with_reducible first | apply Now.alloc | apply Now.drewN | apply Now.drew))) 0 rfl) 1).trans rfl
  go_wp2_with (fail)
  clear hx0_ hx1_ hx2_ hx3_ hx4_ hx5_
  refine (laws_eqTurns.calls _ A6_0 c6_0 r0_0 A6_1 c6_1 r0_1 A1_0 c1_0 r0_0 A1_1 c1_1 r0_1 true _ ?q0 ?q1 ?q2 ?q3 ?q4 ?q5 ?q6 ?q7 PR0.out).mono ?_
  case q0 => exact (ownS_C (apart2_0 (Now.get (by repeat (first | exact HN | (with_reducible first | apply Now.alloc | apply Now.drewN | apply Now.drew))) 1 rfl))).2.2
  case q1 => exact (ownS_C (apart2_0 (Now.get (by repeat (first | exact HN | (with_reducible first | apply Now.alloc | apply Now.drewN | apply Now.drew))) 1 rfl))).2.1
  case q2 => exact (ownS_C (apart2_1 (Now.get (by repeat (first | exact HN | (with_reducible first | apply Now.alloc | apply Now.drewN | apply Now.drew))) 1 rfl))).2.2
  case q3 => exact (ownS_C (apart2_1 (Now.get (by repeat (first | exact HN | (with_reducible first | apply Now.alloc | apply Now.drewN | apply Now.drew))) 1 rfl))).2.1
  case q4 => exact (ownS_C (Now.pick (by repeat (first | exact HN | (with_reducible first | apply Now.alloc | apply Now.drewN | apply Now.drew))) 5 (by rfl) (by exact fun h_ => h_.1))).2.2
  case q5 => exact (ownS_C (Now.pick (by repeat (first | exact HN | (with_reducible first | apply Now.alloc | apply Now.drewN | apply Now.drew))) 5 (by rfl) (by exact fun h_ => h_.1))).2.1
  case q6 => exact (ownS_C (Now.pick (by repeat (first | exact HN | (with_reducible first | apply Now.alloc | apply Now.drewN | apply Now.drew))) 5 (by rfl) (by exact fun h_ => h_.2))).2.2
  case q7 => exact (ownS_C (Now.pick (by repeat (first | exact HN | (with_reducible first | apply Now.alloc | apply Now.drewN | apply Now.drew))) 5 (by rfl) (by exact fun h_ => h_.2))).2.1
  rintro e w7 ⟨rfl, hb⟩
  (first | (replace hb := Drawn0.below hb) | skip)
  replace HN := Now.below (by repeat (first | exact HN | (with_reducible first | apply Now.alloc | apply Now.drewN | apply Now.drew))) hb
  replace HM := Now.below (by repeat (first | exact HM | (with_reducible first | apply Now.alloc | apply Now.drewN | apply Now.drew))) hb
  clear hb
  have hx0_ : w7.cell? ⟨w1.heap.size, 0, none⟩ = some (.slice A1_0 r0_0.length c1_0) := (blk_cell (Now.get (by repeat (first | exact HN | (with_reducible first | apply Now.alloc | apply Now.drewN | apply Now.drew))) 4 rfl) 0).trans rfl
  have hx1_ : w7.cell? ⟨w1.heap.size, 1, none⟩ = some (.slice A1_1 r0_1.length c1_1) := (blk_cell (Now.get (by repeat (first | exact HN | (with_reducible first | apply Now.alloc | apply Now.drewN | apply Now.drew))) 4 rfl) 1).trans rfl
  have hx2_ : w7.cell? ⟨w2.heap.size, 0, none⟩ = some (.slice A2_0 r0_0.length c2_0) := (blk_cell (Now.get (by repeat (first | exact HN | (with_reducible first | apply Now.alloc | apply Now.drewN | apply Now.drew))) 2 rfl) 0).trans rfl
  have hx3_ : w7.cell? ⟨w2.heap.size, 1, none⟩ = some (.slice A2_1 r0_1.length c2_1) := (blk_cell (Now.get (by repeat (first | exact HN | (with_reducible first | apply Now.alloc | apply Now.drewN | apply Now.drew))) 2 rfl) 1).trans rfl
  have hx4_ : w7.cell? ⟨w6.heap.size, 0, none⟩ = some (.slice A6_0 r0_0.length c6_0) := (blk_cell (Now.get (by repeat (first | exact HN | (with_reducible first | apply Now.alloc | apply Now.drewN | apply Now.drew))) 0 rfl) 0).trans rfl
  have hx5_ : w7.cell? ⟨w6.heap.size, 1, none⟩ = some (.slice A6_1 r0_1.length c6_1) := (blk_cell (Now.get (by repeat (first | exact HN | (with_reducible first | apply Now.alloc | apply Now.drewN | apply Now.drew))) 0 rfl) 1).trans rfl
  go_wp2_with (fail)
  clear hx0_ hx1_ hx2_ hx3_ hx4_ hx5_
  refine (HH0.out _ (Now.b (by repeat (first | exact HM | (with_reducible first | apply Now.alloc | apply Now.drewN | apply Now.drew))))).mono ?_
  rintro e w8 ⟨rfl, hb⟩
  (first | (replace hb := Drawn0.below hb) | skip)
  replace HN := Now.below (by repeat (first | exact HN | (with_reducible first | apply Now.alloc | apply Now.drewN | apply Now.drew))) hb
  replace HM := Now.below (by repeat (first | exact HM | (with_reducible first | apply Now.alloc | apply Now.drewN | apply Now.drew))) hb
  clear hb
  go_wp2
  go_ret
  exact ⟨rfl, Now.b (by repeat (first | exact HN | (with_reducible first | apply Now.alloc | apply Now.drewN | apply Now.drew)))⟩

theorem laws_FnExactTurnsFor.holds (w : World) (a0 : Int) (a1 : Int) (_ : (Lit.int .i64 a0).wf = true) (_ : (Lit.int .i64 a1).wf = true) :
    Calls Try.prog 4 #[.int .i64 a0, .int .i64 a1] w fun e w' => e = .returned (.bool true) ∧ Below w.heap.size w w' := by
  by_cases hin : inTurns a0 a1
  · obtain ⟨⟨q1, q2⟩, q3, q4⟩ := hin
    obtain ⟨c, rfl⟩ := Int.eq_ofNat_of_zero_le (show 0 ≤ a0 by omega)
    obtain ⟨n, rfl⟩ := Int.eq_ofNat_of_zero_le (show 0 ≤ a1 by omega)
    have s1 := rowsOf_size cosAt n c (by omega) c
    have s2 := rowsOf_size sinAt n c (by omega) c
    refine laws_FnExactTurnsFor.main w (c : Int) (n : Int) 301 301 2000 (rowsOf cosAt n c) (rowsOf sinAt n c) true (spec_turnsFor n c (by omega) (by omega) (by omega) (by omega) 301 (by omega)) (impl_turnsFor n c (by omega) (by omega) (by omega) (by omega) 301 (by omega)) ?_ (by rw [sum_lens, sum_lens]; omega)
    unfold laws_eqTurns.f
    rw [eqIntSS_same 2000 _ (by omega) (by omega), Option.bind_some, if_pos rfl, eqIntSS_same 2000 _ (by omega) (by omega), Option.bind_some, if_pos rfl]
  · exact laws_FnExactTurnsFor.main w a0 a1 1 1 5 [] [] false (no_turns a0 a1 hin 0).2 (no_turns a0 a1 hin 0).1 (by simp [laws_eqTurns.f, laws_eqIntSS.f, laws_eqIntSS.l0]) (by simp)


end Go.Proofs.Ytlpginalgdbopaa.Own
