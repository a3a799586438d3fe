/- The walk of the law itself and of its marks; every test is decided ahead. No conditions. -/
import Derived.Test.YtlpginalgdbopaaPureFnExactAttend
import Derived.Test.YtlpginalgdbopaaXLeaf
namespace Go.Proofs.Ytlpginalgdbopaa.Own
open Go.RowKit Go.Proofs.YtlpginalgdbopaaW.PrintWords Go.Proofs.YtlpginalgdbopaaW.PrintLast Go.Proofs.YtlpginalgdbopaaW.PrintMore Go.Proofs.Ytlpginalgdbopaa.XLeaf Go.Proofs.Ytlpginalgdbopaa.XLaw Go.Proofs.Ytlpginalgdbopaa.PFnExactAttend Go.Proofs.Ytlpginalgdbopaa.Pure
attribute [local go_sem] max2_int min2_int max_two min_two max_three min_three max_four min_four
set_option linter.unusedVariables false
set_option linter.unusedSimpArgs false
/-! ### laws.markIntS -/
set_option maxHeartbeats 8000000 in
set_option maxRecDepth 100000 in
theorem laws_markIntS.leaf (A : Option Addr) (n c : Nat) (z : Int) (L : List Addr) (w : World) (h : RowLv w .int A n L) (h0 : 0 ≤ z) (h1 : z + (L.length : Int) ≤ 4611686018427387904) (r : Int) (hr0 : r = z + (L.length : Int)) :
    Calls Try.prog 20 #[.slice A n c, .int .i64 z] w fun e w' => e = .returned (.int .i64 r) ∧ Marked L z w w' := by
  obtain ⟨hn, f, rfl, hf⟩ := h
  have H := Aside0.mk hf
  have H0 := Aside0.mk h0
  have H1 := Aside0.mk h1
  have HE := Aside0.mk hr0
  clear hf h0 h1 hr0
  go_enter Try.func20, Try.ntmps20
  go_wp2
  go_loopg [1, 5] n (fun gg v1 v5 wr => ∃ (j : Nat) (y : Int), j ≤ n ∧ n - j ≤ gg ∧ v1 = .int .i64 y ∧ v5 = .int .i64 j ∧ Aside0 (y = z + (((List.range j).flatMap f).length : Int)) ∧ Aside0 (Marked ((List.range j).flatMap f) z w wr))
  case atStart => exact ⟨0, z, Nat.zero_le _, by omega, rfl, rfl, ⟨by simp⟩, ⟨Marked.nil _ _⟩⟩
  case round =>
    obtain ⟨j, y, hj, hg, rfl, rfl, HY, HM⟩ := hrel
    by_cases hlt : j < n
    · obtain ⟨g, rfl, hl⟩ := H.out j hlt
      have hl1 := Lv.ints hl HM.out.i
      have HS := Aside0.mk (Marked.set hl1 y)
      have hy0 : 0 ≤ y := by have := HY.out; have := H0.out; omega
      have hy1 : y ≤ 4611686018427387904 := by have := HY.out; have := H1.out; have := len_at f hlt; omega
      have HL := Aside0.mk hl
      obtain ⟨ef, cs, t, m, hb, ho⟩ := hl1
      have hx : wr.cell? ⟨g, j, none⟩ = some (.int .i64 m) := by rw [blk_cell hb]; simpa [Sh.sz] using ho
      have hfz : wr.frozen? ⟨g, j, none⟩ = false := blk_frozen hb _
      have EF := Aside0.mk ef
      clear hl ef hb ho
      go_wp2
      go_roundg (n - (j + 1))
      case measure => omega
      case rel =>
        refine ⟨j + 1, y + 1, by omega, by omega, rfl, by go_num, ⟨?_⟩, ⟨?_⟩⟩
        · rw [range_snoc, List.length_append, EF.out, HY.out]; simp; omega
        · have hs := HS.out
          rw [show j * Sh.int.sz = j by simp [Sh.sz]] at hs
          rw [range_snoc]
          exact HM.out.app (by rw [← HY.out]; exact hs)
    · have hltz : ¬ (j : Int) < (n : Int) := by omega
      obtain rfl : j = n := by omega
      obtain rfl : y = r := HY.out.trans HE.out.symm
      go_wp2
      go_ret
      exact ⟨rfl, HM.out⟩
/-! ### laws.markIntSS -/
set_option maxHeartbeats 8000000 in
set_option maxRecDepth 100000 in
theorem laws_markIntSS.leaf (A : Option Addr) (n c : Nat) (z : Int) (L : List Addr) (w : World) (h : RowLv w (.row .int) A n L) (h0 : 0 ≤ z) (h1 : z + (L.length : Int) ≤ 4611686018427387904) (r : Int) (hr0 : r = z + (L.length : Int)) :
    Calls Try.prog 21 #[.slice A n c, .int .i64 z] w fun e w' => e = .returned (.int .i64 r) ∧ Marked L z w w' := by
  obtain ⟨hn, f, rfl, hf⟩ := h
  have H := Aside0.mk hf
  have H0 := Aside0.mk h0
  have H1 := Aside0.mk h1
  have HE := Aside0.mk hr0
  clear hf h0 h1 hr0
  go_enter Try.func21, Try.ntmps21
  go_wp2
  go_loopg [1, 5] n (fun gg v1 v5 wr => ∃ (j : Nat) (y : Int), j ≤ n ∧ n - j ≤ gg ∧ v1 = .int .i64 y ∧ v5 = .int .i64 j ∧ Aside0 (y = z + (((List.range j).flatMap f).length : Int)) ∧ Aside0 (Marked ((List.range j).flatMap f) z w wr))
  case atStart => exact ⟨0, z, Nat.zero_le _, by omega, rfl, rfl, ⟨by simp⟩, ⟨Marked.nil _ _⟩⟩
  case round =>
    obtain ⟨j, y, hj, hg, rfl, rfl, HY, HM⟩ := hrel
    by_cases hlt : j < n
    · obtain ⟨g, rfl, hl⟩ := H.out j hlt
      have hy0 : 0 ≤ y := by have := HY.out; have := H0.out; omega
      have hy1 : y + ((f j).length : Int) ≤ 4611686018427387904 := by have := HY.out; have := H1.out; have := len_at f hlt; omega
      obtain ⟨cs, t, A1, n1, c1, hb, ho, hn1, hr⟩ := Lv.ints hl HM.out.i
      have hx : wr.cell? ⟨g, j, none⟩ = some (.slice A1 n1 c1) := by rw [blk_cell hb]; simpa [Sh.sz] using ho
      have HR := Aside0.mk (show RowLv wr .int A1 n1 (f j) from ⟨hn1, hr⟩)
      have HC := Aside0.mk (laws_markIntS.leaf A1 n1 c1 y (f j) wr HR.out hy0 hy1 _ rfl)
      clear hl hb ho hn1 hr
      go_wp2_with (go_at_call 20; refine HC.out.mono ?_; rintro e w9 ⟨rfl, hm⟩)
      go_roundg (n - (j + 1))
      case measure => omega
      case rel =>
        refine ⟨j + 1, y + ((f j).length : Int), by omega, by omega, rfl, by go_num, ⟨?_⟩, ⟨?_⟩⟩
        · rw [range_snoc, List.length_append, HY.out]; omega
        · rw [range_snoc]
          exact HM.out.app (by rw [← HY.out]; exact hm)
    · have hltz : ¬ (j : Int) < (n : Int) := by omega
      obtain rfl : j = n := by omega
      obtain rfl : y = r := HY.out.trans HE.out.symm
      go_wp2
      go_ret
      exact ⟨rfl, HM.out⟩
/-! ### laws.heldIntS -/
set_option maxHeartbeats 8000000 in
set_option maxRecDepth 100000 in
theorem laws_heldIntS.leaf (A : Option Addr) (n c : Nat) (z : Int) (L : List Addr) (w : World) (h : RowLv w .int A n L) (ht : ToldAt w L z) (h0 : 0 ≤ z) (h1 : z + (L.length : Int) ≤ 4611686018427387904) (r : Int) (hr0 : r = z + (L.length : Int)) :
    Calls Try.prog 32 #[.slice A n c, .int .i64 z] w fun e w' => e = .returned (.int .i64 r) ∧ Drawn0 w w' := by
  obtain ⟨hn, f, rfl, hf⟩ := h
  have H := Aside0.mk hf
  have HT := Aside0.mk ht
  have H0 := Aside0.mk h0
  have H1 := Aside0.mk h1
  have HE := Aside0.mk hr0
  clear hf h0 h1 ht hr0
  go_enter Try.func32, Try.ntmps32
  go_wp2
  go_loopg [1, 5] n (fun gg v1 v5 wr => ∃ (j : Nat) (y : Int), j ≤ n ∧ n - j ≤ gg ∧ v1 = .int .i64 y ∧ v5 = .int .i64 j ∧ Aside0 (y = z + (((List.range j).flatMap f).length : Int)) ∧ Drawn0 w wr)
  case atStart => exact ⟨0, z, Nat.zero_le _, by omega, rfl, rfl, ⟨by simp⟩, Drawn0.refl _⟩
  case round =>
    obtain ⟨j, y, hj, hg, rfl, rfl, HY, ⟨m1, rfl⟩⟩ := hrel
    by_cases hlt : j < n
    · obtain ⟨g, rfl, hl⟩ := H.out j hlt
      have hy0 : 0 ≤ y := by have := HY.out; have := H0.out; omega
      have hy1 : y ≤ 4611686018427387904 := by have := HY.out; have := H1.out; have := len_at f hlt; omega
      obtain ⟨ef, _⟩ := hl
      have hx : w.cell? ⟨g, j, none⟩ = some (.int .i64 y) := by
        have := told_at f HT.out hlt 0 ⟨g, j, none⟩ (by rw [ef]; simp [Sh.sz])
        rw [HY.out]
        simpa using this
      have EF := Aside0.mk ef
      clear ef
      go_wp2
      go_roundg (n - (j + 1))
      case measure => omega
      case rel =>
        refine ⟨j + 1, y + 1, by omega, by omega, rfl, by go_num, ⟨?_⟩, by repeat (first | exact Drawn0.refl _ | apply Drawn0.step)⟩
        rw [range_snoc, List.length_append, EF.out, HY.out]; simp; omega
    · have hltz : ¬ (j : Int) < (n : Int) := by omega
      obtain rfl : j = n := by omega
      obtain rfl : y = r := HY.out.trans HE.out.symm
      go_wp2
      go_ret
      exact ⟨rfl, by repeat (first | exact Drawn0.refl _ | apply Drawn0.step)⟩
/-! ### laws_FnExactAttend -/

set_option maxHeartbeats 8000000 in
set_option maxRecDepth 100000 in
theorem laws_FnExactAttend.out0 (w : World) (A0 : Option Addr) (c0 : Nat) (l0 : List Int) (hr0 : Kd.C (Kd.int .i64) w A0 l0.length l0) (hc0 : l0.length ≤ c0) (A1 : Option Addr) (c1 : Nat) (l1 : List (List Int)) (hr1 : Kd.C (Kd.slice 3 (Kd.int .i64)) w A1 l1.length l1) (hc1 : l1.length ≤ c1) (A2 : Option Addr) (c2 : Nat) (l2 : List (List Int)) (hr2 : Kd.C (Kd.slice 3 (Kd.int .i64)) w A2 l2.length l2) (hc2 : l2.length ≤ c2)  (hn0 : 1048576 < (l0.length : Int)) :
    Calls Try.prog 8 #[.slice A0 l0.length c0, .slice A1 l1.length c1, .slice A2 l2.length c2] w fun e w' => e = .returned (.bool true) ∧ Below w.heap.size w w' := by
  have HR0 := Aside0.mk hr0
  have HC0 := Aside0.mk hc0
  clear hr0 hc0
  have HR1 := Aside0.mk hr1
  have HC1 := Aside0.mk hc1
  clear hr1 hc1
  have HR2 := Aside0.mk hr2
  have HC2 := Aside0.mk hc2
  clear hr2 hc2
  have e0 : decide (1048576 < (l0.length : Int)) = true := decide_eq_true (by omega)
  have e0n : decide (1048576 < l0.length) = true := decide_eq_true (by omega)
  clear hn0
  have HN := Now.start w
  go_enter Try.func8, Try.ntmps8
  go_wp2
  go_ret
  exact ⟨rfl, Now.b (by repeat (first | exact HN | (with_reducible first | apply Now.alloc | apply Now.drewN | apply Now.drew)))⟩

set_option maxHeartbeats 8000000 in
set_option maxRecDepth 100000 in
theorem laws_FnExactAttend.out1 (w : World) (A0 : Option Addr) (c0 : Nat) (l0 : List Int) (hr0 : Kd.C (Kd.int .i64) w A0 l0.length l0) (hc0 : l0.length ≤ c0) (A1 : Option Addr) (c1 : Nat) (l1 : List (List Int)) (hr1 : Kd.C (Kd.slice 3 (Kd.int .i64)) w A1 l1.length l1) (hc1 : l1.length ≤ c1) (A2 : Option Addr) (c2 : Nat) (l2 : List (List Int)) (hr2 : Kd.C (Kd.slice 3 (Kd.int .i64)) w A2 l2.length l2) (hc2 : l2.length ≤ c2) (k1 : Nat) (hn0 : (l0.length : Int) ≤ 1048576) (hz1 : laws_szIntSS.f k1 l1 1048576 = some (-1)) :
    Calls Try.prog 8 #[.slice A0 l0.length c0, .slice A1 l1.length c1, .slice A2 l2.length c2] w fun e w' => e = .returned (.bool true) ∧ Below w.heap.size w w' := by
  have HR0 := Aside0.mk hr0
  have HC0 := Aside0.mk hc0
  clear hr0 hc0
  have HR1 := Aside0.mk hr1
  have HC1 := Aside0.mk hc1
  clear hr1 hc1
  have HR2 := Aside0.mk hr2
  have HC2 := Aside0.mk hc2
  clear hr2 hc2
  have e0 : decide (1048576 < (l0.length : Int)) = false := decide_eq_false (by omega)
  have e0n : decide (1048576 < l0.length) = false := decide_eq_false (by omega)
  have PZ1 := Aside0.mk hz1
  clear hz1
  clear hn0
  have HN := Now.start w
  go_enter Try.func8, Try.ntmps8
  go_wp2_with (fail)
  refine (laws_szIntSS.calls _ A1 c1 l1 _ _ _ ?q0 ?q1 PZ1.out).mono ?_
  case q0 => exact Kd.C_below HR1.out (Now.b (by repeat (first | exact HN | (with_reducible first | apply Now.alloc | apply Now.drewN | apply Now.drew))))
  case q1 => exact HC1.out
  rintro e w1 ⟨rfl, hb⟩
  (first | (replace hb := Drawn0.below hb) | skip)
  replace HN := Now.below (by repeat (first | exact HN | (with_reducible first | apply Now.alloc | apply Now.drewN | apply Now.drew))) hb
  clear hb
  go_wp2
  go_ret
  exact ⟨rfl, Now.b (by repeat (first | exact HN | (with_reducible first | apply Now.alloc | apply Now.drewN | apply Now.drew)))⟩

set_option maxHeartbeats 8000000 in
set_option maxRecDepth 100000 in
theorem laws_FnExactAttend.out2 (w : World) (A0 : Option Addr) (c0 : Nat) (l0 : List Int) (hr0 : Kd.C (Kd.int .i64) w A0 l0.length l0) (hc0 : l0.length ≤ c0) (A1 : Option Addr) (c1 : Nat) (l1 : List (List Int)) (hr1 : Kd.C (Kd.slice 3 (Kd.int .i64)) w A1 l1.length l1) (hc1 : l1.length ≤ c1) (A2 : Option Addr) (c2 : Nat) (l2 : List (List Int)) (hr2 : Kd.C (Kd.slice 3 (Kd.int .i64)) w A2 l2.length l2) (hc2 : l2.length ≤ c2) (k1 : Nat) (k2 : Nat) (hn0 : (l0.length : Int) ≤ 1048576) (z1 : Int) (hz1 : laws_szIntSS.f k1 l1 1048576 = some z1) (hp1 : 0 ≤ z1) (hz2 : laws_szIntSS.f k2 l2 z1 = some (-1)) :
    Calls Try.prog 8 #[.slice A0 l0.length c0, .slice A1 l1.length c1, .slice A2 l2.length c2] w fun e w' => e = .returned (.bool true) ∧ Below w.heap.size w w' := by
  have HR0 := Aside0.mk hr0
  have HC0 := Aside0.mk hc0
  clear hr0 hc0
  have HR1 := Aside0.mk hr1
  have HC1 := Aside0.mk hc1
  clear hr1 hc1
  have HR2 := Aside0.mk hr2
  have HC2 := Aside0.mk hc2
  clear hr2 hc2
  have e0 : decide (1048576 < (l0.length : Int)) = false := decide_eq_false (by omega)
  have e0n : decide (1048576 < l0.length) = false := decide_eq_false (by omega)
  have PZ1 := Aside0.mk hz1
  clear hz1
  have PZ2 := Aside0.mk hz2
  clear hz2
  have d1 : decide (z1 < 0) = false := decide_eq_false (by omega)
  clear hn0 hp1
  have HN := Now.start w
  go_enter Try.func8, Try.ntmps8
  go_wp2_with (fail)
  refine (laws_szIntSS.calls _ A1 c1 l1 _ _ _ ?q0 ?q1 PZ1.out).mono ?_
  case q0 => exact Kd.C_below HR1.out (Now.b (by repeat (first | exact HN | (with_reducible first | apply Now.alloc | apply Now.drewN | apply Now.drew))))
  case q1 => exact HC1.out
  rintro e w1 ⟨rfl, hb⟩
  (first | (replace hb := Drawn0.below hb) | skip)
  replace HN := Now.below (by repeat (first | exact HN | (with_reducible first | apply Now.alloc | apply Now.drewN | apply Now.drew))) hb
  clear hb
  go_wp2_with (fail)
  refine (laws_szIntSS.calls _ A2 c2 l2 _ _ _ ?q0 ?q1 PZ2.out).mono ?_
  case q0 => exact Kd.C_below HR2.out (Now.b (by repeat (first | exact HN | (with_reducible first | apply Now.alloc | apply Now.drewN | apply Now.drew))))
  case q1 => exact HC2.out
  rintro e w2 ⟨rfl, hb⟩
  (first | (replace hb := Drawn0.below hb) | skip)
  replace HN := Now.below (by repeat (first | exact HN | (with_reducible first | apply Now.alloc | apply Now.drewN | apply Now.drew))) hb
  clear hb
  go_wp2
  go_ret
  exact ⟨rfl, Now.b (by repeat (first | exact HN | (with_reducible first | apply Now.alloc | apply Now.drewN | apply Now.drew)))⟩

set_option maxHeartbeats 8000000 in
set_option maxRecDepth 100000 in
theorem laws_FnExactAttend.main (w : World) (A0 : Option Addr) (c0 : Nat) (l0 : List Int) (hr0 : Kd.C (Kd.int .i64) w A0 l0.length l0) (hc0 : l0.length ≤ c0) (A1 : Option Addr) (c1 : Nat) (l1 : List (List Int)) (hr1 : Kd.C (Kd.slice 3 (Kd.int .i64)) w A1 l1.length l1) (hc1 : l1.length ≤ c1) (A2 : Option Addr) (c2 : Nat) (l2 : List (List Int)) (hr2 : Kd.C (Kd.slice 3 (Kd.int .i64)) w A2 l2.length l2) (hc2 : l2.length ≤ c2) (k1 k2 kt0 kx0 kt1 kx1 kt2 kx2 kw kg kr0 : Nat) (r0 : List Int) (r1 : Bool) (hn0 : (l0.length : Int) ≤ 1048576) (z1 : Int) (hz1 : laws_szIntSS.f k1 l1 1048576 = some z1) (hp1 : 0 ≤ z1) (z2 : Int) (hz2 : laws_szIntSS.f k2 l2 z1 = some z2) (hp2 : 0 ≤ z2) (pt0 : laws_toIntS.f kt0 l0 = some l0) (px0 : laws_eqIntS.f kx0 l0 l0 = some true) (mx0 : (l0.map (fun _ => 1)).sum ≤ 1048576) (pt1 : laws_toIntSS.f kt1 l1 = some l1) (px1 : laws_eqIntSS.f kx1 l1 l1 = some true) (mx1 : (l1.map (fun xs : List Int => (xs.map fun _ => 1).sum)).sum ≤ 1048576) (pt2 : laws_toIntSS.f kt2 l2 = some l2) (px2 : laws_eqIntSS.f kx2 l2 l2 = some true) (mx2 : (l2.map (fun xs : List Int => (xs.map fun _ => 1).sum)).sum ≤ 1048576) (pw : spec_Attend.f kw l0 l1 l2 = some (r0, r1)) (pg : impl_Attend.f kg l0 l1 l2 = some (r0, r1)) (pr0 : laws_eqIntS.f kr0 r0 r0 = some true) (mr0 : (r0.map (fun _ => 1)).sum ≤ 1048576) :
    Calls Try.prog 8 #[.slice A0 l0.length c0, .slice A1 l1.length c1, .slice A2 l2.length c2] w fun e w' => e = .returned (.bool true) ∧ Below w.heap.size w w' := by
  have HR0 := Aside0.mk hr0
  have HC0 := Aside0.mk hc0
  clear hr0 hc0
  have HR1 := Aside0.mk hr1
  have HC1 := Aside0.mk hc1
  clear hr1 hc1
  have HR2 := Aside0.mk hr2
  have HC2 := Aside0.mk hc2
  clear hr2 hc2
  have e0 : decide (1048576 < (l0.length : Int)) = false := decide_eq_false (by omega)
  have e0n : decide (1048576 < l0.length) = false := decide_eq_false (by omega)
  have PZ1 := Aside0.mk hz1
  have d1 : decide (z1 < 0) = false := decide_eq_false (by omega)
  clear hz1
  have PZ2 := Aside0.mk hz2
  have d2 : decide (z2 < 0) = false := decide_eq_false (by omega)
  clear hz2
  have PT0 := Aside0.mk pt0
  have PX0 := Aside0.mk px0
  have MX0 := Aside0.mk mx0
  clear pt0 px0 mx0
  have PT1 := Aside0.mk pt1
  have PX1 := Aside0.mk px1
  have MX1 := Aside0.mk mx1
  clear pt1 px1 mx1
  have PT2 := Aside0.mk pt2
  have PX2 := Aside0.mk px2
  have MX2 := Aside0.mk mx2
  clear pt2 px2 mx2
  have PR0 := Aside0.mk pr0
  have MR0 := Aside0.mk mr0
  clear pr0 mr0
  have PW := Aside0.mk pw
  have PG := Aside0.mk pg
  clear pw pg
  clear hn0 hp1 hp2
  have HN := Now.start w
  go_enter Try.func8, Try.ntmps8
  go_wp2_with (fail)
  refine (laws_szIntSS.calls _ A1 c1 l1 _ _ _ ?q0 ?q1 PZ1.out).mono ?_
  case q0 => exact Kd.C_below HR1.out (Now.b (by repeat (first | exact HN | (with_reducible first | apply Now.alloc | apply Now.drewN | apply Now.drew))))
  case q1 => exact HC1.out
  rintro e w1 ⟨rfl, hb⟩
  (first | (replace hb := Drawn0.below hb) | skip)
  replace HN := Now.below (by repeat (first | exact HN | (with_reducible first | apply Now.alloc | apply Now.drewN | apply Now.drew))) hb
  clear hb
  go_wp2_with (fail)
  refine (laws_szIntSS.calls _ A2 c2 l2 _ _ _ ?q0 ?q1 PZ2.out).mono ?_
  case q0 => exact Kd.C_below HR2.out (Now.b (by repeat (first | exact HN | (with_reducible first | apply Now.alloc | apply Now.drewN | apply Now.drew))))
  case q1 => exact HC2.out
  rintro e w2 ⟨rfl, hb⟩
  (first | (replace hb := Drawn0.below hb) | skip)
  replace HN := Now.below (by repeat (first | exact HN | (with_reducible first | apply Now.alloc | apply Now.drewN | apply Now.drew))) hb
  clear hb
  go_wp2_with (fail)
  refine (laws_toIntS.calls _ A0 c0 l0 l0 _ ?q0 ?q1 PT0.out).mono ?_
  case q0 => exact Kd.C_below HR0.out (Now.b (by repeat (first | exact HN | (with_reducible first | apply Now.alloc | apply Now.drewN | apply Now.drew))))
  case q1 => exact HC0.out
  rintro e w3 ⟨v0, rfl, g0, hb⟩
  have hn_ := Now.at_ (by repeat (first | exact HN | (with_reducible first | apply Now.alloc | apply Now.drewN | apply Now.drew))) hb
  replace HN := Now.push hn_.2 hb (f := (own (Kd.int .i64) 3 _ _ _ v0 l0)) rfl rfl (in_own g0 hn_.1)
  clear hn_ hb g0
  obtain ⟨A3_0, c3_0, rfl⟩ := own_slice (HN.get 0 rfl)
  go_wp2_with (fail)
  refine (laws_toIntSS.calls _ A1 c1 l1 l1 _ ?q0 ?q1 PT1.out).mono ?_
  case q0 => exact Kd.C_below HR1.out (Now.b (by repeat (first | exact HN | (with_reducible first | apply Now.alloc | apply Now.drewN | apply Now.drew))))
  case q1 => exact HC1.out
  rintro e w4 ⟨v0, rfl, g0, hb⟩
  have hn_ := Now.at_ (by repeat (first | exact HN | (with_reducible first | apply Now.alloc | apply Now.drewN | apply Now.drew))) hb
  replace HN := Now.push hn_.2 hb (f := (ownS (Kd.slice 3 (Kd.int .i64)) 22 _ _ _ v0 l1)) rfl rfl (in_ownS g0 hn_.1)
  clear hn_ hb g0
  obtain ⟨A4_0, c4_0, rfl⟩ := ownS_slice (HN.get 0 rfl)
  go_wp2_with (fail)
  refine (laws_toIntSS.calls _ A2 c2 l2 l2 _ ?q0 ?q1 PT2.out).mono ?_
  case q0 => exact Kd.C_below HR2.out (Now.b (by repeat (first | exact HN | (with_reducible first | apply Now.alloc | apply Now.drewN | apply Now.drew))))
  case q1 => exact HC2.out
  rintro e w5 ⟨v0, rfl, g0, hb⟩
  have hn_ := Now.at_ (by repeat (first | exact HN | (with_reducible first | apply Now.alloc | apply Now.drewN | apply Now.drew))) hb
  replace HN := Now.push hn_.2 hb (f := (ownS (Kd.slice 3 (Kd.int .i64)) 22 _ _ _ v0 l2)) rfl rfl (in_ownS g0 hn_.1)
  clear hn_ hb g0
  obtain ⟨A5_0, c5_0, rfl⟩ := ownS_slice (HN.get 0 rfl)
  go_wp2_with (fail)
  refine (spec_Attend.calls _ A3_0 c3_0 l0 A4_0 c4_0 l1 A5_0 c5_0 l2 r0 r1 _ ?q0 ?q1 ?q2 ?q3 ?q4 ?q5 PW.out).mono ?_
  case q0 => exact (own_C (Now.get (by repeat (first | exact HN | (with_reducible first | apply Now.alloc | apply Now.drewN | apply Now.drew))) 2 rfl)).2.2
  case q1 => exact (own_C (Now.get (by repeat (first | exact HN | (with_reducible first | apply Now.alloc | apply Now.drewN | apply Now.drew))) 2 rfl)).2.1
  case q2 => exact (ownS_C (Now.get (by repeat (first | exact HN | (with_reducible first | apply Now.alloc | apply Now.drewN | apply Now.drew))) 1 rfl)).2.2
  case q3 => exact (ownS_C (Now.get (by repeat (first | exact HN | (with_reducible first | apply Now.alloc | apply Now.drewN | apply Now.drew))) 1 rfl)).2.1
  case q4 => exact (ownS_C (Now.get (by repeat (first | exact HN | (with_reducible first | apply Now.alloc | apply Now.drewN | apply Now.drew))) 0 rfl)).2.2
  case q5 => exact (ownS_C (Now.get (by repeat (first | exact HN | (with_reducible first | apply Now.alloc | apply Now.drewN | apply Now.drew))) 0 rfl)).2.1
  rintro e w6 ⟨v0, rfl, g0, hb⟩
  have hn_ := Now.at_ (by repeat (first | exact HN | (with_reducible first | apply Now.alloc | apply Now.drewN | apply Now.drew))) hb
  replace HN := Now.push hn_.2 hb (f := (own (Kd.int .i64) 3 _ _ _ v0 r0)) rfl rfl (in_own g0 hn_.1)
  clear hn_ hb g0
  obtain ⟨A6_0, c6_0, rfl⟩ := own_slice (HN.get 0 rfl)
  go_wp2_with (fail)
  refine (laws_toIntS.calls _ A0 c0 l0 l0 _ ?q0 ?q1 PT0.out).mono ?_
  case q0 => exact Kd.C_below HR0.out (Now.b (by repeat (first | exact HN | (with_reducible first | apply Now.alloc | apply Now.drewN | apply Now.drew))))
  case q1 => exact HC0.out
  rintro e w7 ⟨v0, rfl, g0, hb⟩
  have hn_ := Now.at_ (by repeat (first | exact HN | (with_reducible first | apply Now.alloc | apply Now.drewN | apply Now.drew))) hb
  replace HN := Now.push hn_.2 hb (f := (own (Kd.int .i64) 3 _ _ _ v0 l0)) rfl rfl (in_own g0 hn_.1)
  clear hn_ hb g0
  obtain ⟨A7_0, c7_0, rfl⟩ := own_slice (HN.get 0 rfl)
  go_wp2_with (fail)
  refine (laws_toIntSS.calls _ A1 c1 l1 l1 _ ?q0 ?q1 PT1.out).mono ?_
  case q0 => exact Kd.C_below HR1.out (Now.b (by repeat (first | exact HN | (with_reducible first | apply Now.alloc | apply Now.drewN | apply Now.drew))))
  case q1 => exact HC1.out
  rintro e w8 ⟨v0, rfl, g0, hb⟩
  have hn_ := Now.at_ (by repeat (first | exact HN | (with_reducible first | apply Now.alloc | apply Now.drewN | apply Now.drew))) hb
  replace HN := Now.push hn_.2 hb (f := (ownS (Kd.slice 3 (Kd.int .i64)) 22 _ _ _ v0 l1)) rfl rfl (in_ownS g0 hn_.1)
  clear hn_ hb g0
  obtain ⟨A8_0, c8_0, rfl⟩ := ownS_slice (HN.get 0 rfl)
  go_wp2_with (fail)
  refine (laws_toIntSS.calls _ A2 c2 l2 l2 _ ?q0 ?q1 PT2.out).mono ?_
  case q0 => exact Kd.C_below HR2.out (Now.b (by repeat (first | exact HN | (with_reducible first | apply Now.alloc | apply Now.drewN | apply Now.drew))))
  case q1 => exact HC2.out
  rintro e w9 ⟨v0, rfl, g0, hb⟩
  have hn_ := Now.at_ (by repeat (first | exact HN | (with_reducible first | apply Now.alloc | apply Now.drewN | apply Now.drew))) hb
  replace HN := Now.push hn_.2 hb (f := (ownS (Kd.slice 3 (Kd.int .i64)) 22 _ _ _ v0 l2)) rfl rfl (in_ownS g0 hn_.1)
  clear hn_ hb g0
  obtain ⟨A9_0, c9_0, rfl⟩ := ownS_slice (HN.get 0 rfl)
  go_wp2_with (fail)
  refine (impl_Attend.calls _ A7_0 c7_0 l0 A8_0 c8_0 l1 A9_0 c9_0 l2 r0 r1 _ ?q0 ?q1 ?q2 ?q3 ?q4 ?q5 PG.out).mono ?_
  case q0 => exact (own_C (Now.get (by repeat (first | exact HN | (with_reducible first | apply Now.alloc | apply Now.drewN | apply Now.drew))) 2 rfl)).2.2
  case q1 => exact (own_C (Now.get (by repeat (first | exact HN | (with_reducible first | apply Now.alloc | apply Now.drewN | apply Now.drew))) 2 rfl)).2.1
  case q2 => exact (ownS_C (Now.get (by repeat (first | exact HN | (with_reducible first | apply Now.alloc | apply Now.drewN | apply Now.drew))) 1 rfl)).2.2
  case q3 => exact (ownS_C (Now.get (by repeat (first | exact HN | (with_reducible first | apply Now.alloc | apply Now.drewN | apply Now.drew))) 1 rfl)).2.1
  case q4 => exact (ownS_C (Now.get (by repeat (first | exact HN | (with_reducible first | apply Now.alloc | apply Now.drewN | apply Now.drew))) 0 rfl)).2.2
  case q5 => exact (ownS_C (Now.get (by repeat (first | exact HN | (with_reducible first | apply Now.alloc | apply Now.drewN | apply Now.drew))) 0 rfl)).2.1
  rintro e w10 ⟨v0, rfl, g0, hb⟩
  have hn_ := Now.at_ (by repeat (first | exact HN | (with_reducible first | apply Now.alloc | apply Now.drewN | apply Now.drew))) hb
  replace HN := Now.push hn_.2 hb (f := (own (Kd.int .i64) 3 _ _ _ v0 r0)) rfl rfl (in_own g0 hn_.1)
  clear hn_ hb g0
  obtain ⟨A10_0, c10_0, rfl⟩ := own_slice (HN.get 0 rfl)
  go_wp2_with (fail)
  refine (laws_eqIntS.calls _ A10_0 c10_0 r0 A6_0 c6_0 r0 true _ ?q0 ?q1 ?q2 ?q3 PR0.out).mono ?_
  case q0 => exact (own_C (Now.get (by repeat (first | exact HN | (with_reducible first | apply Now.alloc | apply Now.drewN | apply Now.drew))) 0 rfl)).2.2
  case q1 => exact (own_C (Now.get (by repeat (first | exact HN | (with_reducible first | apply Now.alloc | apply Now.drewN | apply Now.drew))) 0 rfl)).2.1
  case q2 => exact (own_C (Now.get (by repeat (first | exact HN | (with_reducible first | apply Now.alloc | apply Now.drewN | apply Now.drew))) 4 rfl)).2.2
  case q3 => exact (own_C (Now.get (by repeat (first | exact HN | (with_reducible first | apply Now.alloc | apply Now.drewN | apply Now.drew))) 4 rfl)).2.1
  rintro e w11 ⟨rfl, hb⟩
  (first | (replace hb := Drawn0.below hb) | skip)
  replace HN := Now.below (by repeat (first | exact HN | (with_reducible first | apply Now.alloc | apply Now.drewN | apply Now.drew))) hb
  clear hb
  go_wp2_with (fail)
  refine (laws_toIntS.calls _ A0 c0 l0 l0 _ ?q0 ?q1 PT0.out).mono ?_
  case q0 => exact Kd.C_below HR0.out (Now.b (by repeat (first | exact HN | (with_reducible first | apply Now.alloc | apply Now.drewN | apply Now.drew))))
  case q1 => exact HC0.out
  rintro e w12 ⟨v0, rfl, g0, hb⟩
  have hn_ := Now.at_ (by repeat (first | exact HN | (with_reducible first | apply Now.alloc | apply Now.drewN | apply Now.drew))) hb
  replace HN := Now.push hn_.2 hb (f := (own (Kd.int .i64) 3 _ _ _ v0 l0)) rfl rfl (in_own g0 hn_.1)
  clear hn_ hb g0
  obtain ⟨A12_0, c12_0, rfl⟩ := own_slice (HN.get 0 rfl)
  go_wp2_with (fail)
  refine (laws_eqIntS.calls _ A7_0 c7_0 l0 A12_0 c12_0 l0 true _ ?q0 ?q1 ?q2 ?q3 PX0.out).mono ?_
  case q0 => exact (own_C (Now.get (by repeat (first | exact HN | (with_reducible first | apply Now.alloc | apply Now.drewN | apply Now.drew))) 4 rfl)).2.2
  case q1 => exact (own_C (Now.get (by repeat (first | exact HN | (with_reducible first | apply Now.alloc | apply Now.drewN | apply Now.drew))) 4 rfl)).2.1
  case q2 => exact (own_C (Now.get (by repeat (first | exact HN | (with_reducible first | apply Now.alloc | apply Now.drewN | apply Now.drew))) 0 rfl)).2.2
  case q3 => exact (own_C (Now.get (by repeat (first | exact HN | (with_reducible first | apply Now.alloc | apply Now.drewN | apply Now.drew))) 0 rfl)).2.1
  rintro e w13 ⟨rfl, hb⟩
  (first | (replace hb := Drawn0.below hb) | skip)
  replace HN := Now.below (by repeat (first | exact HN | (with_reducible first | apply Now.alloc | apply Now.drewN | apply Now.drew))) hb
  clear hb
  go_wp2_with (fail)
  refine (laws_toIntSS.calls _ A1 c1 l1 l1 _ ?q0 ?q1 PT1.out).mono ?_
  case q0 => exact Kd.C_below HR1.out (Now.b (by repeat (first | exact HN | (with_reducible first | apply Now.alloc | apply Now.drewN | apply Now.drew))))
  case q1 => exact HC1.out
  rintro e w14 ⟨v0, rfl, g0, hb⟩
  have hn_ := Now.at_ (by repeat (first | exact HN | (with_reducible first | apply Now.alloc | apply Now.drewN | apply Now.drew))) hb
  replace HN := Now.push hn_.2 hb (f := (ownS (Kd.slice 3 (Kd.int .i64)) 22 _ _ _ v0 l1)) rfl rfl (in_ownS g0 hn_.1)
  clear hn_ hb g0
  obtain ⟨A14_0, c14_0, rfl⟩ := ownS_slice (HN.get 0 rfl)
  go_wp2_with (fail)
  refine (laws_eqIntSS.calls _ A8_0 c8_0 l1 A14_0 c14_0 l1 true _ ?q0 ?q1 ?q2 ?q3 PX1.out).mono ?_
  case q0 => exact (ownS_C (Now.get (by repeat (first | exact HN | (with_reducible first | apply Now.alloc | apply Now.drewN | apply Now.drew))) 4 rfl)).2.2
  case q1 => exact (ownS_C (Now.get (by repeat (first | exact HN | (with_reducible first | apply Now.alloc | apply Now.drewN | apply Now.drew))) 4 rfl)).2.1
  case q2 => exact (ownS_C (Now.get (by repeat (first | exact HN | (with_reducible first | apply Now.alloc | apply Now.drewN | apply Now.drew))) 0 rfl)).2.2
  case q3 => exact (ownS_C (Now.get (by repeat (first | exact HN | (with_reducible first | apply Now.alloc | apply Now.drewN | apply Now.drew))) 0 rfl)).2.1
  rintro e w15 ⟨rfl, hb⟩
  (first | (replace hb := Drawn0.below hb) | skip)
  replace HN := Now.below (by repeat (first | exact HN | (with_reducible first | apply Now.alloc | apply Now.drewN | apply Now.drew))) hb
  clear hb
  go_wp2_with (fail)
  refine (laws_toIntSS.calls _ A2 c2 l2 l2 _ ?q0 ?q1 PT2.out).mono ?_
  case q0 => exact Kd.C_below HR2.out (Now.b (by repeat (first | exact HN | (with_reducible first | apply Now.alloc | apply Now.drewN | apply Now.drew))))
  case q1 => exact HC2.out
  rintro e w16 ⟨v0, rfl, g0, hb⟩
  have hn_ := Now.at_ (by repeat (first | exact HN | (with_reducible first | apply Now.alloc | apply Now.drewN | apply Now.drew))) hb
  replace HN := Now.push hn_.2 hb (f := (ownS (Kd.slice 3 (Kd.int .i64)) 22 _ _ _ v0 l2)) rfl rfl (in_ownS g0 hn_.1)
  clear hn_ hb g0
  obtain ⟨A16_0, c16_0, rfl⟩ := ownS_slice (HN.get 0 rfl)
  go_wp2_with (fail)
  refine (laws_eqIntSS.calls _ A9_0 c9_0 l2 A16_0 c16_0 l2 true _ ?q0 ?q1 ?q2 ?q3 PX2.out).mono ?_
  case q0 => exact (ownS_C (Now.get (by repeat (first | exact HN | (with_reducible first | apply Now.alloc | apply Now.drewN | apply Now.drew))) 4 rfl)).2.2
  case q1 => exact (ownS_C (Now.get (by repeat (first | exact HN | (with_reducible first | apply Now.alloc | apply Now.drewN | apply Now.drew))) 4 rfl)).2.1
  case q2 => exact (ownS_C (Now.get (by repeat (first | exact HN | (with_reducible first | apply Now.alloc | apply Now.drewN | apply Now.drew))) 0 rfl)).2.2
  case q3 => exact (ownS_C (Now.get (by repeat (first | exact HN | (with_reducible first | apply Now.alloc | apply Now.drewN | apply Now.drew))) 0 rfl)).2.1
  rintro e w17 ⟨rfl, hb⟩
  (first | (replace hb := Drawn0.below hb) | skip)
  replace HN := Now.below (by repeat (first | exact HN | (with_reducible first | apply Now.alloc | apply Now.drewN | apply Now.drew))) hb
  clear hb
  have B0 : (0 : Int) ≤ 1 ∧ (1 : Int) ≤ 1 := by omega
  obtain ⟨Lx0_0, hx0_0_r, hx0_0_n, hx0_0_b⟩ := own_leafs (Now.get (by repeat (first | exact HN | (with_reducible first | apply Now.alloc | apply Now.drewN | apply Now.drew))) 6 rfl) Leafs.int
  have hn_x0 : (Lx0_0).length ≤ 1099511627776 := by have h_ := MX0.out; (try simp only [List.length_append]); simp only [sum_ones, sum_lens] at *; omega
  obtain ⟨kx0, hkx0⟩ : ∃ k_ : Int, k_ = 1 + ((Lx0_0).length : Int) := ⟨_, rfl⟩
  have B1 : (0 : Int) ≤ kx0 ∧ kx0 ≤ 1099511627777 := by omega
  have Dx0 : decide (kx0 < 0) = false := decide_eq_false (by omega)
  have HKM := Aside0.mk (fun (W : World) (hW : Ints (fun _ => False) _ W) => laws_markIntS.leaf A7_0 l0.length c7_0 1 Lx0_0 W (hx0_0_r.ints hW) B0.1 (by omega) kx0 hkx0)
  have HBL := Aside0.mk (show ∀ p, p ∈ (Lx0_0) → _ from by intro p hp; exact hx0_0_b p hp)
  clear hkx0 hn_x0 hx0_0_r hx0_0_n hx0_0_b
  go_wp2_with (fail)
  refine (HKM.out _ (Ints.of_below (by repeat (first | exact Below.refl _ _ | apply below_alloc | apply pw_below_drewN | apply below_drew1)))).mono ?_
  rintro e w18 ⟨rfl, hm⟩
  replace HN := Now.marked (by repeat (first | exact HN | (with_reducible first | apply Now.alloc | apply Now.drewN | apply Now.drew))) 6 rfl hm HBL.out
  clear hm HKM HBL
  obtain ⟨Lx1_0, hx1_0_r, hx1_0_n, hx1_0_b⟩ := ownS_leafs (Now.get (by repeat (first | exact HN | (with_reducible first | apply Now.alloc | apply Now.drewN | apply Now.drew))) 5 rfl) (Leafs.int.slice _)
  have hn_x1 : (Lx1_0).length ≤ 1099511627776 := by have h_ := MX1.out; (try simp only [List.length_append]); simp only [sum_ones, sum_lens] at *; omega
  obtain ⟨kx1, hkx1⟩ : ∃ k_ : Int, k_ = kx0 + ((Lx1_0).length : Int) := ⟨_, rfl⟩
  have B2 : (0 : Int) ≤ kx1 ∧ kx1 ≤ 2199023255553 := by omega
  have Dx1 : decide (kx1 < 0) = false := decide_eq_false (by omega)
  have HKM := Aside0.mk (fun (W : World) (hW : Ints (fun _ => False) _ W) => laws_markIntSS.leaf A8_0 l1.length c8_0 kx0 Lx1_0 W (hx1_0_r.ints hW) B1.1 (by omega) kx1 hkx1)
  have HBL := Aside0.mk (show ∀ p, p ∈ (Lx1_0) → _ from by intro p hp; exact hx1_0_b p hp)
  clear hkx1 hn_x1 hx1_0_r hx1_0_n hx1_0_b
  go_wp2_with (fail)
  refine (HKM.out _ (Ints.of_below (by repeat (first | exact Below.refl _ _ | apply below_alloc | apply pw_below_drewN | apply below_drew1)))).mono ?_
  rintro e w19 ⟨rfl, hm⟩
  replace HN := Now.marked (by repeat (first | exact HN | (with_reducible first | apply Now.alloc | apply Now.drewN | apply Now.drew))) 5 rfl hm HBL.out
  clear hm HKM HBL
  obtain ⟨Lx2_0, hx2_0_r, hx2_0_n, hx2_0_b⟩ := ownS_leafs (Now.get (by repeat (first | exact HN | (with_reducible first | apply Now.alloc | apply Now.drewN | apply Now.drew))) 4 rfl) (Leafs.int.slice _)
  have hn_x2 : (Lx2_0).length ≤ 1099511627776 := by have h_ := MX2.out; (try simp only [List.length_append]); simp only [sum_ones, sum_lens] at *; omega
  obtain ⟨kx2, hkx2⟩ : ∃ k_ : Int, k_ = kx1 + ((Lx2_0).length : Int) := ⟨_, rfl⟩
  have B3 : (0 : Int) ≤ kx2 ∧ kx2 ≤ 3298534883329 := by omega
  have Dx2 : decide (kx2 < 0) = false := decide_eq_false (by omega)
  have HKM := Aside0.mk (fun (W : World) (hW : Ints (fun _ => False) _ W) => laws_markIntSS.leaf A9_0 l2.length c9_0 kx1 Lx2_0 W (hx2_0_r.ints hW) B2.1 (by omega) kx2 hkx2)
  have HBL := Aside0.mk (show ∀ p, p ∈ (Lx2_0) → _ from by intro p hp; exact hx2_0_b p hp)
  clear hkx2 hn_x2 hx2_0_r hx2_0_n hx2_0_b
  go_wp2_with (fail)
  refine (HKM.out _ (Ints.of_below (by repeat (first | exact Below.refl _ _ | apply below_alloc | apply pw_below_drewN | apply below_drew1)))).mono ?_
  rintro e w20 ⟨rfl, hm⟩
  replace HN := Now.marked (by repeat (first | exact HN | (with_reducible first | apply Now.alloc | apply Now.drewN | apply Now.drew))) 4 rfl hm HBL.out
  clear hm HKM HBL
  go_wp2_with (fail)
  refine (laws_eqIntS.calls _ A10_0 c10_0 r0 A6_0 c6_0 r0 true _ ?q0 ?q1 ?q2 ?q3 PR0.out).mono ?_
  case q0 => exact (own_C (Now.get (by repeat (first | exact HN | (with_reducible first | apply Now.alloc | apply Now.drewN | apply Now.drew))) 3 rfl)).2.2
  case q1 => exact (own_C (Now.get (by repeat (first | exact HN | (with_reducible first | apply Now.alloc | apply Now.drewN | apply Now.drew))) 3 rfl)).2.1
  case q2 => exact (own_C (Now.get (by repeat (first | exact HN | (with_reducible first | apply Now.alloc | apply Now.drewN | apply Now.drew))) 7 rfl)).2.2
  case q3 => exact (own_C (Now.get (by repeat (first | exact HN | (with_reducible first | apply Now.alloc | apply Now.drewN | apply Now.drew))) 7 rfl)).2.1
  rintro e w21 ⟨rfl, hb⟩
  (first | (replace hb := Drawn0.below hb) | skip)
  replace HN := Now.below (by repeat (first | exact HN | (with_reducible first | apply Now.alloc | apply Now.drewN | apply Now.drew))) hb
  clear hb
  have R0 : (0 : Int) ≤ 1 ∧ (1 : Int) ≤ 1 := by omega
  obtain ⟨Lg0_0, hg0_0_r, hg0_0_d, hg0_0_n, hg0_0_b⟩ := own_once (Now.get (by repeat (first | exact HN | (with_reducible first | apply Now.alloc | apply Now.drewN | apply Now.drew))) 3 rfl)
  have hn_g0 : (Lg0_0).length ≤ 1099511627776 := by have h_ := MR0.out; (try simp only [List.length_append]); simp only [sum_ones, sum_lens] at *; omega
  obtain ⟨kg0, hkg0⟩ : ∃ k_ : Int, k_ = 1 + ((Lg0_0).length : Int) := ⟨_, rfl⟩
  have R1 : (0 : Int) ≤ kg0 ∧ kg0 ≤ 1099511627777 := by omega
  have Dg0 : decide (kg0 < 0) = false := decide_eq_false (by omega)
  have HKM := Aside0.mk (fun (W : World) (hW : Ints (fun _ => False) _ W) => laws_markIntS.leaf A10_0 r0.length c10_0 1 Lg0_0 W (hg0_0_r.ints hW) R0.1 (by omega) kg0 hkg0)
  have HKH := Aside0.mk (fun (W : World) (hW : Ints (fun b => ∃ p, p ∈ (Lg0_0) ∧ p.block = b) _ W) (hT : ToldAt W (Lg0_0) 1) => laws_heldIntS.leaf A10_0 r0.length c10_0 1 Lg0_0 W (hg0_0_r.ints hW) hT R0.1 (by omega) kg0 hkg0)
  have HBL := Aside0.mk (show ∀ p, p ∈ (Lg0_0) → _ from by intro p hp; exact hg0_0_b p hp)
  have HND := Aside0.mk (show (Lg0_0).Nodup from hg0_0_d)
  clear hkg0 hn_g0 hg0_0_r hg0_0_d hg0_0_n hg0_0_b
  go_wp2_with (fail)
  refine (HKM.out _ (Ints.of_below (by repeat (first | exact Below.refl _ _ | apply below_alloc | apply pw_below_drewN | apply below_drew1)))).mono ?_
  rintro e w22 ⟨rfl, hm⟩
  replace HN := Now.marked (by repeat (first | exact HN | (with_reducible first | apply Now.alloc | apply Now.drewN | apply Now.drew))) 3 rfl hm HBL.out
  have HM := Now.start w22
  have HH0 := Aside0.mk (fun (W : World) (hW : Below w22.heap.size w22 W) => HKH.out W ((hm.before (by repeat (first | exact Below.refl _ _ | apply below_alloc | apply pw_below_drewN | apply below_drew1))).i.trans (Ints.of_below hW)) (ToldAt.below (hm.told HND.out) hW))
  clear hm HKM HKH HBL HND
  go_wp2_with (fail)
  refine (HH0.out _ (Now.b (by repeat (first | exact HM | (with_reducible first | apply Now.alloc | apply Now.drewN | apply Now.drew))))).mono ?_
  rintro e w23 ⟨rfl, hb⟩
  (first | (replace hb := Drawn0.below hb) | skip)
  replace HN := Now.below (by repeat (first | exact HN | (with_reducible first | apply Now.alloc | apply Now.drewN | apply Now.drew))) hb
  replace HM := Now.below (by repeat (first | exact HM | (with_reducible first | apply Now.alloc | apply Now.drewN | apply Now.drew))) hb
  clear hb
  go_wp2_with (fail)
  refine (laws_toIntS.calls _ A0 c0 l0 l0 _ ?q0 ?q1 PT0.out).mono ?_
  case q0 => exact Kd.C_below HR0.out (Now.b (by repeat (first | exact HN | (with_reducible first | apply Now.alloc | apply Now.drewN | apply Now.drew))))
  case q1 => exact HC0.out
  rintro e w24 ⟨v0, rfl, g0, hb⟩
  have hn_ := Now.at_ (by repeat (first | exact HN | (with_reducible first | apply Now.alloc | apply Now.drewN | apply Now.drew))) hb
  replace HN := Now.push hn_.2 hb (f := (own (Kd.int .i64) 3 _ _ _ v0 l0)) rfl rfl (in_own g0 hn_.1)
  replace HM := Now.below (by repeat (first | exact HM | (with_reducible first | apply Now.alloc | apply Now.drewN | apply Now.drew))) hb
  clear hn_ hb g0
  obtain ⟨A24_0, c24_0, rfl⟩ := own_slice (HN.get 0 rfl)
  go_wp2_with (fail)
  refine (laws_toIntSS.calls _ A1 c1 l1 l1 _ ?q0 ?q1 PT1.out).mono ?_
  case q0 => exact Kd.C_below HR1.out (Now.b (by repeat (first | exact HN | (with_reducible first | apply Now.alloc | apply Now.drewN | apply Now.drew))))
  case q1 => exact HC1.out
  rintro e w25 ⟨v0, rfl, g0, hb⟩
  have hn_ := Now.at_ (by repeat (first | exact HN | (with_reducible first | apply Now.alloc | apply Now.drewN | apply Now.drew))) hb
  replace HN := Now.push hn_.2 hb (f := (ownS (Kd.slice 3 (Kd.int .i64)) 22 _ _ _ v0 l1)) rfl rfl (in_ownS g0 hn_.1)
  replace HM := Now.below (by repeat (first | exact HM | (with_reducible first | apply Now.alloc | apply Now.drewN | apply Now.drew))) hb
  clear hn_ hb g0
  obtain ⟨A25_0, c25_0, rfl⟩ := ownS_slice (HN.get 0 rfl)
  go_wp2_with (fail)
  refine (laws_toIntSS.calls _ A2 c2 l2 l2 _ ?q0 ?q1 PT2.out).mono ?_
  case q0 => exact Kd.C_below HR2.out (Now.b (by repeat (first | exact HN | (with_reducible first | apply Now.alloc | apply Now.drewN | apply Now.drew))))
  case q1 => exact HC2.out
  rintro e w26 ⟨v0, rfl, g0, hb⟩
  have hn_ := Now.at_ (by repeat (first | exact HN | (with_reducible first | apply Now.alloc | apply Now.drewN | apply Now.drew))) hb
  replace HN := Now.push hn_.2 hb (f := (ownS (Kd.slice 3 (Kd.int .i64)) 22 _ _ _ v0 l2)) rfl rfl (in_ownS g0 hn_.1)
  replace HM := Now.below (by repeat (first | exact HM | (with_reducible first | apply Now.alloc | apply Now.drewN | apply Now.drew))) hb
  clear hn_ hb g0
  obtain ⟨A26_0, c26_0, rfl⟩ := ownS_slice (HN.get 0 rfl)
  go_wp2_with (fail)
  refine (impl_Attend.calls _ A24_0 c24_0 l0 A25_0 c25_0 l1 A26_0 c26_0 l2 r0 r1 _ ?q0 ?q1 ?q2 ?q3 ?q4 ?q5 PG.out).mono ?_
  case q0 => exact (own_C (Now.get (by repeat (first | exact HN | (with_reducible first | apply Now.alloc | apply Now.drewN | apply Now.drew))) 2 rfl)).2.2
  case q1 => exact (own_C (Now.get (by repeat (first | exact HN | (with_reducible first | apply Now.alloc | apply Now.drewN | apply Now.drew))) 2 rfl)).2.1
  case q2 => exact (ownS_C (Now.get (by repeat (first | exact HN | (with_reducible first | apply Now.alloc | apply Now.drewN | apply Now.drew))) 1 rfl)).2.2
  case q3 => exact (ownS_C (Now.get (by repeat (first | exact HN | (with_reducible first | apply Now.alloc | apply Now.drewN | apply Now.drew))) 1 rfl)).2.1
  case q4 => exact (ownS_C (Now.get (by repeat (first | exact HN | (with_reducible first | apply Now.alloc | apply Now.drewN | apply Now.drew))) 0 rfl)).2.2
  case q5 => exact (ownS_C (Now.get (by repeat (first | exact HN | (with_reducible first | apply Now.alloc | apply Now.drewN | apply Now.drew))) 0 rfl)).2.1
  rintro e w27 ⟨v0, rfl, g0, hb⟩
  have hn_ := Now.at_ (by repeat (first | exact HN | (with_reducible first | apply Now.alloc | apply Now.drewN | apply Now.drew))) hb
  replace HN := Now.push hn_.2 hb (f := (own (Kd.int .i64) 3 _ _ _ v0 r0)) rfl rfl (in_own g0 hn_.1)
  replace HM := Now.below (by repeat (first | exact HM | (with_reducible first | apply Now.alloc | apply Now.drewN | apply Now.drew))) hb
  clear hn_ hb g0
  obtain ⟨A27_0, c27_0, rfl⟩ := own_slice (HN.get 0 rfl)
  go_wp2_with (fail)
  refine (laws_eqIntS.calls _ A27_0 c27_0 r0 A6_0 c6_0 r0 true _ ?q0 ?q1 ?q2 ?q3 PR0.out).mono ?_
  case q0 => exact (own_C (Now.get (by repeat (first | exact HN | (with_reducible first | apply Now.alloc | apply Now.drewN | apply Now.drew))) 0 rfl)).2.2
  case q1 => exact (own_C (Now.get (by repeat (first | exact HN | (with_reducible first | apply Now.alloc | apply Now.drewN | apply Now.drew))) 0 rfl)).2.1
  case q2 => exact (own_C (Now.get (by repeat (first | exact HN | (with_reducible first | apply Now.alloc | apply Now.drewN | apply Now.drew))) 11 rfl)).2.2
  case q3 => exact (own_C (Now.get (by repeat (first | exact HN | (with_reducible first | apply Now.alloc | apply Now.drewN | apply Now.drew))) 11 rfl)).2.1
  rintro e w28 ⟨rfl, hb⟩
  (first | (replace hb := Drawn0.below hb) | skip)
  replace HN := Now.below (by repeat (first | exact HN | (with_reducible first | apply Now.alloc | apply Now.drewN | apply Now.drew))) hb
  replace HM := Now.below (by repeat (first | exact HM | (with_reducible first | apply Now.alloc | apply Now.drewN | apply Now.drew))) hb
  clear hb
  go_wp2_with (fail)
  refine (HH0.out _ (Now.b (by repeat (first | exact HM | (with_reducible first | apply Now.alloc | apply Now.drewN | apply Now.drew))))).mono ?_
  rintro e w29 ⟨rfl, hb⟩
  (first | (replace hb := Drawn0.below hb) | skip)
  replace HN := Now.below (by repeat (first | exact HN | (with_reducible first | apply Now.alloc | apply Now.drewN | apply Now.drew))) hb
  replace HM := Now.below (by repeat (first | exact HM | (with_reducible first | apply Now.alloc | apply Now.drewN | apply Now.drew))) hb
  clear hb
  go_wp2
  go_ret
  exact ⟨rfl, Now.b (by repeat (first | exact HN | (with_reducible first | apply Now.alloc | apply Now.drewN | apply Now.drew)))⟩

theorem laws_FnExactAttend.holds (w : World) (A0 : Option Addr) (c0 : Nat) (l0 : List Int) (hr0 : Kd.C (Kd.int .i64) w A0 l0.length l0) (hc0 : l0.length ≤ c0) (A1 : Option Addr) (c1 : Nat) (l1 : List (List Int)) (hr1 : Kd.C (Kd.slice 3 (Kd.int .i64)) w A1 l1.length l1) (hc1 : l1.length ≤ c1) (A2 : Option Addr) (c2 : Nat) (l2 : List (List Int)) (hr2 : Kd.C (Kd.slice 3 (Kd.int .i64)) w A2 l2.length l2) (hc2 : l2.length ≤ c2) (_ : okT22 l0) (h1 : okT23 l1) (h2 : okT23 l2) :
    Calls Try.prog 8 #[.slice A0 l0.length c0, .slice A1 l1.length c1, .slice A2 l2.length c2] w fun e w' => e = .returned (.bool true) ∧ Below w.heap.size w w' := by
  by_cases hn0 : 1048576 < (l0.length : Int)
  · exact laws_FnExactAttend.out0 w A0 c0 l0 hr0 hc0 A1 c1 l1 hr1 hc1 A2 c2 l2 hr2 hc2 hn0
  · have hsz := szIntSS_less (mIntss l1 + 1) l1 1048576 h1.1 (fun y hy => (h1.2 y hy).1) (by omega) (by omega) (by omega)
    by_cases hz : (1048576 : Int) < (mIntss l1 : Int)
    · exact laws_FnExactAttend.out1 w A0 c0 l0 hr0 hc0 A1 c1 l1 hr1 hc1 A2 c2 l2 hr2 hc2 (mIntss l1 + 1) (by omega) (by rw [hsz]; unfold lessS; rw [if_pos hz])
    · have hsz2 := szIntSS_less (mIntss l2 + 1) l2 (1048576 - (mIntss l1 : Int)) h2.1 (fun y hy => (h2.2 y hy).1) (by omega) (by omega) (by omega)
      by_cases hz2 : 1048576 - (mIntss l1 : Int) < (mIntss l2 : Int)
      · exact laws_FnExactAttend.out2 w A0 c0 l0 hr0 hc0 A1 c1 l1 hr1 hc1 A2 c2 l2 hr2 hc2 (mIntss l1 + 1) (mIntss l2 + 1) (by omega) (1048576 - (mIntss l1 : Int)) (by rw [hsz]; unfold lessS; rw [if_neg hz]) (by omega) (by rw [hsz2]; unfold lessS; rw [if_pos hz2])
      · have hm := attendOf_len l0 l1 l2
        have e1 := mIntss_eq l1
        have e2 := sumS_map_sum l1
        have e3 := mIntss_eq l2
        have e4 := sumS_map_sum l2
        have hk : ∀ y ∈ l1, y.length ≤ 1048576 := fun y hy => by have := sumS_le (fun l : List Int => l.length) l1 y hy; omega
        refine laws_FnExactAttend.main w A0 c0 l0 hr0 hc0 A1 c1 l1 hr1 hc1 A2 c2 l2 hr2 hc2 (mIntss l1 + 1) (mIntss l2 + 1) (l0.length + 1) (l0.length + 1) (mIntss l1 + 1) (mIntss l1 + 1) (mIntss l2 + 1) (mIntss l2 + 1) 3200000 3200000 9 (attendOf l0 l1 l2).1 (attendOf l0 l1 l2).2 (by omega)
          (1048576 - (mIntss l1 : Int)) (by rw [hsz]; unfold lessS; rw [if_neg hz]) (by omega) (1048576 - (mIntss l1 : Int) - (mIntss l2 : Int)) (by rw [hsz2]; unfold lessS; rw [if_neg hz2]) (by omega)
          (to_tells l0 (by omega) _ (by omega)) ((eq_tells l0 l0 (by omega) _ (by omega)).trans (congrArg some (decide_eq_true rfl))) (by rw [sum_ones]; omega)
          (toIntSS_same _ l1 (by omega) (by omega)) (eqIntSS_same _ l1 (by omega) (by omega)) (by rw [sum_lens]; omega)
          (toIntSS_same _ l2 (by omega) (by omega)) (eqIntSS_same _ l2 (by omega) (by omega)) (by rw [sum_lens]; omega)
          (spec_attend l0 l1 l2 (by omega) (by omega) hk _ (by omega)) (impl_attend l0 l1 l2 (by omega) (by omega) hk _ (by omega)) ((eq_tells _ _ (by omega) 9 (by omega)).trans (congrArg some (decide_eq_true rfl))) (by rw [sum_ones]; omega)


end Go.Proofs.Ytlpginalgdbopaa.Own
