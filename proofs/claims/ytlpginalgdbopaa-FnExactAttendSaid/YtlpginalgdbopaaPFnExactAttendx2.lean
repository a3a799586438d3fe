/- Each function that the statement reaches, as a Lean function, and the proof that a call of it comes to just its answer; written by this claim's own program. No conditions. -/
import Derived.Test.YtlpginalgdbopaaPFnExactAttendx0
import Derived.Test.YtlpginalgdbopaaPFnExactAttendx1
namespace Go.Proofs.Ytlpginalgdbopaa.PFnExactAttend
open Go.RowKit Go.Proofs.YtlpginalgdbopaaW.PrintWords Go.Proofs.YtlpginalgdbopaaW.PrintLast Go.Proofs.YtlpginalgdbopaaW.PrintMore
attribute [local go_sem] max2_int min2_int max_two min_two max_three min_three max_four min_four   -- for this text's walks alone
set_option linter.unusedVariables false
set_option linter.unusedSimpArgs false

/-! ### impl_allIn: function 86, by hand -/
set_option maxHeartbeats 8000000 in
set_option maxRecDepth 100000 in
theorem impl_allIn_in_calls (x lo hi : Int) (w : World) : Calls Try.prog 77 #[.int .i64 x, .int .i64 lo, .int .i64 hi] w fun e w' => e = .returned (.bool (decide (lo ≤ x) && decide (x ≤ hi))) ∧ Drawn0 w w' := by
  by_cases h : lo ≤ x
  · have h1 : decide (lo ≤ x) = true := decide_eq_true h
    clear h
    go_enter Try.func77, Try.ntmps77
    go_wp2
    go_ret
    exact ⟨by simp [h1], Drawn0.refl _⟩
  · have h1 : decide (lo ≤ x) = false := decide_eq_false h
    clear h
    go_enter Try.func77, Try.ntmps77
    go_wp2
    go_ret
    exact ⟨by simp [h1], Drawn0.refl _⟩

set_option maxHeartbeats 8000000 in
set_option maxRecDepth 100000 in
theorem impl_allIn_allIn1_calls (x lo hi : Int) (p q : Addr) (w : World) (hp : w.cell? p = some (.int .i64 lo)) (hq : w.cell? q = some (.int .i64 hi)) :
    Calls Try.prog 137 #[.int .i64 x, .pointer (some p), .pointer (some q)] w fun e w' => e = .returned (.bool (!(decide (lo ≤ x) && decide (x ≤ hi)))) ∧ Drawn0 w w' := by
  go_enter Try.func137, Try.ntmps137
  go_wp2_with (go_at_call 77; refine (impl_allIn_in_calls _ _ _ _).mono ?_; rintro e w' ⟨rfl, ⟨nd, rfl⟩⟩)
  go_ret
  exact ⟨by first | rfl | (simp; done), ⟨_, rfl⟩⟩

set_option maxHeartbeats 8000000 in
set_option maxRecDepth 100000 in
theorem impl_allIn_IndexFunc_calls (g : Nat) (lb : Array Value) (eg : ∀ args w, (callFunc g args).run Try.prog w = .ok (.enter g args) w) (p : Int → Bool)
    (A0 : Option Addr) (c0 : Nat) (l0 : List Int) (w : World) (hr0 : Kd.C (Kd.int .i64) w A0 l0.length l0)
    (hp : ∀ W x, Below w.heap.size w W → Calls Try.prog g (#[.int .i64 x] ++ lb) W fun e w' => e = .returned (.bool (p x)) ∧ Below W.heap.size W w') :
    Calls Try.prog 158 #[.slice A0 l0.length c0, .func (.func g) #[] lb] w fun e w' => (∃ r : Int, e = .returned (.int .i64 r) ∧ (decide (0 ≤ r)) = l0.any p) ∧ Below w.heap.size w w' := by
  have HR0 := Aside0.mk hr0
  have hlen := hr0.2.1
  clear hr0
  go_enter Try.func158, Try.ntmps158
  go_wp2
  go_loopg [5, 8] l0.length (fun gg _ s8 wr => ∃ kk : Nat, kk ≤ l0.length ∧ l0.length - kk ≤ gg ∧ s8 = .int .i64 kk ∧ Aside0 (Below w.heap.size w wr) ∧ Aside0 ((l0.take kk).any p = false))
  case atStart => exact ⟨0, Nat.zero_le _, by omega, rfl, ⟨Below.refl _ _⟩, ⟨by simp⟩⟩
  case round =>
    obtain ⟨kk, hkk, hg, rfl, HB, A⟩ := hrel
    by_cases hlt : kk < l0.length
    · have hltz : (kk : Int) < (l0.length : Int) := by omega
      obtain ⟨ad, ead, hx⟩ := Kd.at_int HR0.out (kk : Int) (by omega) hltz
      cases ead
      replace hx := (HB.out.cell (World.block_lt_of_cell? w _ hx)).trans hx
      rw [Int.toNat_natCast] at hx
      have hnx : (l0.take (kk + 1)).any p = ((l0.take kk).any p || p (rd l0 kk)) := by
        rw [List.take_succ_eq_append_getElem hlt, List.any_append]
        simp [rd, List.getD_eq_getElem?_getD, hlt]
      have hcall : ∀ W, Below w.heap.size w W → _ := fun W hb => hp W (rd l0 kk) hb
      generalize hy : rd l0 kk = y at hx hnx hcall
      have NX := Aside0.mk hnx
      have HY := Aside0.mk hy
      clear hnx hy
      cases hq : p y with
      | true =>
        rw [hq] at hcall
        have HQ := Aside0.mk hq
        clear hq
        go_wp2_with (go_at_fn g; refine (hcall _ ?side).mono ?_; (case side => repeat (first | exact HB.out | apply below_alloc | apply pw_below_drewN | apply below_drew1)); rintro e w' ⟨rfl, hb⟩)
        go_ret
        refine ⟨⟨kk, rfl, ?_⟩, below_step HB.out hb⟩
        have h1 := NX.out
        rw [HQ.out] at h1
        have h2 : l0.any p = true := by
          rw [← List.take_append_drop (kk + 1) l0, List.any_append, h1]; simp
        rw [h2]; simp
      | false =>
        rw [hq] at hcall
        have HQ := Aside0.mk hq
        clear hq
        go_wp2_with (go_at_fn g; refine (hcall _ ?side).mono ?_; (case side => repeat (first | exact HB.out | apply below_alloc | apply pw_below_drewN | apply below_drew1)); rintro e w' ⟨rfl, hb⟩)
        go_roundg (l0.length - (kk + 1))
        case measure => omega
        case rel =>
          refine ⟨kk + 1, by omega, by omega, by go_num, ⟨below_step HB.out hb⟩, ⟨?_⟩⟩
          rw [NX.out, HQ.out, A.out]; rfl
    · have hltz : ¬ (kk : Int) < (l0.length : Int) := by omega
      have : kk = l0.length := by omega
      subst this
      go_wp2
      go_ret
      refine ⟨⟨-1, rfl, ?_⟩, HB.out⟩
      have := A.out
      rw [List.take_length] at this
      rw [this]; rfl

set_option maxHeartbeats 8000000 in
set_option maxRecDepth 100000 in
theorem impl_allIn_ContainsFunc_calls (g : Nat) (lb : Array Value) (eg : ∀ args w, (callFunc g args).run Try.prog w = .ok (.enter g args) w) (p : Int → Bool)
    (A0 : Option Addr) (c0 : Nat) (l0 : List Int) (w : World) (hr0 : Kd.C (Kd.int .i64) w A0 l0.length l0)
    (hp : ∀ W x, Below w.heap.size w W → Calls Try.prog g (#[.int .i64 x] ++ lb) W fun e w' => e = .returned (.bool (p x)) ∧ Below W.heap.size W w') :
    Calls Try.prog 136 #[.slice A0 l0.length c0, .func (.func g) #[] lb] w fun e w' => e = .returned (.bool (l0.any p)) ∧ Below w.heap.size w w' := by
  have HR0 := Aside0.mk hr0
  have hcall := impl_allIn_IndexFunc_calls g lb eg p A0 c0 l0 w hr0 hp
  clear hr0 hp
  have HC := Aside0.mk hcall
  clear hcall
  go_enter Try.func136, Try.ntmps136
  go_wp2_with (go_at_call 158; refine HC.out.mono ?_; rintro e w' ⟨⟨r, rfl, hr⟩, hb⟩)
  go_ret
  exact ⟨by simp [hr], hb⟩

def impl_allIn.f (l0 : List Int) (a1 : Int) (a2 : Int) : Option Bool := some (l0.all fun x => decide (a1 ≤ x) && decide (x ≤ a2))

set_option maxHeartbeats 8000000 in
set_option maxRecDepth 100000 in
theorem impl_allIn.calls (A0 : Option Addr) (c0 : Nat) (l0 : List Int) (a1 : Int) (a2 : Int) (r : Bool) (w : World) (hr0 : Kd.C (Kd.int .i64) w A0 l0.length l0) (hc0 : l0.length ≤ c0) (h : impl_allIn.f l0 a1 a2 = some r) :
    Calls Try.prog 86 #[.slice A0 l0.length c0, .int .i64 a1, .int .i64 a2] w fun e w' => e = .returned (.bool r) ∧ Below w.heap.size w w' := by
  have HR0 := Aside0.mk hr0
  have eg : ∀ args w, (callFunc 137 args).run Try.prog w = .ok (.enter 137 args) w := enters_of Try.func137 (by kernel_rfl) rfl
  have hcon := impl_allIn_ContainsFunc_calls 137 #[.pointer (some ⟨w.heap.size, 0, none⟩), .pointer (some ⟨w.heap.size + 1, 0, none⟩)] eg (fun x => !(decide (a1 ≤ x) && decide (x ≤ a2))) A0 c0 l0
    ((w.alloc (.cells #[.int .i64 a1] 3)).alloc (.cells #[.int .i64 a2] 3)) (Kd.C_alloc (Kd.C_alloc hr0 _) _) (fun W x hb =>
      (impl_allIn_allIn1_calls x a1 a2 _ _ W ((hb.cell (p := ⟨w.heap.size, 0, none⟩) (by simp; omega)).trans (by simp)) ((hb.cell (p := ⟨w.heap.size + 1, 0, none⟩) (by simp)).trans (by simp))).mono fun e w' ⟨he, hw⟩ => ⟨he, hw.below⟩)
  have hR : (l0.any fun x => !(decide (a1 ≤ x) && decide (x ≤ a2))) = !r := by
    have := Option.some.inj h
    rw [← this, List.not_all_eq_any_not]
  rw [hR] at hcon
  have HC := Aside0.mk hcon
  clear hcon hr0 h hR
  go_enter Try.func86, Try.ntmps86
  go_wp2_with (go_at_call 136; refine HC.out.mono ?_; rintro e w' ⟨rfl, hb⟩)
  go_ret
  exact ⟨by simp, below_step ((Below.refl _ w).alloc (Nat.le_refl _) _ |>.alloc (by simp) _) hb⟩

/-! ### impl_Clamp: function 89 -/
def impl_Clamp.f (a0 : Int) (a1 : Int) : Option (Int) := if a1 < 0 then (some 0) else (some (mx (wrap64 (-a1)) (mn a0 a1)))
set_option maxHeartbeats 8000000 in
set_option maxRecDepth 100000 in
theorem impl_Clamp.calls (a0 : Int) (a1 : Int) (r : Int) (w : World) (h : impl_Clamp.f a0 a1 = some r) :
    Calls Try.prog 89 #[.int .i64 a0, .int .i64 a1] w fun e w' => e = .returned (.int .i64 r) ∧ Below w.heap.size w w' := by
  have HB := Aside0.mk (Below.refl w.heap.size w)
  have H : (if a1 < 0 then (some 0) else (some (mx (wrap64 (-a1)) (mn a0 a1)))) = some r := h
  clear h
  by_cases c3 : a1 < 0
  · rw [if_pos c3] at H
    have c3b0 : decide (a1 < 0) = true := decide_eq_true c3
    clear c3
    obtain rfl := Option.some.inj H
    go_enter Try.func89, Try.ntmps89
    go_wp2
    go_ret
    exact ⟨by first | rfl | (simp [errW_none, errW_some] <;> rfl) | (simp [*, errW_none, errW_some] <;> rfl), by repeat (first | (with_reducible first | exact HB.out | apply below_alloc | apply pw_below_drewN | apply below_drew1) | exact HB.out)⟩
  · rw [if_neg c3] at H
    have c3b0 : decide (a1 < 0) = false := decide_eq_false c3
    clear c3
    obtain ⟨ji4, hji4⟩ : ∃ j_ : Int, (mn a0 a1) = j_ := ⟨_, rfl⟩
    replace H : (some (mx (wrap64 (-a1)) (ji4))) = some r := by first | (rw [hji4] at H; exact H) | (simp only [hji4] at H ⊢; exact H)
    have hji4_ : (if a1 < a0 then a1 else a0) = ji4 := hji4
    obtain ⟨ji5, hji5⟩ : ∃ j_ : Int, (mx (wrap64 (-a1)) (ji4)) = j_ := ⟨_, rfl⟩
    replace H : (some ji5) = some r := by first | (rw [hji5] at H; exact H) | (simp only [hji5] at H ⊢; exact H)
    have hji5_ : (if (wrap64 (-a1)) < (ji4) then (ji4) else (wrap64 (-a1))) = ji5 := hji5
    obtain rfl := Option.some.inj H
    go_enter Try.func89, Try.ntmps89
    go_wp2
    go_ret
    exact ⟨by first | rfl | (simp [errW_none, errW_some] <;> rfl) | (simp only [← hji4, ← hji5]; first | rfl | (simp [errW_none, errW_some] <;> rfl)) | (simp [*, errW_none, errW_some] <;> rfl), by repeat (first | (with_reducible first | exact HB.out | apply below_alloc | apply pw_below_drewN | apply below_drew1) | exact HB.out)⟩

/-! ### impl_FloorDiv: function 90 -/
def impl_FloorDiv.j0 : Nat → Int → Int → Bool → Option (Int)
  | 0, _, _, _ => none
  | k + 1, x0, x1, x12 => if x12 = true then (some 0) else (if x1 = 0 then (none) else (if (Int.tmod x0 x1) < 0 then (some (wrap64 ((wrap64 (Int.tdiv x0 x1)) - 1))) else (some (wrap64 (Int.tdiv x0 x1)))))
def impl_FloorDiv.f (k : Nat) (a0 : Int) (a1 : Int) : Option (Int) := if a1 ≤ 0 then (impl_FloorDiv.j0 k a0 a1 true) else ((impl_in.f a0 (-1000000000000) 1000000000000).bind fun t121 => (impl_FloorDiv.j0 k a0 a1 (!t121)))
theorem impl_FloorDiv.mono_l : ∀ k, (∀ y0 y1 y2, LeO (impl_FloorDiv.j0 k y0 y1 y2) (impl_FloorDiv.j0 (k + 1) y0 y1 y2))
  | 0 => fun _ _ _ r h => by simp [impl_FloorDiv.j0] at h
  | k + 1 => by
    have ih0 := impl_FloorDiv.mono_l k
    · intro y0 y1 y2
      unfold impl_FloorDiv.j0
      repeat' first
      | (with_reducible exact ih0 _ _ _)
      | (with_reducible exact LeO.refl _)
      | (with_reducible exact LeO.none _)
      | (with_reducible refine LeO.ite ?_ ?_)
      | (with_reducible refine LeO.bind ?_ (fun _ => ?_))
      | exact ih0 _ _ _
      | exact LeO.none _
      | refine LeO.ite ?_ ?_
      | refine LeO.bind ?_ (fun _ => ?_)
theorem impl_FloorDiv.mono : ∀ a0 a1 k, LeO (impl_FloorDiv.f k a0 a1) (impl_FloorDiv.f (k + 1) a0 a1) := by
  intro a0 a1 k
  have ih0 := impl_FloorDiv.mono_l k
  unfold impl_FloorDiv.f
  repeat' first
      | (with_reducible exact ih0 _ _ _)
      | (with_reducible exact LeO.refl _)
      | (with_reducible exact LeO.none _)
      | (with_reducible refine LeO.ite ?_ ?_)
      | (with_reducible refine LeO.bind ?_ (fun _ => ?_))
      | exact ih0 _ _ _
      | exact LeO.none _
      | refine LeO.ite ?_ ?_
      | refine LeO.bind ?_ (fun _ => ?_)
set_option maxHeartbeats 8000000 in
set_option maxRecDepth 100000 in
theorem impl_FloorDiv.calls (k : Nat) (a0 : Int) (a1 : Int) (r : Int) (w : World) (h : impl_FloorDiv.f k a0 a1 = some r) :
    Calls Try.prog 90 #[.int .i64 a0, .int .i64 a1] w fun e w' => e = .returned (.int .i64 r) ∧ Drawn0 w w' := by
  have H : (if a1 ≤ 0 then (impl_FloorDiv.j0 k a0 a1 true) else ((impl_in.f a0 (-1000000000000) 1000000000000).bind fun t121 => (impl_FloorDiv.j0 k a0 a1 (!t121)))) = some r := h
  clear h
  have HC3 := Aside0.mk H
  clear H
  go_enter Try.func90, Try.ntmps90
  go_upto_region 1 with (fail)
  go_cut [12] (fun v12 wc => ∃ (kq : Nat) (x12_2 : Bool), v12 = .bool x12_2 ∧ Aside0 (impl_FloorDiv.j0 kq a0 a1 x12_2 = some r) ∧ Aside0 (kq ≤ k) ∧ Drawn0 w wc)
  case first =>
    have H := HC3.out
    clear HC3
    by_cases c4 : a1 ≤ 0
    · rw [if_pos c4] at H
      have c4b0 : decide (a1 ≤ 0) = true := decide_eq_true c4
      clear c4
      (first | rw [c4b0] | (simp only [i64_w, i32_w]; rw [c4b0]) | skip)
      have H' := Aside0.mk H
      clear H
      go_wp2
      go_meet
      case rel => exact ⟨_, (true), (by first | rfl | (simp; done) | (simp [*]; done)), H', ⟨by first | omega | exact Nat.le_refl _⟩, by repeat (first | exact Drawn0.refl _ | apply Drawn0.step)⟩
    · rw [if_neg c4] at H
      have c4b0 : decide (a1 ≤ 0) = false := decide_eq_false c4
      clear c4
      (first | rw [c4b0] | (simp only [i64_w, i32_w]; rw [c4b0]) | skip)
      replace H := Option.bind_eq_some_iff.mp H
      obtain ⟨t121, A50, H⟩ := H
      replace H : (impl_FloorDiv.j0 k a0 a1 (!t121)) = some r := H
      have A5 := Aside0.mk A50
      clear A50
      have H' := Aside0.mk H
      clear H
      go_wp2_with (first | (go_at_call 77; (with_reducible refine (impl_in.calls a0 (-1000000000000) 1000000000000 t121 _ A5.out).mono ?_); rintro e w' ⟨rfl, ⟨nd, rfl⟩⟩))
      go_meet
      case rel => exact ⟨_, (!t121), (by first | rfl | (simp; done) | (simp [*]; done)), H', ⟨by first | omega | exact Nat.le_refl _⟩, by repeat (first | exact Drawn0.refl _ | apply Drawn0.step)⟩
  case rest =>
    clear HC3
    try clear p2
    try clear c4
    try clear c4b0
    obtain ⟨kq, x12_2, rfl, HA, HJ2, ⟨mc2, rfl⟩⟩ := hcut
    cases kq with
    | zero => exact absurd HA.out (by simp [impl_FloorDiv.j0])
    | succ kj2 =>
      have H := HA.out
      clear HA
      simp only [impl_FloorDiv.j0] at H
      by_cases c6 : x12_2 = true
      · subst c6
        have H1 : (some 0) = some r := by rw [if_pos rfl] at H; exact H
        clear H
        have H := H1
        clear H1
        obtain rfl := Option.some.inj H
        go_wp2
        go_ret
        exact ⟨by first | rfl | (simp; done) | (simp [*]; done), by repeat (first | exact Drawn0.refl _ | apply Drawn0.step)⟩
      · replace c6 := Bool.eq_false_iff.mpr c6
        subst c6
        have H1 : (if a1 = 0 then (none) else (if (Int.tmod a0 a1) < 0 then (some (wrap64 ((wrap64 (Int.tdiv a0 a1)) - 1))) else (some (wrap64 (Int.tdiv a0 a1))))) = some r := by rw [if_neg (show ¬ (false = true) by decide)] at H; exact H
        clear H
        have H := H1
        clear H1
        by_cases c7 : a1 = 0
        · rw [if_pos c7] at H
          exact absurd H (by simp)
        · rw [if_neg c7] at H
          have c7b0 : (a1 == 0) = false := beq_eq_false_iff_ne.mpr c7
          have c7b1 : (a1 != 0) = true := bne_iff_ne.mpr c7
          by_cases c8 : (Int.tmod a0 a1) < 0
          · rw [if_pos c8] at H
            have c8b0 : decide ((Int.tmod a0 a1) < 0) = true := decide_eq_true c8
            clear c8
            obtain rfl := Option.some.inj H
            go_wp2
            go_ret
            exact ⟨by first | rfl | (simp; done) | (simp [*]; done), by repeat (first | exact Drawn0.refl _ | apply Drawn0.step)⟩
          · rw [if_neg c8] at H
            have c8b0 : decide ((Int.tmod a0 a1) < 0) = false := decide_eq_false c8
            clear c8
            obtain rfl := Option.some.inj H
            go_wp2
            go_ret
            exact ⟨by first | rfl | (simp; done) | (simp [*]; done), by repeat (first | exact Drawn0.refl _ | apply Drawn0.step)⟩

/-! ### impl_Mix: function 31, by hand -/
set_option maxHeartbeats 8000000 in
set_option maxRecDepth 100000 in
theorem impl_Mix_one_calls (A : Option Addr) (c : Nat) (x : List Int) (n : Int) (p : Addr) (w : World) (hr : Kd.C (Kd.int .i64) w A x.length x) (hc : x.length ≤ c) (hp : w.cell? p = some (.int .i64 n)) :
    Calls Try.prog 88 #[.slice A x.length c, .pointer (some p)] w fun e w' => e = .returned (.bool (!(decide ((x.length : Int) = n) && x.all fun x => decide (-127 ≤ x) && decide (x ≤ 127)))) ∧ Below w.heap.size w w' := by
  have hall := impl_allIn.calls A c x (-127) 127 _ w hr hc rfl
  have HC := Aside0.mk hall
  clear hall
  by_cases h : (x.length : Int) = n
  · have h1 : decide ((x.length : Int) = n) = true := decide_eq_true h
    subst h
    go_enter Try.func88, Try.ntmps88
    go_wp2_with (go_at_call 86; refine HC.out.mono ?_; rintro e w' ⟨rfl, hb⟩)
    go_ret
    exact ⟨by simp, hb⟩
  · have h1 : decide ((x.length : Int) = n) = false := decide_eq_false h
    have h2 : ((x.length : Int) != n) = true := by simpa using h
    go_enter Try.func88, Try.ntmps88
    go_wp2
    go_ret
    exact ⟨by simp [h], Below.refl _ _⟩

set_option maxHeartbeats 8000000 in
set_option maxRecDepth 100000 in
theorem impl_Mix_IndexFunc_calls (g : Nat) (lb : Array Value) (eg : ∀ args w, (callFunc g args).run Try.prog w = .ok (.enter g args) w) (p : List Int → Bool)
    (A0 : Option Addr) (c0 : Nat) (l0 : List (List Int)) (w : World) (hr0 : Kd.C (Kd.slice 3 (Kd.int .i64)) w A0 l0.length l0)
    (hp : ∀ W A c x, Below w.heap.size w W → Kd.C (Kd.int .i64) W A x.length x → x.length ≤ c → Calls Try.prog g (#[.slice A x.length c] ++ lb) W fun e w' => e = .returned (.bool (p x)) ∧ Below W.heap.size W w') :
    Calls Try.prog 138 #[.slice A0 l0.length c0, .func (.func g) #[] lb] w fun e w' => (∃ r : Int, e = .returned (.int .i64 r) ∧ (decide (0 ≤ r)) = l0.any p) ∧ Below w.heap.size w w' := by
  have HR0 := Aside0.mk hr0
  have hlen := hr0.2.1
  clear hr0
  go_enter Try.func138, Try.ntmps138
  go_wp2
  go_loopg [5, 8] l0.length (fun gg _ s8 wr => ∃ kk : Nat, kk ≤ l0.length ∧ l0.length - kk ≤ gg ∧ s8 = .int .i64 kk ∧ Aside0 (Below w.heap.size w wr) ∧ Aside0 ((l0.take kk).any p = false))
  case atStart => exact ⟨0, Nat.zero_le _, by omega, rfl, ⟨Below.refl _ _⟩, ⟨by simp⟩⟩
  case round =>
    obtain ⟨kk, hkk, hg, rfl, HB, A⟩ := hrel
    by_cases hlt : kk < l0.length
    · have hltz : (kk : Int) < (l0.length : Int) := by omega
      obtain ⟨ad, ce, ead, hcl, hK, hcc⟩ := Kd.C_get HR0.out ([] : List Int) (kk : Int) (by omega) hltz
      cases ead
      obtain ⟨A1, c1, rfl, hl1, hC1⟩ := hK
      have hx0 := hcc 0 _ rfl
      have hx : w.cell? (ad.add kk) = some (.slice A1 (l0.getD (kk : Int).toNat []).length c1) := by
        have hq : w.cell? (ad.add ((kk : Int).toNat * 1 + 0)) = some (.slice A1 (l0.getD (kk : Int).toNat []).length c1) := hx0
        rwa [Int.toNat_natCast, Nat.mul_one, Nat.add_zero] at hq
      clear hx0 hcc hcl
      have hnx : (l0.take (kk + 1)).any p = ((l0.take kk).any p || p (l0.getD (kk : Int).toNat [])) := by
        rw [List.take_succ_eq_append_getElem hlt, List.any_append]
        simp [List.getD_eq_getElem?_getD, hlt]
      replace hx := (HB.out.cell (World.block_lt_of_cell? w _ hx)).trans hx
      have HC1 := Aside0.mk hC1
      clear hC1
      generalize l0.getD (kk : Int).toNat [] = y at hx hnx HC1 hl1
      have hcall : ∀ W, Below w.heap.size w W → _ := fun W hb => hp W A1 c1 y hb (Kd.C_below HC1.out hb) hl1
      have NX := Aside0.mk hnx
      clear hnx
      cases hq : p y with
      | true =>
        rw [hq] at hcall
        have HQ := Aside0.mk hq
        clear hq
        go_wp2_with (go_at_fn g; refine (hcall _ ?side).mono ?_; (case side => repeat (first | exact HB.out | apply below_alloc | apply pw_below_drewN | apply below_drew1)); rintro e w' ⟨rfl, hb⟩)
        go_ret
        refine ⟨⟨kk, rfl, ?_⟩, below_step HB.out hb⟩
        have h1 := NX.out
        rw [HQ.out] at h1
        have h2 : l0.any p = true := by
          rw [← List.take_append_drop (kk + 1) l0, List.any_append, h1]; simp
        rw [h2]; simp
      | false =>
        rw [hq] at hcall
        have HQ := Aside0.mk hq
        clear hq
        go_wp2_with (go_at_fn g; refine (hcall _ ?side).mono ?_; (case side => repeat (first | exact HB.out | apply below_alloc | apply pw_below_drewN | apply below_drew1)); rintro e w' ⟨rfl, hb⟩)
        go_roundg (l0.length - (kk + 1))
        case measure => omega
        case rel =>
          refine ⟨kk + 1, by omega, by omega, by go_num, ⟨below_step HB.out hb⟩, ⟨?_⟩⟩
          rw [NX.out, HQ.out, A.out]; rfl
    · have hltz : ¬ (kk : Int) < (l0.length : Int) := by omega
      have : kk = l0.length := by omega
      subst this
      go_wp2
      go_ret
      refine ⟨⟨-1, rfl, ?_⟩, HB.out⟩
      have := A.out
      rw [List.take_length] at this
      rw [this]; rfl

set_option maxHeartbeats 8000000 in
set_option maxRecDepth 100000 in
theorem impl_Mix_ContainsFunc_calls (g : Nat) (lb : Array Value) (eg : ∀ args w, (callFunc g args).run Try.prog w = .ok (.enter g args) w) (p : List Int → Bool)
    (A0 : Option Addr) (c0 : Nat) (l0 : List (List Int)) (w : World) (hr0 : Kd.C (Kd.slice 3 (Kd.int .i64)) w A0 l0.length l0)
    (hp : ∀ W A c x, Below w.heap.size w W → Kd.C (Kd.int .i64) W A x.length x → x.length ≤ c → Calls Try.prog g (#[.slice A x.length c] ++ lb) W fun e w' => e = .returned (.bool (p x)) ∧ Below W.heap.size W w') :
    Calls Try.prog 87 #[.slice A0 l0.length c0, .func (.func g) #[] lb] w fun e w' => e = .returned (.bool (l0.any p)) ∧ Below w.heap.size w w' := by
  have hcall := impl_Mix_IndexFunc_calls g lb eg p A0 c0 l0 w hr0 hp
  clear hr0 hp
  have HC := Aside0.mk hcall
  clear hcall
  go_enter Try.func87, Try.ntmps87
  go_wp2_with (go_at_call 138; refine HC.out.mono ?_; rintro e w' ⟨⟨r, rfl, hr⟩, hb⟩)
  go_ret
  exact ⟨by simp [hr], hb⟩


def impl_Mix.sum (ss : List Int) (vs : List (List Int)) (k : Int) : Nat → Int
  | 0 => 0
  | n + 1 => wrap64 (impl_Mix.sum ss vs k n + wrap64 (rd ss (n : Int) * rd (vs.getD n []) k))
def impl_Mix.rows (ss : List Int) (vs : List (List Int)) : Nat → Option (List Int)
  | 0 => some []
  | k + 1 => (impl_Mix.rows ss vs k).bind fun l => (impl_FloorDiv.f 2 (impl_Mix.sum ss vs (k : Int) ss.length) 256).bind fun t => (impl_Clamp.f t 127).bind fun t => some (l ++ [t])
def impl_Mix.one (n : Nat) (x : List Int) : Bool := decide ((x.length : Int) = (n : Int)) && x.all fun x => decide (-127 ≤ x) && decide (x ≤ 127)
def impl_Mix.ok (ss : List Int) (vs : List (List Int)) : Bool :=
  decide (ss.length = vs.length) && decide (1 ≤ ss.length) && decide (ss.length ≤ 32) && (ss.all fun x => decide (0 ≤ x) && decide (x ≤ 256)) && decide (1 ≤ (vs.getD 0 []).length) && decide ((vs.getD 0 []).length ≤ 8) && vs.all (impl_Mix.one (vs.getD 0 []).length)
def impl_Mix.f (l0 : List Int) (l1 : List (List Int)) : Option (List Int × Bool) := if impl_Mix.ok l0 l1 then (impl_Mix.rows l0 l1 (l1.getD 0 []).length).bind fun l => some (l, true) else some ([], false)
theorem impl_Mix.rows_le (ss : List Int) (vs : List (List Int)) (m : Nat) : ∀ n r, impl_Mix.rows ss vs (m + n) = some r → ∃ l, impl_Mix.rows ss vs m = some l
  | 0, r, h => ⟨r, h⟩
  | n + 1, r, h => by
    obtain ⟨l, h1, _⟩ := Option.bind_eq_some_iff.1 (show (impl_Mix.rows ss vs (m + n)).bind _ = some r from h)
    exact impl_Mix.rows_le ss vs m n l h1
theorem impl_Mix.in_yes (x a b : Int) (h1 : a ≤ x) (h2 : x ≤ b) : impl_in.f x a b = some true := by unfold impl_in.f; rw [if_pos h1, decide_eq_true h2]
theorem impl_Mix.in_no (x a b : Int) (h : ¬ (a ≤ x ∧ x ≤ b)) : impl_in.f x a b = some false := by
  unfold impl_in.f
  by_cases h1 : x ≥ a
  · rw [if_pos h1, decide_eq_false (fun h2 => h ⟨h1, h2⟩)]
  · rw [if_neg h1]
set_option maxHeartbeats 8000000 in
set_option maxRecDepth 100000 in
open Go.Proofs.Ytlpginalgdbopaa.XLaw in
theorem impl_Mix.no (A0 : Option Addr) (c0 : Nat) (l0 : List Int) (A1 : Option Addr) (c1 : Nat) (l1 : List (List Int)) (w : World) (hr0 : Kd.C (Kd.int .i64) w A0 l0.length l0) (hc0 : l0.length ≤ c0) (hr1 : Kd.C (Kd.slice 3 (Kd.int .i64)) w A1 l1.length l1) (hc1 : l1.length ≤ c1) (hok : impl_Mix.ok l0 l1 = false) :
    Calls Try.prog 31 #[.slice A0 l0.length c0, .slice A1 l1.length c1] w fun e w' => e = .returned (.tuple #[.slice none 0 0, .bool false]) ∧ Below w.heap.size w w' := by
  have EG := Aside0.mk (show ∀ args w, (callFunc 88 args).run Try.prog w = .ok (.enter 88 args) w from enters_of Try.func88 (by kernel_rfl) rfl)
  have HR0 := Aside0.mk hr0
  have HR1 := Aside0.mk hr1
  have HC0 := Aside0.mk hc0
  have HC1 := Aside0.mk hc1
  have HOK := Aside0.mk hok
  clear hr0 hr1 hc0 hok hc1
  by_cases h1 : l0.length = l1.length
  · have e1 : ((l0.length : Int) != (l1.length : Int)) = false := bne_eq_false_iff_eq.mpr (by omega)
    have H1 := Aside0.mk h1
    clear h1
    by_cases h2 : (1 : Int) ≤ l0.length ∧ (l0.length : Int) ≤ 32
    · have HI := Aside0.mk (impl_Mix.in_yes _ _ _ h2.1 h2.2)
      have HE := Aside0.mk h2
      cases h3 : (l0.all fun x => decide (0 ≤ x) && decide (x ≤ 256)) with
      | false =>
        have HA := Aside0.mk (show impl_allIn.f l0 0 256 = some false from congrArg some h3)
        clear h2 h3 HOK
        have HN := Now.start w
        go_enter Try.func31, Try.ntmps31
        go_wp2_with (fail)
        refine (impl_in.calls _ _ _ _ _ HI.out).mono ?_
        rintro e w1 ⟨rfl, hb⟩
        (first | (replace hb := Drawn0.below hb) | skip)
        replace HN := Now.below (by repeat (first | exact HN | (with_reducible first | apply Now.alloc | apply Now.drewN | apply Now.drew))) hb
        clear hb
        go_wp2_with (fail)
        refine (impl_allIn.calls _ _ _ _ _ _ _ ?q0 HC0.out HA.out).mono ?_
        case q0 => exact Kd.C_below HR0.out (Now.b (by repeat (first | exact HN | (with_reducible first | apply Now.alloc | apply Now.drewN | apply Now.drew))))
        rintro e w2 ⟨rfl, hb⟩
        (first | (replace hb := Drawn0.below hb) | skip)
        replace HN := Now.below (by repeat (first | exact HN | (with_reducible first | apply Now.alloc | apply Now.drewN | apply Now.drew))) hb
        clear hb
        go_wp2
        go_ret2
        exact ⟨rfl, Now.b (by repeat (first | exact HN | (with_reducible first | apply Now.alloc | apply Now.drewN | apply Now.drew)))⟩
      | true =>
        have HA := Aside0.mk (show impl_allIn.f l0 0 256 = some true from congrArg some h3)
        have H3 := Aside0.mk h3
        obtain ⟨ad, ce, ead, hcl, hK, hcc⟩ := Kd.C_get HR1.out ([] : List Int) 0 (by omega) (by have := H1.out; omega)
        subst ead
        obtain ⟨A2, c2, rfl, hl2, hC2⟩ := hK
        have hx0 : w.cell? ad = some (.slice A2 (l1.getD 0 []).length c2) := by
          have hq := hcc 0 _ rfl
          simpa [Addr.add] using hq
        have hp3 : 0 < l1.length := by have := H1.out; omega
        clear hcc hcl h2 h3 hC2 hl2
        by_cases h4 : (1 : Int) ≤ (l1.getD 0 []).length ∧ ((l1.getD 0 []).length : Int) ≤ 8
        · have HI4 := Aside0.mk (impl_Mix.in_yes _ _ _ h4.1 h4.2)
          have h5 : (l1.all (impl_Mix.one (l1.getD 0 []).length)) = false := by
            have hok := HOK.out
            unfold impl_Mix.ok at hok
            rw [H3.out, decide_eq_true H1.out, decide_eq_true (show 1 ≤ l0.length by have := HE.out; omega), decide_eq_true (show l0.length ≤ 32 by have := HE.out; omega), decide_eq_true (show 1 ≤ (l1.getD 0 []).length by omega), decide_eq_true (show (l1.getD 0 []).length ≤ 8 by omega)] at hok
            simpa using hok
          have H5 := Aside0.mk (show (l1.any fun x => !(impl_Mix.one (l1.getD 0 []).length x)) = true by rw [← List.not_all_eq_any_not, h5]; rfl)
          clear h5 h4 HOK
          generalize hn1 : (l1.getD 0 []).length = n1 at hx0 HI4 H5
          clear hn1
          have hx1 : ∀ w', Below w.heap.size w w' → w'.cell? ad = some (.slice A2 n1 c2) := fun w' hb => (hb.cell (World.block_lt_of_cell? w _ hx0)).trans hx0
          have HX := Aside0.mk hx1
          clear hx0 hx1
          have HN := Now.start w
          go_enter Try.func31, Try.ntmps31
          go_wp2_with (fail)
          refine (impl_in.calls _ _ _ _ _ HI.out).mono ?_
          rintro e w1 ⟨rfl, hb⟩
          (first | (replace hb := Drawn0.below hb) | skip)
          replace HN := Now.below (by repeat (first | exact HN | (with_reducible first | apply Now.alloc | apply Now.drewN | apply Now.drew))) hb
          clear hb
          go_wp2_with (fail)
          refine (impl_allIn.calls _ _ _ _ _ _ _ ?q0 HC0.out HA.out).mono ?_
          case q0 => exact Kd.C_below HR0.out (Now.b (by repeat (first | exact HN | (with_reducible first | apply Now.alloc | apply Now.drewN | apply Now.drew))))
          rintro e w2 ⟨rfl, hb⟩
          (first | (replace hb := Drawn0.below hb) | skip)
          replace HN := Now.below (by repeat (first | exact HN | (with_reducible first | apply Now.alloc | apply Now.drewN | apply Now.drew))) hb
          clear hb
          have hx := HX.out _ (Now.b HN)
          go_wp2_with (fail)
          refine (impl_in.calls _ _ _ _ _ HI4.out).mono ?_
          rintro e w3 ⟨rfl, hb⟩
          (first | (replace hb := Drawn0.below hb) | skip)
          replace HN := Now.below (by repeat (first | exact HN | (with_reducible first | apply Now.alloc | apply Now.drewN | apply Now.drew))) hb
          have hcl : w3.cell? ⟨w2.heap.size, 0, none⟩ = some (.int .i64 (n1 : Int)) := (hb.cell (p := ⟨w2.heap.size, 0, none⟩) (by simp)).trans (by simp)
          clear hb
          have HCN := Aside0.mk (show ∀ W, Below w.heap.size w W → W.cell? ⟨w2.heap.size, 0, none⟩ = some (.int .i64 (n1 : Int)) → Calls Try.prog 87 #[.slice (some ad) l1.length c1, .func (.func 88) #[] #[.pointer (some ⟨w2.heap.size, 0, none⟩)]] W fun e w' => e = .returned (.bool true) ∧ Below W.heap.size W w' from fun W hW hc => by
            have := impl_Mix_ContainsFunc_calls 88 #[.pointer (some ⟨w2.heap.size, 0, none⟩)] EG.out (fun x => !(impl_Mix.one n1 x)) (some ad) c1 l1 W (Kd.C_below HR1.out hW) (fun W2 A c x hb hx hl => impl_Mix_one_calls A c x (n1 : Int) _ W2 hx hl ((hb.cell (World.block_lt_of_cell? W _ hc)).trans hc))
            rwa [show (l1.any fun x => !(impl_Mix.one n1 x)) = true from H5.out] at this)
          go_wp2_with (fail)
          refine (HCN.out _ (Now.b (by repeat (first | exact HN | (with_reducible first | apply Now.alloc | apply Now.drewN | apply Now.drew)))) (by simpa using hcl)).mono ?_
          rintro e w4 ⟨rfl, hb⟩
          (first | (replace hb := Drawn0.below hb) | skip)
          replace HN := Now.below (by repeat (first | exact HN | (with_reducible first | apply Now.alloc | apply Now.drewN | apply Now.drew))) hb
          have hcl2 : w4.cell? ⟨w2.heap.size, 0, none⟩ = some (.int .i64 (n1 : Int)) := (hb.cell (World.block_lt_of_cell? w3 _ hcl)).trans hcl
          clear hb
          clear HCN hcl
          go_wp2
          go_ret2
          exact ⟨rfl, Now.b (by repeat (first | exact HN | (with_reducible first | apply Now.alloc | apply Now.drewN | apply Now.drew)))⟩
        · have HI4 := Aside0.mk (impl_Mix.in_no _ _ _ h4)
          clear h4 HOK
          generalize (l1.getD 0 []).length = n1 at hx0 HI4
          have hx1 : ∀ w', Below w.heap.size w w' → w'.cell? ad = some (.slice A2 n1 c2) := fun w' hb => (hb.cell (World.block_lt_of_cell? w _ hx0)).trans hx0
          have HX := Aside0.mk hx1
          clear hx0 hx1
          have HN := Now.start w
          go_enter Try.func31, Try.ntmps31
          go_wp2_with (fail)
          refine (impl_in.calls _ _ _ _ _ HI.out).mono ?_
          rintro e w1 ⟨rfl, hb⟩
          (first | (replace hb := Drawn0.below hb) | skip)
          replace HN := Now.below (by repeat (first | exact HN | (with_reducible first | apply Now.alloc | apply Now.drewN | apply Now.drew))) hb
          clear hb
          go_wp2_with (fail)
          refine (impl_allIn.calls _ _ _ _ _ _ _ ?q0 HC0.out HA.out).mono ?_
          case q0 => exact Kd.C_below HR0.out (Now.b (by repeat (first | exact HN | (with_reducible first | apply Now.alloc | apply Now.drewN | apply Now.drew))))
          rintro e w2 ⟨rfl, hb⟩
          (first | (replace hb := Drawn0.below hb) | skip)
          replace HN := Now.below (by repeat (first | exact HN | (with_reducible first | apply Now.alloc | apply Now.drewN | apply Now.drew))) hb
          clear hb
          have hx := HX.out _ (Now.b HN)
          go_wp2_with (fail)
          refine (impl_in.calls _ _ _ _ _ HI4.out).mono ?_
          rintro e w3 ⟨rfl, hb⟩
          (first | (replace hb := Drawn0.below hb) | skip)
          replace HN := Now.below (by repeat (first | exact HN | (with_reducible first | apply Now.alloc | apply Now.drewN | apply Now.drew))) hb
          clear hb
          go_wp2
          go_ret2
          exact ⟨rfl, Now.b (by repeat (first | exact HN | (with_reducible first | apply Now.alloc | apply Now.drewN | apply Now.drew)))⟩
    · have HI := Aside0.mk (impl_Mix.in_no _ _ _ h2)
      clear h2 HOK
      have HN := Now.start w
      go_enter Try.func31, Try.ntmps31
      go_wp2_with (fail)
      refine (impl_in.calls _ _ _ _ _ HI.out).mono ?_
      rintro e w1 ⟨rfl, hb⟩
      (first | (replace hb := Drawn0.below hb) | skip)
      replace HN := Now.below (by repeat (first | exact HN | (with_reducible first | apply Now.alloc | apply Now.drewN | apply Now.drew))) hb
      clear hb
      go_wp2
      go_ret2
      exact ⟨rfl, Now.b (by repeat (first | exact HN | (with_reducible first | apply Now.alloc | apply Now.drewN | apply Now.drew)))⟩
  · have e1 : ((l0.length : Int) != (l1.length : Int)) = true := bne_iff_ne.mpr (by omega)
    clear h1 HOK
    have HN := Now.start w
    go_enter Try.func31, Try.ntmps31
    go_wp2
    go_ret2
    exact ⟨rfl, Now.b (by repeat (first | exact HN | (with_reducible first | apply Now.alloc | apply Now.drewN | apply Now.drew)))⟩

set_option maxHeartbeats 8000000 in
set_option maxRecDepth 100000 in
open Go.Proofs.Ytlpginalgdbopaa.XLaw in
theorem impl_Mix.yes (A0 : Option Addr) (c0 : Nat) (l0 : List Int) (A1 : Option Addr) (c1 : Nat) (l1 : List (List Int)) (r : List Int) (w : World) (hr0 : Kd.C (Kd.int .i64) w A0 l0.length l0) (hc0 : l0.length ≤ c0) (hr1 : Kd.C (Kd.slice 3 (Kd.int .i64)) w A1 l1.length l1) (hc1 : l1.length ≤ c1) (hok : impl_Mix.ok l0 l1 = true) (hrow : impl_Mix.rows l0 l1 (l1.getD 0 []).length = some r) :
    Calls Try.prog 31 #[.slice A0 l0.length c0, .slice A1 l1.length c1] w fun e w' => ∃ v0_ : Value, e = .returned (.tuple #[v0_, .bool true]) ∧ Kd.R (Kd.int .i64) 3 w' w.heap.size (fun _ => True) v0_ r ∧ Below w.heap.size w w' := by
  have EG := Aside0.mk (show ∀ args w, (callFunc 88 args).run Try.prog w = .ok (.enter 88 args) w from enters_of Try.func88 (by kernel_rfl) rfl)
  have HR0 := Aside0.mk hr0
  have HR1 := Aside0.mk hr1
  have HC0 := Aside0.mk hc0
  have HC1 := Aside0.mk hc1
  have HROW := Aside0.mk hrow
  clear hr0 hr1 hc0 hc1 hrow
  unfold impl_Mix.ok at hok
  simp only [Bool.and_eq_true, decide_eq_true_eq] at hok
  obtain ⟨⟨⟨⟨⟨⟨h1, h2⟩, h2'⟩, h3⟩, h4⟩, h4'⟩, h5⟩ := hok
  have e1 : ((l0.length : Int) != (l1.length : Int)) = false := bne_eq_false_iff_eq.mpr (by omega)
  have H1 := Aside0.mk h1
  have HI := Aside0.mk (impl_Mix.in_yes (l0.length : Int) 1 32 (by omega) (by omega))
  have HA := Aside0.mk (show impl_allIn.f l0 0 256 = some true from congrArg some h3)
  have HI4 := Aside0.mk (impl_Mix.in_yes ((l1.getD 0 []).length : Int) 1 8 (by omega) (by omega))
  obtain ⟨ad, ce, ead, hcl, hK, hcc⟩ := Kd.C_get HR1.out ([] : List Int) 0 (by omega) (by omega)
  subst ead
  obtain ⟨A2, c2, rfl, hl2, hC2⟩ := hK
  have hx0 : w.cell? ad = some (.slice A2 (l1.getD 0 []).length c2) := by
    have hq := hcc 0 _ rfl
    simpa [Addr.add] using hq
  have hp3 : 0 < l1.length := by omega
  have HL := Aside0.mk (show ∀ x, x ∈ l1 → x.length = (l1.getD 0 []).length from fun x hx => by
    have := List.all_eq_true.1 h5 x hx
    unfold impl_Mix.one at this
    simp only [Bool.and_eq_true, decide_eq_true_eq] at this
    omega)
  have H5 := Aside0.mk (show (l1.any fun x => !(impl_Mix.one (l1.getD 0 []).length x)) = false by rw [← List.not_all_eq_any_not, h5]; rfl)
  have HLN := Aside0.mk h4'
  have HL0 := Aside0.mk h2'
  clear h1 h2 h2' h3 h4 h4' h5 hcc hcl hC2 hl2
  generalize hn1 : (l1.getD 0 []).length = n1 at hx0 HI4 H5 HL HROW HLN
  clear hn1
  have hx1 : ∀ w', Below w.heap.size w w' → w'.cell? ad = some (.slice A2 n1 c2) := fun w' hb => (hb.cell (World.block_lt_of_cell? w _ hx0)).trans hx0
  have HX := Aside0.mk hx1
  clear hx0 hx1
  have HN := Now.start w
  go_enter Try.func31, Try.ntmps31
  go_wp2_with (fail)
  refine (impl_in.calls _ _ _ _ _ HI.out).mono ?_
  rintro e w1 ⟨rfl, hb⟩
  (first | (replace hb := Drawn0.below hb) | skip)
  replace HN := Now.below (by repeat (first | exact HN | (with_reducible first | apply Now.alloc | apply Now.drewN | apply Now.drew))) hb
  clear hb
  go_wp2_with (fail)
  refine (impl_allIn.calls _ _ _ _ _ _ _ ?q0 HC0.out HA.out).mono ?_
  case q0 => exact Kd.C_below HR0.out (Now.b (by repeat (first | exact HN | (with_reducible first | apply Now.alloc | apply Now.drewN | apply Now.drew))))
  rintro e w2 ⟨rfl, hb⟩
  (first | (replace hb := Drawn0.below hb) | skip)
  replace HN := Now.below (by repeat (first | exact HN | (with_reducible first | apply Now.alloc | apply Now.drewN | apply Now.drew))) hb
  clear hb
  have hx := HX.out _ (Now.b HN)
  go_wp2_with (fail)
  refine (impl_in.calls _ _ _ _ _ HI4.out).mono ?_
  rintro e w3 ⟨rfl, hb⟩
  (first | (replace hb := Drawn0.below hb) | skip)
  replace HN := Now.below (by repeat (first | exact HN | (with_reducible first | apply Now.alloc | apply Now.drewN | apply Now.drew))) hb
  have hcl : w3.cell? ⟨w2.heap.size, 0, none⟩ = some (.int .i64 (n1 : Int)) := (hb.cell (p := ⟨w2.heap.size, 0, none⟩) (by simp)).trans (by simp)
  clear hb
  have HCN := Aside0.mk (show ∀ W, Below w.heap.size w W → W.cell? ⟨w2.heap.size, 0, none⟩ = some (.int .i64 (n1 : Int)) → Calls Try.prog 87 #[.slice (some ad) l1.length c1, .func (.func 88) #[] #[.pointer (some ⟨w2.heap.size, 0, none⟩)]] W fun e w' => e = .returned (.bool false) ∧ Below W.heap.size W w' from fun W hW hc => by
    have := impl_Mix_ContainsFunc_calls 88 #[.pointer (some ⟨w2.heap.size, 0, none⟩)] EG.out (fun x => !(impl_Mix.one n1 x)) (some ad) c1 l1 W (Kd.C_below HR1.out hW) (fun W2 A c x hb hx hl => impl_Mix_one_calls A c x (n1 : Int) _ W2 hx hl ((hb.cell (World.block_lt_of_cell? W _ hc)).trans hc))
    rwa [show (l1.any fun x => !(impl_Mix.one n1 x)) = false from H5.out] at this)
  go_wp2_with (fail)
  refine (HCN.out _ (Now.b (by repeat (first | exact HN | (with_reducible first | apply Now.alloc | apply Now.drewN | apply Now.drew)))) (by simpa using hcl)).mono ?_
  rintro e w4 ⟨rfl, hb⟩
  (first | (replace hb := Drawn0.below hb) | skip)
  replace HN := Now.below (by repeat (first | exact HN | (with_reducible first | apply Now.alloc | apply Now.drewN | apply Now.drew))) hb
  have hcl2 : w4.cell? ⟨w2.heap.size, 0, none⟩ = some (.int .i64 (n1 : Int)) := (hb.cell (World.block_lt_of_cell? w3 _ hcl)).trans hcl
  clear hb
  clear HCN hcl
  go_wp2_with ((with_reducible refine gate_dst (N := 40) rfl ?_); (try (refine gate_guard (by rfl) ?_; dsimp only)); refine Kd.R_lit (Kd.int .i64) w.heap.size 3 ?hg (N := 40) ?hd (xs := ([] : List Int)) (inner := []) (ok := fun _ => True) (okp := fun _ => True) ?hr ?hp (fun _ hk => hk) trivial (Now.b (by repeat (first | exact HN | (with_reducible first | apply Now.alloc | apply Now.drewN | apply Now.drew)))) (Now.size (by repeat (first | exact HN | (with_reducible first | apply Now.alloc | apply Now.drewN | apply Now.drew)))) (by simp) ?_; (case hd => rfl); (case hg => rfl); (case hr => first | (go_simp; done) | (go_simp; rfl)); (case hp => exact (Reps.none _ _)); intro v5 w5 ho hb hg_ hnew_; have hcl3 : w5.cell? ⟨w2.heap.size, 0, none⟩ = some (.int .i64 (n1 : Int)) := (World.cell?_of_block (hg_.block _ (World.block_lt_of_cell? _ _ hcl2) (by simp))).trans hcl2; have HO := Aside0.mk ho; have HB := Aside0.mk hb; clear ho hb hg_ hnew_ hcl2 HN)
  go_loopg [7, 42] n1 (fun gg s7 s42 wr => ∃ (kk : Nat) (l : List Int), kk ≤ n1 ∧ n1 - kk ≤ gg ∧ s42 = .int .i64 kk ∧ Aside0 (impl_Mix.rows l0 l1 kk = some l) ∧ Aside0 (l.length = kk) ∧ Aside0 (Kd.R (Kd.int .i64) 3 wr w.heap.size (fun _ => True) s7 l) ∧ Aside0 (Below w.heap.size w wr))
  case atStart => exact ⟨0, [], Nat.zero_le _, by omega, rfl, ⟨rfl⟩, ⟨rfl⟩, HO, HB⟩
  case round =>
    clear HO HB
    obtain ⟨kk, l, hkk, hg, rfl, HRW, HLL, HO, HB⟩ := hrel
    by_cases hlt : kk < n1
    · obtain ⟨l2, hl2⟩ := impl_Mix.rows_le l0 l1 (kk + 1) (n1 - (kk + 1)) r (by rw [show kk + 1 + (n1 - (kk + 1)) = n1 by omega]; exact HROW.out)
      have hl3 := hl2
      unfold impl_Mix.rows at hl3
      rw [HRW.out, Option.bind_some] at hl3
      obtain ⟨t1, ht1, hl3⟩ := Option.bind_eq_some_iff.1 hl3
      obtain ⟨t2, ht2, hl3⟩ := Option.bind_eq_some_iff.1 hl3
      obtain rfl := Option.some.inj hl3
      have HT1 := Aside0.mk ht1
      have HT2 := Aside0.mk ht2
      have HRW2 := Aside0.mk hl2
      clear ht1 ht2 hl2 hl3 hcl3
      go_wp2
      go_loopg [9, 47] l0.length (fun gg s9 s47 w8 => ∃ j : Nat, j ≤ l0.length ∧ l0.length - j ≤ gg ∧ s47 = .int .i64 j ∧ s9 = .int .i64 (impl_Mix.sum l0 l1 (kk : Int) j) ∧ Aside0 (Kd.R (Kd.int .i64) 3 w8 w.heap.size (fun _ => True) u7 l) ∧ Aside0 (Below w.heap.size w w8))
      case atStart => exact ⟨0, Nat.zero_le _, by omega, rfl, rfl, HO, HB⟩
      case round =>
        clear HO HB
        obtain ⟨j, hj, hg2, rfl, rfl, HO, HB⟩ := hrel
        by_cases hjl : j < l0.length
        · have hj1 : j < l1.length := by have := H1.out; omega
          obtain ⟨ad0, ea0, hy0⟩ := Kd.at_int HR0.out (j : Int) (by omega) (by omega)
          subst ea0
          obtain ⟨ad2, ce2, ead2, hcl2, hK2, hcc2⟩ := Kd.C_get HR1.out ([] : List Int) (j : Int) (by omega) (by omega)
          injection ead2 with ead2
          subst ead2
          obtain ⟨A3, c3, rfl, hl3, hC3⟩ := hK2
          rw [Int.toNat_natCast] at hC3 hcc2 hl3
          have hlen := HL.out (l1.getD j []) (by rw [List.getD_eq_getElem?_getD, List.getElem?_eq_getElem hj1]; exact List.getElem_mem hj1)
          obtain ⟨ad3, ea3, hz0⟩ := Kd.at_int hC3 (kk : Int) (by omega) (by omega)
          subst ea3
          rw [Int.toNat_natCast] at hy0 hz0
          have hw0 : w.cell? (ad.add j) = some (.slice (some ad3) (l1.getD j []).length c3) := by
            have hq := hcc2 0 _ rfl
            rw [show (Kd.slice 3 (Kd.int .i64)).sz = 1 from rfl, Nat.mul_one, Nat.add_zero] at hq
            exact hq
          have hy := pw_cell_below HB.out hy0
          have hw := pw_cell_below HB.out hw0
          have hz := pw_cell_below HB.out hz0
          have hs : impl_Mix.sum l0 l1 (kk : Int) (j + 1) = wrap64 (impl_Mix.sum l0 l1 (kk : Int) j + wrap64 (rd l0 (j : Int) * rd (l1.getD j []) (kk : Int))) := rfl
          have HS := Aside0.mk hs
          have hkk3 : (kk : Int) < ((l1.getD j []).length : Int) := by omega
          rw [hlen] at hw hkk3
          clear hs hlen hC3 hcc2 hcl2 hl3 hy0 hz0 hw0
          generalize rd (l1.getD j []) (kk : Int) = q2 at hz HS
          generalize rd l0 (j : Int) = q1 at hy HS
          generalize impl_Mix.sum l0 l1 (kk : Int) j = q0 at HS
          have hj32 : (j : Int) ≤ 32 := by have := HL0.out; omega
          go_wp2
          go_roundg (l0.length - (j + 1))
          case measure => omega
          case rel => exact ⟨j + 1, by omega, by omega, by go_num, by rw [HS.out], HO, HB⟩
        · have hjz : ¬ (j : Int) < (l0.length : Int) := by omega
          obtain rfl : j = l0.length := by omega
          have hll : l.length < 17592186044416 := by have := HLL.out; have := HLN.out; omega
          have HLL2 := Aside0.mk hll
          clear hll
          generalize impl_Mix.sum l0 l1 (kk : Int) l0.length = q0 at HT1
          go_wp2_with (fail)
          refine (impl_FloorDiv.calls _ _ _ _ _ HT1.out).mono ?_
          rintro e w9 ⟨rfl, ⟨_, rfl⟩⟩
          go_wp2_with (fail)
          refine (impl_Clamp.calls _ _ _ _ HT2.out).mono ?_
          rintro e w9 ⟨rfl, hb⟩
          replace HB := Aside0.mk (below_step (pw_below_drewN HB.out _) hb)
          replace HO := Aside0.mk (Kd.R_below (Kd.R_drewN HO.out _) hb)
          clear hb
          have hk8 : (kk : Int) ≤ 8 := by have := HLN.out; omega
          go_wp2_with ((with_reducible refine gate_builtin (b := .append) (xs := #[.tmp 64, .tmp 68]) rfl ?_); (try (refine gate_guard (by rfl) ?_; dsimp only)); at_builtin; refine Kd.R_append (Kd.int .i64) (w0 := w) w.heap.size rfl (.tmp 64) (.tmp 68) 22 3 (.int .i64 0) 8 rfl Try.underlying22 info3 rfl (by decide) (by omega) u7 l t2 [.int .i64 t2] (fun _ => True) (fun _ => False) rfl rfl ?aP (fun _ hk => hk.elim) ?aF ?aO ?aB ?aS ?aL ?_; (case aP => exact rfl); (case aB => exact (by repeat (first | (with_reducible first | exact HB.out | apply below_alloc | apply pw_below_drewN | apply below_drew1) | exact HB.out))); (case aF => exact (fun _ _ => trivial)); (case aO => exact (by (with_reducible repeat (first | apply Kd.R_alloc | apply Kd.R_drewN | apply Kd.R_drew)); exact HO.out)); (case aS => exact (below_size (by repeat (first | (with_reducible first | exact HB.out | apply below_alloc | apply pw_below_drewN | apply below_drew1) | exact HB.out)))); (case aL => have := HLL2.out; omega); intro v131 w22 ho hb hg hat; replace HB := Aside0.mk hb; replace HO := Aside0.mk ho; clear ho hb hg hat)
          go_roundg (n1 - (kk + 1))
          case measure => omega
          case rel => exact ⟨kk + 1, l ++ [t2], by omega, by omega, by go_num, HRW2, ⟨by rw [List.length_append, HLL.out]; rfl⟩, HO, HB⟩
    · have hkz : ¬ (kk : Int) < (n1 : Int) := by omega
      obtain rfl : kk = n1 := by omega
      obtain rfl : l = r := Option.some.inj (HRW.out.symm.trans HROW.out)
      go_wp2
      go_ret2
      exact ⟨_, rfl, HO.out, HB.out⟩
theorem impl_Mix.calls (A0 : Option Addr) (c0 : Nat) (l0 : List Int) (A1 : Option Addr) (c1 : Nat) (l1 : List (List Int)) (r1 : List Int) (r2 : Bool) (w : World) (hr0 : Kd.C (Kd.int .i64) w A0 l0.length l0) (hc0 : l0.length ≤ c0) (hr1 : Kd.C (Kd.slice 3 (Kd.int .i64)) w A1 l1.length l1) (hc1 : l1.length ≤ c1) (h : impl_Mix.f l0 l1 = some (r1, r2)) :
    Calls Try.prog 31 #[.slice A0 l0.length c0, .slice A1 l1.length c1] w fun e w' => ∃ v0_ : Value, e = .returned (.tuple #[v0_, .bool r2]) ∧ Kd.R (Kd.int .i64) 3 w' w.heap.size (fun _ => True) v0_ r1 ∧ Below w.heap.size w w' := by
  unfold impl_Mix.f at h
  cases hok : impl_Mix.ok l0 l1 with
  | false =>
    rw [hok] at h
    simp only [Bool.false_eq_true, if_false, Option.some.injEq, Prod.mk.injEq] at h
    obtain ⟨rfl, rfl⟩ := h
    exact (impl_Mix.no A0 c0 l0 A1 c1 l1 w hr0 hc0 hr1 hc1 hok).mono fun e w' ⟨he, hb⟩ => ⟨_, he, Kd.R_nil _ _ _ _ _, hb⟩
  | true =>
    rw [hok, if_pos rfl] at h
    obtain ⟨l, hl, h⟩ := Option.bind_eq_some_iff.1 h
    simp only [Option.some.injEq, Prod.mk.injEq] at h
    obtain ⟨rfl, rfl⟩ := h
    exact impl_Mix.yes A0 c0 l0 A1 c1 l1 l w hr0 hc0 hr1 hc1 hok hl

end Go.Proofs.Ytlpginalgdbopaa.PFnExactAttend
