/- Each function that the statement reaches, as a Lean function, and the proof that a call of it comes to just its answer; written by this claim's own program. No conditions. -/
import Derived.Test.YtoccifnjhbibcaaGreatPFnExactKeyValuex0
import Derived.Test.YtoccifnjhbibcaaGreatPFnExactKeyValuex1
namespace Go.Proofs.YtoccifnjhbibcaaGreat.PFnExactKeyValue
open Go.RowKit Go.Proofs.YtoccifnjhbibcaaGreatW.PrintWords Go.Proofs.YtoccifnjhbibcaaGreatW.PrintLast Go.Proofs.YtoccifnjhbibcaaGreatW.PrintMore
attribute [local go_sem] max2_int min2_int max_two min_two max_three min_three max_four min_four   -- for this text's walks alone
set_option linter.unusedVariables false
set_option linter.unusedSimpArgs false
set_option maxHeartbeats 8000000 in
set_option maxRecDepth 100000 in
theorem impl_turnLists_one_calls (A : Option Addr) (c : Nat) (x : List Int) (n : Int) (p : Addr) (w : World) (hr : Kd.C (Kd.int .i64) w A x.length x) (hc : x.length ≤ c) (hp : w.cell? p = some (.int .i64 n)) :
   Calls Tryz.prog 269 #[.slice A x.length c, .pointer (some p)] w fun e w' => e = .returned (.bool (!(decide ((x.length : Int) = n) && x.all fun x => decide (-128 ≤ x) && decide (x ≤ 128)))) ∧ Below w.heap.size w w' := by
 have hall := impl_allIn.calls A c x (-128) 128 _ w hr hc rfl
 have HC := Aside0.mk hall
 clear hall
 by_cases h : (x.length : Int) = n
 · have h1 : decide ((x.length : Int) = n) = true := decide_eq_true h
   subst h
   go_enter Tryz.func269, Tryz.ntmps269
   go_wp2_with (go_at_call 157; refine HC.out.mono ?_; rintro e w' ⟨rfl, hb⟩)
   go_ret
   exact ⟨by simp, hb⟩
 · have h1 : decide ((x.length : Int) = n) = false := decide_eq_false h
   have h2 : ((x.length : Int) != n) = true := by simpa using h
   go_enter Tryz.func269, Tryz.ntmps269
   go_wp2
   go_ret
   exact ⟨by simp [h], Below.refl _ _⟩
set_option maxHeartbeats 8000000 in
set_option maxRecDepth 100000 in
theorem impl_turnLists_IndexFunc_calls (g : Nat) (lb : Array Value) (eg : ∀ args w, (callFunc g args).run Tryz.prog w = .ok (.enter g args) w) (p : List Int → Bool)
   (A0 : Option Addr) (c0 : Nat) (l0 : List (List Int)) (w : World) (hr0 : Kd.C (Kd.slice 3 (Kd.int .i64)) w A0 l0.length l0)
   (hp : ∀ W A c x, Below w.heap.size w W → Kd.C (Kd.int .i64) W A x.length x → x.length ≤ c → Calls Tryz.prog g (#[.slice A x.length c] ++ lb) W fun e w' => e = .returned (.bool (p x)) ∧ Below W.heap.size W w') :
   Calls Tryz.prog 223 #[.slice A0 l0.length c0, .func (.func g) #[] lb] w fun e w' => (∃ r : Int, e = .returned (.int .i64 r) ∧ (decide (0 ≤ r)) = l0.any p) ∧ Below w.heap.size w w' := by
 have HR0 := Aside0.mk hr0
 have hlen := hr0.2.1
 clear hr0
 go_enter Tryz.func223, Tryz.ntmps223
 go_wp2
 go_loopg [5, 8] l0.length (fun gg _ s8 wr => ∃ kk : Nat, kk ≤ l0.length ∧ l0.length - kk ≤ gg ∧ s8 = .int .i64 kk ∧ Aside0 (Below w.heap.size w wr) ∧ Aside0 ((l0.take kk).any p = false))
 case atStart => exact ⟨0, Nat.zero_le _, by omega, rfl, ⟨Below.refl _ _⟩, ⟨by simp⟩⟩
 case round =>
   obtain ⟨kk, hkk, hg, rfl, HB, A⟩ := hrel
   by_cases hlt : kk < l0.length
   · have hltz : (kk : Int) < (l0.length : Int) := by omega
     obtain ⟨ad, ce, ead, hcl, hK, hcc⟩ := Kd.C_get HR0.out ([] : List Int) (kk : Int) (by omega) hltz
     cases ead
     obtain ⟨A1, c1, rfl, hl1, hC1⟩ := hK
     have hx0 := hcc 0 _ rfl
     have hx : w.cell? (ad.add kk) = some (.slice A1 (l0.getD (kk : Int).toNat []).length c1) := by
       have hq : w.cell? (ad.add ((kk : Int).toNat * 1 + 0)) = some (.slice A1 (l0.getD (kk : Int).toNat []).length c1) := hx0
       rwa [Int.toNat_natCast, Nat.mul_one, Nat.add_zero] at hq
     clear hx0 hcc hcl
     have hnx : (l0.take (kk + 1)).any p = ((l0.take kk).any p || p (l0.getD (kk : Int).toNat [])) := by
       rw [List.take_succ_eq_append_getElem hlt, List.any_append]
       simp [List.getD_eq_getElem?_getD, hlt]
     replace hx := (HB.out.cell (World.block_lt_of_cell? w _ hx)).trans hx
     have HC1 := Aside0.mk hC1
     clear hC1
     generalize l0.getD (kk : Int).toNat [] = y at hx hnx HC1 hl1
     have hcall : ∀ W, Below w.heap.size w W → _ := fun W hb => hp W A1 c1 y hb (Kd.C_below HC1.out hb) hl1
     have NX := Aside0.mk hnx
     clear hnx
     cases hq : p y with
     | true =>
       rw [hq] at hcall
       have HQ := Aside0.mk hq
       clear hq
       go_wp2_with (go_at_fn g; refine (hcall _ ?side).mono ?_; (case side => repeat (first | exact HB.out | apply below_alloc | apply pw_below_drewN | apply below_drew1)); rintro e w' ⟨rfl, hb⟩)
       go_ret
       refine ⟨⟨kk, rfl, ?_⟩, below_step HB.out hb⟩
       have h1 := NX.out
       rw [HQ.out] at h1
       have h2 : l0.any p = true := by
         rw [← List.take_append_drop (kk + 1) l0, List.any_append, h1]; simp
       rw [h2]; simp
     | false =>
       rw [hq] at hcall
       have HQ := Aside0.mk hq
       clear hq
       go_wp2_with (go_at_fn g; refine (hcall _ ?side).mono ?_; (case side => repeat (first | exact HB.out | apply below_alloc | apply pw_below_drewN | apply below_drew1)); rintro e w' ⟨rfl, hb⟩)
       go_roundg (l0.length - (kk + 1))
       case measure => omega
       case rel =>
         refine ⟨kk + 1, by omega, by omega, by go_num, ⟨below_step HB.out hb⟩, ⟨?_⟩⟩
         rw [NX.out, HQ.out, A.out]; rfl
   · have hltz : ¬ (kk : Int) < (l0.length : Int) := by omega
     have : kk = l0.length := by omega
     subst this
     go_wp2
     go_ret
     refine ⟨⟨-1, rfl, ?_⟩, HB.out⟩
     have := A.out
     rw [List.take_length] at this
     rw [this]; rfl
set_option maxHeartbeats 8000000 in
set_option maxRecDepth 100000 in
theorem impl_turnLists_ContainsFunc_calls (g : Nat) (lb : Array Value) (eg : ∀ args w, (callFunc g args).run Tryz.prog w = .ok (.enter g args) w) (p : List Int → Bool)
   (A0 : Option Addr) (c0 : Nat) (l0 : List (List Int)) (w : World) (hr0 : Kd.C (Kd.slice 3 (Kd.int .i64)) w A0 l0.length l0)
   (hp : ∀ W A c x, Below w.heap.size w W → Kd.C (Kd.int .i64) W A x.length x → x.length ≤ c → Calls Tryz.prog g (#[.slice A x.length c] ++ lb) W fun e w' => e = .returned (.bool (p x)) ∧ Below W.heap.size W w') :
   Calls Tryz.prog 155 #[.slice A0 l0.length c0, .func (.func g) #[] lb] w fun e w' => e = .returned (.bool (l0.any p)) ∧ Below w.heap.size w w' := by
 have hcall := impl_turnLists_IndexFunc_calls g lb eg p A0 c0 l0 w hr0 hp
 clear hr0 hp
 have HC := Aside0.mk hcall
 clear hcall
 go_enter Tryz.func155, Tryz.ntmps155
 go_wp2_with (go_at_call 223; refine HC.out.mono ?_; rintro e w' ⟨⟨r, rfl, hr⟩, hb⟩)
 go_ret
 exact ⟨by simp [hr], hb⟩
def impl_turnLists.f (l0 : List (List Int)) (a1 : Int) (a2 : Int) : Option Bool := some (decide ((l0.length : Int) = a1) && l0.all fun l => decide ((l.length : Int) = a2) && l.all fun x => decide (-128 ≤ x) && decide (x ≤ 128))
set_option maxHeartbeats 8000000 in
set_option maxRecDepth 100000 in
theorem impl_turnLists.calls (A0 : Option Addr) (c0 : Nat) (l0 : List (List Int)) (a1 : Int) (a2 : Int) (r : Bool) (w : World) (hr0 : Kd.C (Kd.slice 3 (Kd.int .i64)) w A0 l0.length l0) (hc0 : l0.length ≤ c0) (h : impl_turnLists.f l0 a1 a2 = some r) :
   Calls Tryz.prog 229 #[.slice A0 l0.length c0, .int .i64 a1, .int .i64 a2] w fun e w' => e = .returned (.bool r) ∧ Below w.heap.size w w' := by
 have eg : ∀ args w, (callFunc 269 args).run Tryz.prog w = .ok (.enter 269 args) w := enters_of Tryz.func269 (by kernel_rfl) rfl
 have hcon := impl_turnLists_ContainsFunc_calls 269 #[.pointer (some ⟨w.heap.size, 0, none⟩)] eg (fun x => !(decide ((x.length : Int) = a2) && x.all fun x => decide (-128 ≤ x) && decide (x ≤ 128))) A0 c0 l0
   (w.alloc (.cells #[.int .i64 a2] 3)) (Kd.C_alloc hr0 _) (fun W A c x hb hx hl => impl_turnLists_one_calls A c x a2 _ W hx hl ((hb.cell (p := ⟨w.heap.size, 0, none⟩) (by simp)).trans (by simp)))
 by_cases hl : (l0.length : Int) = a1
 · have h1 : decide ((l0.length : Int) = a1) = true := decide_eq_true hl
   have hR : (l0.any fun x => !(decide ((x.length : Int) = a2) && x.all fun x => decide (-128 ≤ x) && decide (x ≤ 128))) = !r := by
     have := Option.some.inj h
     rw [← this, h1, Bool.true_and, List.not_all_eq_any_not]
   rw [hR] at hcon
   have HC := Aside0.mk hcon
   clear hcon hr0 h hR
   subst hl
   go_enter Tryz.func229, Tryz.ntmps229
   go_wp2_with (go_at_call 155; refine HC.out.mono ?_; rintro e w' ⟨rfl, hb⟩)
   go_ret
   exact ⟨by simp, below_step ((Below.refl _ w).alloc (Nat.le_refl _) _) hb⟩
 · have h1 : decide ((l0.length : Int) = a1) = false := decide_eq_false hl
   have hR : r = false := by
     have := Option.some.inj h
     rw [← this, h1, Bool.false_and]
   subst hR
   clear hcon h
   go_enter Tryz.func229, Tryz.ntmps229
   go_wp2
   go_ret
   exact ⟨by simp, (Below.refl _ w).alloc (Nat.le_refl _) _⟩
def impl_FloorDiv.j0 : Nat → Int → Int → Bool → Option (Int)
 | 0, _, _, _ => none
 | k + 1, x0, x1, x12 => if x12 = true then (some 0) else (if x1 = 0 then (none) else (if (Int.tmod x0 x1) < 0 then (some (wrap64 ((wrap64 (Int.tdiv x0 x1)) - 1))) else (some (wrap64 (Int.tdiv x0 x1)))))
def impl_FloorDiv.f (k : Nat) (a0 : Int) (a1 : Int) : Option (Int) := if a1 ≤ 0 then (impl_FloorDiv.j0 k a0 a1 true) else ((impl_in.f a0 (-1000000000000) 1000000000000).bind fun t118 => (impl_FloorDiv.j0 k a0 a1 (!t118)))
set_option maxHeartbeats 8000000 in
set_option maxRecDepth 100000 in
theorem impl_FloorDiv.calls (k : Nat) (a0 : Int) (a1 : Int) (r : Int) (w : World) (h : impl_FloorDiv.f k a0 a1 = some r) :
   Calls Tryz.prog 240 #[.int .i64 a0, .int .i64 a1] w fun e w' => e = .returned (.int .i64 r) ∧ Drawn0 w w' := by
 have H : (if a1 ≤ 0 then (impl_FloorDiv.j0 k a0 a1 true) else ((impl_in.f a0 (-1000000000000) 1000000000000).bind fun t118 => (impl_FloorDiv.j0 k a0 a1 (!t118)))) = some r := h
 clear h
 have HC3 := Aside0.mk H
 clear H
 go_enter Tryz.func240, Tryz.ntmps240
 go_upto_region 1 with (fail)
 go_cut [12] (fun v12 wc => ∃ (kq : Nat) (x12_2 : Bool), v12 = .bool x12_2 ∧ Aside0 (impl_FloorDiv.j0 kq a0 a1 x12_2 = some r) ∧ Aside0 (kq ≤ k) ∧ Drawn0 w wc)
 case first =>
   have H := HC3.out
   clear HC3
   by_cases c4 : a1 ≤ 0
   · rw [if_pos c4] at H
     have c4b0 : decide (a1 ≤ 0) = true := decide_eq_true c4
     clear c4
     (first | rw [c4b0] | (simp only [i64_w, i32_w]; rw [c4b0]) | skip)
     have H' := Aside0.mk H
     clear H
     go_wp2
     go_meet
     case rel => exact ⟨_, (true), (by first | rfl | (simp; done) | (simp [*]; done)), H', ⟨by first | omega | exact Nat.le_refl _⟩, by repeat (first | exact Drawn0.refl _ | apply Drawn0.step)⟩
   · rw [if_neg c4] at H
     have c4b0 : decide (a1 ≤ 0) = false := decide_eq_false c4
     clear c4
     (first | rw [c4b0] | (simp only [i64_w, i32_w]; rw [c4b0]) | skip)
     replace H := Option.bind_eq_some_iff.mp H
     obtain ⟨t118, A50, H⟩ := H
     replace H : (impl_FloorDiv.j0 k a0 a1 (!t118)) = some r := H
     have A5 := Aside0.mk A50
     clear A50
     have H' := Aside0.mk H
     clear H
     go_wp2_with (first | (go_at_call 139; (with_reducible refine (impl_in.calls a0 (-1000000000000) 1000000000000 t118 _ A5.out).mono ?_); rintro e w' ⟨rfl, ⟨nd, rfl⟩⟩))
     go_meet
     case rel => exact ⟨_, (!t118), (by first | rfl | (simp; done) | (simp [*]; done)), H', ⟨by first | omega | exact Nat.le_refl _⟩, by repeat (first | exact Drawn0.refl _ | apply Drawn0.step)⟩
 case rest =>
   clear HC3
   try clear c2
   try clear p2
   try clear c4
   try clear c4b0
   obtain ⟨kq, x12_2, rfl, HA, HJ2, ⟨mc2, rfl⟩⟩ := hcut
   cases kq with
   | zero => exact absurd HA.out (by simp [impl_FloorDiv.j0])
   | succ kj2 =>
     have H := HA.out
     clear HA
     simp only [impl_FloorDiv.j0] at H
     by_cases c6 : x12_2 = true
     · subst c6
       have H1 : (some 0) = some r := by rw [if_pos rfl] at H; exact H
       clear H
       have H := H1
       clear H1
       obtain rfl := Option.some.inj H
       go_wp2
       go_ret
       exact ⟨by first | rfl | (simp; done) | (simp [*]; done), by repeat (first | exact Drawn0.refl _ | apply Drawn0.step)⟩
     · replace c6 := Bool.eq_false_iff.mpr c6
       subst c6
       have H1 : (if a1 = 0 then (none) else (if (Int.tmod a0 a1) < 0 then (some (wrap64 ((wrap64 (Int.tdiv a0 a1)) - 1))) else (some (wrap64 (Int.tdiv a0 a1))))) = some r := by rw [if_neg (show ¬ (false = true) by decide)] at H; exact H
       clear H
       have H := H1
       clear H1
       by_cases c7 : a1 = 0
       · rw [if_pos c7] at H
         exact absurd H (by simp)
       · rw [if_neg c7] at H
         have c7b0 : (a1 == 0) = false := beq_eq_false_iff_ne.mpr c7
         have c7b1 : (a1 != 0) = true := bne_iff_ne.mpr c7
         by_cases c8 : (Int.tmod a0 a1) < 0
         · rw [if_pos c8] at H
           have c8b0 : decide ((Int.tmod a0 a1) < 0) = true := decide_eq_true c8
           clear c8
           obtain rfl := Option.some.inj H
           go_wp2
           go_ret
           exact ⟨by first | rfl | (simp; done) | (simp [*]; done), by repeat (first | exact Drawn0.refl _ | apply Drawn0.step)⟩
         · rw [if_neg c8] at H
           have c8b0 : decide ((Int.tmod a0 a1) < 0) = false := decide_eq_false c8
           clear c8
           obtain rfl := Option.some.inj H
           go_wp2
           go_ret
           exact ⟨by first | rfl | (simp; done) | (simp [*]; done), by repeat (first | exact Drawn0.refl _ | apply Drawn0.step)⟩
def impl_Clamp.f (a0 : Int) (a1 : Int) : Option (Int) := if a1 < 0 then (some 0) else (some (mx (wrap64 (-a1)) (mn a0 a1)))
set_option maxHeartbeats 8000000 in
set_option maxRecDepth 100000 in
theorem impl_Clamp.calls (a0 : Int) (a1 : Int) (r : Int) (w : World) (h : impl_Clamp.f a0 a1 = some r) :
   Calls Tryz.prog 242 #[.int .i64 a0, .int .i64 a1] w fun e w' => e = .returned (.int .i64 r) ∧ Below w.heap.size w w' := by
 have HB := Aside0.mk (Below.refl w.heap.size w)
 have H : (if a1 < 0 then (some 0) else (some (mx (wrap64 (-a1)) (mn a0 a1)))) = some r := h
 clear h
 by_cases c3 : a1 < 0
 · rw [if_pos c3] at H
   have c3b0 : decide (a1 < 0) = true := decide_eq_true c3
   clear c3
   obtain rfl := Option.some.inj H
   go_enter Tryz.func242, Tryz.ntmps242
   go_wp2
   go_ret
   exact ⟨by first | rfl | (simp [errW_none, errW_some] <;> rfl) | (simp [*, errW_none, errW_some] <;> rfl), by repeat (first | (with_reducible first | exact HB.out | apply below_alloc | apply pw_below_drewN | apply below_drew1) | exact HB.out)⟩
 · rw [if_neg c3] at H
   have c3b0 : decide (a1 < 0) = false := decide_eq_false c3
   clear c3
   obtain ⟨ji4, hji4⟩ : ∃ j_ : Int, (mn a0 a1) = j_ := ⟨_, rfl⟩
   replace H : (some (mx (wrap64 (-a1)) (ji4))) = some r := by first | (rw [hji4] at H; exact H) | (simp only [hji4] at H ⊢; exact H)
   have hji4_ : (if a1 < a0 then a1 else a0) = ji4 := hji4
   obtain ⟨ji5, hji5⟩ : ∃ j_ : Int, (mx (wrap64 (-a1)) (ji4)) = j_ := ⟨_, rfl⟩
   replace H : (some ji5) = some r := by first | (rw [hji5] at H; exact H) | (simp only [hji5] at H ⊢; exact H)
   have hji5_ : (if (wrap64 (-a1)) < (ji4) then (ji4) else (wrap64 (-a1))) = ji5 := hji5
   obtain rfl := Option.some.inj H
   go_enter Tryz.func242, Tryz.ntmps242
   go_wp2
   go_ret
   exact ⟨by first | rfl | (simp [errW_none, errW_some] <;> rfl) | (simp only [← hji4, ← hji5]; first | rfl | (simp [errW_none, errW_some] <;> rfl)) | (simp [*, errW_none, errW_some] <;> rfl), by repeat (first | (with_reducible first | exact HB.out | apply below_alloc | apply pw_below_drewN | apply below_drew1) | exact HB.out)⟩
def impl_MulShift.f (k : Nat) (a0 : Int) (a1 : Int) (a2 : Int) : Option (Int) := (impl_in.f a0 (-10000000) 10000000).bind fun t119 => (if t119 = true then ((impl_in.f a1 0 65536).bind fun t120 => (if t120 = true then ((impl_in.f a2 0 24).bind fun t121 => (if t121 = true then (if 0 ≤ a2 then ((impl_FloorDiv.f k (wrap64 ((wrap64 (a0 * a1)) + (wrap64 (Int.tdiv (shl .i64 1 a2) 2)))) (shl .i64 1 a2)).bind fun t122 => (some t122)) else (none)) else (some 0))) else (some 0))) else (some 0))
set_option maxHeartbeats 8000000 in
set_option maxRecDepth 100000 in
theorem impl_MulShift.calls (k : Nat) (a0 : Int) (a1 : Int) (a2 : Int) (r : Int) (w : World) (h : impl_MulShift.f k a0 a1 a2 = some r) :
   Calls Tryz.prog 275 #[.int .i64 a0, .int .i64 a1, .int .i64 a2] w fun e w' => e = .returned (.int .i64 r) ∧ Drawn0 w w' := by
 have H : ((impl_in.f a0 (-10000000) 10000000).bind fun t119 => (if t119 = true then ((impl_in.f a1 0 65536).bind fun t120 => (if t120 = true then ((impl_in.f a2 0 24).bind fun t121 => (if t121 = true then (if 0 ≤ a2 then ((impl_FloorDiv.f k (wrap64 ((wrap64 (a0 * a1)) + (wrap64 (Int.tdiv (shl .i64 1 a2) 2)))) (shl .i64 1 a2)).bind fun t122 => (some t122)) else (none)) else (some 0))) else (some 0))) else (some 0))) = some r := h
 clear h
 replace H := Option.bind_eq_some_iff.mp H
 obtain ⟨t119, A40, H⟩ := H
 replace H : (if t119 = true then ((impl_in.f a1 0 65536).bind fun t120 => (if t120 = true then ((impl_in.f a2 0 24).bind fun t121 => (if t121 = true then (if 0 ≤ a2 then ((impl_FloorDiv.f k (wrap64 ((wrap64 (a0 * a1)) + (wrap64 (Int.tdiv (shl .i64 1 a2) 2)))) (shl .i64 1 a2)).bind fun t122 => (some t122)) else (none)) else (some 0))) else (some 0))) else (some 0)) = some r := H
 have A4 := Aside0.mk A40
 clear A40
 by_cases c5 : t119 = true
 · subst c5
   have H1 : ((impl_in.f a1 0 65536).bind fun t120 => (if t120 = true then ((impl_in.f a2 0 24).bind fun t121 => (if t121 = true then (if 0 ≤ a2 then ((impl_FloorDiv.f k (wrap64 ((wrap64 (a0 * a1)) + (wrap64 (Int.tdiv (shl .i64 1 a2) 2)))) (shl .i64 1 a2)).bind fun t122 => (some t122)) else (none)) else (some 0))) else (some 0))) = some r := by rw [if_pos rfl] at H; exact H
   clear H
   have H := H1
   clear H1
   replace H := Option.bind_eq_some_iff.mp H
   obtain ⟨t120, A60, H⟩ := H
   replace H : (if t120 = true then ((impl_in.f a2 0 24).bind fun t121 => (if t121 = true then (if 0 ≤ a2 then ((impl_FloorDiv.f k (wrap64 ((wrap64 (a0 * a1)) + (wrap64 (Int.tdiv (shl .i64 1 a2) 2)))) (shl .i64 1 a2)).bind fun t122 => (some t122)) else (none)) else (some 0))) else (some 0)) = some r := H
   have A6 := Aside0.mk A60
   clear A60
   by_cases c7 : t120 = true
   · subst c7
     have H1 : ((impl_in.f a2 0 24).bind fun t121 => (if t121 = true then (if 0 ≤ a2 then ((impl_FloorDiv.f k (wrap64 ((wrap64 (a0 * a1)) + (wrap64 (Int.tdiv (shl .i64 1 a2) 2)))) (shl .i64 1 a2)).bind fun t122 => (some t122)) else (none)) else (some 0))) = some r := by rw [if_pos rfl] at H; exact H
     clear H
     have H := H1
     clear H1
     replace H := Option.bind_eq_some_iff.mp H
     obtain ⟨t121, A80, H⟩ := H
     replace H : (if t121 = true then (if 0 ≤ a2 then ((impl_FloorDiv.f k (wrap64 ((wrap64 (a0 * a1)) + (wrap64 (Int.tdiv (shl .i64 1 a2) 2)))) (shl .i64 1 a2)).bind fun t122 => (some t122)) else (none)) else (some 0)) = some r := H
     have A8 := Aside0.mk A80
     clear A80
     by_cases c9 : t121 = true
     · subst c9
       have H1 : (if 0 ≤ a2 then ((impl_FloorDiv.f k (wrap64 ((wrap64 (a0 * a1)) + (wrap64 (Int.tdiv (shl .i64 1 a2) 2)))) (shl .i64 1 a2)).bind fun t122 => (some t122)) else (none)) = some r := by rw [if_pos rfl] at H; exact H
       clear H
       have H := H1
       clear H1
       by_cases c10 : 0 ≤ a2
       · rw [if_pos c10] at H
         have c10b0 := eq_true c10
         have c10b1 : decide (0 ≤ a2) = true := decide_eq_true c10
         clear c10
         obtain ⟨ji11, hji11⟩ : ∃ j_ : Int, (shl .i64 1 a2) = j_ := ⟨_, rfl⟩
         replace H : ((impl_FloorDiv.f k (wrap64 ((wrap64 (a0 * a1)) + (wrap64 (Int.tdiv (ji11) 2)))) (ji11)).bind fun t122 => (some t122)) = some r := by first | (rw [hji11] at H; exact H) | (simp only [hji11] at H ⊢; exact H)
         (try rw [hji11] at A4)
         (try rw [hji11] at A6)
         (try rw [hji11] at A8)
         have hji11_ : (IntKind.i64.wrap (1 * 2 ^ min a2.toNat 64)) = ji11 := hji11
         have hji11z : a2 ≤ 64 → (IntKind.i64.wrap (1 * 2 ^ a2.toNat)) = ji11 := shl_small hji11
         have hji11u : (IntKind.i64.wrap (2 ^ min a2.toNat 64)) = ji11 := by have h_ := hji11_; rw [Int.one_mul] at h_; exact h_
         have hji11v : a2 ≤ 64 → (IntKind.i64.wrap (2 ^ a2.toNat)) = ji11 := fun hle_ => by have h_ := hji11z hle_; rw [Int.one_mul] at h_; exact h_
         have hji11y : (wrap64 (1 * 2 ^ min a2.toNat 64)) = ji11 := (i64_w _).symm.trans hji11_
         have hji11t : (wrap64 (2 ^ min a2.toNat 64)) = ji11 := by have h_ := hji11y; rw [Int.one_mul] at h_; exact h_
         have hji11s : (wrap64 (2 ^ a2.toNat)) = ji11 := (Go.Proofs.YtoccifnjhbibcaaGreat.XShape.wrap_pow _).trans hji11t
         have hji11x : a2 ≤ 64 → (wrap64 (1 * 2 ^ a2.toNat)) = ji11 := fun h_ => (i64_w _).symm.trans (hji11z h_)
         replace H := Option.bind_eq_some_iff.mp H
         obtain ⟨t122, A120, H⟩ := H
         replace H : (some t122) = some r := H
         have A12 := Aside0.mk A120
         clear A120
         obtain rfl := Option.some.inj H
         go_enter Tryz.func275, Tryz.ntmps275
         go_wp2_with (first | ((with_reducible refine gate_callee (f := 139) rfl ?_); refine goesL_ (some 9) rfl rfl Tryz.func139 (by kernel_rfl) rfl #[.int .i64 a0, .int .i64 (-10000000), .int .i64 10000000] rfl (by (try simp only [List.map_toArray, List.map_cons, List.map_nil]); first | done | rfl | (simp only [List.length_drop, List.length_take]; rfl)) ?_; (with_reducible refine (impl_in.calls a0 (-10000000) 10000000 true _ A4.out).mono ?_); rintro e w' ⟨rfl, ⟨nd, rfl⟩⟩; refine ⟨_, rfl, ?_⟩) | (go_at_call 139; (with_reducible refine (impl_in.calls a1 0 65536 true _ A6.out).mono ?_); rintro e w' ⟨rfl, ⟨nd, rfl⟩⟩) | (go_at_call 139; (with_reducible refine (impl_in.calls a2 0 24 true _ A8.out).mono ?_); rintro e w' ⟨rfl, ⟨nd, rfl⟩⟩) | ((with_reducible refine gate_callee (f := 240) rfl ?_); refine goesL_ (some 30) rfl rfl Tryz.func240 (by kernel_rfl) rfl #[.int .i64 (wrap64 ((wrap64 (a0 * a1)) + (wrap64 (Int.tdiv (ji11) 2)))), .int .i64 ji11] rfl (by (try simp only [List.map_toArray, List.map_cons, List.map_nil]); first | done | (simp only [hji11]; rfl) | rfl | (simp only [List.length_drop, List.length_take]; rfl)) ?_; (with_reducible refine (impl_FloorDiv.calls k (wrap64 ((wrap64 (a0 * a1)) + (wrap64 (Int.tdiv (ji11) 2)))) ji11 t122 _ A12.out).mono ?_); rintro e w' ⟨rfl, ⟨nd, rfl⟩⟩; refine ⟨_, rfl, ?_⟩))
         go_ret
         exact ⟨by first | rfl | (simp; done) | (simp only [← hji11] <;> (first | rfl | simp)) | (simp [*]; done), by repeat (first | exact Drawn0.refl _ | apply Drawn0.step)⟩
       · rw [if_neg c10] at H
         exact absurd H (by simp)
     · replace c9 := Bool.eq_false_iff.mpr c9
       subst c9
       have H1 : (some 0) = some r := by rw [if_neg (show ¬ (false = true) by decide)] at H; exact H
       clear H
       have H := H1
       clear H1
       obtain rfl := Option.some.inj H
       go_enter Tryz.func275, Tryz.ntmps275
       go_wp2_with (first | ((with_reducible refine gate_callee (f := 139) rfl ?_); refine goesL_ (some 9) rfl rfl Tryz.func139 (by kernel_rfl) rfl #[.int .i64 a0, .int .i64 (-10000000), .int .i64 10000000] rfl (by (try simp only [List.map_toArray, List.map_cons, List.map_nil]); first | done | rfl | (simp only [List.length_drop, List.length_take]; rfl)) ?_; (with_reducible refine (impl_in.calls a0 (-10000000) 10000000 true _ A4.out).mono ?_); rintro e w' ⟨rfl, ⟨nd, rfl⟩⟩; refine ⟨_, rfl, ?_⟩) | (go_at_call 139; (with_reducible refine (impl_in.calls a1 0 65536 true _ A6.out).mono ?_); rintro e w' ⟨rfl, ⟨nd, rfl⟩⟩) | (go_at_call 139; (with_reducible refine (impl_in.calls a2 0 24 false _ A8.out).mono ?_); rintro e w' ⟨rfl, ⟨nd, rfl⟩⟩))
       go_ret
       exact ⟨by first | rfl | (simp; done) | (simp [*]; done), by repeat (first | exact Drawn0.refl _ | apply Drawn0.step)⟩
   · replace c7 := Bool.eq_false_iff.mpr c7
     subst c7
     have H1 : (some 0) = some r := by rw [if_neg (show ¬ (false = true) by decide)] at H; exact H
     clear H
     have H := H1
     clear H1
     obtain rfl := Option.some.inj H
     go_enter Tryz.func275, Tryz.ntmps275
     go_wp2_with (first | ((with_reducible refine gate_callee (f := 139) rfl ?_); refine goesL_ (some 9) rfl rfl Tryz.func139 (by kernel_rfl) rfl #[.int .i64 a0, .int .i64 (-10000000), .int .i64 10000000] rfl (by (try simp only [List.map_toArray, List.map_cons, List.map_nil]); first | done | rfl | (simp only [List.length_drop, List.length_take]; rfl)) ?_; (with_reducible refine (impl_in.calls a0 (-10000000) 10000000 true _ A4.out).mono ?_); rintro e w' ⟨rfl, ⟨nd, rfl⟩⟩; refine ⟨_, rfl, ?_⟩) | (go_at_call 139; (with_reducible refine (impl_in.calls a1 0 65536 false _ A6.out).mono ?_); rintro e w' ⟨rfl, ⟨nd, rfl⟩⟩))
     go_ret
     exact ⟨by first | rfl | (simp; done) | (simp [*]; done), by repeat (first | exact Drawn0.refl _ | apply Drawn0.step)⟩
 · replace c5 := Bool.eq_false_iff.mpr c5
   subst c5
   have H1 : (some 0) = some r := by rw [if_neg (show ¬ (false = true) by decide)] at H; exact H
   clear H
   have H := H1
   clear H1
   obtain rfl := Option.some.inj H
   go_enter Tryz.func275, Tryz.ntmps275
   go_wp2_with (first | ((with_reducible refine gate_callee (f := 139) rfl ?_); refine goesL_ (some 9) rfl rfl Tryz.func139 (by kernel_rfl) rfl #[.int .i64 a0, .int .i64 (-10000000), .int .i64 10000000] rfl (by (try simp only [List.map_toArray, List.map_cons, List.map_nil]); first | done | rfl | (simp only [List.length_drop, List.length_take]; rfl)) ?_; (with_reducible refine (impl_in.calls a0 (-10000000) 10000000 false _ A4.out).mono ?_); rintro e w' ⟨rfl, ⟨nd, rfl⟩⟩; refine ⟨_, rfl, ?_⟩))
   go_ret
   exact ⟨by first | rfl | (simp; done) | (simp [*]; done), by repeat (first | exact Drawn0.refl _ | apply Drawn0.step)⟩
def impl_turnable.f (a0 : Int) (a1 : Int) (a2 : Int) (a3 : Int) : Option (Bool) := (impl_in.f a0 (-127) 127).bind fun t123 => (if t123 = true then ((impl_in.f a1 (-127) 127).bind fun t124 => (if t124 = true then ((impl_in.f a2 (-128) 128).bind fun t125 => (if t125 = true then ((impl_in.f a3 (-128) 128).bind fun t126 => (some t126)) else (some false))) else (some false))) else (some false))
set_option maxHeartbeats 8000000 in
set_option maxRecDepth 100000 in
theorem impl_turnable.calls (a0 : Int) (a1 : Int) (a2 : Int) (a3 : Int) (r : Bool) (w : World) (h : impl_turnable.f a0 a1 a2 a3 = some r) :
   Calls Tryz.prog 273 #[.int .i64 a0, .int .i64 a1, .int .i64 a2, .int .i64 a3] w fun e w' => e = .returned (.bool r) ∧ Drawn0 w w' := by
 have H : ((impl_in.f a0 (-127) 127).bind fun t123 => (if t123 = true then ((impl_in.f a1 (-127) 127).bind fun t124 => (if t124 = true then ((impl_in.f a2 (-128) 128).bind fun t125 => (if t125 = true then ((impl_in.f a3 (-128) 128).bind fun t126 => (some t126)) else (some false))) else (some false))) else (some false))) = some r := h
 clear h
 replace H := Option.bind_eq_some_iff.mp H
 obtain ⟨t123, A50, H⟩ := H
 replace H : (if t123 = true then ((impl_in.f a1 (-127) 127).bind fun t124 => (if t124 = true then ((impl_in.f a2 (-128) 128).bind fun t125 => (if t125 = true then ((impl_in.f a3 (-128) 128).bind fun t126 => (some t126)) else (some false))) else (some false))) else (some false)) = some r := H
 have A5 := Aside0.mk A50
 clear A50
 by_cases c6 : t123 = true
 · subst c6
   have H1 : ((impl_in.f a1 (-127) 127).bind fun t124 => (if t124 = true then ((impl_in.f a2 (-128) 128).bind fun t125 => (if t125 = true then ((impl_in.f a3 (-128) 128).bind fun t126 => (some t126)) else (some false))) else (some false))) = some r := by rw [if_pos rfl] at H; exact H
   clear H
   have H := H1
   clear H1
   replace H := Option.bind_eq_some_iff.mp H
   obtain ⟨t124, A70, H⟩ := H
   replace H : (if t124 = true then ((impl_in.f a2 (-128) 128).bind fun t125 => (if t125 = true then ((impl_in.f a3 (-128) 128).bind fun t126 => (some t126)) else (some false))) else (some false)) = some r := H
   have A7 := Aside0.mk A70
   clear A70
   by_cases c8 : t124 = true
   · subst c8
     have H1 : ((impl_in.f a2 (-128) 128).bind fun t125 => (if t125 = true then ((impl_in.f a3 (-128) 128).bind fun t126 => (some t126)) else (some false))) = some r := by rw [if_pos rfl] at H; exact H
     clear H
     have H := H1
     clear H1
     replace H := Option.bind_eq_some_iff.mp H
     obtain ⟨t125, A90, H⟩ := H
     replace H : (if t125 = true then ((impl_in.f a3 (-128) 128).bind fun t126 => (some t126)) else (some false)) = some r := H
     have A9 := Aside0.mk A90
     clear A90
     by_cases c10 : t125 = true
     · subst c10
       have H1 : ((impl_in.f a3 (-128) 128).bind fun t126 => (some t126)) = some r := by rw [if_pos rfl] at H; exact H
       clear H
       have H := H1
       clear H1
       replace H := Option.bind_eq_some_iff.mp H
       obtain ⟨t126, A110, H⟩ := H
       replace H : (some t126) = some r := H
       have A11 := Aside0.mk A110
       clear A110
       obtain rfl := Option.some.inj H
       go_enter Tryz.func273, Tryz.ntmps273
       go_wp2_with (first | ((with_reducible refine gate_callee (f := 139) rfl ?_); refine goesL_ (some 10) rfl rfl Tryz.func139 (by kernel_rfl) rfl #[.int .i64 a0, .int .i64 (-127), .int .i64 127] rfl (by (try simp only [List.map_toArray, List.map_cons, List.map_nil]); first | done | rfl | (simp only [List.length_drop, List.length_take]; rfl)) ?_; (with_reducible refine (impl_in.calls a0 (-127) 127 true _ A5.out).mono ?_); rintro e w' ⟨rfl, ⟨nd, rfl⟩⟩; refine ⟨_, rfl, ?_⟩) | (go_at_call 139; (with_reducible refine (impl_in.calls a1 (-127) 127 true _ A7.out).mono ?_); rintro e w' ⟨rfl, ⟨nd, rfl⟩⟩) | (go_at_call 139; (with_reducible refine (impl_in.calls a2 (-128) 128 true _ A9.out).mono ?_); rintro e w' ⟨rfl, ⟨nd, rfl⟩⟩) | (go_at_call 139; (with_reducible refine (impl_in.calls a3 (-128) 128 t126 _ A11.out).mono ?_); rintro e w' ⟨rfl, ⟨nd, rfl⟩⟩))
       go_ret
       exact ⟨by first | rfl | (simp; done) | (simp [*]; done), by repeat (first | exact Drawn0.refl _ | apply Drawn0.step)⟩
     · replace c10 := Bool.eq_false_iff.mpr c10
       subst c10
       have H1 : (some false) = some r := by rw [if_neg (show ¬ (false = true) by decide)] at H; exact H
       clear H
       have H := H1
       clear H1
       obtain rfl := Option.some.inj H
       go_enter Tryz.func273, Tryz.ntmps273
       go_wp2_with (first | ((with_reducible refine gate_callee (f := 139) rfl ?_); refine goesL_ (some 10) rfl rfl Tryz.func139 (by kernel_rfl) rfl #[.int .i64 a0, .int .i64 (-127), .int .i64 127] rfl (by (try simp only [List.map_toArray, List.map_cons, List.map_nil]); first | done | rfl | (simp only [List.length_drop, List.length_take]; rfl)) ?_; (with_reducible refine (impl_in.calls a0 (-127) 127 true _ A5.out).mono ?_); rintro e w' ⟨rfl, ⟨nd, rfl⟩⟩; refine ⟨_, rfl, ?_⟩) | (go_at_call 139; (with_reducible refine (impl_in.calls a1 (-127) 127 true _ A7.out).mono ?_); rintro e w' ⟨rfl, ⟨nd, rfl⟩⟩) | (go_at_call 139; (with_reducible refine (impl_in.calls a2 (-128) 128 false _ A9.out).mono ?_); rintro e w' ⟨rfl, ⟨nd, rfl⟩⟩))
       go_ret
       exact ⟨by first | rfl | (simp; done) | (simp [*]; done), by repeat (first | exact Drawn0.refl _ | apply Drawn0.step)⟩
   · replace c8 := Bool.eq_false_iff.mpr c8
     subst c8
     have H1 : (some false) = some r := by rw [if_neg (show ¬ (false = true) by decide)] at H; exact H
     clear H
     have H := H1
     clear H1
     obtain rfl := Option.some.inj H
     go_enter Tryz.func273, Tryz.ntmps273
     go_wp2_with (first | ((with_reducible refine gate_callee (f := 139) rfl ?_); refine goesL_ (some 10) rfl rfl Tryz.func139 (by kernel_rfl) rfl #[.int .i64 a0, .int .i64 (-127), .int .i64 127] rfl (by (try simp only [List.map_toArray, List.map_cons, List.map_nil]); first | done | rfl | (simp only [List.length_drop, List.length_take]; rfl)) ?_; (with_reducible refine (impl_in.calls a0 (-127) 127 true _ A5.out).mono ?_); rintro e w' ⟨rfl, ⟨nd, rfl⟩⟩; refine ⟨_, rfl, ?_⟩) | (go_at_call 139; (with_reducible refine (impl_in.calls a1 (-127) 127 false _ A7.out).mono ?_); rintro e w' ⟨rfl, ⟨nd, rfl⟩⟩))
     go_ret
     exact ⟨by first | rfl | (simp; done) | (simp [*]; done), by repeat (first | exact Drawn0.refl _ | apply Drawn0.step)⟩
 · replace c6 := Bool.eq_false_iff.mpr c6
   subst c6
   have H1 : (some false) = some r := by rw [if_neg (show ¬ (false = true) by decide)] at H; exact H
   clear H
   have H := H1
   clear H1
   obtain rfl := Option.some.inj H
   go_enter Tryz.func273, Tryz.ntmps273
   go_wp2_with (first | ((with_reducible refine gate_callee (f := 139) rfl ?_); refine goesL_ (some 10) rfl rfl Tryz.func139 (by kernel_rfl) rfl #[.int .i64 a0, .int .i64 (-127), .int .i64 127] rfl (by (try simp only [List.map_toArray, List.map_cons, List.map_nil]); first | done | rfl | (simp only [List.length_drop, List.length_take]; rfl)) ?_; (with_reducible refine (impl_in.calls a0 (-127) 127 false _ A5.out).mono ?_); rintro e w' ⟨rfl, ⟨nd, rfl⟩⟩; refine ⟨_, rfl, ?_⟩))
   go_ret
   exact ⟨by first | rfl | (simp; done) | (simp [*]; done), by repeat (first | exact Drawn0.refl _ | apply Drawn0.step)⟩
def impl_Turn.f (k : Nat) (a0 : Int) (a1 : Int) (a2 : Int) (a3 : Int) : Option (Int × Int) := (impl_turnable.f a0 a1 a2 a3).bind fun t127 => (if t127 = true then ((impl_FloorDiv.f k (wrap64 ((wrap64 (a0 * a2)) - (wrap64 (a1 * a3)))) 128).bind fun t128 => ((impl_Clamp.f t128 127).bind fun t129 => ((impl_FloorDiv.f k (wrap64 ((wrap64 (a0 * a3)) + (wrap64 (a1 * a2)))) 128).bind fun t130 => ((impl_Clamp.f t130 127).bind fun t131 => (some (t129, t131)))))) else (some (0, 0)))
set_option maxHeartbeats 8000000 in
set_option maxRecDepth 100000 in
theorem impl_Turn.calls (k : Nat) (a0 : Int) (a1 : Int) (a2 : Int) (a3 : Int) (r1 : Int) (r2 : Int) (w : World) (h : impl_Turn.f k a0 a1 a2 a3 = some (r1, r2)) :
   Calls Tryz.prog 274 #[.int .i64 a0, .int .i64 a1, .int .i64 a2, .int .i64 a3] w fun e w' => e = .returned (.tuple #[.int .i64 r1, .int .i64 r2]) ∧ Below w.heap.size w w' := by
 have HB := Aside0.mk (Below.refl w.heap.size w)
 have H : ((impl_turnable.f a0 a1 a2 a3).bind fun t127 => (if t127 = true then ((impl_FloorDiv.f k (wrap64 ((wrap64 (a0 * a2)) - (wrap64 (a1 * a3)))) 128).bind fun t128 => ((impl_Clamp.f t128 127).bind fun t129 => ((impl_FloorDiv.f k (wrap64 ((wrap64 (a0 * a3)) + (wrap64 (a1 * a2)))) 128).bind fun t130 => ((impl_Clamp.f t130 127).bind fun t131 => (some (t129, t131)))))) else (some (0, 0)))) = some (r1, r2) := h
 clear h
 replace H := Option.bind_eq_some_iff.mp H
 obtain ⟨t127, A50, H⟩ := H
 replace H : (if t127 = true then ((impl_FloorDiv.f k (wrap64 ((wrap64 (a0 * a2)) - (wrap64 (a1 * a3)))) 128).bind fun t128 => ((impl_Clamp.f t128 127).bind fun t129 => ((impl_FloorDiv.f k (wrap64 ((wrap64 (a0 * a3)) + (wrap64 (a1 * a2)))) 128).bind fun t130 => ((impl_Clamp.f t130 127).bind fun t131 => (some (t129, t131)))))) else (some (0, 0))) = some (r1, r2) := H
 have A5 := Aside0.mk A50
 clear A50
 by_cases c6 : t127 = true
 · subst c6
   have H1 : ((impl_FloorDiv.f k (wrap64 ((wrap64 (a0 * a2)) - (wrap64 (a1 * a3)))) 128).bind fun t128 => ((impl_Clamp.f t128 127).bind fun t129 => ((impl_FloorDiv.f k (wrap64 ((wrap64 (a0 * a3)) + (wrap64 (a1 * a2)))) 128).bind fun t130 => ((impl_Clamp.f t130 127).bind fun t131 => (some (t129, t131)))))) = some (r1, r2) := by rw [if_pos rfl] at H; exact H
   clear H
   have H := H1
   clear H1
   replace H := Option.bind_eq_some_iff.mp H
   obtain ⟨t128, A70, H⟩ := H
   replace H : ((impl_Clamp.f t128 127).bind fun t129 => ((impl_FloorDiv.f k (wrap64 ((wrap64 (a0 * a3)) + (wrap64 (a1 * a2)))) 128).bind fun t130 => ((impl_Clamp.f t130 127).bind fun t131 => (some (t129, t131))))) = some (r1, r2) := H
   have A7 := Aside0.mk A70
   clear A70
   replace H := Option.bind_eq_some_iff.mp H
   obtain ⟨t129, A80, H⟩ := H
   replace H : ((impl_FloorDiv.f k (wrap64 ((wrap64 (a0 * a3)) + (wrap64 (a1 * a2)))) 128).bind fun t130 => ((impl_Clamp.f t130 127).bind fun t131 => (some (t129, t131)))) = some (r1, r2) := H
   have A8 := Aside0.mk A80
   clear A80
   replace H := Option.bind_eq_some_iff.mp H
   obtain ⟨t130, A90, H⟩ := H
   replace H : ((impl_Clamp.f t130 127).bind fun t131 => (some (t129, t131))) = some (r1, r2) := H
   have A9 := Aside0.mk A90
   clear A90
   replace H := Option.bind_eq_some_iff.mp H
   obtain ⟨t131, A100, H⟩ := H
   replace H : (some (t129, t131)) = some (r1, r2) := H
   have A10 := Aside0.mk A100
   clear A100
   simp only [Option.some.injEq, Prod.mk.injEq] at H
   obtain ⟨rfl, rfl⟩ := H
   go_enter Tryz.func274, Tryz.ntmps274
   go_wp2_with (first | ((with_reducible refine gate_callee (f := 273) rfl ?_); refine goesL_ (some 14) rfl rfl Tryz.func273 (by kernel_rfl) rfl #[.int .i64 a0, .int .i64 a1, .int .i64 a2, .int .i64 a3] rfl (by (try simp only [List.map_toArray, List.map_cons, List.map_nil]); first | done | rfl | (simp only [List.length_drop, List.length_take]; rfl)) ?_; (with_reducible refine (impl_turnable.calls a0 a1 a2 a3 true _ A5.out).mono ?_); rintro e w' ⟨rfl, ⟨nd, rfl⟩⟩; refine ⟨_, rfl, ?_⟩) | ((with_reducible refine gate_callee (f := 240) rfl ?_); refine goesL_ (some 23) rfl rfl Tryz.func240 (by kernel_rfl) rfl #[.int .i64 (wrap64 ((wrap64 (a0 * a2)) - (wrap64 (a1 * a3)))), .int .i64 128] rfl (by (try simp only [List.map_toArray, List.map_cons, List.map_nil]); first | done | rfl | (simp only [List.length_drop, List.length_take]; rfl)) ?_; (with_reducible refine (impl_FloorDiv.calls k (wrap64 ((wrap64 (a0 * a2)) - (wrap64 (a1 * a3)))) 128 t128 _ A7.out).mono ?_); rintro e w' ⟨rfl, ⟨nd, rfl⟩⟩; refine ⟨_, rfl, ?_⟩) | ((with_reducible refine gate_callee (f := 242) rfl ?_); refine goesL_ (some 24) rfl rfl Tryz.func242 (by kernel_rfl) rfl #[.int .i64 t128, .int .i64 127] rfl (by (try simp only [List.map_toArray, List.map_cons, List.map_nil]); first | done | rfl | (simp only [List.length_drop, List.length_take]; rfl)) ?_; (with_reducible refine (impl_Clamp.calls t128 127 t129 _ A8.out).mono ?_); rintro e w11 ⟨rfl, hb⟩; refine ⟨_, rfl, ?_⟩; have n0_ := Aside0.mk (below_step (by repeat (first | (with_reducible first | exact HB.out | apply below_alloc | apply pw_below_drewN | apply below_drew1) | exact HB.out)) hb); clear HB; have HB := n0_; clear n0_; (try clear hb); (try clear hb2); (try clear hk); (try clear hi)) | ((with_reducible refine gate_callee (f := 240) rfl ?_); refine goesL_ (some 32) rfl rfl Tryz.func240 (by kernel_rfl) rfl #[.int .i64 (wrap64 ((wrap64 (a0 * a3)) + (wrap64 (a1 * a2)))), .int .i64 128] rfl (by (try simp only [List.map_toArray, List.map_cons, List.map_nil]); first | done | rfl | (simp only [List.length_drop, List.length_take]; rfl)) ?_; (with_reducible refine (impl_FloorDiv.calls k (wrap64 ((wrap64 (a0 * a3)) + (wrap64 (a1 * a2)))) 128 t130 _ A9.out).mono ?_); rintro e w' ⟨rfl, ⟨nd, rfl⟩⟩; refine ⟨_, rfl, ?_⟩) | ((with_reducible refine gate_callee (f := 242) rfl ?_); refine goesL_ (some 33) rfl rfl Tryz.func242 (by kernel_rfl) rfl #[.int .i64 t130, .int .i64 127] rfl (by (try simp only [List.map_toArray, List.map_cons, List.map_nil]); first | done | rfl | (simp only [List.length_drop, List.length_take]; rfl)) ?_; (with_reducible refine (impl_Clamp.calls t130 127 t131 _ A10.out).mono ?_); rintro e w12 ⟨rfl, hb⟩; refine ⟨_, rfl, ?_⟩; have n0_ := Aside0.mk (below_step (by repeat (first | (with_reducible first | exact HB.out | apply below_alloc | apply pw_below_drewN | apply below_drew1) | exact HB.out)) hb); clear HB; have HB := n0_; clear n0_; (try clear hb); (try clear hb2); (try clear hk); (try clear hi)))
   go_ret2
   exact ⟨by first | rfl | (simp [errW_none, errW_some] <;> rfl) | (simp [*, errW_none, errW_some] <;> rfl), by repeat (first | (with_reducible first | exact HB.out | apply below_alloc | apply pw_below_drewN | apply below_drew1) | exact HB.out)⟩
 · replace c6 := Bool.eq_false_iff.mpr c6
   subst c6
   have H1 : (some (0, 0)) = some (r1, r2) := by rw [if_neg (show ¬ (false = true) by decide)] at H; exact H
   clear H
   have H := H1
   clear H1
   simp only [Option.some.injEq, Prod.mk.injEq] at H
   obtain ⟨rfl, rfl⟩ := H
   go_enter Tryz.func274, Tryz.ntmps274
   go_wp2_with (first | ((with_reducible refine gate_callee (f := 273) rfl ?_); refine goesL_ (some 14) rfl rfl Tryz.func273 (by kernel_rfl) rfl #[.int .i64 a0, .int .i64 a1, .int .i64 a2, .int .i64 a3] rfl (by (try simp only [List.map_toArray, List.map_cons, List.map_nil]); first | done | rfl | (simp only [List.length_drop, List.length_take]; rfl)) ?_; (with_reducible refine (impl_turnable.calls a0 a1 a2 a3 false _ A5.out).mono ?_); rintro e w' ⟨rfl, ⟨nd, rfl⟩⟩; refine ⟨_, rfl, ?_⟩))
   go_ret2
   exact ⟨by first | rfl | (simp [errW_none, errW_some] <;> rfl) | (simp [*, errW_none, errW_some] <;> rfl), by repeat (first | (with_reducible first | exact HB.out | apply below_alloc | apply pw_below_drewN | apply below_drew1) | exact HB.out)⟩
end Go.Proofs.YtoccifnjhbibcaaGreat.PFnExactKeyValue
