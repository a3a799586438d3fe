/- Each function that the statement reaches, as a Lean function, and the proof that a call of it comes to just its answer; written by this claim's own program. No conditions. -/
import Derived.Test.YtoccifnjhbibcaaPFnMixesx0
import Derived.Test.YtoccifnjhbibcaaPFnMixesx1
namespace Go.Proofs.Ytoccifnjhbibcaa.PFnMixes
open Go.RowKit Go.Proofs.YtoccifnjhbibcaaW.PrintWords Go.Proofs.YtoccifnjhbibcaaW.PrintLast Go.Proofs.YtoccifnjhbibcaaW.PrintMore
attribute [local go_sem] max2_int min2_int max_two min_two max_three min_three max_four min_four   -- for this text's walks alone
set_option linter.unusedVariables false
set_option linter.unusedSimpArgs false
set_option maxHeartbeats 8000000 in
set_option maxRecDepth 100000 in
theorem impl_Mix_one_calls (A : Option Addr) (c : Nat) (x : List Int) (n : Int) (p : Addr) (w : World) (hr : Kd.C (Kd.int .i64) w A x.length x) (hc : x.length ≤ c) (hp : w.cell? p = some (.int .i64 n)) :
   Calls Try.prog 33 #[.slice A x.length c, .pointer (some p)] w fun e w' => e = .returned (.bool (!(decide ((x.length : Int) = n) && x.all fun x => decide (-127 ≤ x) && decide (x ≤ 127)))) ∧ Below w.heap.size w w' := by
 have hall := impl_allIn.calls A c x (-127) 127 _ w hr hc rfl
 have HC := Aside0.mk hall
 clear hall
 by_cases h : (x.length : Int) = n
 · have h1 : decide ((x.length : Int) = n) = true := decide_eq_true h
   subst h
   go_enter Try.func33, Try.ntmps33
   go_wp2_with (go_at_call 31; refine HC.out.mono ?_; rintro e w' ⟨rfl, hb⟩)
   go_ret
   exact ⟨by simp, hb⟩
 · have h1 : decide ((x.length : Int) = n) = false := decide_eq_false h
   have h2 : ((x.length : Int) != n) = true := by simpa using h
   go_enter Try.func33, Try.ntmps33
   go_wp2
   go_ret
   exact ⟨by simp [h], Below.refl _ _⟩
set_option maxHeartbeats 8000000 in
set_option maxRecDepth 100000 in
theorem impl_Mix_IndexFunc_calls (g : Nat) (lb : Array Value) (eg : ∀ args w, (callFunc g args).run Try.prog w = .ok (.enter g args) w) (p : List Int → Bool)
   (A0 : Option Addr) (c0 : Nat) (l0 : List (List Int)) (w : World) (hr0 : Kd.C (Kd.slice 3 (Kd.int .i64)) w A0 l0.length l0)
   (hp : ∀ W A c x, Below w.heap.size w W → Kd.C (Kd.int .i64) W A x.length x → x.length ≤ c → Calls Try.prog g (#[.slice A x.length c] ++ lb) W fun e w' => e = .returned (.bool (p x)) ∧ Below W.heap.size W w') :
   Calls Try.prog 85 #[.slice A0 l0.length c0, .func (.func g) #[] lb] w fun e w' => (∃ r : Int, e = .returned (.int .i64 r) ∧ (decide (0 ≤ r)) = l0.any p) ∧ Below w.heap.size w w' := by
 have HR0 := Aside0.mk hr0
 have hlen := hr0.2.1
 clear hr0
 go_enter Try.func85, Try.ntmps85
 go_wp2
 go_loopg [5, 8] l0.length (fun gg _ s8 wr => ∃ kk : Nat, kk ≤ l0.length ∧ l0.length - kk ≤ gg ∧ s8 = .int .i64 kk ∧ Aside0 (Below w.heap.size w wr) ∧ Aside0 ((l0.take kk).any p = false))
 case atStart => exact ⟨0, Nat.zero_le _, by omega, rfl, ⟨Below.refl _ _⟩, ⟨by simp⟩⟩
 case round =>
   obtain ⟨kk, hkk, hg, rfl, HB, A⟩ := hrel
   by_cases hlt : kk < l0.length
   · have hltz : (kk : Int) < (l0.length : Int) := by omega
     obtain ⟨ad, ce, ead, hcl, hK, hcc⟩ := Kd.C_get HR0.out ([] : List Int) (kk : Int) (by omega) hltz
     cases ead
     obtain ⟨A1, c1, rfl, hl1, hC1⟩ := hK
     have hx0 := hcc 0 _ rfl
     have hx : w.cell? (ad.add kk) = some (.slice A1 (l0.getD (kk : Int).toNat []).length c1) := by
       have hq : w.cell? (ad.add ((kk : Int).toNat * 1 + 0)) = some (.slice A1 (l0.getD (kk : Int).toNat []).length c1) := hx0
       rwa [Int.toNat_natCast, Nat.mul_one, Nat.add_zero] at hq
     clear hx0 hcc hcl
     have hnx : (l0.take (kk + 1)).any p = ((l0.take kk).any p || p (l0.getD (kk : Int).toNat [])) := by
       rw [List.take_succ_eq_append_getElem hlt, List.any_append]
       simp [List.getD_eq_getElem?_getD, hlt]
     replace hx := (HB.out.cell (World.block_lt_of_cell? w _ hx)).trans hx
     have HC1 := Aside0.mk hC1
     clear hC1
     generalize l0.getD (kk : Int).toNat [] = y at hx hnx HC1 hl1
     have hcall : ∀ W, Below w.heap.size w W → _ := fun W hb => hp W A1 c1 y hb (Kd.C_below HC1.out hb) hl1
     have NX := Aside0.mk hnx
     clear hnx
     cases hq : p y with
     | true =>
       rw [hq] at hcall
       have HQ := Aside0.mk hq
       clear hq
       go_wp2_with (go_at_fn g; refine (hcall _ ?side).mono ?_; (case side => repeat (first | exact HB.out | apply below_alloc | apply pw_below_drewN | apply below_drew1)); rintro e w' ⟨rfl, hb⟩)
       go_ret
       refine ⟨⟨kk, rfl, ?_⟩, below_step HB.out hb⟩
       have h1 := NX.out
       rw [HQ.out] at h1
       have h2 : l0.any p = true := by
         rw [← List.take_append_drop (kk + 1) l0, List.any_append, h1]; simp
       rw [h2]; simp
     | false =>
       rw [hq] at hcall
       have HQ := Aside0.mk hq
       clear hq
       go_wp2_with (go_at_fn g; refine (hcall _ ?side).mono ?_; (case side => repeat (first | exact HB.out | apply below_alloc | apply pw_below_drewN | apply below_drew1)); rintro e w' ⟨rfl, hb⟩)
       go_roundg (l0.length - (kk + 1))
       case measure => omega
       case rel =>
         refine ⟨kk + 1, by omega, by omega, by go_num, ⟨below_step HB.out hb⟩, ⟨?_⟩⟩
         rw [NX.out, HQ.out, A.out]; rfl
   · have hltz : ¬ (kk : Int) < (l0.length : Int) := by omega
     have : kk = l0.length := by omega
     subst this
     go_wp2
     go_ret
     refine ⟨⟨-1, rfl, ?_⟩, HB.out⟩
     have := A.out
     rw [List.take_length] at this
     rw [this]; rfl
set_option maxHeartbeats 8000000 in
set_option maxRecDepth 100000 in
theorem impl_Mix_ContainsFunc_calls (g : Nat) (lb : Array Value) (eg : ∀ args w, (callFunc g args).run Try.prog w = .ok (.enter g args) w) (p : List Int → Bool)
   (A0 : Option Addr) (c0 : Nat) (l0 : List (List Int)) (w : World) (hr0 : Kd.C (Kd.slice 3 (Kd.int .i64)) w A0 l0.length l0)
   (hp : ∀ W A c x, Below w.heap.size w W → Kd.C (Kd.int .i64) W A x.length x → x.length ≤ c → Calls Try.prog g (#[.slice A x.length c] ++ lb) W fun e w' => e = .returned (.bool (p x)) ∧ Below W.heap.size W w') :
   Calls Try.prog 32 #[.slice A0 l0.length c0, .func (.func g) #[] lb] w fun e w' => e = .returned (.bool (l0.any p)) ∧ Below w.heap.size w w' := by
 have hcall := impl_Mix_IndexFunc_calls g lb eg p A0 c0 l0 w hr0 hp
 clear hr0 hp
 have HC := Aside0.mk hcall
 clear hcall
 go_enter Try.func32, Try.ntmps32
 go_wp2_with (go_at_call 85; refine HC.out.mono ?_; rintro e w' ⟨⟨r, rfl, hr⟩, hb⟩)
 go_ret
 exact ⟨by simp [hr], hb⟩
def impl_Mix.sum (ss : List Int) (vs : List (List Int)) (k : Int) : Nat → Int
 | 0 => 0
 | n + 1 => wrap64 (impl_Mix.sum ss vs k n + wrap64 (rd ss (n : Int) * rd (vs.getD n []) k))
def impl_Mix.rows (ss : List Int) (vs : List (List Int)) : Nat → Option (List Int)
 | 0 => some []
 | k + 1 => (impl_Mix.rows ss vs k).bind fun l => (impl_FloorDiv.f 2 (impl_Mix.sum ss vs (k : Int) ss.length) 256).bind fun t => (impl_Clamp.f t 127).bind fun t => some (l ++ [t])
def impl_Mix.one (n : Nat) (x : List Int) : Bool := decide ((x.length : Int) = (n : Int)) && x.all fun x => decide (-127 ≤ x) && decide (x ≤ 127)
def impl_Mix.ok (ss : List Int) (vs : List (List Int)) : Bool :=
 decide (ss.length = vs.length) && decide (1 ≤ ss.length) && decide (ss.length ≤ 32) && (ss.all fun x => decide (0 ≤ x) && decide (x ≤ 256)) && decide (1 ≤ (vs.getD 0 []).length) && decide ((vs.getD 0 []).length ≤ 8) && vs.all (impl_Mix.one (vs.getD 0 []).length)
def impl_Mix.f (l0 : List Int) (l1 : List (List Int)) : Option (List Int × Bool) := if impl_Mix.ok l0 l1 then (impl_Mix.rows l0 l1 (l1.getD 0 []).length).bind fun l => some (l, true) else some ([], false)
theorem impl_Mix.rows_le (ss : List Int) (vs : List (List Int)) (m : Nat) : ∀ n r, impl_Mix.rows ss vs (m + n) = some r → ∃ l, impl_Mix.rows ss vs m = some l
 | 0, r, h => ⟨r, h⟩
 | n + 1, r, h => by
   obtain ⟨l, h1, _⟩ := Option.bind_eq_some_iff.1 (show (impl_Mix.rows ss vs (m + n)).bind _ = some r from h)
   exact impl_Mix.rows_le ss vs m n l h1
theorem impl_Mix.in_yes (x a b : Int) (h1 : a ≤ x) (h2 : x ≤ b) : impl_in.f x a b = some true := by unfold impl_in.f; rw [if_pos h1, decide_eq_true h2]
theorem impl_Mix.in_no (x a b : Int) (h : ¬ (a ≤ x ∧ x ≤ b)) : impl_in.f x a b = some false := by
 unfold impl_in.f
 by_cases h1 : x ≥ a
 · rw [if_pos h1, decide_eq_false (fun h2 => h ⟨h1, h2⟩)]
 · rw [if_neg h1]
set_option maxHeartbeats 8000000 in
set_option maxRecDepth 100000 in
open Go.Proofs.Ytoccifnjhbibcaa.XLaw in
theorem impl_Mix.no (A0 : Option Addr) (c0 : Nat) (l0 : List Int) (A1 : Option Addr) (c1 : Nat) (l1 : List (List Int)) (w : World) (hr0 : Kd.C (Kd.int .i64) w A0 l0.length l0) (hc0 : l0.length ≤ c0) (hr1 : Kd.C (Kd.slice 3 (Kd.int .i64)) w A1 l1.length l1) (hc1 : l1.length ≤ c1) (hok : impl_Mix.ok l0 l1 = false) :
   Calls Try.prog 10 #[.slice A0 l0.length c0, .slice A1 l1.length c1] w fun e w' => e = .returned (.tuple #[.slice none 0 0, .bool false]) ∧ Below w.heap.size w w' := by
 have EG := Aside0.mk (show ∀ args w, (callFunc 33 args).run Try.prog w = .ok (.enter 33 args) w from enters_of Try.func33 (by kernel_rfl) rfl)
 have HR0 := Aside0.mk hr0
 have HR1 := Aside0.mk hr1
 have HC0 := Aside0.mk hc0
 have HC1 := Aside0.mk hc1
 have HOK := Aside0.mk hok
 clear hr0 hr1 hc0 hok hc1
 by_cases h1 : l0.length = l1.length
 · have e1 : ((l0.length : Int) != (l1.length : Int)) = false := bne_eq_false_iff_eq.mpr (by omega)
   have H1 := Aside0.mk h1
   clear h1
   by_cases h2 : (1 : Int) ≤ l0.length ∧ (l0.length : Int) ≤ 32
   · have HI := Aside0.mk (impl_Mix.in_yes _ _ _ h2.1 h2.2)
     have HE := Aside0.mk h2
     cases h3 : (l0.all fun x => decide (0 ≤ x) && decide (x ≤ 256)) with
     | false =>
       have HA := Aside0.mk (show impl_allIn.f l0 0 256 = some false from congrArg some h3)
       clear h2 h3 HOK
       have HN := Now.start w
       go_enter Try.func10, Try.ntmps10
       go_wp2_with (fail)
       refine (impl_in.calls _ _ _ _ _ HI.out).mono ?_
       rintro e w1 ⟨rfl, hb⟩
       (first | (replace hb := Drawn0.below hb) | skip)
       replace HN := Now.below (by repeat (first | exact HN | (with_reducible first | apply Now.alloc | apply Now.drewN | apply Now.drew))) hb
       clear hb
       go_wp2_with (fail)
       refine (impl_allIn.calls _ _ _ _ _ _ _ ?q0 HC0.out HA.out).mono ?_
       case q0 => exact Kd.C_below HR0.out (Now.b (by repeat (first | exact HN | (with_reducible first | apply Now.alloc | apply Now.drewN | apply Now.drew))))
       rintro e w2 ⟨rfl, hb⟩
       (first | (replace hb := Drawn0.below hb) | skip)
       replace HN := Now.below (by repeat (first | exact HN | (with_reducible first | apply Now.alloc | apply Now.drewN | apply Now.drew))) hb
       clear hb
       go_wp2
       go_ret2
       exact ⟨rfl, Now.b (by repeat (first | exact HN | (with_reducible first | apply Now.alloc | apply Now.drewN | apply Now.drew)))⟩
     | true =>
       have HA := Aside0.mk (show impl_allIn.f l0 0 256 = some true from congrArg some h3)
       have H3 := Aside0.mk h3
       obtain ⟨ad, ce, ead, hcl, hK, hcc⟩ := Kd.C_get HR1.out ([] : List Int) 0 (by omega) (by have := H1.out; omega)
       subst ead
       obtain ⟨A2, c2, rfl, hl2, hC2⟩ := hK
       have hx0 : w.cell? ad = some (.slice A2 (l1.getD 0 []).length c2) := by
         have hq := hcc 0 _ rfl
         simpa [Addr.add] using hq
       have hp3 : 0 < l1.length := by have := H1.out; omega
       clear hcc hcl h2 h3 hC2 hl2
       by_cases h4 : (1 : Int) ≤ (l1.getD 0 []).length ∧ ((l1.getD 0 []).length : Int) ≤ 8
       · have HI4 := Aside0.mk (impl_Mix.in_yes _ _ _ h4.1 h4.2)
         have h5 : (l1.all (impl_Mix.one (l1.getD 0 []).length)) = false := by
           have hok := HOK.out
           unfold impl_Mix.ok at hok
           rw [H3.out, decide_eq_true H1.out, decide_eq_true (show 1 ≤ l0.length by have := HE.out; omega), decide_eq_true (show l0.length ≤ 32 by have := HE.out; omega), decide_eq_true (show 1 ≤ (l1.getD 0 []).length by omega), decide_eq_true (show (l1.getD 0 []).length ≤ 8 by omega)] at hok
           simpa using hok
         have H5 := Aside0.mk (show (l1.any fun x => !(impl_Mix.one (l1.getD 0 []).length x)) = true by rw [← List.not_all_eq_any_not, h5]; rfl)
         clear h5 h4 HOK
         generalize hn1 : (l1.getD 0 []).length = n1 at hx0 HI4 H5
         clear hn1
         have hx1 : ∀ w', Below w.heap.size w w' → w'.cell? ad = some (.slice A2 n1 c2) := fun w' hb => (hb.cell (World.block_lt_of_cell? w _ hx0)).trans hx0
         have HX := Aside0.mk hx1
         clear hx0 hx1
         have HN := Now.start w
         go_enter Try.func10, Try.ntmps10
         go_wp2_with (fail)
         refine (impl_in.calls _ _ _ _ _ HI.out).mono ?_
         rintro e w1 ⟨rfl, hb⟩
         (first | (replace hb := Drawn0.below hb) | skip)
         replace HN := Now.below (by repeat (first | exact HN | (with_reducible first | apply Now.alloc | apply Now.drewN | apply Now.drew))) hb
         clear hb
         go_wp2_with (fail)
         refine (impl_allIn.calls _ _ _ _ _ _ _ ?q0 HC0.out HA.out).mono ?_
         case q0 => exact Kd.C_below HR0.out (Now.b (by repeat (first | exact HN | (with_reducible first | apply Now.alloc | apply Now.drewN | apply Now.drew))))
         rintro e w2 ⟨rfl, hb⟩
         (first | (replace hb := Drawn0.below hb) | skip)
         replace HN := Now.below (by repeat (first | exact HN | (with_reducible first | apply Now.alloc | apply Now.drewN | apply Now.drew))) hb
         clear hb
         have hx := HX.out _ (Now.b HN)
         go_wp2_with (fail)
         refine (impl_in.calls _ _ _ _ _ HI4.out).mono ?_
         rintro e w3 ⟨rfl, hb⟩
         (first | (replace hb := Drawn0.below hb) | skip)
         replace HN := Now.below (by repeat (first | exact HN | (with_reducible first | apply Now.alloc | apply Now.drewN | apply Now.drew))) hb
         have hcl : w3.cell? ⟨w2.heap.size, 0, none⟩ = some (.int .i64 (n1 : Int)) := (hb.cell (p := ⟨w2.heap.size, 0, none⟩) (by simp)).trans (by simp)
         clear hb
         have HCN := Aside0.mk (show ∀ W, Below w.heap.size w W → W.cell? ⟨w2.heap.size, 0, none⟩ = some (.int .i64 (n1 : Int)) → Calls Try.prog 32 #[.slice (some ad) l1.length c1, .func (.func 33) #[] #[.pointer (some ⟨w2.heap.size, 0, none⟩)]] W fun e w' => e = .returned (.bool true) ∧ Below W.heap.size W w' from fun W hW hc => by
           have := impl_Mix_ContainsFunc_calls 33 #[.pointer (some ⟨w2.heap.size, 0, none⟩)] EG.out (fun x => !(impl_Mix.one n1 x)) (some ad) c1 l1 W (Kd.C_below HR1.out hW) (fun W2 A c x hb hx hl => impl_Mix_one_calls A c x (n1 : Int) _ W2 hx hl ((hb.cell (World.block_lt_of_cell? W _ hc)).trans hc))
           rwa [show (l1.any fun x => !(impl_Mix.one n1 x)) = true from H5.out] at this)
         go_wp2_with (fail)
         refine (HCN.out _ (Now.b (by repeat (first | exact HN | (with_reducible first | apply Now.alloc | apply Now.drewN | apply Now.drew)))) (by simpa using hcl)).mono ?_
         rintro e w4 ⟨rfl, hb⟩
         (first | (replace hb := Drawn0.below hb) | skip)
         replace HN := Now.below (by repeat (first | exact HN | (with_reducible first | apply Now.alloc | apply Now.drewN | apply Now.drew))) hb
         have hcl2 : w4.cell? ⟨w2.heap.size, 0, none⟩ = some (.int .i64 (n1 : Int)) := (hb.cell (World.block_lt_of_cell? w3 _ hcl)).trans hcl
         clear hb
         clear HCN hcl
         go_wp2
         go_ret2
         exact ⟨rfl, Now.b (by repeat (first | exact HN | (with_reducible first | apply Now.alloc | apply Now.drewN | apply Now.drew)))⟩
       · have HI4 := Aside0.mk (impl_Mix.in_no _ _ _ h4)
         clear h4 HOK
         generalize (l1.getD 0 []).length = n1 at hx0 HI4
         have hx1 : ∀ w', Below w.heap.size w w' → w'.cell? ad = some (.slice A2 n1 c2) := fun w' hb => (hb.cell (World.block_lt_of_cell? w _ hx0)).trans hx0
         have HX := Aside0.mk hx1
         clear hx0 hx1
         have HN := Now.start w
         go_enter Try.func10, Try.ntmps10
         go_wp2_with (fail)
         refine (impl_in.calls _ _ _ _ _ HI.out).mono ?_
         rintro e w1 ⟨rfl, hb⟩
         (first | (replace hb := Drawn0.below hb) | skip)
         replace HN := Now.below (by repeat (first | exact HN | (with_reducible first | apply Now.alloc | apply Now.drewN | apply Now.drew))) hb
         clear hb
         go_wp2_with (fail)
         refine (impl_allIn.calls _ _ _ _ _ _ _ ?q0 HC0.out HA.out).mono ?_
         case q0 => exact Kd.C_below HR0.out (Now.b (by repeat (first | exact HN | (with_reducible first | apply Now.alloc | apply Now.drewN | apply Now.drew))))
         rintro e w2 ⟨rfl, hb⟩
         (first | (replace hb := Drawn0.below hb) | skip)
         replace HN := Now.below (by repeat (first | exact HN | (with_reducible first | apply Now.alloc | apply Now.drewN | apply Now.drew))) hb
         clear hb
         have hx := HX.out _ (Now.b HN)
         go_wp2_with (fail)
         refine (impl_in.calls _ _ _ _ _ HI4.out).mono ?_
         rintro e w3 ⟨rfl, hb⟩
         (first | (replace hb := Drawn0.below hb) | skip)
         replace HN := Now.below (by repeat (first | exact HN | (with_reducible first | apply Now.alloc | apply Now.drewN | apply Now.drew))) hb
         clear hb
         go_wp2
         go_ret2
         exact ⟨rfl, Now.b (by repeat (first | exact HN | (with_reducible first | apply Now.alloc | apply Now.drewN | apply Now.drew)))⟩
   · have HI := Aside0.mk (impl_Mix.in_no _ _ _ h2)
     clear h2 HOK
     have HN := Now.start w
     go_enter Try.func10, Try.ntmps10
     go_wp2_with (fail)
     refine (impl_in.calls _ _ _ _ _ HI.out).mono ?_
     rintro e w1 ⟨rfl, hb⟩
     (first | (replace hb := Drawn0.below hb) | skip)
     replace HN := Now.below (by repeat (first | exact HN | (with_reducible first | apply Now.alloc | apply Now.drewN | apply Now.drew))) hb
     clear hb
     go_wp2
     go_ret2
     exact ⟨rfl, Now.b (by repeat (first | exact HN | (with_reducible first | apply Now.alloc | apply Now.drewN | apply Now.drew)))⟩
 · have e1 : ((l0.length : Int) != (l1.length : Int)) = true := bne_iff_ne.mpr (by omega)
   clear h1 HOK
   have HN := Now.start w
   go_enter Try.func10, Try.ntmps10
   go_wp2
   go_ret2
   exact ⟨rfl, Now.b (by repeat (first | exact HN | (with_reducible first | apply Now.alloc | apply Now.drewN | apply Now.drew)))⟩
set_option maxHeartbeats 8000000 in
set_option maxRecDepth 100000 in
open Go.Proofs.Ytoccifnjhbibcaa.XLaw in
theorem impl_Mix.yes (A0 : Option Addr) (c0 : Nat) (l0 : List Int) (A1 : Option Addr) (c1 : Nat) (l1 : List (List Int)) (r : List Int) (w : World) (hr0 : Kd.C (Kd.int .i64) w A0 l0.length l0) (hc0 : l0.length ≤ c0) (hr1 : Kd.C (Kd.slice 3 (Kd.int .i64)) w A1 l1.length l1) (hc1 : l1.length ≤ c1) (hok : impl_Mix.ok l0 l1 = true) (hrow : impl_Mix.rows l0 l1 (l1.getD 0 []).length = some r) :
   Calls Try.prog 10 #[.slice A0 l0.length c0, .slice A1 l1.length c1] w fun e w' => ∃ v0_ : Value, e = .returned (.tuple #[v0_, .bool true]) ∧ Kd.R (Kd.int .i64) 3 w' w.heap.size (fun _ => True) v0_ r ∧ Below w.heap.size w w' := by
 have EG := Aside0.mk (show ∀ args w, (callFunc 33 args).run Try.prog w = .ok (.enter 33 args) w from enters_of Try.func33 (by kernel_rfl) rfl)
 have HR0 := Aside0.mk hr0
 have HR1 := Aside0.mk hr1
 have HC0 := Aside0.mk hc0
 have HC1 := Aside0.mk hc1
 have HROW := Aside0.mk hrow
 clear hr0 hr1 hc0 hc1 hrow
 unfold impl_Mix.ok at hok
 simp only [Bool.and_eq_true, decide_eq_true_eq] at hok
 obtain ⟨⟨⟨⟨⟨⟨h1, h2⟩, h2'⟩, h3⟩, h4⟩, h4'⟩, h5⟩ := hok
 have e1 : ((l0.length : Int) != (l1.length : Int)) = false := bne_eq_false_iff_eq.mpr (by omega)
 have H1 := Aside0.mk h1
 have HI := Aside0.mk (impl_Mix.in_yes (l0.length : Int) 1 32 (by omega) (by omega))
 have HA := Aside0.mk (show impl_allIn.f l0 0 256 = some true from congrArg some h3)
 have HI4 := Aside0.mk (impl_Mix.in_yes ((l1.getD 0 []).length : Int) 1 8 (by omega) (by omega))
 obtain ⟨ad, ce, ead, hcl, hK, hcc⟩ := Kd.C_get HR1.out ([] : List Int) 0 (by omega) (by omega)
 subst ead
 obtain ⟨A2, c2, rfl, hl2, hC2⟩ := hK
 have hx0 : w.cell? ad = some (.slice A2 (l1.getD 0 []).length c2) := by
   have hq := hcc 0 _ rfl
   simpa [Addr.add] using hq
 have hp3 : 0 < l1.length := by omega
 have HL := Aside0.mk (show ∀ x, x ∈ l1 → x.length = (l1.getD 0 []).length from fun x hx => by
   have := List.all_eq_true.1 h5 x hx
   unfold impl_Mix.one at this
   simp only [Bool.and_eq_true, decide_eq_true_eq] at this
   omega)
 have H5 := Aside0.mk (show (l1.any fun x => !(impl_Mix.one (l1.getD 0 []).length x)) = false by rw [← List.not_all_eq_any_not, h5]; rfl)
 have HLN := Aside0.mk h4'
 have HL0 := Aside0.mk h2'
 clear h1 h2 h2' h3 h4 h4' h5 hcc hcl hC2 hl2
 generalize hn1 : (l1.getD 0 []).length = n1 at hx0 HI4 H5 HL HROW HLN
 clear hn1
 have hx1 : ∀ w', Below w.heap.size w w' → w'.cell? ad = some (.slice A2 n1 c2) := fun w' hb => (hb.cell (World.block_lt_of_cell? w _ hx0)).trans hx0
 have HX := Aside0.mk hx1
 clear hx0 hx1
 have HN := Now.start w
 go_enter Try.func10, Try.ntmps10
 go_wp2_with (fail)
 refine (impl_in.calls _ _ _ _ _ HI.out).mono ?_
 rintro e w1 ⟨rfl, hb⟩
 (first | (replace hb := Drawn0.below hb) | skip)
 replace HN := Now.below (by repeat (first | exact HN | (with_reducible first | apply Now.alloc | apply Now.drewN | apply Now.drew))) hb
 clear hb
 go_wp2_with (fail)
 refine (impl_allIn.calls _ _ _ _ _ _ _ ?q0 HC0.out HA.out).mono ?_
 case q0 => exact Kd.C_below HR0.out (Now.b (by repeat (first | exact HN | (with_reducible first | apply Now.alloc | apply Now.drewN | apply Now.drew))))
 rintro e w2 ⟨rfl, hb⟩
 (first | (replace hb := Drawn0.below hb) | skip)
 replace HN := Now.below (by repeat (first | exact HN | (with_reducible first | apply Now.alloc | apply Now.drewN | apply Now.drew))) hb
 clear hb
 have hx := HX.out _ (Now.b HN)
 go_wp2_with (fail)
 refine (impl_in.calls _ _ _ _ _ HI4.out).mono ?_
 rintro e w3 ⟨rfl, hb⟩
 (first | (replace hb := Drawn0.below hb) | skip)
 replace HN := Now.below (by repeat (first | exact HN | (with_reducible first | apply Now.alloc | apply Now.drewN | apply Now.drew))) hb
 have hcl : w3.cell? ⟨w2.heap.size, 0, none⟩ = some (.int .i64 (n1 : Int)) := (hb.cell (p := ⟨w2.heap.size, 0, none⟩) (by simp)).trans (by simp)
 clear hb
 have HCN := Aside0.mk (show ∀ W, Below w.heap.size w W → W.cell? ⟨w2.heap.size, 0, none⟩ = some (.int .i64 (n1 : Int)) → Calls Try.prog 32 #[.slice (some ad) l1.length c1, .func (.func 33) #[] #[.pointer (some ⟨w2.heap.size, 0, none⟩)]] W fun e w' => e = .returned (.bool false) ∧ Below W.heap.size W w' from fun W hW hc => by
   have := impl_Mix_ContainsFunc_calls 33 #[.pointer (some ⟨w2.heap.size, 0, none⟩)] EG.out (fun x => !(impl_Mix.one n1 x)) (some ad) c1 l1 W (Kd.C_below HR1.out hW) (fun W2 A c x hb hx hl => impl_Mix_one_calls A c x (n1 : Int) _ W2 hx hl ((hb.cell (World.block_lt_of_cell? W _ hc)).trans hc))
   rwa [show (l1.any fun x => !(impl_Mix.one n1 x)) = false from H5.out] at this)
 go_wp2_with (fail)
 refine (HCN.out _ (Now.b (by repeat (first | exact HN | (with_reducible first | apply Now.alloc | apply Now.drewN | apply Now.drew)))) (by simpa using hcl)).mono ?_
 rintro e w4 ⟨rfl, hb⟩
 (first | (replace hb := Drawn0.below hb) | skip)
 replace HN := Now.below (by repeat (first | exact HN | (with_reducible first | apply Now.alloc | apply Now.drewN | apply Now.drew))) hb
 have hcl2 : w4.cell? ⟨w2.heap.size, 0, none⟩ = some (.int .i64 (n1 : Int)) := (hb.cell (World.block_lt_of_cell? w3 _ hcl)).trans hcl
 clear hb
 clear HCN hcl
 go_wp2_with ((with_reducible refine gate_dst (N := 40) rfl ?_); (try (refine gate_guard (by rfl) ?_; dsimp only)); refine Kd.R_lit (Kd.int .i64) w.heap.size 3 ?hg (N := 40) ?hd (xs := ([] : List Int)) (inner := []) (ok := fun _ => True) (okp := fun _ => True) ?hr ?hp (fun _ hk => hk) trivial (Now.b (by repeat (first | exact HN | (with_reducible first | apply Now.alloc | apply Now.drewN | apply Now.drew)))) (Now.size (by repeat (first | exact HN | (with_reducible first | apply Now.alloc | apply Now.drewN | apply Now.drew)))) (by simp) ?_; (case hd => rfl); (case hg => rfl); (case hr => first | (go_simp; done) | (go_simp; rfl)); (case hp => exact (Reps.none _ _)); intro v5 w5 ho hb hg_ hnew_; have hcl3 : w5.cell? ⟨w2.heap.size, 0, none⟩ = some (.int .i64 (n1 : Int)) := (World.cell?_of_block (hg_.block _ (World.block_lt_of_cell? _ _ hcl2) (by simp))).trans hcl2; have HO := Aside0.mk ho; have HB := Aside0.mk hb; clear ho hb hg_ hnew_ hcl2 HN)
 go_loopg [7, 42] n1 (fun gg s7 s42 wr => ∃ (kk : Nat) (l : List Int), kk ≤ n1 ∧ n1 - kk ≤ gg ∧ s42 = .int .i64 kk ∧ Aside0 (impl_Mix.rows l0 l1 kk = some l) ∧ Aside0 (l.length = kk) ∧ Aside0 (Kd.R (Kd.int .i64) 3 wr w.heap.size (fun _ => True) s7 l) ∧ Aside0 (Below w.heap.size w wr))
 case atStart => exact ⟨0, [], Nat.zero_le _, by omega, rfl, ⟨rfl⟩, ⟨rfl⟩, HO, HB⟩
 case round =>
   clear HO HB
   obtain ⟨kk, l, hkk, hg, rfl, HRW, HLL, HO, HB⟩ := hrel
   by_cases hlt : kk < n1
   · obtain ⟨l2, hl2⟩ := impl_Mix.rows_le l0 l1 (kk + 1) (n1 - (kk + 1)) r (by rw [show kk + 1 + (n1 - (kk + 1)) = n1 by omega]; exact HROW.out)
     have hl3 := hl2
     unfold impl_Mix.rows at hl3
     rw [HRW.out, Option.bind_some] at hl3
     obtain ⟨t1, ht1, hl3⟩ := Option.bind_eq_some_iff.1 hl3
     obtain ⟨t2, ht2, hl3⟩ := Option.bind_eq_some_iff.1 hl3
     obtain rfl := Option.some.inj hl3
     have HT1 := Aside0.mk ht1
     have HT2 := Aside0.mk ht2
     have HRW2 := Aside0.mk hl2
     clear ht1 ht2 hl2 hl3 hcl3
     go_wp2
     go_loopg [9, 47] l0.length (fun gg s9 s47 w8 => ∃ j : Nat, j ≤ l0.length ∧ l0.length - j ≤ gg ∧ s47 = .int .i64 j ∧ s9 = .int .i64 (impl_Mix.sum l0 l1 (kk : Int) j) ∧ Aside0 (Kd.R (Kd.int .i64) 3 w8 w.heap.size (fun _ => True) u7 l) ∧ Aside0 (Below w.heap.size w w8))
     case atStart => exact ⟨0, Nat.zero_le _, by omega, rfl, rfl, HO, HB⟩
     case round =>
       clear HO HB
       obtain ⟨j, hj, hg2, rfl, rfl, HO, HB⟩ := hrel
       by_cases hjl : j < l0.length
       · have hj1 : j < l1.length := by have := H1.out; omega
         obtain ⟨ad0, ea0, hy0⟩ := Kd.at_int HR0.out (j : Int) (by omega) (by omega)
         subst ea0
         obtain ⟨ad2, ce2, ead2, hcl2, hK2, hcc2⟩ := Kd.C_get HR1.out ([] : List Int) (j : Int) (by omega) (by omega)
         injection ead2 with ead2
         subst ead2
         obtain ⟨A3, c3, rfl, hl3, hC3⟩ := hK2
         rw [Int.toNat_natCast] at hC3 hcc2 hl3
         have hlen := HL.out (l1.getD j []) (by rw [List.getD_eq_getElem?_getD, List.getElem?_eq_getElem hj1]; exact List.getElem_mem hj1)
         obtain ⟨ad3, ea3, hz0⟩ := Kd.at_int hC3 (kk : Int) (by omega) (by omega)
         subst ea3
         rw [Int.toNat_natCast] at hy0 hz0
         have hw0 : w.cell? (ad.add j) = some (.slice (some ad3) (l1.getD j []).length c3) := by
           have hq := hcc2 0 _ rfl
           rw [show (Kd.slice 3 (Kd.int .i64)).sz = 1 from rfl, Nat.mul_one, Nat.add_zero] at hq
           exact hq
         have hy := pw_cell_below HB.out hy0
         have hw := pw_cell_below HB.out hw0
         have hz := pw_cell_below HB.out hz0
         have hs : impl_Mix.sum l0 l1 (kk : Int) (j + 1) = wrap64 (impl_Mix.sum l0 l1 (kk : Int) j + wrap64 (rd l0 (j : Int) * rd (l1.getD j []) (kk : Int))) := rfl
         have HS := Aside0.mk hs
         have hkk3 : (kk : Int) < ((l1.getD j []).length : Int) := by omega
         rw [hlen] at hw hkk3
         clear hs hlen hC3 hcc2 hcl2 hl3 hy0 hz0 hw0
         generalize rd (l1.getD j []) (kk : Int) = q2 at hz HS
         generalize rd l0 (j : Int) = q1 at hy HS
         generalize impl_Mix.sum l0 l1 (kk : Int) j = q0 at HS
         have hj32 : (j : Int) ≤ 32 := by have := HL0.out; omega
         go_wp2
         go_roundg (l0.length - (j + 1))
         case measure => omega
         case rel => exact ⟨j + 1, by omega, by omega, by go_num, by rw [HS.out], HO, HB⟩
       · have hjz : ¬ (j : Int) < (l0.length : Int) := by omega
         obtain rfl : j = l0.length := by omega
         have hll : l.length < 17592186044416 := by have := HLL.out; have := HLN.out; omega
         have HLL2 := Aside0.mk hll
         clear hll
         generalize impl_Mix.sum l0 l1 (kk : Int) l0.length = q0 at HT1
         go_wp2_with (fail)
         refine (impl_FloorDiv.calls _ _ _ _ _ HT1.out).mono ?_
         rintro e w9 ⟨rfl, ⟨_, rfl⟩⟩
         go_wp2_with (fail)
         refine (impl_Clamp.calls _ _ _ _ HT2.out).mono ?_
         rintro e w9 ⟨rfl, hb⟩
         replace HB := Aside0.mk (below_step (pw_below_drewN HB.out _) hb)
         replace HO := Aside0.mk (Kd.R_below (Kd.R_drewN HO.out _) hb)
         clear hb
         have hk8 : (kk : Int) ≤ 8 := by have := HLN.out; omega
         go_wp2_with ((with_reducible refine gate_builtin (b := .append) (xs := #[.tmp 64, .tmp 68]) rfl ?_); (try (refine gate_guard (by rfl) ?_; dsimp only)); at_builtin; refine Kd.R_append (Kd.int .i64) (w0 := w) w.heap.size rfl (.tmp 64) (.tmp 68) 24 3 (.int .i64 0) 8 rfl Try.underlying24 info3 rfl (by decide) (by omega) u7 l t2 [.int .i64 t2] (fun _ => True) (fun _ => False) rfl rfl ?aP (fun _ hk => hk.elim) ?aF ?aO ?aB ?aS ?aL ?_; (case aP => exact rfl); (case aB => exact (by repeat (first | (with_reducible first | exact HB.out | apply below_alloc | apply pw_below_drewN | apply below_drew1) | exact HB.out))); (case aF => exact (fun _ _ => trivial)); (case aO => exact (by (with_reducible repeat (first | apply Kd.R_alloc | apply Kd.R_drewN | apply Kd.R_drew)); exact HO.out)); (case aS => exact (below_size (by repeat (first | (with_reducible first | exact HB.out | apply below_alloc | apply pw_below_drewN | apply below_drew1) | exact HB.out)))); (case aL => have := HLL2.out; omega); intro v131 w22 ho hb hg hat; replace HB := Aside0.mk hb; replace HO := Aside0.mk ho; clear ho hb hg hat)
         go_roundg (n1 - (kk + 1))
         case measure => omega
         case rel => exact ⟨kk + 1, l ++ [t2], by omega, by omega, by go_num, HRW2, ⟨by rw [List.length_append, HLL.out]; rfl⟩, HO, HB⟩
   · have hkz : ¬ (kk : Int) < (n1 : Int) := by omega
     obtain rfl : kk = n1 := by omega
     obtain rfl : l = r := Option.some.inj (HRW.out.symm.trans HROW.out)
     go_wp2
     go_ret2
     exact ⟨_, rfl, HO.out, HB.out⟩
theorem impl_Mix.calls (A0 : Option Addr) (c0 : Nat) (l0 : List Int) (A1 : Option Addr) (c1 : Nat) (l1 : List (List Int)) (r1 : List Int) (r2 : Bool) (w : World) (hr0 : Kd.C (Kd.int .i64) w A0 l0.length l0) (hc0 : l0.length ≤ c0) (hr1 : Kd.C (Kd.slice 3 (Kd.int .i64)) w A1 l1.length l1) (hc1 : l1.length ≤ c1) (h : impl_Mix.f l0 l1 = some (r1, r2)) :
   Calls Try.prog 10 #[.slice A0 l0.length c0, .slice A1 l1.length c1] w fun e w' => ∃ v0_ : Value, e = .returned (.tuple #[v0_, .bool r2]) ∧ Kd.R (Kd.int .i64) 3 w' w.heap.size (fun _ => True) v0_ r1 ∧ Below w.heap.size w w' := by
 unfold impl_Mix.f at h
 cases hok : impl_Mix.ok l0 l1 with
 | false =>
   rw [hok] at h
   simp only [Bool.false_eq_true, if_false, Option.some.injEq, Prod.mk.injEq] at h
   obtain ⟨rfl, rfl⟩ := h
   exact (impl_Mix.no A0 c0 l0 A1 c1 l1 w hr0 hc0 hr1 hc1 hok).mono fun e w' ⟨he, hb⟩ => ⟨_, he, Kd.R_nil _ _ _ _ _, hb⟩
 | true =>
   rw [hok, if_pos rfl] at h
   obtain ⟨l, hl, h⟩ := Option.bind_eq_some_iff.1 h
   simp only [Option.some.injEq, Prod.mk.injEq] at h
   obtain ⟨rfl, rfl⟩ := h
   exact impl_Mix.yes A0 c0 l0 A1 c1 l1 l w hr0 hc0 hr1 hc1 hok hl
mutual
def impl_Score.j0 : Nat → List Int → List Int → Bool → Option (Int × Bool)
 | 0, _, _, _ => none
 | k + 1, x0, x1, x29 => if x29 = true then (some (0, false)) else (impl_Score.l0 k x1 0 x0 (x0.length : Int) 0)
def impl_Score.l0 : Nat → List Int → Int → List Int → Int → Int → Option (Int × Bool)
 | 0, _, _, _, _, _ => none
 | k + 1, x1, x6, x30, x31, x32 => if x32 < x31 then (if 0 ≤ x32 then (if x32 < (x30.length : Int) then (if x32 < (x1.length : Int) then (impl_Score.l0 k x1 (wrap64 (x6 + (wrap64 ((rd x30 x32) * (rd x1 x32))))) x30 x31 (wrap64 (x32 + 1))) else (none)) else (none)) else (none)) else ((impl_FloorDiv.f k x6 16).bind fun t107 => (some (t107, true)))
end
def impl_Score.f (k : Nat) (l0 : List Int) (l1 : List Int) : Option (Int × Bool) := if (l0.length : Int) = (l1.length : Int) then ((impl_in.f (l0.length : Int) 1 8).bind fun t102 => (if t102 = true then ((impl_allIn.f l0 (-127) 127).bind fun t103 => (if t103 = true then ((impl_allIn.f l1 (-127) 127).bind fun t104 => (impl_Score.j0 k l0 l1 (!t104))) else (impl_Score.j0 k l0 l1 true))) else (impl_Score.j0 k l0 l1 true))) else (impl_Score.j0 k l0 l1 true)
set_option maxHeartbeats 8000000 in
set_option maxRecDepth 100000 in
theorem impl_Score.calls (k : Nat) (A0 : Option Addr) (c0 : Nat) (l0 : List Int) (A1 : Option Addr) (c1 : Nat) (l1 : List Int) (r1 : Int) (r2 : Bool) (w : World) (hr0 : Kd.C (Kd.int .i64) w A0 l0.length l0) (hc0 : l0.length ≤ c0) (hr1 : Kd.C (Kd.int .i64) w A1 l1.length l1) (hc1 : l1.length ≤ c1) (h : impl_Score.f k l0 l1 = some (r1, r2)) :
   Calls Try.prog 11 #[.slice A0 l0.length c0, .slice A1 l1.length c1] w fun e w' => e = .returned (.tuple #[.int .i64 r1, .bool r2]) ∧ Below w.heap.size w w' := by
 have HR0 := Aside0.mk hr0
 have HC0 := Aside0.mk hc0
 clear hr0 hc0
 have HR1 := Aside0.mk hr1
 have HC1 := Aside0.mk hc1
 clear hr1 hc1
 have HB := Aside0.mk (Below.refl w.heap.size w)
 have H : (if (l0.length : Int) = (l1.length : Int) then ((impl_in.f (l0.length : Int) 1 8).bind fun t102 => (if t102 = true then ((impl_allIn.f l0 (-127) 127).bind fun t103 => (if t103 = true then ((impl_allIn.f l1 (-127) 127).bind fun t104 => (impl_Score.j0 k l0 l1 (!t104))) else (impl_Score.j0 k l0 l1 true))) else (impl_Score.j0 k l0 l1 true))) else (impl_Score.j0 k l0 l1 true)) = some (r1, r2) := h
 clear h
 have HC3 := Aside0.mk H
 clear H
 go_enter Try.func11, Try.ntmps11
 go_upto_region 1 with (fail)
 go_cut [29] (fun v29 wc => ∃ (kq : Nat) (x29_2 : Bool), v29 = .bool x29_2 ∧ Aside0 (impl_Score.j0 kq l0 l1 x29_2 = some (r1, r2)) ∧ Aside0 (kq ≤ k) ∧ Aside0 (Below w.heap.size w wc))
 case first =>
   have H := HC3.out
   clear HC3
   by_cases c4 : (l0.length : Int) = (l1.length : Int)
   · rw [if_pos c4] at H
     have c4b0 : ((l0.length : Int) == (l1.length : Int)) = true := beq_iff_eq.mpr c4
     have c4b1 : ((l0.length : Int) != (l1.length : Int)) = false := bne_eq_false_iff_eq.mpr c4
     have c4b2 : (l0.length == l1.length) = true := by first | simpa using c4 | (simp at c4 ⊢; omega)
     clear c4
     (first | rw [c4b0] | (simp only [i64_w, i32_w]; rw [c4b0]) | skip)
     replace H := Option.bind_eq_some_iff.mp H
     obtain ⟨t102, A50, H⟩ := H
     replace H : (if t102 = true then ((impl_allIn.f l0 (-127) 127).bind fun t103 => (if t103 = true then ((impl_allIn.f l1 (-127) 127).bind fun t104 => (impl_Score.j0 k l0 l1 (!t104))) else (impl_Score.j0 k l0 l1 true))) else (impl_Score.j0 k l0 l1 true)) = some (r1, r2) := H
     have A5 := Aside0.mk A50
     clear A50
     by_cases c6 : t102 = true
     · subst c6
       have H1 : ((impl_allIn.f l0 (-127) 127).bind fun t103 => (if t103 = true then ((impl_allIn.f l1 (-127) 127).bind fun t104 => (impl_Score.j0 k l0 l1 (!t104))) else (impl_Score.j0 k l0 l1 true))) = some (r1, r2) := by rw [if_pos rfl] at H; exact H
       clear H
       have H := H1
       clear H1
       replace H := Option.bind_eq_some_iff.mp H
       obtain ⟨t103, A70, H⟩ := H
       replace H : (if t103 = true then ((impl_allIn.f l1 (-127) 127).bind fun t104 => (impl_Score.j0 k l0 l1 (!t104))) else (impl_Score.j0 k l0 l1 true)) = some (r1, r2) := H
       have A7 := Aside0.mk A70
       clear A70
       by_cases c8 : t103 = true
       · subst c8
         have H1 : ((impl_allIn.f l1 (-127) 127).bind fun t104 => (impl_Score.j0 k l0 l1 (!t104))) = some (r1, r2) := by rw [if_pos rfl] at H; exact H
         clear H
         have H := H1
         clear H1
         replace H := Option.bind_eq_some_iff.mp H
         obtain ⟨t104, A90, H⟩ := H
         replace H : (impl_Score.j0 k l0 l1 (!t104)) = some (r1, r2) := H
         have A9 := Aside0.mk A90
         clear A90
         have H' := Aside0.mk H
         clear H
         go_wp2_with (first | (go_at_call 30; (with_reducible refine (impl_in.calls (l0.length : Int) 1 8 true _ A5.out).mono ?_); rintro e w' ⟨rfl, ⟨nd, rfl⟩⟩) | (go_at_call 31; (with_reducible refine (impl_allIn.calls _ _ l0 (-127) 127 true _ ?side1 ?side2 A7.out).mono ?_); (case side1 => repeat (first | exact (Kd.C_below HR0.out (by repeat (first | (with_reducible first | exact HB.out | apply below_alloc | apply pw_below_drewN | apply below_drew1) | exact HB.out))) | (with_reducible refine Kd.C_alloc ?_ _) | (with_reducible refine Kd.C_drewN ?_ _) | (with_reducible refine Kd.C_drew ?_))); (case side2 => exact HC0.out); rintro e w10 ⟨rfl, hb⟩; have n0_ := Aside0.mk (below_step (by repeat (first | (with_reducible first | exact HB.out | apply below_alloc | apply pw_below_drewN | apply below_drew1) | exact HB.out)) hb); clear HB; have HB := n0_; clear n0_; (try clear hb); (try clear hb2); (try clear hk); (try clear hi)) | (go_at_call 31; (with_reducible refine (impl_allIn.calls _ _ l1 (-127) 127 t104 _ ?side1 ?side2 A9.out).mono ?_); (case side1 => repeat (first | exact (Kd.C_below HR1.out HB.out) | (with_reducible refine Kd.C_alloc ?_ _) | (with_reducible refine Kd.C_drewN ?_ _) | (with_reducible refine Kd.C_drew ?_))); (case side2 => exact HC1.out); rintro e w11 ⟨rfl, hb⟩; have n0_ := Aside0.mk (below_step (by repeat (first | (with_reducible first | exact HB.out | apply below_alloc | apply pw_below_drewN | apply below_drew1) | exact HB.out)) hb); clear HB; have HB := n0_; clear n0_; (try clear hb); (try clear hb2); (try clear hk); (try clear hi)))
         go_meet
         case rel => exact ⟨_, (!t104), (by first | rfl | (simp; done) | (simp [*]; done)), H', ⟨by first | omega | exact Nat.le_refl _⟩, ⟨by repeat (first | (with_reducible first | exact HB.out | apply below_alloc | apply pw_below_drewN | apply below_drew1) | exact HB.out)⟩⟩
       · replace c8 := Bool.eq_false_iff.mpr c8
         subst c8
         have H1 : (impl_Score.j0 k l0 l1 true) = some (r1, r2) := by rw [if_neg (show ¬ (false = true) by decide)] at H; exact H
         clear H
         have H := H1
         clear H1
         have H' := Aside0.mk H
         clear H
         go_wp2_with (first | (go_at_call 30; (with_reducible refine (impl_in.calls (l0.length : Int) 1 8 true _ A5.out).mono ?_); rintro e w' ⟨rfl, ⟨nd, rfl⟩⟩) | (go_at_call 31; (with_reducible refine (impl_allIn.calls _ _ l0 (-127) 127 false _ ?side1 ?side2 A7.out).mono ?_); (case side1 => repeat (first | exact (Kd.C_below HR0.out (by repeat (first | (with_reducible first | exact HB.out | apply below_alloc | apply pw_below_drewN | apply below_drew1) | exact HB.out))) | (with_reducible refine Kd.C_alloc ?_ _) | (with_reducible refine Kd.C_drewN ?_ _) | (with_reducible refine Kd.C_drew ?_))); (case side2 => exact HC0.out); rintro e w12 ⟨rfl, hb⟩; have n0_ := Aside0.mk (below_step (by repeat (first | (with_reducible first | exact HB.out | apply below_alloc | apply pw_below_drewN | apply below_drew1) | exact HB.out)) hb); clear HB; have HB := n0_; clear n0_; (try clear hb); (try clear hb2); (try clear hk); (try clear hi)))
         go_meet
         case rel => exact ⟨_, (true), (by first | rfl | (simp; done) | (simp [*]; done)), H', ⟨by first | omega | exact Nat.le_refl _⟩, ⟨by repeat (first | (with_reducible first | exact HB.out | apply below_alloc | apply pw_below_drewN | apply below_drew1) | exact HB.out)⟩⟩
     · replace c6 := Bool.eq_false_iff.mpr c6
       subst c6
       have H1 : (impl_Score.j0 k l0 l1 true) = some (r1, r2) := by rw [if_neg (show ¬ (false = true) by decide)] at H; exact H
       clear H
       have H := H1
       clear H1
       have H' := Aside0.mk H
       clear H
       go_wp2_with (first | (go_at_call 30; (with_reducible refine (impl_in.calls (l0.length : Int) 1 8 false _ A5.out).mono ?_); rintro e w' ⟨rfl, ⟨nd, rfl⟩⟩))
       go_meet
       case rel => exact ⟨_, (true), (by first | rfl | (simp; done) | (simp [*]; done)), H', ⟨by first | omega | exact Nat.le_refl _⟩, ⟨by repeat (first | (with_reducible first | exact HB.out | apply below_alloc | apply pw_below_drewN | apply below_drew1) | exact HB.out)⟩⟩
   · rw [if_neg c4] at H
     have c4b0 : ((l0.length : Int) == (l1.length : Int)) = false := beq_eq_false_iff_ne.mpr c4
     have c4b1 : ((l0.length : Int) != (l1.length : Int)) = true := bne_iff_ne.mpr c4
     have c4b2 : (l0.length == l1.length) = false := by first | simpa using c4 | (simp at c4 ⊢; omega)
     (first | rw [c4b0] | (simp only [i64_w, i32_w]; rw [c4b0]) | skip)
     have H' := Aside0.mk H
     clear H
     go_wp2
     go_meet
     case rel => exact ⟨_, (true), (by first | rfl | (simp; done) | (simp [*]; done)), H', ⟨by first | omega | exact Nat.le_refl _⟩, ⟨by repeat (first | (with_reducible first | exact HB.out | apply below_alloc | apply pw_below_drewN | apply below_drew1) | exact HB.out)⟩⟩
 case rest =>
   clear HC3
   try clear c1
   try clear p2
   try clear c4
   try clear c4b0
   try clear c4b1
   try clear c4b2
   try clear c6
   try clear c8
   try clear c11
   obtain ⟨kq, x29_2, rfl, HA, HJ2, HB⟩ := hcut
   cases kq with
   | zero => exact absurd HA.out (by simp [impl_Score.j0])
   | succ kj2 =>
     have H := HA.out
     clear HA
     simp only [impl_Score.j0] at H
     by_cases c13 : x29_2 = true
     · subst c13
       have H1 : (some (0, false)) = some (r1, r2) := by rw [if_pos rfl] at H; exact H
       clear H
       have H := H1
       clear H1
       simp only [Option.some.injEq, Prod.mk.injEq] at H
       obtain ⟨rfl, rfl⟩ := H
       go_wp2
       go_ret2
       exact ⟨by first | rfl | (simp [errW_none, errW_some] <;> rfl) | (simp [*, errW_none, errW_some] <;> rfl), by repeat (first | (with_reducible first | exact HB.out | apply below_alloc | apply pw_below_drewN | apply below_drew1) | exact HB.out)⟩
     · replace c13 := Bool.eq_false_iff.mpr c13
       subst c13
       have H1 : (impl_Score.l0 kj2 l1 0 l0 (l0.length : Int) 0) = some (r1, r2) := by rw [if_neg (show ¬ (false = true) by decide)] at H; exact H
       clear H
       have H := H1
       clear H1
       have H' := Aside0.mk H
       clear H
       go_wp2
       go_loopg [6, 32] kj2 (fun kq v6 v32 w' => ∃ (x6_2 : Int) (x32_2 : Int), v6 = .int .i64 x6_2 ∧ v32 = .int .i64 x32_2 ∧ Aside0 (impl_Score.l0 kq l1 x6_2 l0 (l0.length : Int) x32_2 = some (r1, r2)) ∧ Aside0 (kq ≤ kj2) ∧ Aside0 (Below w.heap.size w w'))
       case atStart => exact ⟨(0), (0), (by first | rfl | (simp; done) | (simp [*]; done)), (by first | rfl | (simp; done) | (simp [*]; done)), H', ⟨Nat.le_refl _⟩, ⟨by repeat (first | (with_reducible first | exact HB.out | apply below_alloc | apply pw_below_drewN | apply below_drew1) | exact HB.out)⟩⟩
       case round =>
         clear H'
         try clear c1
         try clear p2
         try clear c4
         try clear c4b0
         try clear c4b1
         try clear c4b2
         try clear c6
         try clear c8
         try clear c11
         try clear c13
         try clear p2
         obtain ⟨x6_2, x32_2, rfl, rfl, HA, HK2, HB⟩ := hrel
         cases gk with
         | zero => exact absurd HA.out (by simp [impl_Score.l0])
         | succ k2 =>
           have H := HA.out
           clear HA
           simp only [impl_Score.l0] at H
           by_cases c14 : x32_2 < (l0.length : Int)
           · rw [if_pos c14] at H
             have c14b0 : decide (x32_2 < (l0.length : Int)) = true := decide_eq_true c14
             clear c14
             by_cases c15 : 0 ≤ x32_2
             · rw [if_pos c15] at H
               have c15b0 : decide (0 ≤ x32_2) = true := decide_eq_true c15
               clear c15
               by_cases c16 : x32_2 < (l0.length : Int)
               · rw [if_pos c16] at H
                 have c16b0 : decide (x32_2 < (l0.length : Int)) = true := decide_eq_true c16
                 clear c16
                 by_cases c17 : x32_2 < (l1.length : Int)
                 · rw [if_pos c17] at H
                   have c17b0 : decide (x32_2 < (l1.length : Int)) = true := decide_eq_true c17
                   clear c17
                   have H' := Aside0.mk H
                   clear H
                   have p105 : 0 ≤ (x32_2 : Int) := of_decide_eq_true (by first | (with_reducible assumption) | assumption)
                   have q105 : x32_2 < (l0.length : Int) := of_decide_eq_true (by first | (with_reducible assumption) | assumption)
                   obtain ⟨ad105, e105, hx105_0⟩ := Kd.at_int HR0.out x32_2 p105 q105
                   cases e105
                   replace hx105_0 := (HB.out.cell (World.block_lt_of_cell? w _ hx105_0)).trans hx105_0
                   replace p105 := eq_true p105
                   replace q105 := eq_true q105
                   have p106 : 0 ≤ (x32_2 : Int) := of_decide_eq_true (by first | (with_reducible assumption) | assumption)
                   have q106 : x32_2 < (l1.length : Int) := of_decide_eq_true (by first | (with_reducible assumption) | assumption)
                   obtain ⟨ad106, e106, hx106_0⟩ := Kd.at_int HR1.out x32_2 p106 q106
                   cases e106
                   replace hx106_0 := (HB.out.cell (World.block_lt_of_cell? w _ hx106_0)).trans hx106_0
                   replace p106 := eq_true p106
                   replace q106 := eq_true q106
                   go_wp2
                   go_roundg k2
                   case measure => have := HJ2.out; have := HK2.out; omega
                   case rel => exact ⟨(wrap64 (x6_2 + (wrap64 ((rd l0 x32_2) * (rd l1 x32_2))))), (wrap64 (x32_2 + 1)), (by first | rfl | (simp; done) | (simp [*]; done)), (by first | rfl | (simp; done) | (simp [*]; done)), H', ⟨by have := HJ2.out; have := HK2.out; omega⟩, ⟨by repeat (first | (with_reducible first | exact HB.out | apply below_alloc | apply pw_below_drewN | apply below_drew1) | exact HB.out)⟩⟩
                 · rw [if_neg c17] at H
                   exact absurd H (by simp)
               · rw [if_neg c16] at H
                 exact absurd H (by simp)
             · rw [if_neg c15] at H
               exact absurd H (by simp)
           · rw [if_neg c14] at H
             have c14b0 : decide (x32_2 < (l0.length : Int)) = false := decide_eq_false c14
             clear c14
             replace H := Option.bind_eq_some_iff.mp H
             obtain ⟨t107, A180, H⟩ := H
             replace H : (some (t107, true)) = some (r1, r2) := H
             have A18 := Aside0.mk A180
             clear A180
             simp only [Option.some.injEq, Prod.mk.injEq] at H
             obtain ⟨rfl, rfl⟩ := H
             go_wp2_with (first | ((with_reducible refine gate_callee (f := 35) rfl ?_); refine goesL_ (some 47) rfl rfl Try.func35 (by kernel_rfl) rfl #[.int .i64 x6_2, .int .i64 16] rfl (by (try simp only [List.map_toArray, List.map_cons, List.map_nil]); first | done | rfl | (simp only [List.length_drop, List.length_take]; rfl)) ?_; (with_reducible refine (impl_FloorDiv.calls k2 x6_2 16 t107 _ A18.out).mono ?_); rintro e w' ⟨rfl, ⟨nd, rfl⟩⟩; refine ⟨_, rfl, ?_⟩))
             go_ret2
             exact ⟨by first | rfl | (simp [errW_none, errW_some] <;> rfl) | (simp [*, errW_none, errW_some] <;> rfl), by repeat (first | (with_reducible first | exact HB.out | apply below_alloc | apply pw_below_drewN | apply below_drew1) | exact HB.out)⟩
def impl_scores.l0 : Nat → List Int → List Int → List (List Int) → Int → Int → Option (List Int × Bool)
 | 0, _, _, _, _, _ => none
 | k + 1, x0, x6, x12, x13, x14 => if x14 < x13 then (if 0 ≤ x14 then (if x14 < (x12.length : Int) then ((impl_Score.f k x0 (rd_L3 x12 x14)).bind fun bt112 => (if bt112.2 = true then (if x6.length < 17592186044416 then (impl_scores.l0 k x0 (x6 ++ [bt112.1]) x12 x13 (wrap64 (x14 + 1))) else (none)) else (some (([] : List Int), false)))) else (none)) else (none)) else (some (x6, true))
def impl_scores.f (k : Nat) (l0 : List Int) (l1 : List (List Int)) : Option (List Int × Bool) := impl_scores.l0 k l0 (([] : List Int)) l1 (l1.length : Int) 0
set_option maxHeartbeats 8000000 in
set_option maxRecDepth 100000 in
theorem impl_scores.calls (k : Nat) (A0 : Option Addr) (c0 : Nat) (l0 : List Int) (A1 : Option Addr) (c1 : Nat) (l1 : List (List Int)) (r1 : List Int) (r2 : Bool) (w : World) (hr0 : Kd.C (Kd.int .i64) w A0 l0.length l0) (hc0 : l0.length ≤ c0) (hr1 : Kd.C (Kd.slice 3 (Kd.int .i64)) w A1 l1.length l1) (hc1 : l1.length ≤ c1) (h : impl_scores.f k l0 l1 = some (r1, r2)) :
   Calls Try.prog 25 #[.slice A0 l0.length c0, .slice A1 l1.length c1] w fun e w' => ∃ v0_ : Value, e = .returned (.tuple #[v0_, .bool r2]) ∧ Kd.R (Kd.int .i64) 3 w' w.heap.size (fun _ => True) v0_ r1 ∧ Below w.heap.size w w' := by
 have HR0 := Aside0.mk hr0
 have HC0 := Aside0.mk hc0
 clear hr0 hc0
 have HR1 := Aside0.mk hr1
 have HC1 := Aside0.mk hc1
 clear hr1 hc1
 have HB := Aside0.mk (Below.refl w.heap.size w)
 have H : (impl_scores.l0 k l0 (([] : List Int)) l1 (l1.length : Int) 0) = some (r1, r2) := h
 clear h
 obtain ⟨y108, hy108⟩ : ∃ y_ : List Int, y_ = (([] : List Int)) := ⟨_, rfl⟩
 replace H : (impl_scores.l0 k l0 y108 l1 (l1.length : Int) 0) = some (r1, r2) := by first | (rw [hy108]; with_reducible exact H) | (have H2_ := (Option.bind_some _ _).symm.trans H; rw [hy108]; with_reducible exact H2_) | (have H2_ := (Option.bind_some _ _).symm.trans H; with_reducible exact H2_) | with_reducible exact H | (rw [hy108]; exact H) | exact H
 have Ny108 := Aside0.mk hy108
 clear hy108
 have H' := Aside0.mk H
 clear H
 go_enter Try.func25, Try.ntmps25
 go_wp2_with (first | ((with_reducible refine gate_dst (N := 11) rfl ?_); refine Kd.R_lit (Kd.int .i64) _ 3 ?hg (N := 11) ?hd (xs := ([] : List Int)) (inner := []) (ok := fun _ => True) (okp := fun _ => True) ?hr ?hp (fun _ hk => hk) trivial (Below.refl _ _) (Nat.le_refl _) (by simp) ?_; (case hd => rfl); (case hg => rfl); (case hr => first | (go_simp; done) | (go_simp; rfl)); (case hp => exact (Reps.none _ _)); intro v109 w3 ho4 hb hg_ hnew_; clear hg_ hnew_; (first | rw [← Ny108.out] at ho4 | (simp only [Int.reduceToNat] at ho4; rw [← Ny108.out] at ho4)); have n0_ := Aside0.mk (Kd.R_lower ho4 (below_size (by repeat (first | (with_reducible first | exact HB.out | apply below_alloc | apply pw_below_drewN | apply below_drew1) | exact HB.out)))); have n1_ := Aside0.mk (below_step (by repeat (first | (with_reducible first | exact HB.out | apply below_alloc | apply pw_below_drewN | apply below_drew1) | exact HB.out)) hb); clear HB; have HO110 := n0_; have HB := n1_; clear n0_ n1_; clear hb ho4))
 go_loopg [6, 14] k (fun kq v6 v14 w' => ∃ (x6_1 : List Int) (x14_1 : Int), v14 = .int .i64 x14_1 ∧ Aside0 (impl_scores.l0 kq l0 x6_1 l1 (l1.length : Int) x14_1 = some (r1, r2)) ∧ Aside0 (kq ≤ k) ∧ Aside0 (Kd.R (Kd.int .i64) 3 w' w.heap.size (fun _ => True) v6 x6_1) ∧ Aside0 (Below w.heap.size w w'))
 case atStart => exact ⟨(y108), (0), (by first | rfl | (simp; done) | (simp [*]; done)), H', ⟨Nat.le_refl _⟩, ⟨by (with_reducible repeat (first | apply Kd.R_alloc | apply Kd.R_drewN | apply Kd.R_drew)); exact HO110.out⟩, ⟨by repeat (first | (with_reducible first | exact HB.out | apply below_alloc | apply pw_below_drewN | apply below_drew1) | exact HB.out)⟩⟩
 case round =>
   clear H'
   try clear c1
   try clear c2
   try clear p2
   obtain ⟨x6_1, x14_1, rfl, HA, HK1, HO_6, HB⟩ := hrel
   cases gk with
   | zero => exact absurd HA.out (by simp [impl_scores.l0])
   | succ k1 =>
     have H := HA.out
     clear HA
     simp only [impl_scores.l0] at H
     by_cases c5 : x14_1 < (l1.length : Int)
     · rw [if_pos c5] at H
       have c5b0 : decide (x14_1 < (l1.length : Int)) = true := decide_eq_true c5
       clear c5
       by_cases c6 : 0 ≤ x14_1
       · rw [if_pos c6] at H
         have c6b0 : decide (0 ≤ x14_1) = true := decide_eq_true c6
         clear c6
         by_cases c7 : x14_1 < (l1.length : Int)
         · rw [if_pos c7] at H
           have c7b0 : decide (x14_1 < (l1.length : Int)) = true := decide_eq_true c7
           clear c7
           replace H := Option.bind_eq_some_iff.mp H
           obtain ⟨⟨t112, t113⟩, A80, H⟩ := H
           replace H : (if t113 = true then (if x6_1.length < 17592186044416 then (impl_scores.l0 k1 l0 (x6_1 ++ [t112]) l1 (l1.length : Int) (wrap64 (x14_1 + 1))) else (none)) else (some (([] : List Int), false))) = some (r1, r2) := H
           have A8 := Aside0.mk A80
           clear A80
           by_cases c9 : t113 = true
           · subst c9
             have H1 : (if x6_1.length < 17592186044416 then (impl_scores.l0 k1 l0 (x6_1 ++ [t112]) l1 (l1.length : Int) (wrap64 (x14_1 + 1))) else (none)) = some (r1, r2) := by rw [if_pos rfl] at H; exact H
             clear H
             have H := H1
             clear H1
             by_cases c10 : x6_1.length < 17592186044416
             · rw [if_pos c10] at H
               have LMc10 := Aside0.mk c10
               clear c10
               obtain ⟨y114, hy114⟩ : ∃ y_ : List Int, y_ = (x6_1 ++ [t112]) := ⟨_, rfl⟩
               replace H : (impl_scores.l0 k1 l0 y114 l1 (l1.length : Int) (wrap64 (x14_1 + 1))) = some (r1, r2) := by first | (rw [hy114]; with_reducible exact H) | (have H2_ := (Option.bind_some _ _).symm.trans H; rw [hy114]; with_reducible exact H2_) | (have H2_ := (Option.bind_some _ _).symm.trans H; with_reducible exact H2_) | with_reducible exact H | (rw [hy114]; exact H) | exact H
               have Ny114 := Aside0.mk hy114
               clear hy114
               have H' := Aside0.mk H
               clear H
               have p111 : 0 ≤ (x14_1 : Int) := of_decide_eq_true (by first | (with_reducible assumption) | assumption)
               have q111 : x14_1 < (l1.length : Int) := of_decide_eq_true (by first | (with_reducible assumption) | assumption)
               obtain ⟨ad111, A111_0, c111_0, e111, hx111_0, hl111_0, hi111_0⟩ := at_L3 HR1.out x14_1 p111 q111
               cases e111
               replace hx111_0 := (HB.out.cell (World.block_lt_of_cell? w _ hx111_0)).trans hx111_0
               have HR111_0 := Aside0.mk hi111_0
               have HC111_0 := Aside0.mk hl111_0
               clear hi111_0 hl111_0
               replace p111 := eq_true p111
               replace q111 := eq_true q111
               go_wp2_with (first | ((with_reducible refine gate_callee (f := 11) rfl ?_); refine goesL_ (some 21) rfl rfl Try.func11 (by kernel_rfl) rfl #[.slice A0 l0.length c0, .slice A111_0 (rd_L3 l1 x14_1).length c111_0] rfl (by (try simp only [List.map_toArray, List.map_cons, List.map_nil]); first | done | rfl | (simp only [List.length_drop, List.length_take]; rfl)) ?_; (with_reducible refine (impl_Score.calls k1 _ _ l0 _ _ (rd_L3 l1 x14_1) t112 true _ ?side1 ?side2 ?side3 ?side4 A8.out).mono ?_); (case side1 => repeat (first | exact (Kd.C_below HR0.out HB.out) | (with_reducible refine Kd.C_alloc ?_ _) | (with_reducible refine Kd.C_drewN ?_ _) | (with_reducible refine Kd.C_drew ?_))); (case side2 => exact HC0.out); (case side3 => repeat (first | exact (Kd.C_below HR111_0.out HB.out) | (with_reducible refine Kd.C_alloc ?_ _) | (with_reducible refine Kd.C_drewN ?_ _) | (with_reducible refine Kd.C_drew ?_))); (case side4 => exact HC111_0.out); rintro e w11 ⟨rfl, hb⟩; refine ⟨_, rfl, ?_⟩; have n0_ := Aside0.mk (Kd.R_below (by (with_reducible repeat (first | apply Kd.R_alloc | apply Kd.R_drewN | apply Kd.R_drew)); exact HO_6.out) hb); have n1_ := Aside0.mk (below_step (by repeat (first | (with_reducible first | exact HB.out | apply below_alloc | apply pw_below_drewN | apply below_drew1) | exact HB.out)) hb); clear HO_6; clear HB; have HO_6 := n0_; have HB := n1_; clear n0_ n1_; (try clear hb); (try clear hb2); (try clear hk); (try clear hi)) | ((with_reducible refine gate_builtin (b := .append) (xs := #[.tmp 26, .tmp 28]) rfl ?_); at_builtin; refine Kd.R_append (Kd.int .i64) (w0 := w) w.heap.size rfl (.tmp 26) (.tmp 28) 24 3 (.int .i64 0) 8 rfl Try.underlying24 info3 rfl (by decide) (by omega) u6 x6_1 t112 [.int .i64 t112] (fun _ => True) (fun _ => False) rfl rfl ?aP (fun _ hk => hk.elim) ?aF ?aO ?aB ?aS ?aL ?_; (case aP => exact rfl); (case aB => exact (by repeat (first | (with_reducible first | exact HB.out | apply below_alloc | apply pw_below_drewN | apply below_drew1) | exact HB.out))); (case aF => exact (fun _ _ => trivial)); (case aO => exact (by (with_reducible repeat (first | apply Kd.R_alloc | apply Kd.R_drewN | apply Kd.R_drew)); exact HO_6.out)); (case aS => exact (below_size (by repeat (first | (with_reducible first | exact HB.out | apply below_alloc | apply pw_below_drewN | apply below_drew1) | exact HB.out)))); (case aL => have := LMc10.out; omega); intro v115 w12 ho hb hg hat; rw [← Ny114.out] at ho; have n0_ := Aside0.mk (hb); have n1_ := Aside0.mk (ho); clear HB; clear HO_6; have HB := n0_; have HO116 := n1_; clear n0_ n1_; clear ho hb hg hat))
               go_roundg k1
               case measure => have := HK1.out; omega
               case rel => exact ⟨(y114), (wrap64 (x14_1 + 1)), (by first | rfl | (simp; done) | (simp [*]; done)), H', ⟨by have := HK1.out; omega⟩, ⟨by (with_reducible repeat (first | apply Kd.R_alloc | apply Kd.R_drewN | apply Kd.R_drew)); exact HO116.out⟩, ⟨by repeat (first | (with_reducible first | exact HB.out | apply below_alloc | apply pw_below_drewN | apply below_drew1) | exact HB.out)⟩⟩
             · rw [if_neg c10] at H
               exact absurd H (by simp)
           · replace c9 := Bool.eq_false_iff.mpr c9
             subst c9
             have H1 : (some (([] : List Int), false)) = some (r1, r2) := by rw [if_neg (show ¬ (false = true) by decide)] at H; exact H
             clear H
             have H := H1
             clear H1
             simp only [Option.some.injEq, Prod.mk.injEq] at H
             obtain ⟨rfl, rfl⟩ := H
             have p111 : 0 ≤ (x14_1 : Int) := of_decide_eq_true (by first | (with_reducible assumption) | assumption)
             have q111 : x14_1 < (l1.length : Int) := of_decide_eq_true (by first | (with_reducible assumption) | assumption)
             obtain ⟨ad111, A111_0, c111_0, e111, hx111_0, hl111_0, hi111_0⟩ := at_L3 HR1.out x14_1 p111 q111
             cases e111
             replace hx111_0 := (HB.out.cell (World.block_lt_of_cell? w _ hx111_0)).trans hx111_0
             have HR111_0 := Aside0.mk hi111_0
             have HC111_0 := Aside0.mk hl111_0
             clear hi111_0 hl111_0
             replace p111 := eq_true p111
             replace q111 := eq_true q111
             go_wp2_with (first | ((with_reducible refine gate_callee (f := 11) rfl ?_); refine goesL_ (some 21) rfl rfl Try.func11 (by kernel_rfl) rfl #[.slice A0 l0.length c0, .slice A111_0 (rd_L3 l1 x14_1).length c111_0] rfl (by (try simp only [List.map_toArray, List.map_cons, List.map_nil]); first | done | rfl | (simp only [List.length_drop, List.length_take]; rfl)) ?_; (with_reducible refine (impl_Score.calls k1 _ _ l0 _ _ (rd_L3 l1 x14_1) t112 false _ ?side1 ?side2 ?side3 ?side4 A8.out).mono ?_); (case side1 => repeat (first | exact (Kd.C_below HR0.out HB.out) | (with_reducible refine Kd.C_alloc ?_ _) | (with_reducible refine Kd.C_drewN ?_ _) | (with_reducible refine Kd.C_drew ?_))); (case side2 => exact HC0.out); (case side3 => repeat (first | exact (Kd.C_below HR111_0.out HB.out) | (with_reducible refine Kd.C_alloc ?_ _) | (with_reducible refine Kd.C_drewN ?_ _) | (with_reducible refine Kd.C_drew ?_))); (case side4 => exact HC111_0.out); rintro e w13 ⟨rfl, hb⟩; refine ⟨_, rfl, ?_⟩; have n0_ := Aside0.mk (Kd.R_below (by (with_reducible repeat (first | apply Kd.R_alloc | apply Kd.R_drewN | apply Kd.R_drew)); exact HO_6.out) hb); have n1_ := Aside0.mk (below_step (by repeat (first | (with_reducible first | exact HB.out | apply below_alloc | apply pw_below_drewN | apply below_drew1) | exact HB.out)) hb); clear HO_6; clear HB; have HO_6 := n0_; have HB := n1_; clear n0_ n1_; (try clear hb); (try clear hb2); (try clear hk); (try clear hi)))
             go_ret2
             exact ⟨_, by first | rfl | (simp [errW_none, errW_some] <;> rfl) | (simp [*, errW_none, errW_some] <;> rfl), by first | exact Kd.R_nil _ _ _ _ _ | exact Kd.N_nil _ _ _ _ _ | exact Kd.V_nil _ _ _ _ _ | exact Kd.Q_nil _ _ _ _ _ | exact Kd.S_nil _ _ _ _ _, by repeat (first | (with_reducible first | exact HB.out | apply below_alloc | apply pw_below_drewN | apply below_drew1) | exact HB.out)⟩
         · rw [if_neg c7] at H
           exact absurd H (by simp)
       · rw [if_neg c6] at H
         exact absurd H (by simp)
     · rw [if_neg c5] at H
       have c5b0 : decide (x14_1 < (l1.length : Int)) = false := decide_eq_false c5
       clear c5
       simp only [Option.some.injEq, Prod.mk.injEq] at H
       obtain ⟨rfl, rfl⟩ := H
       go_wp2
       go_ret2
       exact ⟨_, by first | rfl | (simp [errW_none, errW_some] <;> rfl) | (simp [*, errW_none, errW_some] <;> rfl), by (with_reducible repeat (first | apply Kd.R_alloc | apply Kd.R_drewN | apply Kd.R_drew)); exact HO_6.out, by repeat (first | (with_reducible first | exact HB.out | apply below_alloc | apply pw_below_drewN | apply below_drew1) | exact HB.out)⟩
end Go.Proofs.Ytoccifnjhbibcaa.PFnMixes
