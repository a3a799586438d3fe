/- Functions that the statement reaches, as Lean functions, and the proof that a call of each comes to just its answer; written by this claim's own program. No conditions. -/
import Derived.Test.YtlpginalgdbopaaPFnBlocksx0
import Derived.Test.YtlpginalgdbopaaPFnBlocksx1
import Derived.Test.YtlpginalgdbopaaVFnBlocks1
namespace Go.Proofs.Ytlpginalgdbopaa.PFnBlocks
open Try
open Go.RowKit Go.Proofs.YtlpginalgdbopaaW.PrintWords Go.Proofs.YtlpginalgdbopaaW.PrintLast Go.Proofs.YtlpginalgdbopaaW.PrintMore Go.Proofs.Ytlpginalgdbopaa.XW Go.Proofs.Ytlpginalgdbopaa.XOp Go.Proofs.Ytlpginalgdbopaa.XSt Go.Proofs.Ytlpginalgdbopaa.XDraw
set_option linter.unusedVariables false
set_option linter.unusedSimpArgs false
set_option maxHeartbeats 4000000
set_option maxRecDepth 20000
structure S149 where
 f0 : Int
 f1 : List Int
abbrev kS3 := Kd.slice 3 kI
def k149 : Kd S149 := Kd.iso (Kd.pair kI kS3) (fun x : S149 => (x.f0, x.f1))
theorem k149_mk (w : World) (x : S149) {A1 : Option Addr} {c1 : Nat} (l1 : x.f1.length ≤ c1) (g1 : kI.C w A1 x.f1.length x.f1) : k149.K w x [vi x.f0, .slice A1 x.f1.length c1] := (pI (lS l1 g1))
structure S62 where
 f0 : List (List S149)
 f1 : List (List S149)
abbrev kS149 := Kd.slice 149 k149
abbrev kS133 := Kd.slice 133 kS149
def k62 : Kd S62 := Kd.iso (Kd.pair kS133 kS133) (fun x : S62 => (x.f0, x.f1))
theorem k62_mk (w : World) (x : S62) {A0 : Option Addr} {c0 : Nat} (l0 : x.f0.length ≤ c0) (g0 : kS149.C w A0 x.f0.length x.f0) {A1 : Option Addr} {c1 : Nat} (l1 : x.f1.length ≤ c1) (g1 : kS149.C w A1 x.f1.length x.f1) : k62.K w x [.slice A0 x.f0.length c0, .slice A1 x.f1.length c1] := (pS l0 g0 (lS l1 g1))
structure S58 where
 f0 : List Int
 f1 : List (List S62)
abbrev kS62 := Kd.slice 62 k62
abbrev kS71 := Kd.slice 71 kS62
def k58 : Kd S58 := Kd.iso (Kd.pair kS3 kS71) (fun x : S58 => (x.f0, x.f1))
structure S67 where
 f0 : List Int
 f1 : Int
def k67 : Kd S67 := Kd.iso (Kd.pair kS3 kI) (fun x : S67 => (x.f0, x.f1))
theorem k67_mk (w : World) (x : S67) {A0 : Option Addr} {c0 : Nat} (l0 : x.f0.length ≤ c0) (g0 : kI.C w A0 x.f0.length x.f0) : k67.K w x [.slice A0 x.f0.length c0, vi x.f1] := (pS l0 g0 rfl)
structure S146 where
 f0 : List Int
 f1 : Int
 f2 : Int
abbrev kS5 := Kd.slice 5 kU
def o149 : S149 := ⟨0, []⟩
theorem h149 : Kd.Heap k149 := Kd.heap_iso _ (Kd.heap_pair (Kd.heap_int _) (Kd.heap_slice _ (Kd.heap_int _)))
def o62 : S62 := ⟨[], []⟩
theorem h62 : Kd.Heap k62 := Kd.heap_iso _ (Kd.heap_pair (Kd.heap_slice _ (Kd.heap_slice _ h149)) (Kd.heap_slice _ (Kd.heap_slice _ h149)))
def o67 : S67 := ⟨[], 0⟩
theorem at62_0 {w : World} {x : S62} {cs : List Value} (h : AtK k62 w x cs 0) : AtK kS133 w x.f0 cs 0 := h.iso.fst
theorem at62_1 {w : World} {x : S62} {cs : List Value} (h : AtK k62 w x cs 0) : AtK kS133 w x.f1 cs 1 := (h.iso.snd rfl)
theorem at67_0 {w : World} {x : S67} {cs : List Value} (h : AtK k67 w x cs 0) : AtK kS3 w x.f0 cs 0 := h.iso.fst
theorem at67_1 {w : World} {x : S67} {cs : List Value} (h : AtK k67 w x cs 0) : AtK kI w x.f1 cs 1 := (h.iso.snd rfl)
theorem at149_0 {w : World} {x : S149} {cs : List Value} (h : AtK k149 w x cs 0) : AtK kI w x.f0 cs 0 := h.iso.fst
theorem at149_1 {w : World} {x : S149} {cs : List Value} (h : AtK k149 w x cs 0) : AtK kS3 w x.f1 cs 1 := (h.iso.snd rfl)
def dq149 : Dk S149 := Dk.iso (Dk.pair (Dk.int .i64) (Dk.slice 3 (Dk.int .i64))) (fun x : S149 => (x.f0, x.f1))
theorem dq149_mk (w : World) (x : S149) {v1 : Value} {b1 : List Nat} (h1 : (Dk.slice 3 (Dk.int .i64)).B w x.f1 [v1] b1) : dq149.B w x [vi x.f0, v1] b1 := ⟨[vi x.f0], [v1], [], b1, rfl, (by simp), ⟨rfl, rfl⟩, h1⟩
def dq62 : Dk S62 := Dk.iso (Dk.pair (Dk.slice 133 (Dk.slice 149 dq149)) (Dk.slice 133 (Dk.slice 149 dq149))) (fun x : S62 => (x.f0, x.f1))
theorem dq62_mk (w : World) (x : S62) {v0 : Value} {b0 : List Nat} (h0 : (Dk.slice 133 (Dk.slice 149 dq149)).B w x.f0 [v0] b0) {v1 : Value} {b1 : List Nat} (h1 : (Dk.slice 133 (Dk.slice 149 dq149)).B w x.f1 [v1] b1) : dq62.B w x [v0, v1] (b0 ++ b1) := ⟨[v0], [v1], b0, b1, rfl, (by simp), h0, h1⟩
def laws_big.g (k : Nat) (l0 : List Int) : Option Bool := (some (decide ((l0.length : Int) > 1048576)))
theorem laws_big.runs (k : Nat) (A0 : Option Addr) (c0 : Nat) (l0 : List Int) (r : Bool) (w : World) (hr0 : kU.C w A0 l0.length l0) (hc0 : l0.length ≤ c0) (H : laws_big.g k l0 = some r) :
   Calls prog 37 #[.slice A0 l0.length c0] w fun e w' => e = .returned (.bool r) ∧ Below w.heap.size w w' := by
 unfold laws_big.g at H
 have HS : St (fun _ => True) w w [] [(cF kU A0 l0)] [] := St.start (foot_cons (foot_C (Kd.heap_int _) hr0) foot_nil)
 refine cw_ (n := 6) func37 fun R_ hR_ => ?_
 refine sr_ fun _ hK1 => ?_
 refine ad_ hK1 ?_
 refine sr_ fun _ hK2 => ?_
 refine mv_ ?_
 refine ln_ underlying48 ?_
 refine b_ bin_gtr ?_
 refine ad_ hK2 ?_
 obtain rfl := os H
 exact rt1 Try.f37 rfl rfl hR_ ⟨rfl, HS.b⟩
def spec_l05All.b0 (l0 : List Int) (a1 : Int) (a2 : Int) (rec_ : Int → Option (Bool ⊕ Int)) (k15 : Nat) (i8 : Int) : Option (Bool ⊕ Int) := (if i8 < (l0.length : Int) then (if 0 ≤ i8 ∧ i8 < (l0.length : Int) then ((spec_l01In.f (l0.getD i8.toNat 0) a1 a2).bind fun t24 => (if t24 = true then (rec_ (wrap64 (i8 + 1))) else (some (Sum.inl false)))) else none) else (some (Sum.inr i8)))
def spec_l05All.l0 (l0 : List Int) (a1 : Int) (a2 : Int) : Nat → Int → Option (Bool ⊕ Int)
 | 0, _ => none
 | k + 1, i8 => spec_l05All.b0 l0 a1 a2 (spec_l05All.l0 l0 a1 a2 k) k i8
def spec_l05All.g (k : Nat) (l0 : List Int) (a1 : Int) (a2 : Int) : Option Bool := ((spec_l05All.l0 l0 a1 a2 k 0).bind (fun oc13 => match oc13 with | .inl r_ => some r_ | .inr i8 => (some true)))
theorem spec_l05All.runs (k : Nat) (A0 : Option Addr) (c0 : Nat) (l0 : List Int) (a1 : Int) (a2 : Int) (r : Bool) (w : World) (hr0 : kI.C w A0 l0.length l0) (hc0 : l0.length ≤ c0) (H : spec_l05All.g k l0 a1 a2 = some r) :
   Calls prog 82 #[.slice A0 l0.length c0, vi a1, vi a2] w fun e w' => e = .returned (.bool r) ∧ Below w.heap.size w w' := by
 unfold spec_l05All.g at H
 have HS : St (fun _ => True) w w [] [(cF kI A0 l0)] [] := St.start (foot_cons (foot_C (Kd.heap_int _) hr0) foot_nil)
 refine cw_ (n := 22) func82 fun R_ hR_ => ?_
 refine sr_ fun _ hK1 => ?_
 refine ad_ hK1 ?_
 refine WC.seq fun K2 hK2 => ?_
 refine sr_ fun _ hK3 => ?_
 refine ad_ hK3 ?_
 refine WC.block ?_
 obtain ⟨G4, hG5, oc6, H, Ho7⟩ := open_G H
 let J9 := fun (i8 : Int) (E_ : Env) (W_ : World) => E_ = [(0, .slice A0 l0.length c0), (1, vi a1), (2, vi a2), (7, vi i8)] ∧ St (fun _ => True) w W_ [] [(cF kI A0 l0)] []
 have X10 : ∀ E_ W_, (∃ i8, G4 (Sum.inr i8) = some r ∧ J9 i8 E_ W_) → ∀ a, Fits a 22 E_ → K2 a W_ := by
   rintro E_ w11 ⟨i8, H, rfl, HS⟩
   rw [hG5] at H
   (try dsimp only at H)
   refine hK2 _ _ ?_
   refine sr_ fun _ hK12 => ?_
   refine ad_ hK12 ?_
   obtain rfl := os H
   exact rt1 Try.f82 rfl rfl hR_ ⟨rfl, HS.b⟩
 clear hK2
 refine WC.loop (fun k_ E_ W_ => ∃ i8, (∃ o_, spec_l05All.l0 l0 a1 a2 k_ i8 = some o_ ∧ G4 o_ = some r) ∧ J9 i8 E_ W_) k ⟨0, ⟨_, H, Ho7⟩, rfl, HS⟩ (sb rfl) ?_
 rintro k_ E_ w14 ⟨i8, ⟨oc6, H, Ho7⟩, rfl, HS⟩
 rcases k_ with _ | k15
 · exact no_ H
 replace H : spec_l05All.b0 l0 a1 a2 (spec_l05All.l0 l0 a1 a2 k15) k15 i8 = some oc6 := H
 unfold spec_l05All.b0 at H
 refine WC.seq fun _ hK16 => ?_
 refine sr_ fun _ hK17 => ?_
 refine mv_ ?_
 refine mv_ ?_
 refine ln_ underlying22 ?_
 refine b_ bin_lss ?_
 refine dn_ hK17 ?_
 rcases eti_ H with ⟨c18, H⟩ | ⟨c18, H⟩
 · refine wn_ (dF c18) (WC.exit ?_)
   obtain rfl := os H
   exact wv_ iq X10 ⟨i8, Ho7, rfl, HS⟩
 refine wy_ (dT c18) (WC.skip (via_ hK16 (WC.seq fun _ hK19 => ?_)))
 refine WC.block (sr_ fun _ hK20 => ?_)
 refine mv_ ?_
 refine mv_ ?_
 obtain ⟨⟨q21, q22⟩, H⟩ := if_some H
 obtain ⟨ad23, rfl⟩ := C_open (HS.getO 0 rfl) (lenpos q21 q22)
 refine v_ (ia_ underlying22 1 q21 q22) ?_
 refine v_ (Run.load rfl rfl underlying3 rfl (int_cell (HS.getO 0 rfl) i8 q21 q22)) ?_
 refine mv_ ?_
 refine mv_ ?_
 obtain ⟨t24, ha25, H⟩ := bind_some H
 refine cs0_ HS func79 (spec_l01In.calls (l0.getD i8.toNat 0) a1 a2 t24 _ ha25) (fun w26 HS => ?_)
 clear ha25
 refine nt_ ?_
 refine dn_ hK20 ?_
 rcases ite_ H with ⟨c27, H⟩ | ⟨c27, H⟩
 · refine wn_ (nB c27) (WC.skip (via_ hK19 (rg_ (mv_ ?_))))
   refine b_ bin_add64 ?_
   refine as_ ?_
   refine WL.done ?_
   exact wr_ k15 iq ⟨(wrap64 (i8 + 1)), ⟨_, H, Ho7⟩, rfl, HS⟩
 refine wy_ (nB (bF c27)) (sr_ fun _ hK28 => ?_)
 refine ad_ hK28 ?_
 refine WC.ret ?_
 obtain rfl := os H
 rw [hG5] at Ho7
 replace H : some _ = some _ := Ho7
 obtain rfl := os H
 exact fin1 Try.f82 rfl rfl hR_ ⟨rfl, HS.b⟩
def spec_PoolOk.g (k : Nat) (l0 : List Int) : Option Bool := (if (l0.length : Int) ≤ 16 then ((spec_l05All.g k l0 0 20).bind fun t4 => (some t4)) else (some false))
theorem spec_PoolOk.runs (k : Nat) (A0 : Option Addr) (c0 : Nat) (l0 : List Int) (r : Bool) (w : World) (hr0 : kI.C w A0 l0.length l0) (hc0 : l0.length ≤ c0) (H : spec_PoolOk.g k l0 = some r) :
   Calls prog 146 #[.slice A0 l0.length c0] w fun e w' => e = .returned (.bool r) ∧ Below w.heap.size w w' := by
 unfold spec_PoolOk.g at H
 have HS : St (fun _ => True) w w [] [(cF kI A0 l0)] [] := St.start (foot_cons (foot_C (Kd.heap_int _) hr0) foot_nil)
 refine cw_ (n := 10) func146 fun R_ hR_ => ?_
 refine sr_ fun _ hK1 => ?_
 refine ad_ hK1 ?_
 refine sr_ fun _ hK2 => ?_
 refine mv_ ?_
 refine ln_ underlying22 ?_
 refine b_ bin_leq ?_
 refine mv_ ?_
 rcases eti_ H with ⟨c3, H⟩ | ⟨c3, H⟩
 · refine off_ (c' := false) (dF c3) ?_
   refine WL.know 6 (dF c3) ?_
   refine fast_ ?_
   refine via_ hK2 ?_
   obtain rfl := os H
   exact rt1 Try.f146 rfl rfl hR_ ⟨rfl, HS.b⟩
 refine on_ (dT c3) (mv_ ?_)
 refine on_ (dT c3) ?_
 obtain ⟨t4, ha5, H⟩ := bind_some H
 refine cs_ HS func82 (spec_l05All.runs k A0 c0 l0 0 20 t4 _ (HS.getO 0 rfl) hc0 ha5) (fun w6 HS => ?_)
 clear ha5
 refine v_ (Run.pickT rfl rfl (dT c3) rfl) ?_
 refine ad_ hK2 ?_
 obtain rfl := os H
 exact rt1 Try.f146 rfl rfl hR_ ⟨rfl, HS.b⟩
def spec_StoreOk.b0 (x0 : S58) (rec_ : Int → Option (Bool ⊕ Int)) (k24 : Nat) (i17 : Int) : Option (Bool ⊕ Int) := (if i17 < (x0.f1.length : Int) then (if 0 ≤ i17 ∧ i17 < (x0.f1.length : Int) then (if ((x0.f1.getD i17.toNat []).length : Int) > 4 then (some (Sum.inl false)) else (if 0 ≤ i17 ∧ i17 < (x0.f0.length : Int) then (if (x0.f0.getD i17.toNat 0) = 0 then (if ((x0.f1.getD i17.toNat []).length : Int) > 0 then (some (Sum.inl false)) else (rec_ (wrap64 (i17 + 1)))) else (rec_ (wrap64 (i17 + 1)))) else none)) else none) else (some (Sum.inr i17)))
def spec_StoreOk.l0 (x0 : S58) : Nat → Int → Option (Bool ⊕ Int)
 | 0, _ => none
 | k + 1, i17 => spec_StoreOk.b0 x0 (spec_StoreOk.l0 x0 k) k i17
def spec_StoreOk.g (k : Nat) (x0 : S58) : Option Bool := ((spec_PoolOk.g k x0.f0).bind fun t6 => (if t6 = true then (if (x0.f1.length : Int) = (x0.f0.length : Int) then ((spec_StoreOk.l0 x0 k 0).bind (fun oc22 => match oc22 with | .inl r_ => some r_ | .inr i17 => (some true))) else (some false)) else (some false)))
theorem spec_StoreOk.runs (k : Nat) (x0 : S58) (A0_0 : Option Addr) (c0_0 : Nat) (A0_1 : Option Addr) (c0_1 : Nat) (r : Bool) (w : World) (hr0_0 : kI.C w A0_0 x0.f0.length x0.f0) (hc0_0 : x0.f0.length ≤ c0_0) (hr0_1 : kS62.C w A0_1 x0.f1.length x0.f1) (hc0_1 : x0.f1.length ≤ c0_1) (H : spec_StoreOk.g k x0 = some r) :
   Calls prog 121 #[.agg #[.slice A0_0 x0.f0.length c0_0, .slice A0_1 x0.f1.length c0_1]] w fun e w' => e = .returned (.bool r) ∧ Below w.heap.size w w' := by
 unfold spec_StoreOk.g at H
 have HS : St (fun _ => True) w w [] [(cF kI A0_0 x0.f0), (cF kS62 A0_1 x0.f1)] [] := St.start (foot_cons (foot_C (Kd.heap_int _) hr0_0) (foot_cons (foot_C (Kd.heap_slice _ h62) hr0_1) foot_nil))
 refine cw_ (n := 48) func121 fun R_ hR_ => ?_
 refine sr_ fun _ hK1 => ?_
 refine bo_ HS (fun b2 w3 hb2 HS => ?_)
 refine ad_ hK1 ?_
 refine WC.seq fun _ hK4 => ?_
 refine sr_ fun _ hK5 => ?_
 refine v_ (fa_ underlying58) ?_
 refine v_ (lb_ (HS.mu 0 rfl) underlying22 rfl) ?_
 obtain ⟨t6, ha7, H⟩ := bind_some H
 refine cs_ HS func146 (spec_PoolOk.runs k A0_0 c0_0 x0.f0 t6 _ (HS.getO 0 rfl) hc0_0 ha7) (fun w8 HS => ?_)
 clear ha7
 refine nt_ ?_
 refine mv_ ?_
 rcases eti_ H with ⟨c9, H⟩ | ⟨c9, H⟩
 · refine off_ (c' := true) (nB (bF c9)) ?_
   refine WL.know 8 (nB (bF c9)) ?_
   refine fast_ ?_
   refine via_ hK5 (wy_ rfl ?_)
   refine sr_ fun _ hK45 => ?_
   refine ad_ hK45 ?_
   obtain rfl := os H
   exact rt1 Try.f121 rfl rfl hR_ ⟨rfl, HS.b⟩
 refine on_ (nB c9) (v_ (fa_ underlying58) ?_)
 refine on_ (nB c9) (v_ (lb_ (HS.mu 0 rfl) underlying56 rfl) ?_)
 refine on_ (nB c9) (ln_ underlying56 ?_)
 refine on_ (nB c9) (v_ (fa_ underlying58) ?_)
 refine on_ (nB c9) (v_ (lb_ (HS.mu 0 rfl) underlying22 rfl) ?_)
 refine on_ (nB c9) (ln_ underlying22 ?_)
 refine on_ (nB c9) (b_ bin_neq ?_)
 refine v_ (Run.pickF rfl rfl (nB c9) rfl) ?_
 refine dn_ hK5 ?_
 rcases eti_ H with ⟨c10, H⟩ | ⟨c10, H⟩
 · refine wy_ (qT c10) (sr_ fun _ hK44 => ?_)
   refine ad_ hK44 ?_
   obtain rfl := os H
   exact rt1 Try.f121 rfl rfl hR_ ⟨rfl, HS.b⟩
 refine wn_ (qF c10) (WC.skip (via_ hK4 (WC.seq fun K11 hK11 => ?_)))
 refine sr_ fun _ hK12 => ?_
 refine ad_ hK12 ?_
 refine WC.block ?_
 obtain ⟨G13, hG14, oc15, H, Ho16⟩ := open_G H
 let J18 := fun (i17 : Int) (E_ : Env) (W_ : World) => E_ = [(1, .pointer (some ⟨b2, 0, none⟩)), (3, vi i17)] ∧ St (fun _ => True) w W_ [boxM b2 #[.slice A0_0 x0.f0.length c0_0, .slice A0_1 x0.f1.length c0_1] 58] [(cF kI A0_0 x0.f0), (cF kS62 A0_1 x0.f1)] []
 have X19 : ∀ E_ W_, (∃ i17, G13 (Sum.inr i17) = some r ∧ J18 i17 E_ W_) → ∀ a, Fits a 48 E_ → K11 a W_ := by
   rintro E_ w20 ⟨i17, H, rfl, HS⟩
   rw [hG14] at H
   (try dsimp only at H)
   refine hK11 _ _ ?_
   refine sr_ fun _ hK21 => ?_
   refine ad_ hK21 ?_
   obtain rfl := os H
   exact rt1 Try.f121 rfl rfl hR_ ⟨rfl, HS.b⟩
 clear hK11
 refine WC.loop (fun k_ E_ W_ => ∃ i17, (∃ o_, spec_StoreOk.l0 x0 k_ i17 = some o_ ∧ G13 o_ = some r) ∧ J18 i17 E_ W_) k ⟨0, ⟨_, H, Ho16⟩, rfl, HS⟩ (sb rfl) ?_
 rintro k_ E_ w23 ⟨i17, ⟨oc15, H, Ho16⟩, rfl, HS⟩
 rcases k_ with _ | k24
 · exact no_ H
 replace H : spec_StoreOk.b0 x0 (spec_StoreOk.l0 x0 k24) k24 i17 = some oc15 := H
 unfold spec_StoreOk.b0 at H
 refine WC.seq fun _ hK25 => ?_
 refine sr_ fun _ hK26 => ?_
 refine mv_ ?_
 refine v_ (fa_ underlying58) ?_
 refine v_ (lb_ (HS.mu 0 rfl) underlying56 rfl) ?_
 refine ln_ underlying56 ?_
 refine b_ bin_lss ?_
 refine dn_ hK26 ?_
 rcases eti_ H with ⟨c27, H⟩ | ⟨c27, H⟩
 · refine wn_ (dF c27) (WC.exit ?_)
   obtain rfl := os H
   exact wv_ iq X19 ⟨i17, Ho16, rfl, HS⟩
 refine wy_ (dT c27) (WC.skip (via_ hK25 (WC.seq fun _ hK28 => ?_)))
 refine WC.block (sr_ fun _ hK29 => ?_)
 refine v_ (fa_ underlying58) ?_
 refine v_ (lb_ (HS.mu 0 rfl) underlying56 rfl) ?_
 refine mv_ ?_
 obtain ⟨⟨q30, q31⟩, H⟩ := if_some H
 obtain ⟨ad32, rfl⟩ := C_open (HS.getO 1 rfl) (lenpos q30 q31)
 refine v_ (ia_ underlying56 1 q30 q31) ?_
 obtain ⟨A33, c34, le35, HS⟩ := HS.slO 1 rfl i17 q30 q31
 refine v_ (Run.load rfl rfl underlying71 rfl (HS.getO 1 rfl)) ?_
 refine ln_ underlying71 ?_
 refine b_ bin_gtr ?_
 refine mv_ ?_
 rcases ite_ H with ⟨c36, H⟩ | ⟨c36, H⟩
 · refine off_ (c' := true) (dT c36) ?_
   refine WL.know 31 (dT c36) ?_
   refine fast_ ?_
   refine via_ hK29 (wy_ rfl ?_)
   refine sr_ fun _ hK37 => ?_
   refine ad_ hK37 ?_
   refine WC.ret ?_
   obtain rfl := os H
   rw [hG14] at Ho16
   replace H : some _ = some _ := Ho16
   obtain rfl := os H
   exact fin1 Try.f121 rfl rfl hR_ ⟨rfl, HS.b⟩
 refine on_ (dF c36) (v_ (fa_ underlying58) ?_)
 refine on_ (dF c36) (v_ (lb_ (HS.mu 0 rfl) underlying22 rfl) ?_)
 refine on_ (dF c36) (mv_ ?_)
 refine on_ (dF c36) ?_
 obtain ⟨⟨q38, q39⟩, H⟩ := if_some H
 obtain ⟨ad40, rfl⟩ := C_open (HS.getO 2 rfl) (lenpos q38 q39)
 refine v_ (ia_ underlying22 1 q38 q39) ?_
 refine on_ (dF c36) (v_ (Run.load rfl rfl underlying3 rfl (int_cell (HS.getO 2 rfl) i17 q38 q39)) ?_)
 refine on_ (dF c36) (b_ bin_eql ?_)
 refine on_ (dF c36) (mv_ ?_)
 rcases eti_ H with ⟨c41, H⟩ | ⟨c41, H⟩
 · refine off_ (c' := false) (eF c41) ?_
   refine off_ (c' := false) (eF c41) ?_
   refine off_ (c' := false) (eF c41) ?_
   refine off_ (c' := false) (eF c41) ?_
   refine off_ (c' := false) (eF c41) ?_
   refine off_ (c' := false) (eF c41) ?_
   refine off_ (c' := false) (eF c41) ?_
   refine on_ (dF c36) (v_ (Run.pickF rfl rfl (eF c41) rfl) ?_)
   refine v_ (Run.pickF rfl rfl (dF c36) rfl) ?_
   refine dn_ hK29 (wn_ rfl ?_)
   refine WC.skip (via_ hK28 (rg_ (mv_ ?_)))
   refine b_ bin_add64 ?_
   refine as_ ?_
   refine WL.done ?_
   exact wr_ k24 iq ⟨(wrap64 (i17 + 1)), ⟨_, H, Ho16⟩, rfl, (St.pk HS [2, 3] [] rfl rfl)⟩
 refine on_ (eT c41) (v_ (fa_ underlying58) ?_)
 refine on_ (eT c41) (v_ (lb_ (HS.mu 0 rfl) underlying56 rfl) ?_)
 refine on_ (eT c41) (mv_ ?_)
 refine on_ (eT c41) (v_ (ia_ underlying56 1 q30 q31) ?_)
 refine on_ (eT c41) (v_ (Run.load rfl rfl underlying71 rfl (HS.getO 1 rfl)) ?_)
 refine on_ (eT c41) (ln_ underlying71 ?_)
 refine on_ (eT c41) (b_ bin_gtr ?_)
 refine on_ (dF c36) (v_ (Run.pickT rfl rfl (eT c41) rfl) ?_)
 refine v_ (Run.pickF rfl rfl (dF c36) rfl) ?_
 refine dn_ hK29 ?_
 rcases eti_ H with ⟨c42, H⟩ | ⟨c42, H⟩
 · refine wn_ (dF c42) (WC.skip (via_ hK28 (rg_ (mv_ ?_))))
   refine b_ bin_add64 ?_
   refine as_ ?_
   refine WL.done ?_
   exact wr_ k24 iq ⟨(wrap64 (i17 + 1)), ⟨_, H, Ho16⟩, rfl, (St.pk HS [2, 3] [] rfl rfl)⟩
 refine wy_ (dT c42) (sr_ fun _ hK43 => ?_)
 refine ad_ hK43 ?_
 refine WC.ret ?_
 obtain rfl := os H
 rw [hG14] at Ho16
 replace H : some _ = some _ := Ho16
 obtain rfl := os H
 exact fin1 Try.f121 rfl rfl hR_ ⟨rfl, HS.b⟩
def spec_TableOk.b1 (x1 : S67) (i25 : Int) (rec_ : Int → Option (Bool ⊕ Int)) (k85 : Nat) (i58 : Int) : Option (Bool ⊕ Int) := (if i58 < i25 then (if 0 ≤ i58 ∧ i58 < (x1.f0.length : Int) then (if (x1.f0.getD i58.toNat 0) = (x1.f0.getD i25.toNat 0) then (some (Sum.inl false)) else (rec_ (wrap64 (i58 + 1)))) else none) else (some (Sum.inr i58)))
def spec_TableOk.l1 (x1 : S67) (i25 : Int) : Nat → Int → Option (Bool ⊕ Int)
 | 0, _ => none
 | k + 1, i58 => spec_TableOk.b1 x1 i25 (spec_TableOk.l1 x1 i25 k) k i58
def spec_TableOk.b0 (x0 : S58) (x1 : S67) (rec_ : Int → Option (Bool ⊕ Int)) (k32 : Nat) (i25 : Int) : Option (Bool ⊕ Int) := (if i25 < (x1.f0.length : Int) then (if 0 ≤ i25 ∧ i25 < (x1.f0.length : Int) then ((spec_l01In.f (x1.f0.getD i25.toNat 0) 0 (wrap64 ((x0.f0.length : Int) - 1))).bind fun t43 => (if t43 = true then (if 0 ≤ (x1.f0.getD i25.toNat 0) ∧ (x1.f0.getD i25.toNat 0) < (x0.f0.length : Int) then (if (x0.f0.getD (x1.f0.getD i25.toNat 0).toNat 0) = 0 then (some (Sum.inl false)) else ((spec_TableOk.l1 x1 i25 k32 0).bind (fun oc83 => match oc83 with | .inl r_ => some (Sum.inl r_) | .inr i58 => (((if (wrap64 (x1.f1 - (wrap64 (i25 * 4)))) > 4 then (some 4) else (some (wrap64 (x1.f1 - (wrap64 (i25 * 4)))))) : Option Int).bind (fun oc80 => (if 0 ≤ (x1.f0.getD i25.toNat 0) ∧ (x1.f0.getD i25.toNat 0) < (x0.f1.length : Int) then (if ((x0.f1.getD (x1.f0.getD i25.toNat 0).toNat []).length : Int) < oc80 then (some (Sum.inl false)) else (rec_ (wrap64 (i25 + 1)))) else none)))))) else none) else (some (Sum.inl false)))) else none) else (some (Sum.inr i25)))
def spec_TableOk.l0 (x0 : S58) (x1 : S67) : Nat → Int → Option (Bool ⊕ Int)
 | 0, _ => none
 | k + 1, i25 => spec_TableOk.b0 x0 x1 (spec_TableOk.l0 x0 x1 k) k i25
def spec_TableOk.g (k : Nat) (x0 : S58) (x1 : S67) : Option Bool := ((spec_StoreOk.g k (⟨x0.f0, x0.f1⟩ : S58)).bind fun t9 => (if t9 = true then (if x1.f1 < 0 then (some false) else ((spec_NeedPages.f x1.f1).bind fun t15 => (if (x1.f0.length : Int) = t15 then ((spec_TableOk.l0 x0 x1 k 0).bind (fun oc30 => match oc30 with | .inl r_ => some r_ | .inr i25 => (some true))) else (some false)))) else (some false)))
theorem spec_TableOk.runs (k : Nat) (x0 : S58) (A0_0 : Option Addr) (c0_0 : Nat) (A0_1 : Option Addr) (c0_1 : Nat) (x1 : S67) (A1_0 : Option Addr) (c1_0 : Nat) (r : Bool) (w : World) (hr0_0 : kI.C w A0_0 x0.f0.length x0.f0) (hc0_0 : x0.f0.length ≤ c0_0) (hr0_1 : kS62.C w A0_1 x0.f1.length x0.f1) (hc0_1 : x0.f1.length ≤ c0_1) (hr1_0 : kI.C w A1_0 x1.f0.length x1.f0) (hc1_0 : x1.f0.length ≤ c1_0) (H : spec_TableOk.g k x0 x1 = some r) :
   Calls prog 52 #[.agg #[.slice A0_0 x0.f0.length c0_0, .slice A0_1 x0.f1.length c0_1], .agg #[.slice A1_0 x1.f0.length c1_0, vi x1.f1]] w fun e w' => e = .returned (.bool r) ∧ Below w.heap.size w w' := by
 unfold spec_TableOk.g at H
 have HS : St (fun _ => True) w w [] [(cF kI A0_0 x0.f0), (cF kS62 A0_1 x0.f1), (cF kI A1_0 x1.f0)] [] := St.start (foot_cons (foot_C (Kd.heap_int _) hr0_0) (foot_cons (foot_C (Kd.heap_slice _ h62) hr0_1) (foot_cons (foot_C (Kd.heap_int _) hr1_0) foot_nil)))
 refine cw_ (n := 80) func52 fun R_ hR_ => ?_
 refine sr_ fun _ hK1 => ?_
 refine bo_ HS (fun b2 w3 hb2 HS => ?_)
 refine bo_ HS (fun b4 w5 hb4 HS => ?_)
 refine ad_ hK1 ?_
 refine WC.seq fun _ hK6 => ?_
 refine WC.seq fun _ hK7 => ?_
 refine WC.drawS HS [] rfl rfl (fun w8 HS => ?_)
 have HB := Below.refl w8.heap.size w8
 have HSW := HS
 refine dt_ 0 (Below.refl _ _) (fun w_ hw_ => Run.loadS (cs := [.slice A0_0 x0.f0.length c0_0, .slice A0_1 x0.f1.length c0_1]) rfl rfl underlying58 rfl (by kernel_rfl) (box_part ((HS.below hw_).mu 1 rfl) part_all)) ?_
 obtain ⟨t9, ha10, H⟩ := bind_some H
 refine dcs_ HS HB 1 (w_none rfl) func121 (spec_StoreOk.runs k (⟨x0.f0, x0.f1⟩ : S58) A0_0 c0_0 A0_1 c0_1 t9 _ (HS.getO 0 rfl) hc0_0 (HS.getO 1 rfl) hc0_1 ha10) (fun w11 HS HB => ?_)
 clear ha10
 refine dp_ 2 (fun _ => Run.not rfl rfl) ?_
 refine dm_ 3 ?_
 rcases eti_ H with ⟨c12, H⟩ | ⟨c12, H⟩
 · refine doTs_ 3 12 [4, 5, 6] [13, 14, 15] (nB (bF c12)) ?_
   refine dp_ 7 (fun _ => Run.pickT rfl rfl (nB (bF c12)) rfl) ?_
   refine dm_ 8 ?_
   refine doTs_ 7 17 [9, 10, 11, 12, 13, 14, 15] [18, 19, 20, 21, 22, 23, 24] rfl ?_
   refine dp_ 16 (fun _ => Run.pickT rfl rfl rfl rfl) ?_
   refine dd_ ?_
   clear HB HSW
   refine via_ hK7 (wy_ rfl ?_)
   refine sr_ fun _ hK97 => ?_
   refine ad_ hK97 ?_
   obtain rfl := os H
   exact rt1 Try.f52 rfl rfl hR_ ⟨rfl, HS.b⟩
 refine dfg_ 4 (nB c12) underlying67 ?_
 refine blg_ 5 (nB c12) HSW HB 0 underlying3 rfl ?_
 refine dg_ 6 (nB c12) (fun _ => Run.bin rfl rfl rfl bin_lss) ?_
 refine dp_ 7 (fun _ => Run.pickF rfl rfl (nB c12) rfl) ?_
 refine dm_ 8 ?_
 rcases ite_ H with ⟨c13, H⟩ | ⟨c13, H⟩
 · refine doTs_ 7 17 [9, 10, 11, 12, 13, 14, 15] [18, 19, 20, 21, 22, 23, 24] (dT c13) ?_
   refine dp_ 16 (fun _ => Run.pickT rfl rfl (dT c13) rfl) ?_
   refine dd_ ?_
   clear HB HSW
   refine via_ hK7 (wy_ rfl ?_)
   refine sr_ fun _ hK14 => ?_
   refine ad_ hK14 ?_
   obtain rfl := os H
   exact rt1 Try.f52 rfl rfl hR_ ⟨rfl, HS.b⟩
 refine dfg_ 9 (dF c13) underlying67 ?_
 refine dfg_ 12 (dF c13) underlying67 ?_
 refine blg_ 10 (dF c13) HSW HB 0 underlying22 rfl ?_
 refine dg_ 11 (dF c13) (fun _ => Run.len (ts := #[]) rfl underlying22 rfl) ?_
 refine blg_ 13 (dF c13) HSW HB 0 underlying3 rfl ?_
 obtain ⟨t15, ha16, H⟩ := bind_some H
 refine dcs0_ HS HB 14 (w_on rfl rfl rfl (dF c13)) func122 (spec_NeedPages.calls x1.f1 t15 _ ha16) (fun w17 HS HB => ?_)
 clear ha16
 refine dg_ 15 (dF c13) (fun _ => Run.bin rfl rfl rfl bin_neq) ?_
 refine dp_ 16 (fun _ => Run.pickF rfl rfl (dF c13) rfl) ?_
 refine dd_ ?_
 clear HB HSW
 refine via_ hK7 ?_
 rcases eti_ H with ⟨c18, H⟩ | ⟨c18, H⟩
 · refine wy_ (qT c18) (sr_ fun _ hK96 => ?_)
   refine ad_ hK96 ?_
   obtain rfl := os H
   exact rt1 Try.f52 rfl rfl hR_ ⟨rfl, HS.b⟩
 refine wn_ (qF c18) (WC.skip (via_ hK6 (WC.seq fun K19 hK19 => ?_)))
 refine sr_ fun _ hK20 => ?_
 refine ad_ hK20 ?_
 refine WC.block ?_
 obtain ⟨G21, hG22, oc23, H, Ho24⟩ := open_G H
 let J26 := fun (i25 : Int) (E_ : Env) (W_ : World) => E_ = [(2, .pointer (some ⟨b2, 0, none⟩)), (3, .pointer (some ⟨b4, 0, none⟩)), (5, vi i25)] ∧ St (fun _ => True) w W_ [boxM b4 #[.slice A1_0 x1.f0.length c1_0, vi x1.f1] 67, boxM b2 #[.slice A0_0 x0.f0.length c0_0, .slice A0_1 x0.f1.length c0_1] 58] [(cF kI A0_0 x0.f0), (cF kS62 A0_1 x0.f1), (cF kI A1_0 x1.f0)] []
 have X27 : ∀ E_ W_, (∃ i25, G21 (Sum.inr i25) = some r ∧ J26 i25 E_ W_) → ∀ a, Fits a 80 E_ → K19 a W_ := by
   rintro E_ w28 ⟨i25, H, rfl, HS⟩
   rw [hG22] at H
   (try dsimp only at H)
   refine hK19 _ _ ?_
   refine sr_ fun _ hK29 => ?_
   refine ad_ hK29 ?_
   obtain rfl := os H
   exact rt1 Try.f52 rfl rfl hR_ ⟨rfl, HS.b⟩
 clear hK19
 refine WC.loop (fun k_ E_ W_ => ∃ i25, (∃ o_, spec_TableOk.l0 x0 x1 k_ i25 = some o_ ∧ G21 o_ = some r) ∧ J26 i25 E_ W_) k ⟨0, ⟨_, H, Ho24⟩, rfl, HS⟩ (sb rfl) ?_
 rintro k_ E_ w31 ⟨i25, ⟨oc23, H, Ho24⟩, rfl, HS⟩
 rcases k_ with _ | k32
 · exact no_ H
 replace H : spec_TableOk.b0 x0 x1 (spec_TableOk.l0 x0 x1 k32) k32 i25 = some oc23 := H
 unfold spec_TableOk.b0 at H
 refine WC.seq fun _ hK33 => ?_
 refine sr_ fun _ hK34 => ?_
 refine mv_ ?_
 refine v_ (fa_ underlying67) ?_
 refine v_ (lb_ (HS.mu 0 rfl) underlying22 rfl) ?_
 refine ln_ underlying22 ?_
 refine b_ bin_lss ?_
 refine dn_ hK34 ?_
 rcases eti_ H with ⟨c35, H⟩ | ⟨c35, H⟩
 · refine wn_ (dF c35) (WC.exit ?_)
   obtain rfl := os H
   exact wv_ iq X27 ⟨i25, Ho24, rfl, HS⟩
 refine wy_ (dT c35) (WC.skip (via_ hK33 (WC.seq fun _ hK36 => ?_)))
 refine WC.block (sr_ fun _ hK37 => ?_)
 refine v_ (fa_ underlying67) ?_
 refine v_ (lb_ (HS.mu 0 rfl) underlying22 rfl) ?_
 refine mv_ ?_
 obtain ⟨⟨q38, q39⟩, H⟩ := if_some H
 obtain ⟨ad40, rfl⟩ := C_open (HS.getO 2 rfl) (lenpos q38 q39)
 refine v_ (ia_ underlying22 1 q38 q39) ?_
 refine v_ (Run.load rfl rfl underlying3 rfl (int_cell (HS.getO 2 rfl) i25 q38 q39)) ?_
 refine ad_ hK37 ?_
 refine WC.seq fun _ hK41 => ?_
 refine sr_ fun _ hK42 => ?_
 refine mv_ ?_
 refine v_ (fa_ underlying58) ?_
 refine v_ (lb_ (HS.mu 1 rfl) underlying22 rfl) ?_
 refine ln_ underlying22 ?_
 refine b_ bin_sub64 ?_
 obtain ⟨t43, ha44, H⟩ := bind_some H
 refine cs0_ HS func79 (spec_l01In.calls (x1.f0.getD i25.toNat 0) 0 (wrap64 ((x0.f0.length : Int) - 1)) t43 _ ha44) (fun w45 HS => ?_)
 clear ha44
 refine nt_ ?_
 refine mv_ ?_
 rcases eti_ H with ⟨c46, H⟩ | ⟨c46, H⟩
 · refine off_ (c' := true) (nB (bF c46)) ?_
   refine WL.know 45 (nB (bF c46)) ?_
   refine fast_ ?_
   refine via_ hK42 (wy_ rfl ?_)
   refine sr_ fun _ hK95 => ?_
   refine ad_ hK95 ?_
   refine WC.ret ?_
   obtain rfl := os H
   rw [hG22] at Ho24
   replace H : some _ = some _ := Ho24
   obtain rfl := os H
   exact fin1 Try.f52 rfl rfl hR_ ⟨rfl, HS.b⟩
 refine on_ (nB c46) (v_ (fa_ underlying58) ?_)
 refine on_ (nB c46) (v_ (lb_ (HS.mu 1 rfl) underlying22 rfl) ?_)
 refine on_ (nB c46) (mv_ ?_)
 refine on_ (nB c46) ?_
 obtain ⟨⟨q47, q48⟩, H⟩ := if_some H
 obtain ⟨ad49, rfl⟩ := C_open (HS.getO 0 rfl) (lenpos q47 q48)
 refine v_ (ia_ underlying22 1 q47 q48) ?_
 refine on_ (nB c46) (v_ (Run.load rfl rfl underlying3 rfl (int_cell (HS.getO 0 rfl) (x1.f0.getD i25.toNat 0) q47 q48)) ?_)
 refine on_ (nB c46) (b_ bin_eql ?_)
 refine v_ (Run.pickF rfl rfl (nB c46) rfl) ?_
 refine dn_ hK42 ?_
 rcases ite_ H with ⟨c50, H⟩ | ⟨c50, H⟩
 · refine wy_ (eT c50) (sr_ fun _ hK51 => ?_)
   refine ad_ hK51 ?_
   refine WC.ret ?_
   obtain rfl := os H
   rw [hG22] at Ho24
   replace H : some _ = some _ := Ho24
   obtain rfl := os H
   exact fin1 Try.f52 rfl rfl hR_ ⟨rfl, HS.b⟩
 refine wn_ (eF c50) (WC.skip (via_ hK41 (WC.seq fun K52 hK52 => ?_)))
 refine sr_ fun _ hK53 => ?_
 refine ad_ hK53 ?_
 refine WC.block ?_
 obtain ⟨G54, hG55, oc56, H, Ho57⟩ := open_G H
 let J59 := fun (i58 : Int) (E_ : Env) (W_ : World) => E_ = [(2, .pointer (some ⟨b2, 0, none⟩)), (3, .pointer (some ⟨b4, 0, none⟩)), (5, vi i25), (6, vi (x1.f0.getD i25.toNat 0)), (7, vi i58)] ∧ St (fun _ => True) w W_ [boxM b4 #[.slice (some ad40) x1.f0.length c1_0, vi x1.f1] 67, boxM b2 #[.slice (some ad49) x0.f0.length c0_0, .slice A0_1 x0.f1.length c0_1] 58] [(cF kI (some ad49) x0.f0), (cF kS62 A0_1 x0.f1), (cF kI (some ad40) x1.f0)] []
 have X60 : ∀ E_ W_, (∃ i58, G54 (Sum.inr i58) = some oc23 ∧ J59 i58 E_ W_) → ∀ a, Fits a 80 E_ → K52 a W_ := by
   rintro E_ w61 ⟨i58, H, rfl, HS⟩
   rw [hG55] at H
   (try dsimp only at H)
   refine hK52 _ _ ?_
   refine sr_ fun _ hK62 => ?_
   refine v_ (fa_ underlying67) ?_
   refine v_ (lb_ (HS.mu 0 rfl) underlying3 rfl) ?_
   refine mv_ ?_
   refine b_ bin_mul64 ?_
   refine b_ bin_sub64 ?_
   refine ad_ hK62 ?_
   refine WC.seq fun K63 hK63 => ?_
   obtain ⟨G64, hG65, oc66, H, Ho67⟩ := open_G H
   have X69 : ∀ E_ W_, (∃ (i68 : Int), E_ = [(2, .pointer (some ⟨b2, 0, none⟩)), (3, .pointer (some ⟨b4, 0, none⟩)), (5, vi i25), (6, vi (x1.f0.getD i25.toNat 0)), (8, vi i68)] ∧ G64 i68 = some oc23 ∧ St (fun _ => True) w W_ [boxM b4 #[.slice (some ad40) x1.f0.length c1_0, vi x1.f1] 67, boxM b2 #[.slice (some ad49) x0.f0.length c0_0, .slice A0_1 x0.f1.length c0_1] 58] [(cF kI (some ad49) x0.f0), (cF kS62 A0_1 x0.f1), (cF kI (some ad40) x1.f0)] []) → ∀ a, Fits a 80 E_ → K63 a W_ := by
     rintro E_ w70 ⟨i68, rfl, H, HS⟩
     rw [hG65] at H
     (try dsimp only at H)
     refine hK63 _ _ ?_
     refine sr_ fun _ hK71 => ?_
     refine v_ (fa_ underlying58) ?_
     refine v_ (lb_ (HS.mu 1 rfl) underlying56 rfl) ?_
     refine mv_ ?_
     obtain ⟨⟨q72, q73⟩, H⟩ := if_some H
     obtain ⟨ad74, rfl⟩ := C_open (HS.getO 1 rfl) (lenpos q72 q73)
     refine v_ (ia_ underlying56 1 q72 q73) ?_
     obtain ⟨A75, c76, le77, HS⟩ := HS.slO 1 rfl (x1.f0.getD i25.toNat 0) q72 q73
     refine v_ (Run.load rfl rfl underlying71 rfl (HS.getO 1 rfl)) ?_
     refine ln_ underlying71 ?_
     refine mv_ ?_
     refine b_ bin_lss ?_
     refine dn_ hK71 ?_
     rcases eti_ H with ⟨c78, H⟩ | ⟨c78, H⟩
     · refine wn_ (dF c78) (WC.skip (via_ hK36 (rg_ (mv_ ?_))))
       refine b_ bin_add64 ?_
       refine as_ ?_
       refine WL.done ?_
       exact wr_ k32 iq ⟨(wrap64 (i25 + 1)), ⟨_, H, Ho24⟩, rfl, (St.pk HS [2, 3, 4] [] rfl rfl)⟩
     refine wy_ (dT c78) (sr_ fun _ hK79 => ?_)
     refine ad_ hK79 ?_
     refine WC.ret ?_
     obtain rfl := os H
     rw [hG22] at Ho24
     replace H : some _ = some _ := Ho24
     obtain rfl := os H
     exact fin1 Try.f52 rfl rfl hR_ ⟨rfl, HS.b⟩
   clear hK63
   refine sr_ fun _ hK81 => ?_
   refine mv_ ?_
   refine b_ bin_gtr ?_
   refine dn_ hK81 ?_
   rcases eti_ H with ⟨c82, H⟩ | ⟨c82, H⟩
   · refine wn_ (dF c82) (WC.skip ?_)
     obtain rfl := os H
     exact wv_ iq X69 ⟨(wrap64 (x1.f1 - (wrap64 (i25 * 4)))), rfl, Ho67, HS⟩
   refine wy_ (dT c82) (rg_ (as_ ?_))
   refine WL.done ?_
   obtain rfl := os H
   exact wv_ iq X69 ⟨4, rfl, Ho67, HS⟩
 clear hK52
 refine WC.loop (fun k_ E_ W_ => ∃ i58, (∃ o_, spec_TableOk.l1 x1 i25 k_ i58 = some o_ ∧ G54 o_ = some oc23) ∧ J59 i58 E_ W_) k32 ⟨0, ⟨_, H, Ho57⟩, rfl, HS⟩ (sb rfl) ?_
 rintro k_ E_ w84 ⟨i58, ⟨oc56, H, Ho57⟩, rfl, HS⟩
 rcases k_ with _ | k85
 · exact no_ H
 replace H : spec_TableOk.b1 x1 i25 (spec_TableOk.l1 x1 i25 k85) k85 i58 = some oc56 := H
 unfold spec_TableOk.b1 at H
 refine WC.seq fun _ hK86 => ?_
 refine sr_ fun _ hK87 => ?_
 refine mv_ ?_
 refine mv_ ?_
 refine b_ bin_lss ?_
 refine dn_ hK87 ?_
 rcases eti_ H with ⟨c88, H⟩ | ⟨c88, H⟩
 · refine wn_ (dF c88) (WC.exit ?_)
   obtain rfl := os H
   exact wv_ iq X60 ⟨i58, Ho57, rfl, HS⟩
 refine wy_ (dT c88) (WC.skip (via_ hK86 (WC.seq fun _ hK89 => ?_)))
 refine WC.block (sr_ fun _ hK90 => ?_)
 refine v_ (fa_ underlying67) ?_
 refine v_ (lb_ (HS.mu 0 rfl) underlying22 rfl) ?_
 refine mv_ ?_
 obtain ⟨⟨q91, q92⟩, H⟩ := if_some H
 refine v_ (ia_ underlying22 1 q91 q92) ?_
 refine v_ (Run.load rfl rfl underlying3 rfl (int_cell (HS.getO 2 rfl) i58 q91 q92)) ?_
 refine mv_ ?_
 refine b_ bin_eql ?_
 refine dn_ hK90 ?_
 rcases eti_ H with ⟨c93, H⟩ | ⟨c93, H⟩
 · refine wn_ (eF c93) (WC.skip (via_ hK89 (rg_ (mv_ ?_))))
   refine b_ bin_add64 ?_
   refine as_ ?_
   refine WL.done ?_
   exact wr_ k85 iq ⟨(wrap64 (i58 + 1)), ⟨_, H, Ho57⟩, rfl, HS⟩
 refine wy_ (eT c93) (sr_ fun _ hK94 => ?_)
 refine ad_ hK94 ?_
 refine WC.ret ?_
 obtain rfl := os H
 rw [hG55] at Ho57
 replace H : some _ = some _ := Ho57
 obtain rfl := os H
 rw [hG22] at Ho24
 replace H : some _ = some _ := Ho24
 obtain rfl := os H
 exact fin1 Try.f52 rfl rfl hR_ ⟨rfl, HS.b⟩
def spec_l14CopyParts.b0 (l0 : List S149) (rec_ : (List S149) → Int → Option ((List S149) × Int)) (k24 : Nat) (xs11 : List S149) (i15 : Int) : Option ((List S149) × Int) := (if i15 < (l0.length : Int) then (if 0 ≤ i15 ∧ i15 < (l0.length : Int) then (if (0) + ((l0.getD i15.toNat o149).f1.length) < 4294967296 then (if (xs11.length) < 4294967296 then (rec_ (xs11 ++ [(⟨(l0.getD i15.toNat o149).f0, (([] : List Int) ++ (l0.getD i15.toNat o149).f1)⟩ : S149)]) (wrap64 (i15 + 1))) else none) else none) else none) else (some (xs11, i15)))
def spec_l14CopyParts.l0 (l0 : List S149) : Nat → (List S149) → Int → Option ((List S149) × Int)
 | 0, _, _ => none
 | k + 1, xs11, i15 => spec_l14CopyParts.b0 l0 (spec_l14CopyParts.l0 l0 k) k xs11 i15
def spec_l14CopyParts.g (k : Nat) (l0 : List S149) : Option (List S149) := ((spec_l14CopyParts.l0 l0 k ([] : List S149) 0).bind (fun oc22 => (some oc22.1)))
theorem spec_l14CopyParts.runs (k : Nat) (A0 : Option Addr) (c0 : Nat) (l0 : List S149) (r : List S149) (w : World) (hr0 : k149.C w A0 l0.length l0) (hc0 : l0.length ≤ c0) (H : spec_l14CopyParts.g k l0 = some r) :
   Calls prog 145 #[.slice A0 l0.length c0] w fun e w' => ∃ (v0_ : Value) (bl0_ : List Nat), e = .returned (v0_) ∧ Owns w' w.heap.size [valM (Dk.slice 149 dq149) r [v0_] bl0_] ∧ Below w.heap.size w w' := by
 unfold spec_l14CopyParts.g at H
 have HS : St (fun _ => True) w w [] [(cF k149 A0 l0)] [] := St.start (foot_cons (foot_C h149 hr0) foot_nil)
 refine cw_ (n := 29) func145 fun R_ hR_ => ?_
 refine sr_ fun _ hK1 => ?_
 refine ad_ hK1 ?_
 refine sr_ fun _ hK2 => ?_
 refine WL.lit0 HS rfl rfl (by decide) rfl underlying133 (sz := 2) (by kernel_rfl) (fun v3 w4 HS => ?_)
 replace HS := HS.els0 (dq149)
 refine ad_ hK2 ?_
 refine WC.seq fun K5 hK5 => ?_
 refine sr_ fun _ hK6 => ?_
 refine ad_ hK6 ?_
 refine WC.block ?_
 obtain ⟨G7, hG8, oc9, H, Ho10⟩ := open_G H
 let J16 := fun (xs11 : List S149) v12 I13 bl14 (i15 : Int) (E_ : Env) (W_ : World) => E_ = [(0, .slice A0 l0.length c0), (3, v12), (4, vi i15)] ∧ St (fun _ => True) w W_ [elsM dq149 xs11 I13 bl14, rowM w.heap.size 149 2 v12 xs11.length I13] [(cF k149 A0 l0)] []
 have X17 : ∀ E_ W_, (∃ xs11 v12 I13 bl14 i15, G7 (xs11, i15) = some r ∧ J16 xs11 v12 I13 bl14 i15 E_ W_) → ∀ a, Fits a 29 E_ → K5 a W_ := by
   rintro E_ w18 ⟨xs11, v12, I13, bl14, i15, H, rfl, HS⟩
   rw [hG8] at H
   (try dsimp only at H)
   refine hK5 _ _ ?_
   refine sr_ fun _ hK19 => ?_
   refine mv_ ?_
   refine ad_ hK19 ?_
   refine WC.ret ?_
   obtain ⟨A20, c21, rfl⟩ := row_slice (HS.mu 1 rfl)
   replace HS := HS.front 1 rfl
   dsimp only [List.eraseIdx] at HS
   replace HS := HS.seal rfl rfl
   obtain rfl := os H
   exact fin1 Try.f145 rfl rfl hR_ ⟨_, _, rfl, (St.owns HS), HS.b⟩
 clear hK5
 refine WC.loop (fun k_ E_ W_ => ∃ xs11 v12 I13 bl14 i15, (∃ o_, spec_l14CopyParts.l0 l0 k_ xs11 i15 = some o_ ∧ G7 o_ = some r) ∧ J16 xs11 v12 I13 bl14 i15 E_ W_) k ⟨([] : List S149), v3, ([]), ([]), 0, ⟨_, H, Ho10⟩, rfl, HS⟩ (sb rfl) ?_
 rintro k_ E_ w23 ⟨xs11, v12, I13, bl14, i15, ⟨oc9, H, Ho10⟩, rfl, HS⟩
 rcases k_ with _ | k24
 · exact no_ H
 replace H : spec_l14CopyParts.b0 l0 (spec_l14CopyParts.l0 l0 k24) k24 xs11 i15 = some oc9 := H
 unfold spec_l14CopyParts.b0 at H
 refine WC.seq fun _ hK25 => ?_
 refine sr_ fun _ hK26 => ?_
 refine mv_ ?_
 refine mv_ ?_
 refine ln_ underlying133 ?_
 refine b_ bin_lss ?_
 refine dn_ hK26 ?_
 rcases eti_ H with ⟨c27, H⟩ | ⟨c27, H⟩
 · refine wn_ (dF c27) (WC.exit ?_)
   obtain rfl := os H
   exact wv_ iq X17 ⟨xs11, v12, I13, bl14, i15, Ho10, rfl, HS⟩
 refine wy_ (dT c27) (WC.skip (via_ hK25 (WC.seq fun _ hK28 => ?_)))
 refine WC.block ?_
 obtain ⟨⟨q29, q30⟩, H⟩ := if_some H
 obtain ⟨ad31, rfl⟩ := C_open (HS.getO 0 rfl) (lenpos q29 q30)
 obtain ⟨e32, el33, HS⟩ := HS.elO 0 rfl (by decide) o149 i15 q29 q30
 refine WC.drawW HS [] (fun _ HS => trivial) [] rfl rfl (fun w34 HS => ?_)
 refine dm_ 0 ?_
 refine dm_ 1 ?_
 refine dm_ 2 ?_
 refine di_ 3 underlying133 2 q29 q30 ?_
 refine df_ 4 underlying149 ?_
 refine dm_ 7 ?_
 refine dm_ 8 ?_
 refine di_ 9 underlying133 2 q29 q30 ?_
 refine df_ 10 underlying149 ?_
 refine dt_ 5 ⟨HS.nowO, HS.nowN, trivial⟩ (fun w_ hw_ => Run.load rfl rfl underlying3 rfl (el_at (AllF.get 1 rfl hw_.1) o149 i15 q29 q30 (fun _ h_ => (at149_0 (AtK.whole h_)).int))) ?_
 obtain ⟨A35, c36, hc37, le38, HS⟩ := HS.eO 0 rfl at149_1
 refine dt_ 11 ⟨HS.nowO.2, HS.nowN, trivial⟩ (fun w_ hw_ => Run.load rfl rfl underlying22 rfl ((AllF.get 0 rfl hw_.1).2 1 _ hc37)) ?_
 refine WD.lit0 6 (w_none rfl) HS rfl underlying22 (sz := 1) (by kernel_rfl) (fun v39 w40 HS => ?_)
 replace HS := HS.deriveN (p := (rF kI ([] : List Int) [])) (fun _ _ => Reps.none _ _)
 refine ⟨⟨HS.nowO.2, HS.nowN.2, trivial⟩, ?_⟩
 obtain ⟨q41, H⟩ := if_some H
 obtain ⟨L42, hl43, h44, hF45, hc46⟩ := foot_all (HS.footO 0 rfl) (by decide) rfl
 replace HS := HS.addN (p := (rF kI ((l0.getD i15.toNat o149).f1) L42)) (fun W_ _ => hF45.now)
 refine WD.appendL 12 (w_none rfl) HS 0 rfl rfl (vi 0) 8 underlying22 (by kernel_rfl) rfl (by decide) (by decide) rfl rfl L42 hl43 hc46 h44 (by omega) ((([] : List Int) ++ (l0.getD i15.toNat o149).f1).length) (by simp <;> omega) (fun v47 w48 I49 hI50 HS => ?_)
 dsimp only [List.set] at HS
 replace HS := HS.deriveN (p := (rF kI (([] : List Int) ++ (l0.getD i15.toNat o149).f1) I49)) (fun W_ hN_ => reps_more hI50 hN_.2.1 hN_.1)
 refine ⟨⟨HS.nowO.2, HS.nowN.2.2.2, trivial⟩, ?_⟩
 obtain ⟨A51, c52, rfl⟩ := row_slice (HS.mu 0 rfl)
 refine db_ 13 [(0, vi ((l0.getD i15.toNat o149).f0)), (1, (.slice A51 ((([] : List Int) ++ (l0.getD i15.toNat o149).f1).length) c52))] (cells := #[vi ((l0.getD i15.toNat o149).f0), (.slice A51 ((([] : List Int) ++ (l0.getD i15.toNat o149).f1).length) c52)]) rfl rfl ⟨⟨rfl, rfl⟩, ⟨⟨rfl, rfl⟩, trivial⟩⟩ (by kernel_rfl) ?_
 have HS1 := HS.below (below_alloc (Below.refl _ _) (.cells #[vi ((l0.getD i15.toNat o149).f0), (.slice A51 ((([] : List Int) ++ (l0.getD i15.toNat o149).f1).length) c52)] 149))
 refine dv_ 14 (w_none rfl) (Run.lit1 (z := (.agg #[vi 0, sn])) (vs := [vi ((l0.getD i15.toNat o149).f0), (.slice A51 ((([] : List Int) ++ (l0.getD i15.toNat o149).f1).length) c52)]) rfl rfl rfl underlying133 (by kernel_rfl) (ble_ rfl) (ble_ rfl)) ⟨HS1.nowO.2, HS1.nowN.2.2.2, trivial⟩ ?_
 obtain ⟨q53, H⟩ := if_some H
 refine WD.append 15 (w_none rfl) HS1 2 rfl rfl (.agg #[vi 0, sn]) 32 underlying133 (by kernel_rfl) rfl (by decide) (by decide) rfl rfl [vi ((l0.getD i15.toNat o149).f0), (.slice A51 ((([] : List Int) ++ (l0.getD i15.toNat o149).f1).length) c52)] rfl (lit_news _ _ _) (oneL rfl) (by omega) ((xs11 ++ [(⟨(l0.getD i15.toNat o149).f0, (([] : List Int) ++ (l0.getD i15.toNat o149).f1)⟩ : S149)]).length) (by simp) (fun v54 w55 I56 hI57 HS => ?_)
 dsimp only [List.set] at HS
 clear HS1
 replace HS := HS.elsF (xs := (([] : List Int) ++ (l0.getD i15.toNat o149).f1)) (inner := I49) (Dk.int .i64) (fun _ _ _ h_ => ⟨h_, rfl⟩) (fun _ => (HS.getN 0 rfl))
 replace HS := HS.front 1 rfl
 dsimp only [List.eraseIdx] at HS
 replace HS := HS.seal rfl rfl
 replace HS := HS.put0 (valM dq149 (⟨(l0.getD i15.toNat o149).f0, (([] : List Int) ++ (l0.getD i15.toNat o149).f1)⟩ : S149) ([vi ((l0.getD i15.toNat o149).f0), (.slice A51 ((([] : List Int) ++ (l0.getD i15.toNat o149).f1).length) c52)]) (((.slice A51 ((([] : List Int) ++ (l0.getD i15.toNat o149).f1).length) c52) : Value).ownBlock.toList ++ [])) (fun hP_ => foot_val (dq149_mk _ (⟨(l0.getD i15.toNat o149).f0, (([] : List Int) ++ (l0.getD i15.toNat o149).f1)⟩ : S149) hP_)) (fun h_ => h_) (fun _ h_ => h_)
 replace HS := HS.front 1 rfl
 dsimp only [List.eraseIdx] at HS
 replace HS := HS.front 1 rfl
 dsimp only [List.eraseIdx] at HS
 replace HS := HS.elsSnoc hI57
 refine ⟨⟨HS.nowO.2, HS.nowN.2.2.2, trivial⟩, ?_⟩
 refine dp_ 16 (fun _ => Run.assign rfl rfl) ?_
 refine dd_ (via_ hK28 (rg_ (mv_ ?_)))
 refine b_ bin_add64 ?_
 refine as_ ?_
 refine WL.done ?_
 exact wr_ k24 iq ⟨(xs11 ++ [(⟨(l0.getD i15.toNat o149).f0, (([] : List Int) ++ (l0.getD i15.toNat o149).f1)⟩ : S149)]), v54, I56, (bl14 ++ (((.slice A51 ((([] : List Int) ++ (l0.getD i15.toNat o149).f1).length) c52) : Value).ownBlock.toList ++ [])), (wrap64 (i15 + 1)), ⟨_, H, Ho10⟩, rfl, (St.pk HS [2] [] rfl rfl)⟩
def spec_l14Copy.b1 (x0 : S62) (rec_ : Int → (List (List S149)) → Option (Int × (List (List S149)))) (k79 : Nat) (i16 : Int) (xs17 : List (List S149)) : Option (Int × (List (List S149))) := (if i16 < (x0.f0.length : Int) then (if 0 ≤ i16 ∧ i16 < (x0.f0.length : Int) then ((spec_l14CopyParts.g k79 (x0.f0.getD i16.toNat [])).bind fun t93 => (if (xs17.length) < 4294967296 then (rec_ (wrap64 (i16 + 1)) (xs17 ++ [t93])) else none)) else none) else (some (i16, xs17)))
def spec_l14Copy.l1 (x0 : S62) : Nat → Int → (List (List S149)) → Option (Int × (List (List S149)))
 | 0, _, _ => none
 | k + 1, i16, xs17 => spec_l14Copy.b1 x0 (spec_l14Copy.l1 x0 k) k i16 xs17
def spec_l14Copy.b0 (x0 : S62) (rec_ : Int → (List (List S149)) → Option (Int × (List (List S149)))) (k46 : Nat) (i30 : Int) (xs31 : List (List S149)) : Option (Int × (List (List S149))) := (if i30 < (x0.f1.length : Int) then (if 0 ≤ i30 ∧ i30 < (x0.f1.length : Int) then ((spec_l14CopyParts.g k46 (x0.f1.getD i30.toNat [])).bind fun t60 => (if (xs31.length) < 4294967296 then (rec_ (wrap64 (i30 + 1)) (xs31 ++ [t60])) else none)) else none) else (some (i30, xs31)))
def spec_l14Copy.l0 (x0 : S62) : Nat → Int → (List (List S149)) → Option (Int × (List (List S149)))
 | 0, _, _ => none
 | k + 1, i30, xs31 => spec_l14Copy.b0 x0 (spec_l14Copy.l0 x0 k) k i30 xs31
def spec_l14Copy.g (k : Nat) (x0 : S62) : Option S62 := ((spec_l14Copy.l1 x0 k 0 ([] : List (List S149))).bind (fun oc77 => ((spec_l14Copy.l0 x0 k 0 ([] : List (List S149))).bind (fun oc44 => (some (⟨oc77.2, oc44.2⟩ : S62))))))
theorem spec_l14Copy.runs (k : Nat) (x0 : S62) (A0_0 : Option Addr) (c0_0 : Nat) (A0_1 : Option Addr) (c0_1 : Nat) (r : S62) (w : World) (hr0_0 : kS149.C w A0_0 x0.f0.length x0.f0) (hc0_0 : x0.f0.length ≤ c0_0) (hr0_1 : kS149.C w A0_1 x0.f1.length x0.f1) (hc0_1 : x0.f1.length ≤ c0_1) (H : spec_l14Copy.g k x0 = some r) :
   Calls prog 114 #[.agg #[.slice A0_0 x0.f0.length c0_0, .slice A0_1 x0.f1.length c0_1]] w fun e w' => ∃ (v0_0_ : Value) (bl0_0_ : List Nat) (v0_1_ : Value) (bl0_1_ : List Nat), e = .returned (.agg #[v0_0_, v0_1_]) ∧ Owns w' w.heap.size [valM (Dk.slice 133 (Dk.slice 149 dq149)) r.f0 [v0_0_] bl0_0_, valM (Dk.slice 133 (Dk.slice 149 dq149)) r.f1 [v0_1_] bl0_1_] ∧ Below w.heap.size w w' := by
 unfold spec_l14Copy.g at H
 have HS : St (fun _ => True) w w [] [(cF kS149 A0_0 x0.f0), (cF kS149 A0_1 x0.f1)] [] := St.start (foot_cons (foot_C (Kd.heap_slice _ h149) hr0_0) (foot_cons (foot_C (Kd.heap_slice _ h149) hr0_1) foot_nil))
 refine cw_ (n := 44) func114 fun R_ hR_ => ?_
 refine sr_ fun _ hK1 => ?_
 refine bo_ HS (fun b2 w3 hb2 HS => ?_)
 refine WL.alloc HS (v := .agg #[sn, sn]) (cs := #[sn, sn]) rfl rfl (by decide) rfl (by kernel_rfl) rfl (fun b4 w5 hb4 HS => ?_)
 refine dn_ hK1 (sr_ fun _ hK6 => ?_)
 refine v_ (Run.build (cells := #[sn, sn]) rfl [] trivial (by kernel_rfl)) ?_
 refine WL.alloc HS (v := .agg #[sn, sn]) (cs := #[sn, sn]) rfl rfl (by decide) rfl (by kernel_rfl) rfl (fun b7 w8 hb7 HS => ?_)
 refine WL.storeW HS 0 rfl rfl rfl rfl rfl rfl (oneL rfl) (by kernel_rfl) rfl (fun w9 HS => ?_)
 dsimp only [List.set] at HS
 refine dn_ hK6 (WC.seq fun K10 hK10 => ?_)
 refine sr_ fun _ hK11 => ?_
 refine ad_ hK11 ?_
 refine WC.block ?_
 replace HS := HS.rowNil 133 1
 replace HS := HS.els0 (Dk.slice 149 dq149)
 obtain ⟨G12, hG13, oc14, H, Ho15⟩ := open_G H
 let J21 := fun (i16 : Int) (xs17 : List (List S149)) v18 I19 bl20 (E_ : Env) (W_ : World) => E_ = [(1, .pointer (some ⟨b2, 0, none⟩)), (2, .pointer (some ⟨b4, 0, none⟩)), (3, .pointer (some ⟨b7, 0, none⟩)), (4, vi i16)] ∧ St (fun _ => True) w W_ [elsM (Dk.slice 149 dq149) xs17 I19 bl20, rowM w.heap.size 133 1 v18 xs17.length I19, boxM b7 #[v18, sn] 62, boxM b4 #[sn, sn] 62, boxM b2 #[.slice A0_0 x0.f0.length c0_0, .slice A0_1 x0.f1.length c0_1] 62] [(cF kS149 A0_0 x0.f0), (cF kS149 A0_1 x0.f1)] []
 have X22 : ∀ E_ W_, (∃ i16 xs17 v18 I19 bl20, G12 (i16, xs17) = some r ∧ J21 i16 xs17 v18 I19 bl20 E_ W_) → ∀ a, Fits a 44 E_ → K10 a W_ := by
   rintro E_ w23 ⟨i16, xs17, v18, I19, bl20, H, rfl, HS⟩
   rw [hG13] at H
   (try dsimp only at H)
   refine hK10 _ _ ?_
   refine WC.seq fun K24 hK24 => ?_
   refine sr_ fun _ hK25 => ?_
   refine ad_ hK25 ?_
   refine WC.block ?_
   replace HS := HS.rowNil 133 1
   replace HS := HS.els0 (Dk.slice 149 dq149)
   obtain ⟨G26, hG27, oc28, H, Ho29⟩ := open_G H
   let J35 := fun (i30 : Int) (xs31 : List (List S149)) v32 I33 bl34 (E_ : Env) (W_ : World) => E_ = [(1, .pointer (some ⟨b2, 0, none⟩)), (2, .pointer (some ⟨b4, 0, none⟩)), (3, .pointer (some ⟨b7, 0, none⟩)), (5, vi i30)] ∧ St (fun _ => True) w W_ [elsM (Dk.slice 149 dq149) xs31 I33 bl34, rowM w.heap.size 133 1 v32 xs31.length I33, elsM (Dk.slice 149 dq149) xs17 I19 bl20, rowM w.heap.size 133 1 v18 xs17.length I19, boxM b7 #[v18, v32] 62, boxM b4 #[sn, sn] 62, boxM b2 #[.slice A0_0 x0.f0.length c0_0, .slice A0_1 x0.f1.length c0_1] 62] [(cF kS149 A0_0 x0.f0), (cF kS149 A0_1 x0.f1)] []
   have X36 : ∀ E_ W_, (∃ i30 xs31 v32 I33 bl34, G26 (i30, xs31) = some r ∧ J35 i30 xs31 v32 I33 bl34 E_ W_) → ∀ a, Fits a 44 E_ → K24 a W_ := by
     rintro E_ w37 ⟨i30, xs31, v32, I33, bl34, H, rfl, HS⟩
     rw [hG27] at H
     (try dsimp only at H)
     refine hK24 _ _ ?_
     refine sr_ fun _ hK38 => ?_
     obtain ⟨A39, c40, rfl⟩ := row_slice (HS.mu 3 rfl)
     obtain ⟨A41, c42, rfl⟩ := row_slice (HS.mu 1 rfl)
     refine v_ (ls_ (HS.mu 4 rfl) underlying62 part_all) ?_
     refine WL.storeW HS 5 rfl rfl rfl rfl rfl rfl (oneL rfl) (by kernel_rfl) rfl (fun w43 HS => ?_)
     dsimp only [List.set] at HS
     refine dn_ hK38 (WC.ret ?_)
     replace HS := HS.front 2 rfl
     dsimp only [List.eraseIdx] at HS
     replace HS := HS.front 3 rfl
     dsimp only [List.eraseIdx] at HS
     replace HS := HS.seal rfl rfl
     replace HS := HS.front 1 rfl
     dsimp only [List.eraseIdx] at HS
     replace HS := HS.front 2 rfl
     dsimp only [List.eraseIdx] at HS
     replace HS := HS.seal rfl rfl
     obtain rfl := os H
     exact fin1 Try.f114 rfl ⟨_, rfl, resv_box (HS.mu 3 rfl) underlying62 rfl (by kernel_rfl)⟩ hR_ ⟨_, _, _, _, rfl, (St.owns (St.front (St.front (St.forget (St.forget (St.forget HS 4 rfl) 3 rfl) 2 rfl) 0 rfl) 1 rfl)), HS.b⟩
   clear hK24
   refine WC.loop (fun k_ E_ W_ => ∃ i30 xs31 v32 I33 bl34, (∃ o_, spec_l14Copy.l0 x0 k_ i30 xs31 = some o_ ∧ G26 o_ = some r) ∧ J35 i30 xs31 v32 I33 bl34 E_ W_) k ⟨0, ([] : List (List S149)), (sn), ([]), ([]), ⟨_, H, Ho29⟩, rfl, HS⟩ (sb rfl) ?_
   rintro k_ E_ w45 ⟨i30, xs31, v32, I33, bl34, ⟨oc28, H, Ho29⟩, rfl, HS⟩
   rcases k_ with _ | k46
   · exact no_ H
   replace H : spec_l14Copy.b0 x0 (spec_l14Copy.l0 x0 k46) k46 i30 xs31 = some oc28 := H
   unfold spec_l14Copy.b0 at H
   refine WC.seq fun _ hK47 => ?_
   refine sr_ fun _ hK48 => ?_
   refine mv_ ?_
   refine v_ (fa_ underlying62) ?_
   refine v_ (lb_ (HS.mu 6 rfl) underlying60 rfl) ?_
   refine ln_ underlying60 ?_
   refine b_ bin_lss ?_
   refine dn_ hK48 ?_
   rcases eti_ H with ⟨c49, H⟩ | ⟨c49, H⟩
   · refine wn_ (dF c49) (WC.exit ?_)
     obtain rfl := os H
     exact wv_ iq X36 ⟨i30, xs31, v32, I33, bl34, Ho29, rfl, HS⟩
   refine wy_ (dT c49) (WC.skip (via_ hK47 (WC.seq fun _ hK50 => ?_)))
   refine WC.block (WC.drawW HS [boxM b7 #[v18, v32] 62, boxM b4 #[sn, sn] 62, boxM b2 #[.slice A0_0 x0.f0.length c0_0, .slice A0_1 x0.f1.length c0_1] 62] (fun _ HS => ⟨(HS.mu 4 rfl), (HS.mu 5 rfl), (HS.mu 6 rfl), trivial⟩) [11] rfl rfl (fun w51 HS => ?_))
   refine df_ 0 underlying62 ?_
   refine df_ 2 underlying62 ?_
   refine dm_ 4 ?_
   obtain ⟨A52, c53, rfl⟩ := row_slice (HS.mu 1 rfl)
   refine dt_ 1 ⟨HS.nowO, HS.nowN, ⟨(HS.mu 4 rfl), (HS.mu 5 rfl), (HS.mu 6 rfl), trivial⟩⟩ (fun w_ hw_ => Run.load rfl rfl underlying60 rfl (box_cell hw_.2.2.1 rfl)) ?_
   refine dt_ 3 ⟨HS.nowO, HS.nowN, ⟨(HS.mu 4 rfl), (HS.mu 5 rfl), (HS.mu 6 rfl), trivial⟩⟩ (fun w_ hw_ => Run.load rfl rfl underlying60 rfl (box_cell hw_.2.2.2.2.1 rfl)) ?_
   obtain ⟨⟨q54, q55⟩, H⟩ := if_some H
   obtain ⟨ad56, rfl⟩ := C_open (HS.getO 1 rfl) (lenpos q54 q55)
   refine di_ 5 underlying60 1 q54 q55 ?_
   obtain ⟨A57, c58, le59, HS⟩ := HS.slO 1 rfl i30 q54 q55
   refine dv_ 6 (w_none rfl) (Run.load rfl rfl underlying133 rfl (HS.getO 1 rfl)) ⟨HS.nowO.2.2, HS.nowN, ⟨(HS.mu 4 rfl), (HS.mu 5 rfl), (HS.mu 6 rfl), trivial⟩⟩ ?_
   obtain ⟨t60, ha61, H⟩ := bind_some H
   refine dc_ 7 (w_none rfl) func145 (spec_l14CopyParts.runs k46 A57 c58 (x0.f1.getD i30.toNat []) t60 _ (HS.getO 0 rfl) le59 ha61) ?_
   clear ha61
   rintro _ w62 ⟨v63, bl64, rfl, hO_, hb⟩
   replace HS := HS.got hb hO_
   dsimp only [List.cons_append, List.nil_append] at HS
   clear hO_
   obtain ⟨I65, bl66, HS⟩ := HS.unseal (sz := 2) rfl
   refine ⟨⟨HS.nowO.2.2, HS.nowN, ⟨(HS.mu 6 rfl), (HS.mu 7 rfl), (HS.mu 8 rfl), trivial⟩⟩, _, rfl, ?_⟩
   clear hb
   obtain ⟨A67, c68, rfl⟩ := row_slice (HS.mu 0 rfl)
   have HS1 := HS.below (below_alloc (Below.refl _ _) (.cells #[(.slice A67 t60.length c68)] 133))
   refine dv_ 8 (w_none rfl) (Run.lit1 (z := (sn)) (vs := [(.slice A67 t60.length c68)]) rfl rfl rfl underlying60 (by kernel_rfl) (ble_ rfl) (ble_ rfl)) ⟨HS1.nowO.2.2, HS1.nowN, ⟨(HS1.mu 6 rfl), (HS1.mu 7 rfl), (HS1.mu 8 rfl), trivial⟩⟩ ?_
   obtain ⟨q69, H⟩ := if_some H
   refine WD.append 9 (w_none rfl) HS1 3 rfl rfl (sn) 24 underlying60 (by kernel_rfl) rfl (by decide) (by decide) rfl rfl [(.slice A67 t60.length c68)] rfl (lit_news _ _ _) (oneL rfl) (by omega) ((xs31 ++ [t60]).length) (by simp) (fun v70 w71 I72 hI73 HS => ?_)
   dsimp only [List.set] at HS
   clear HS1
   replace HS := HS.front 1 rfl
   dsimp only [List.eraseIdx] at HS
   replace HS := HS.front 1 rfl
   dsimp only [List.eraseIdx] at HS
   replace HS := HS.seal rfl rfl
   replace HS := HS.front 1 rfl
   dsimp only [List.eraseIdx] at HS
   replace HS := HS.front 1 rfl
   dsimp only [List.eraseIdx] at HS
   replace HS := HS.elsSnoc hI73
   refine ⟨⟨HS.nowO.2.2, HS.nowN, ⟨(HS.mu 4 rfl), (HS.mu 5 rfl), (HS.mu 6 rfl), trivial⟩⟩, ?_⟩
   refine df_ 10 underlying62 ?_
   obtain ⟨A75, c76, rfl⟩ := row_slice (HS.mu 1 rfl)
   refine WD.storeL 11 HS 4 rfl rfl rfl rfl rfl (by kernel_rfl) (ble_ rfl) (cs' := #[v18, (.slice A75 ((xs31 ++ [t60]).length) c76)]) (by kernel_rfl) (fun w74 HS => ?_)
   dsimp only [List.set] at HS
   refine dd_ (via_ hK50 (rg_ (mv_ ?_)))
   refine b_ bin_add64 ?_
   refine as_ ?_
   refine WL.done ?_
   exact wr_ k46 iq ⟨(wrap64 (i30 + 1)), (xs31 ++ [t60]), (.slice A75 ((xs31 ++ [t60]).length) c76), I72, (bl34 ++ (((.slice A67 t60.length c68) : Value).ownBlock.toList ++ bl66)), ⟨_, H, Ho29⟩, rfl, (St.pk HS [2, 3] [] rfl rfl)⟩
 clear hK10
 refine WC.loop (fun k_ E_ W_ => ∃ i16 xs17 v18 I19 bl20, (∃ o_, spec_l14Copy.l1 x0 k_ i16 xs17 = some o_ ∧ G12 o_ = some r) ∧ J21 i16 xs17 v18 I19 bl20 E_ W_) k ⟨0, ([] : List (List S149)), (sn), ([]), ([]), ⟨_, H, Ho15⟩, rfl, HS⟩ (sb rfl) ?_
 rintro k_ E_ w78 ⟨i16, xs17, v18, I19, bl20, ⟨oc14, H, Ho15⟩, rfl, HS⟩
 rcases k_ with _ | k79
 · exact no_ H
 replace H : spec_l14Copy.b1 x0 (spec_l14Copy.l1 x0 k79) k79 i16 xs17 = some oc14 := H
 unfold spec_l14Copy.b1 at H
 refine WC.seq fun _ hK80 => ?_
 refine sr_ fun _ hK81 => ?_
 refine mv_ ?_
 refine v_ (fa_ underlying62) ?_
 refine v_ (lb_ (HS.mu 4 rfl) underlying60 rfl) ?_
 refine ln_ underlying60 ?_
 refine b_ bin_lss ?_
 refine dn_ hK81 ?_
 rcases eti_ H with ⟨c82, H⟩ | ⟨c82, H⟩
 · refine wn_ (dF c82) (WC.exit ?_)
   obtain rfl := os H
   exact wv_ iq X22 ⟨i16, xs17, v18, I19, bl20, Ho15, rfl, HS⟩
 refine wy_ (dT c82) (WC.skip (via_ hK80 (WC.seq fun _ hK83 => ?_)))
 refine WC.block (WC.drawW HS [boxM b7 #[v18, sn] 62, boxM b4 #[sn, sn] 62, boxM b2 #[.slice A0_0 x0.f0.length c0_0, .slice A0_1 x0.f1.length c0_1] 62] (fun _ HS => ⟨(HS.mu 2 rfl), (HS.mu 3 rfl), (HS.mu 4 rfl), trivial⟩) [11] rfl rfl (fun w84 HS => ?_))
 refine df_ 0 underlying62 ?_
 refine df_ 2 underlying62 ?_
 refine dm_ 4 ?_
 obtain ⟨A85, c86, rfl⟩ := row_slice (HS.mu 1 rfl)
 refine dt_ 1 ⟨HS.nowO, HS.nowN, ⟨(HS.mu 2 rfl), (HS.mu 3 rfl), (HS.mu 4 rfl), trivial⟩⟩ (fun w_ hw_ => Run.load rfl rfl underlying60 rfl (box_cell hw_.2.2.1 rfl)) ?_
 refine dt_ 3 ⟨HS.nowO, HS.nowN, ⟨(HS.mu 2 rfl), (HS.mu 3 rfl), (HS.mu 4 rfl), trivial⟩⟩ (fun w_ hw_ => Run.load rfl rfl underlying60 rfl (box_cell hw_.2.2.2.2.1 rfl)) ?_
 obtain ⟨⟨q87, q88⟩, H⟩ := if_some H
 obtain ⟨ad89, rfl⟩ := C_open (HS.getO 0 rfl) (lenpos q87 q88)
 refine di_ 5 underlying60 1 q87 q88 ?_
 obtain ⟨A90, c91, le92, HS⟩ := HS.slO 0 rfl i16 q87 q88
 refine dv_ 6 (w_none rfl) (Run.load rfl rfl underlying133 rfl (HS.getO 1 rfl)) ⟨HS.nowO.2.2, HS.nowN, ⟨(HS.mu 2 rfl), (HS.mu 3 rfl), (HS.mu 4 rfl), trivial⟩⟩ ?_
 obtain ⟨t93, ha94, H⟩ := bind_some H
 refine dc_ 7 (w_none rfl) func145 (spec_l14CopyParts.runs k79 A90 c91 (x0.f0.getD i16.toNat []) t93 _ (HS.getO 0 rfl) le92 ha94) ?_
 clear ha94
 rintro _ w95 ⟨v96, bl97, rfl, hO_, hb⟩
 replace HS := HS.got hb hO_
 dsimp only [List.cons_append, List.nil_append] at HS
 clear hO_
 obtain ⟨I98, bl99, HS⟩ := HS.unseal (sz := 2) rfl
 refine ⟨⟨HS.nowO.2.2, HS.nowN, ⟨(HS.mu 4 rfl), (HS.mu 5 rfl), (HS.mu 6 rfl), trivial⟩⟩, _, rfl, ?_⟩
 clear hb
 obtain ⟨A100, c101, rfl⟩ := row_slice (HS.mu 0 rfl)
 have HS1 := HS.below (below_alloc (Below.refl _ _) (.cells #[(.slice A100 t93.length c101)] 133))
 refine dv_ 8 (w_none rfl) (Run.lit1 (z := (sn)) (vs := [(.slice A100 t93.length c101)]) rfl rfl rfl underlying60 (by kernel_rfl) (ble_ rfl) (ble_ rfl)) ⟨HS1.nowO.2.2, HS1.nowN, ⟨(HS1.mu 4 rfl), (HS1.mu 5 rfl), (HS1.mu 6 rfl), trivial⟩⟩ ?_
 obtain ⟨q102, H⟩ := if_some H
 refine WD.append 9 (w_none rfl) HS1 3 rfl rfl (sn) 24 underlying60 (by kernel_rfl) rfl (by decide) (by decide) rfl rfl [(.slice A100 t93.length c101)] rfl (lit_news _ _ _) (oneL rfl) (by omega) ((xs17 ++ [t93]).length) (by simp) (fun v103 w104 I105 hI106 HS => ?_)
 dsimp only [List.set] at HS
 clear HS1
 replace HS := HS.front 1 rfl
 dsimp only [List.eraseIdx] at HS
 replace HS := HS.front 1 rfl
 dsimp only [List.eraseIdx] at HS
 replace HS := HS.seal rfl rfl
 replace HS := HS.front 1 rfl
 dsimp only [List.eraseIdx] at HS
 replace HS := HS.front 1 rfl
 dsimp only [List.eraseIdx] at HS
 replace HS := HS.elsSnoc hI106
 refine ⟨⟨HS.nowO.2.2, HS.nowN, ⟨(HS.mu 2 rfl), (HS.mu 3 rfl), (HS.mu 4 rfl), trivial⟩⟩, ?_⟩
 refine df_ 10 underlying62 ?_
 obtain ⟨A108, c109, rfl⟩ := row_slice (HS.mu 1 rfl)
 refine WD.storeL 11 HS 2 rfl rfl rfl rfl rfl (by kernel_rfl) (ble_ rfl) (cs' := #[(.slice A108 ((xs17 ++ [t93]).length) c109), sn]) (by kernel_rfl) (fun w107 HS => ?_)
 dsimp only [List.set] at HS
 refine dd_ (via_ hK83 (rg_ (mv_ ?_)))
 refine b_ bin_add64 ?_
 refine as_ ?_
 refine WL.done ?_
 exact wr_ k79 iq ⟨(wrap64 (i16 + 1)), (xs17 ++ [t93]), (.slice A108 ((xs17 ++ [t93]).length) c109), I105, (bl20 ++ (((.slice A100 t93.length c101) : Value).ownBlock.toList ++ bl99)), ⟨_, H, Ho15⟩, rfl, (St.pk HS [2, 3] [] rfl rfl)⟩
def spec_l14CopyCells.b0 (l0 : List S62) (rec_ : (List S62) → Int → Option ((List S62) × Int)) (k24 : Nat) (xs11 : List S62) (i15 : Int) : Option ((List S62) × Int) := (if i15 < (l0.length : Int) then (if 0 ≤ i15 ∧ i15 < (l0.length : Int) then ((spec_l14Copy.g k24 (l0.getD i15.toNat o62)).bind fun t42 => (if (xs11.length) < 4294967296 then (rec_ (xs11 ++ [t42]) (wrap64 (i15 + 1))) else none)) else none) else (some (xs11, i15)))
def spec_l14CopyCells.l0 (l0 : List S62) : Nat → (List S62) → Int → Option ((List S62) × Int)
 | 0, _, _ => none
 | k + 1, xs11, i15 => spec_l14CopyCells.b0 l0 (spec_l14CopyCells.l0 l0 k) k xs11 i15
def spec_l14CopyCells.g (k : Nat) (l0 : List S62) : Option (List S62) := ((spec_l14CopyCells.l0 l0 k ([] : List S62) 0).bind (fun oc22 => (some oc22.1)))
theorem spec_l14CopyCells.runs (k : Nat) (A0 : Option Addr) (c0 : Nat) (l0 : List S62) (r : List S62) (w : World) (hr0 : k62.C w A0 l0.length l0) (hc0 : l0.length ≤ c0) (H : spec_l14CopyCells.g k l0 = some r) :
   Calls prog 113 #[.slice A0 l0.length c0] w fun e w' => ∃ (v0_ : Value) (bl0_ : List Nat), e = .returned (v0_) ∧ Owns w' w.heap.size [valM (Dk.slice 62 dq62) r [v0_] bl0_] ∧ Below w.heap.size w w' := by
 unfold spec_l14CopyCells.g at H
 have HS : St (fun _ => True) w w [] [(cF k62 A0 l0)] [] := St.start (foot_cons (foot_C h62 hr0) foot_nil)
 refine cw_ (n := 21) func113 fun R_ hR_ => ?_
 refine sr_ fun _ hK1 => ?_
 refine ad_ hK1 ?_
 refine sr_ fun _ hK2 => ?_
 refine WL.lit0 HS rfl rfl (by decide) rfl underlying71 (sz := 2) (by kernel_rfl) (fun v3 w4 HS => ?_)
 replace HS := HS.els0 (dq62)
 refine ad_ hK2 ?_
 refine WC.seq fun K5 hK5 => ?_
 refine sr_ fun _ hK6 => ?_
 refine ad_ hK6 ?_
 refine WC.block ?_
 obtain ⟨G7, hG8, oc9, H, Ho10⟩ := open_G H
 let J16 := fun (xs11 : List S62) v12 I13 bl14 (i15 : Int) (E_ : Env) (W_ : World) => E_ = [(0, .slice A0 l0.length c0), (3, v12), (4, vi i15)] ∧ St (fun _ => True) w W_ [elsM dq62 xs11 I13 bl14, rowM w.heap.size 62 2 v12 xs11.length I13] [(cF k62 A0 l0)] []
 have X17 : ∀ E_ W_, (∃ xs11 v12 I13 bl14 i15, G7 (xs11, i15) = some r ∧ J16 xs11 v12 I13 bl14 i15 E_ W_) → ∀ a, Fits a 21 E_ → K5 a W_ := by
   rintro E_ w18 ⟨xs11, v12, I13, bl14, i15, H, rfl, HS⟩
   rw [hG8] at H
   (try dsimp only at H)
   refine hK5 _ _ ?_
   refine sr_ fun _ hK19 => ?_
   refine mv_ ?_
   refine ad_ hK19 ?_
   refine WC.ret ?_
   obtain ⟨A20, c21, rfl⟩ := row_slice (HS.mu 1 rfl)
   replace HS := HS.front 1 rfl
   dsimp only [List.eraseIdx] at HS
   replace HS := HS.seal rfl rfl
   obtain rfl := os H
   exact fin1 Try.f113 rfl rfl hR_ ⟨_, _, rfl, (St.owns HS), HS.b⟩
 clear hK5
 refine WC.loop (fun k_ E_ W_ => ∃ xs11 v12 I13 bl14 i15, (∃ o_, spec_l14CopyCells.l0 l0 k_ xs11 i15 = some o_ ∧ G7 o_ = some r) ∧ J16 xs11 v12 I13 bl14 i15 E_ W_) k ⟨([] : List S62), v3, ([]), ([]), 0, ⟨_, H, Ho10⟩, rfl, HS⟩ (sb rfl) ?_
 rintro k_ E_ w23 ⟨xs11, v12, I13, bl14, i15, ⟨oc9, H, Ho10⟩, rfl, HS⟩
 rcases k_ with _ | k24
 · exact no_ H
 replace H : spec_l14CopyCells.b0 l0 (spec_l14CopyCells.l0 l0 k24) k24 xs11 i15 = some oc9 := H
 unfold spec_l14CopyCells.b0 at H
 refine WC.seq fun _ hK25 => ?_
 refine sr_ fun _ hK26 => ?_
 refine mv_ ?_
 refine mv_ ?_
 refine ln_ underlying71 ?_
 refine b_ bin_lss ?_
 refine dn_ hK26 ?_
 rcases eti_ H with ⟨c27, H⟩ | ⟨c27, H⟩
 · refine wn_ (dF c27) (WC.exit ?_)
   obtain rfl := os H
   exact wv_ iq X17 ⟨xs11, v12, I13, bl14, i15, Ho10, rfl, HS⟩
 refine wy_ (dT c27) (WC.skip (via_ hK25 (WC.seq fun _ hK28 => ?_)))
 refine WC.block (rg_ (mv_ ?_))
 refine mv_ ?_
 refine mv_ ?_
 obtain ⟨⟨q29, q30⟩, H⟩ := if_some H
 obtain ⟨ad31, rfl⟩ := C_open (HS.getO 0 rfl) (lenpos q29 q30)
 refine v_ (ia_ underlying71 2 q29 q30) ?_
 obtain ⟨e32, el33, HS⟩ := HS.elO 0 rfl (by decide) o62 i15 q29 q30
 obtain ⟨A34, c35, hc36, le37, HS⟩ := HS.eO 0 rfl at62_0
 obtain ⟨A38, c39, hc40, le41, HS⟩ := HS.eO 1 rfl at62_1
 refine v_ (Run.loadS (cs := [.slice A34 ((l0.getD i15.toNat o62).f0.length) c35, .slice A38 ((l0.getD i15.toNat o62).f1.length) c39]) rfl rfl underlying62 rfl (by kernel_rfl) (cells_part (HS.getO 2 rfl).2 (part_cons hc36 (part_cons hc40 part_nil)))) ?_
 obtain ⟨t42, ha43, H⟩ := bind_some H
 refine c_ func114 (spec_l14Copy.runs k24 (l0.getD i15.toNat o62) A34 c35 A38 c39 t42 _ (HS.getO 1 rfl) le37 (HS.getO 0 rfl) le41 ha43) ?_
 clear ha43
 rintro _ w44 ⟨v45, bl46, v47, bl48, rfl, hO_, hb⟩
 replace HS := HS.got hb hO_
 dsimp only [List.cons_append, List.nil_append] at HS
 clear hO_
 obtain ⟨I49, bl50, HS⟩ := HS.unseal (sz := 1) rfl
 replace HS := HS.front 2 rfl
 dsimp only [List.eraseIdx] at HS
 obtain ⟨I51, bl52, HS⟩ := HS.unseal (sz := 1) rfl
 refine ⟨_, rfl, ?_⟩
 clear hb
 obtain ⟨A53, c54, rfl⟩ := row_slice (HS.mu 2 rfl)
 obtain ⟨A55, c56, rfl⟩ := row_slice (HS.mu 0 rfl)
 refine WL.val rfl rfl (by decide) (Run.lit1 (z := (.agg #[sn, sn])) (vs := [(.slice A53 t42.f0.length c54), (.slice A55 t42.f1.length c56)]) rfl rfl rfl underlying71 (by kernel_rfl) (ble_ rfl) (ble_ rfl)) ?_
 have HS1 := HS.below (below_alloc (Below.refl _ _) (.cells #[(.slice A53 t42.f0.length c54), (.slice A55 t42.f1.length c56)] 62))
 obtain ⟨q57, H⟩ := if_some H
 refine WL.append HS1 5 rfl rfl rfl (by decide) rfl (.agg #[sn, sn]) 48 underlying71 (by kernel_rfl) rfl (by decide) (by decide) rfl rfl [(.slice A53 t42.f0.length c54), (.slice A55 t42.f1.length c56)] rfl (lit_news _ _ _) (oneL rfl) (by omega) ((xs11 ++ [t42]).length) (by simp) (fun v58 w59 I60 hI61 HS => ?_)
 dsimp only [List.set] at HS
 clear HS1
 replace HS := HS.front 3 rfl
 dsimp only [List.eraseIdx] at HS
 replace HS := HS.front 3 rfl
 dsimp only [List.eraseIdx] at HS
 replace HS := HS.seal rfl rfl
 replace HS := HS.front 2 rfl
 dsimp only [List.eraseIdx] at HS
 replace HS := HS.front 2 rfl
 dsimp only [List.eraseIdx] at HS
 replace HS := HS.seal rfl rfl
 replace HS := HS.front 1 rfl
 dsimp only [List.eraseIdx] at HS
 replace HS := HS.both
 replace HS := HS.put0 (valM dq62 t42 ([(.slice A53 t42.f0.length c54), (.slice A55 t42.f1.length c56)]) ((((.slice A53 t42.f0.length c54) : Value).ownBlock.toList ++ bl50) ++ (((.slice A55 t42.f1.length c56) : Value).ownBlock.toList ++ bl52))) (fun hP_ => foot_val (dq62_mk _ t42 hP_.1 hP_.2)) (fun h_ => h_) (fun _ h_ => h_)
 replace HS := HS.front 1 rfl
 dsimp only [List.eraseIdx] at HS
 replace HS := HS.front 1 rfl
 dsimp only [List.eraseIdx] at HS
 replace HS := HS.elsSnoc hI61
 refine ad_ hK28 ?_
 refine rg_ (mv_ ?_)
 refine b_ bin_add64 ?_
 refine as_ ?_
 refine WL.done ?_
 exact wr_ k24 iq ⟨(xs11 ++ [t42]), v58, I60, (bl14 ++ ((((.slice A53 t42.f0.length c54) : Value).ownBlock.toList ++ bl50) ++ (((.slice A55 t42.f1.length c56) : Value).ownBlock.toList ++ bl52))), (wrap64 (i15 + 1)), ⟨_, H, Ho10⟩, rfl, (St.pk HS [3] [] rfl rfl)⟩
def spec_l15Copy.b0 (x0 : S58) (rec_ : Int → (List (List S62)) → Option (Int × (List (List S62)))) (k44 : Nat) (i30 : Int) (xs31 : List (List S62)) : Option (Int × (List (List S62))) := (if i30 < (x0.f1.length : Int) then (if 0 ≤ i30 ∧ i30 < (x0.f1.length : Int) then ((spec_l14CopyCells.g k44 (x0.f1.getD i30.toNat [])).bind fun t58 => (if (xs31.length) < 4294967296 then (rec_ (wrap64 (i30 + 1)) (xs31 ++ [t58])) else none)) else none) else (some (i30, xs31)))
def spec_l15Copy.l0 (x0 : S58) : Nat → Int → (List (List S62)) → Option (Int × (List (List S62)))
 | 0, _, _ => none
 | k + 1, i30, xs31 => spec_l15Copy.b0 x0 (spec_l15Copy.l0 x0 k) k i30 xs31
def spec_l15Copy.g (k : Nat) (x0 : S58) : Option S58 := (if (0) + (x0.f0.length) < 4294967296 then ((spec_l15Copy.l0 x0 k 0 ([] : List (List S62))).bind (fun oc42 => (some (⟨(([] : List Int) ++ x0.f0), oc42.2⟩ : S58)))) else none)
theorem spec_l15Copy.runs (k : Nat) (x0 : S58) (A0_0 : Option Addr) (c0_0 : Nat) (A0_1 : Option Addr) (c0_1 : Nat) (r : S58) (w : World) (hr0_0 : kI.C w A0_0 x0.f0.length x0.f0) (hc0_0 : x0.f0.length ≤ c0_0) (hr0_1 : kS62.C w A0_1 x0.f1.length x0.f1) (hc0_1 : x0.f1.length ≤ c0_1) (H : spec_l15Copy.g k x0 = some r) :
   Calls prog 111 #[.agg #[.slice A0_0 x0.f0.length c0_0, .slice A0_1 x0.f1.length c0_1]] w fun e w' => ∃ (v0_0_ : Value) (bl0_0_ : List Nat) (v0_1_ : Value) (bl0_1_ : List Nat), e = .returned (.agg #[v0_0_, v0_1_]) ∧ Owns w' w.heap.size [valM (Dk.slice 3 (Dk.int .i64)) r.f0 [v0_0_] bl0_0_, valM (Dk.slice 71 (Dk.slice 62 dq62)) r.f1 [v0_1_] bl0_1_] ∧ Below w.heap.size w w' := by
 unfold spec_l15Copy.g at H
 have HS : St (fun _ => True) w w [] [(cF kI A0_0 x0.f0), (cF kS62 A0_1 x0.f1)] [] := St.start (foot_cons (foot_C (Kd.heap_int _) hr0_0) (foot_cons (foot_C (Kd.heap_slice _ h62) hr0_1) foot_nil))
 refine cw_ (n := 29) func111 fun R_ hR_ => ?_
 refine sr_ fun _ hK1 => ?_
 refine bo_ HS (fun b2 w3 hb2 HS => ?_)
 refine WL.alloc HS (v := .agg #[sn, sn]) (cs := #[sn, sn]) rfl rfl (by decide) rfl (by kernel_rfl) rfl (fun b4 w5 hb4 HS => ?_)
 refine dn_ hK1 (sr_ fun _ hK6 => ?_)
 refine WL.lit0 HS rfl rfl (by decide) rfl underlying22 (sz := 1) (by kernel_rfl) (fun v7 w8 HS => ?_)
 replace HS := HS.deriveN (p := (rF kI ([] : List Int) [])) (fun _ _ => Reps.none _ _)
 refine v_ (fa_ underlying58) ?_
 refine v_ (lb_ (HS.mu 2 rfl) underlying22 rfl) ?_
 obtain ⟨q9, H⟩ := if_some H
 obtain ⟨L10, hl11, h12, hF13, hc14⟩ := foot_all (HS.footO 0 rfl) (by decide) rfl
 replace HS := HS.addN (p := (rF kI x0.f0 L10)) (fun W_ _ => hF13.now)
 refine WL.appendL HS 0 rfl rfl rfl (by decide) rfl (vi 0) 8 underlying22 (by kernel_rfl) rfl (by decide) (by decide) rfl rfl L10 hl11 hc14 h12 (by omega) ((([] : List Int) ++ x0.f0).length) (by simp <;> omega) (fun v15 w16 I17 hI18 HS => ?_)
 dsimp only [List.set] at HS
 replace HS := HS.deriveN (p := (rF kI (([] : List Int) ++ x0.f0) I17)) (fun W_ hN_ => reps_more hI18 hN_.2.1 hN_.1)
 obtain ⟨A19, c20, rfl⟩ := row_slice (HS.mu 0 rfl)
 refine v_ (Run.build (cells := #[(.slice A19 ((([] : List Int) ++ x0.f0).length) c20), sn]) rfl [(0, (.slice A19 ((([] : List Int) ++ x0.f0).length) c20))] ⟨⟨rfl, rfl⟩, trivial⟩ (by kernel_rfl)) ?_
 refine WL.alloc HS (v := .agg #[sn, sn]) (cs := #[sn, sn]) rfl rfl (by decide) rfl (by kernel_rfl) rfl (fun b21 w22 hb21 HS => ?_)
 refine WL.storeW HS 0 rfl rfl rfl rfl rfl rfl (oneL rfl) (by kernel_rfl) rfl (fun w23 HS => ?_)
 dsimp only [List.set] at HS
 refine dn_ hK6 (WC.seq fun K24 hK24 => ?_)
 refine sr_ fun _ hK25 => ?_
 refine ad_ hK25 ?_
 refine WC.block ?_
 replace HS := HS.rowNil 71 1
 replace HS := HS.els0 (Dk.slice 62 dq62)
 obtain ⟨G26, hG27, oc28, H, Ho29⟩ := open_G H
 let J35 := fun (i30 : Int) (xs31 : List (List S62)) v32 I33 bl34 (E_ : Env) (W_ : World) => E_ = [(1, .pointer (some ⟨b2, 0, none⟩)), (2, .pointer (some ⟨b4, 0, none⟩)), (3, .pointer (some ⟨b21, 0, none⟩)), (4, vi i30)] ∧ St (fun _ => True) w W_ [elsM (Dk.slice 62 dq62) xs31 I33 bl34, rowM w.heap.size 71 1 v32 xs31.length I33, boxM b21 #[(.slice A19 ((([] : List Int) ++ x0.f0).length) c20), v32] 58, rowM w.heap.size 3 1 (.slice A19 ((([] : List Int) ++ x0.f0).length) c20) ((([] : List Int) ++ x0.f0).length) I17, boxM b4 #[sn, sn] 58, boxM b2 #[.slice A0_0 x0.f0.length c0_0, .slice A0_1 x0.f1.length c0_1] 58] [(cF kI A0_0 x0.f0), (cF kS62 A0_1 x0.f1)] [(rF kI (([] : List Int) ++ x0.f0) I17)]
 have X36 : ∀ E_ W_, (∃ i30 xs31 v32 I33 bl34, G26 (i30, xs31) = some r ∧ J35 i30 xs31 v32 I33 bl34 E_ W_) → ∀ a, Fits a 29 E_ → K24 a W_ := by
   rintro E_ w37 ⟨i30, xs31, v32, I33, bl34, H, rfl, HS⟩
   rw [hG27] at H
   (try dsimp only at H)
   refine hK24 _ _ ?_
   refine sr_ fun _ hK38 => ?_
   obtain ⟨A39, c40, rfl⟩ := row_slice (HS.mu 1 rfl)
   refine v_ (ls_ (HS.mu 2 rfl) underlying58 part_all) ?_
   refine WL.storeW HS 4 rfl rfl rfl rfl rfl rfl (oneL rfl) (by kernel_rfl) rfl (fun w41 HS => ?_)
   dsimp only [List.set] at HS
   refine dn_ hK38 (WC.ret ?_)
   replace HS := HS.elsF (xs := (([] : List Int) ++ x0.f0)) (inner := I17) (Dk.int .i64) (fun _ _ _ h_ => ⟨h_, rfl⟩) (fun _ => (HS.getN 0 rfl))
   replace HS := HS.front 4 rfl
   dsimp only [List.eraseIdx] at HS
   replace HS := HS.seal rfl rfl
   replace HS := HS.front 1 rfl
   dsimp only [List.eraseIdx] at HS
   replace HS := HS.front 2 rfl
   dsimp only [List.eraseIdx] at HS
   replace HS := HS.seal rfl rfl
   obtain rfl := os H
   exact fin1 Try.f111 rfl ⟨_, rfl, resv_box (HS.mu 3 rfl) underlying58 rfl (by kernel_rfl)⟩ hR_ ⟨_, _, _, _, rfl, (St.owns (St.front (St.front (St.forget (St.forget (St.forget HS 4 rfl) 3 rfl) 2 rfl) 0 rfl) 1 rfl)), HS.b⟩
 clear hK24
 refine WC.loop (fun k_ E_ W_ => ∃ i30 xs31 v32 I33 bl34, (∃ o_, spec_l15Copy.l0 x0 k_ i30 xs31 = some o_ ∧ G26 o_ = some r) ∧ J35 i30 xs31 v32 I33 bl34 E_ W_) k ⟨0, ([] : List (List S62)), (sn), ([]), ([]), ⟨_, H, Ho29⟩, rfl, (St.pk HS [0, 1] [0] rfl rfl)⟩ (sb rfl) ?_
 rintro k_ E_ w43 ⟨i30, xs31, v32, I33, bl34, ⟨oc28, H, Ho29⟩, rfl, HS⟩
 rcases k_ with _ | k44
 · exact no_ H
 replace H : spec_l15Copy.b0 x0 (spec_l15Copy.l0 x0 k44) k44 i30 xs31 = some oc28 := H
 unfold spec_l15Copy.b0 at H
 refine WC.seq fun _ hK45 => ?_
 refine sr_ fun _ hK46 => ?_
 refine mv_ ?_
 refine v_ (fa_ underlying58) ?_
 refine v_ (lb_ (HS.mu 5 rfl) underlying56 rfl) ?_
 refine ln_ underlying56 ?_
 refine b_ bin_lss ?_
 refine dn_ hK46 ?_
 rcases eti_ H with ⟨c47, H⟩ | ⟨c47, H⟩
 · refine wn_ (dF c47) (WC.exit ?_)
   obtain rfl := os H
   exact wv_ iq X36 ⟨i30, xs31, v32, I33, bl34, Ho29, rfl, HS⟩
 refine wy_ (dT c47) (WC.skip (via_ hK45 (WC.seq fun _ hK48 => ?_)))
 refine WC.block (WC.drawW HS [boxM b21 #[(.slice A19 ((([] : List Int) ++ x0.f0).length) c20), v32] 58, boxM b4 #[sn, sn] 58, boxM b2 #[.slice A0_0 x0.f0.length c0_0, .slice A0_1 x0.f1.length c0_1] 58] (fun _ HS => ⟨(HS.mu 2 rfl), (HS.mu 4 rfl), (HS.mu 5 rfl), trivial⟩) [11] rfl rfl (fun w49 HS => ?_))
 refine df_ 0 underlying58 ?_
 refine df_ 2 underlying58 ?_
 refine dm_ 4 ?_
 obtain ⟨A50, c51, rfl⟩ := row_slice (HS.mu 1 rfl)
 refine dt_ 1 ⟨HS.nowO, HS.nowN, ⟨(HS.mu 2 rfl), (HS.mu 4 rfl), (HS.mu 5 rfl), trivial⟩⟩ (fun w_ hw_ => Run.load rfl rfl underlying56 rfl (box_cell hw_.2.2.1 rfl)) ?_
 refine dt_ 3 ⟨HS.nowO, HS.nowN, ⟨(HS.mu 2 rfl), (HS.mu 4 rfl), (HS.mu 5 rfl), trivial⟩⟩ (fun w_ hw_ => Run.load rfl rfl underlying56 rfl (box_cell hw_.2.2.2.2.1 rfl)) ?_
 obtain ⟨⟨q52, q53⟩, H⟩ := if_some H
 obtain ⟨ad54, rfl⟩ := C_open (HS.getO 1 rfl) (lenpos q52 q53)
 refine di_ 5 underlying56 1 q52 q53 ?_
 obtain ⟨A55, c56, le57, HS⟩ := HS.slO 1 rfl i30 q52 q53
 refine dv_ 6 (w_none rfl) (Run.load rfl rfl underlying71 rfl (HS.getO 1 rfl)) ⟨HS.nowO.2.2, HS.nowN, ⟨(HS.mu 2 rfl), (HS.mu 4 rfl), (HS.mu 5 rfl), trivial⟩⟩ ?_
 obtain ⟨t58, ha59, H⟩ := bind_some H
 refine dc_ 7 (w_none rfl) func113 (spec_l14CopyCells.runs k44 A55 c56 (x0.f1.getD i30.toNat []) t58 _ (HS.getO 0 rfl) le57 ha59) ?_
 clear ha59
 rintro _ w60 ⟨v61, bl62, rfl, hO_, hb⟩
 replace HS := HS.got hb hO_
 dsimp only [List.cons_append, List.nil_append] at HS
 clear hO_
 obtain ⟨I63, bl64, HS⟩ := HS.unseal (sz := 2) rfl
 refine ⟨⟨HS.nowO.2.2, HS.nowN, ⟨(HS.mu 4 rfl), (HS.mu 6 rfl), (HS.mu 7 rfl), trivial⟩⟩, _, rfl, ?_⟩
 clear hb
 obtain ⟨A65, c66, rfl⟩ := row_slice (HS.mu 0 rfl)
 have HS1 := HS.below (below_alloc (Below.refl _ _) (.cells #[(.slice A65 t58.length c66)] 71))
 refine dv_ 8 (w_none rfl) (Run.lit1 (z := (sn)) (vs := [(.slice A65 t58.length c66)]) rfl rfl rfl underlying56 (by kernel_rfl) (ble_ rfl) (ble_ rfl)) ⟨HS1.nowO.2.2, HS1.nowN, ⟨(HS1.mu 4 rfl), (HS1.mu 6 rfl), (HS1.mu 7 rfl), trivial⟩⟩ ?_
 obtain ⟨q67, H⟩ := if_some H
 refine WD.append 9 (w_none rfl) HS1 3 rfl rfl (sn) 24 underlying56 (by kernel_rfl) rfl (by decide) (by decide) rfl rfl [(.slice A65 t58.length c66)] rfl (lit_news _ _ _) (oneL rfl) (by omega) ((xs31 ++ [t58]).length) (by simp) (fun v68 w69 I70 hI71 HS => ?_)
 dsimp only [List.set] at HS
 clear HS1
 replace HS := HS.front 1 rfl
 dsimp only [List.eraseIdx] at HS
 replace HS := HS.front 1 rfl
 dsimp only [List.eraseIdx] at HS
 replace HS := HS.seal rfl rfl
 replace HS := HS.front 1 rfl
 dsimp only [List.eraseIdx] at HS
 replace HS := HS.front 1 rfl
 dsimp only [List.eraseIdx] at HS
 replace HS := HS.elsSnoc hI71
 refine ⟨⟨HS.nowO.2.2, HS.nowN, ⟨(HS.mu 2 rfl), (HS.mu 4 rfl), (HS.mu 5 rfl), trivial⟩⟩, ?_⟩
 refine df_ 10 underlying58 ?_
 obtain ⟨A73, c74, rfl⟩ := row_slice (HS.mu 1 rfl)
 refine WD.storeL 11 HS 2 rfl rfl rfl rfl rfl (by kernel_rfl) (ble_ rfl) (cs' := #[(.slice A19 ((([] : List Int) ++ x0.f0).length) c20), (.slice A73 ((xs31 ++ [t58]).length) c74)]) (by kernel_rfl) (fun w72 HS => ?_)
 dsimp only [List.set] at HS
 refine dd_ (via_ hK48 (rg_ (mv_ ?_)))
 refine b_ bin_add64 ?_
 refine as_ ?_
 refine WL.done ?_
 exact wr_ k44 iq ⟨(wrap64 (i30 + 1)), (xs31 ++ [t58]), (.slice A73 ((xs31 ++ [t58]).length) c74), I70, (bl34 ++ (((.slice A65 t58.length c66) : Value).ownBlock.toList ++ bl64)), ⟨_, H, Ho29⟩, rfl, (St.pk HS [2, 3] [0] rfl rfl)⟩
def spec_l15CopyTable.g (k : Nat) (x0 : S67) : Option S67 := (if (0) + (x0.f0.length) < 4294967296 then (some (⟨(([] : List Int) ++ x0.f0), x0.f1⟩ : S67)) else none)
theorem spec_l15CopyTable.runs (k : Nat) (x0 : S67) (A0_0 : Option Addr) (c0_0 : Nat) (r : S67) (w : World) (hr0_0 : kI.C w A0_0 x0.f0.length x0.f0) (hc0_0 : x0.f0.length ≤ c0_0) (H : spec_l15CopyTable.g k x0 = some r) :
   Calls prog 112 #[.agg #[.slice A0_0 x0.f0.length c0_0, vi x0.f1]] w fun e w' => ∃ (v0_0_ : Value) (bl0_0_ : List Nat), e = .returned (.agg #[v0_0_, vi r.f1]) ∧ Owns w' w.heap.size [valM (Dk.slice 3 (Dk.int .i64)) r.f0 [v0_0_] bl0_0_] ∧ Below w.heap.size w w' := by
 unfold spec_l15CopyTable.g at H
 have HS : St (fun _ => True) w w [] [(cF kI A0_0 x0.f0)] [] := St.start (foot_cons (foot_C (Kd.heap_int _) hr0_0) foot_nil)
 refine cw_ (n := 10) func112 fun R_ hR_ => ?_
 refine sr_ fun _ hK1 => ?_
 refine bo_ HS (fun b2 w3 hb2 HS => ?_)
 refine WL.alloc HS (v := .agg #[sn, vi 0]) (cs := #[sn, vi 0]) rfl rfl (by decide) rfl (by kernel_rfl) rfl (fun b4 w5 hb4 HS => ?_)
 refine dn_ hK1 (WC.seq fun _ hK6 => ?_)
 refine WC.drawW HS [boxM b4 #[sn, vi 0] 67, boxM b2 #[.slice A0_0 x0.f0.length c0_0, vi x0.f1] 67] (fun _ HS => ⟨(HS.mu 0 rfl), (HS.mu 1 rfl), trivial⟩) [7] rfl rfl (fun w7 HS => ?_)
 refine df_ 1 underlying67 ?_
 refine df_ 4 underlying67 ?_
 refine dt_ 2 ⟨HS.nowO, HS.nowN, ⟨(HS.mu 0 rfl), (HS.mu 1 rfl), trivial⟩⟩ (fun w_ hw_ => Run.load rfl rfl underlying22 rfl (box_cell hw_.2.2.2.1 rfl)) ?_
 refine dt_ 5 ⟨HS.nowO, HS.nowN, ⟨(HS.mu 0 rfl), (HS.mu 1 rfl), trivial⟩⟩ (fun w_ hw_ => Run.load rfl rfl underlying3 rfl (box_cell hw_.2.2.2.1 rfl)) ?_
 refine WD.lit0 0 (w_none rfl) HS rfl underlying22 (sz := 1) (by kernel_rfl) (fun v8 w9 HS => ?_)
 replace HS := HS.deriveN (p := (rF kI ([] : List Int) [])) (fun _ _ => Reps.none _ _)
 refine ⟨⟨HS.nowO, HS.nowN.2, ⟨(HS.mu 1 rfl), (HS.mu 2 rfl), trivial⟩⟩, ?_⟩
 obtain ⟨q10, H⟩ := if_some H
 obtain ⟨L11, hl12, h13, hF14, hc15⟩ := foot_all (HS.footO 0 rfl) (by decide) rfl
 replace HS := HS.addN (p := (rF kI x0.f0 L11)) (fun W_ _ => hF14.now)
 refine WD.appendL 3 (w_none rfl) HS 0 rfl rfl (vi 0) 8 underlying22 (by kernel_rfl) rfl (by decide) (by decide) rfl rfl L11 hl12 hc15 h13 (by omega) ((([] : List Int) ++ x0.f0).length) (by simp <;> omega) (fun v16 w17 I18 hI19 HS => ?_)
 dsimp only [List.set] at HS
 replace HS := HS.deriveN (p := (rF kI (([] : List Int) ++ x0.f0) I18)) (fun W_ hN_ => reps_more hI19 hN_.2.1 hN_.1)
 refine ⟨⟨HS.nowO, HS.nowN.2.2.2, ⟨(HS.mu 1 rfl), (HS.mu 2 rfl), trivial⟩⟩, ?_⟩
 obtain ⟨A20, c21, rfl⟩ := row_slice (HS.mu 0 rfl)
 refine db_ 6 [(0, (.slice A20 ((([] : List Int) ++ x0.f0).length) c21)), (1, vi x0.f1)] (cells := #[(.slice A20 ((([] : List Int) ++ x0.f0).length) c21), vi x0.f1]) rfl rfl ⟨⟨rfl, rfl⟩, ⟨⟨rfl, rfl⟩, trivial⟩⟩ (by kernel_rfl) ?_
 refine WD.storeSL 7 HS 1 rfl rfl rfl rfl (oneL rfl) (by kernel_rfl) (ble_ rfl) (cs' := #[(.slice A20 ((([] : List Int) ++ x0.f0).length) c21), vi x0.f1]) (by kernel_rfl) (fun w22 HS => ?_)
 dsimp only [List.set] at HS
 refine dd_ (via_ hK6 (WC.ret ?_))
 replace HS := HS.elsF (xs := (([] : List Int) ++ x0.f0)) (inner := I18) (Dk.int .i64) (fun _ _ _ h_ => ⟨h_, rfl⟩) (fun _ => (HS.getN 0 rfl))
 replace HS := HS.front 1 rfl
 dsimp only [List.eraseIdx] at HS
 replace HS := HS.seal rfl rfl
 obtain rfl := os H
 exact fin1 Try.f112 rfl ⟨_, rfl, resv_box (HS.mu 1 rfl) underlying67 rfl (by kernel_rfl)⟩ hR_ ⟨_, _, rfl, (St.owns (St.forget (St.forget HS 2 rfl) 1 rfl)), HS.b⟩
def spec_TakePage.b0 (l0 : List Int) (rec_ : Int → (List Int) → Option (((List Int) × Int × Bool) ⊕ (Int × (List Int)))) (k35 : Nat) (i21 : Int) (xs22 : List Int) : Option (((List Int) × Int × Bool) ⊕ (Int × (List Int))) := (if i21 < (l0.length : Int) then ((spec_PoolOk.g k35 l0).bind fun t39 => (if t39 = true then (if 0 ≤ i21 ∧ i21 < (l0.length : Int) then (if (l0.getD i21.toNat 0) = 0 then (if 0 ≤ i21 ∧ i21 < ((xs22.length : Nat) : Int) then (some (Sum.inl ((xs22.set i21.toNat 1), i21, true))) else none) else (rec_ (wrap64 (i21 + 1)) xs22)) else none) else (some (Sum.inr (i21, xs22))))) else (some (Sum.inr (i21, xs22))))
def spec_TakePage.l0 (l0 : List Int) : Nat → Int → (List Int) → Option (((List Int) × Int × Bool) ⊕ (Int × (List Int)))
 | 0, _, _ => none
 | k + 1, i21, xs22 => spec_TakePage.b0 l0 (spec_TakePage.l0 l0 k) k i21 xs22
def spec_TakePage.g (k : Nat) (l0 : List Int) : Option ((List Int) × Int × Bool) := (if (0) + (l0.length) < 4294967296 then ((spec_TakePage.l0 l0 k 0 (([] : List Int) ++ l0)).bind (fun oc33 => match oc33 with | .inl r_ => some r_ | .inr ⟨i21, xs22⟩ => (some (([] : List Int), 0, false)))) else none)
theorem spec_TakePage.runs (k : Nat) (A0 : Option Addr) (c0 : Nat) (l0 : List Int) (r1 : List Int) (r2 : Int) (r3 : Bool) (w : World) (hr0 : kI.C w A0 l0.length l0) (hc0 : l0.length ≤ c0) (H : spec_TakePage.g k l0 = some (r1, r2, r3)) :
   Calls prog 115 #[.slice A0 l0.length c0] w fun e w' => ∃ (v0_ : Value) (bl0_ : List Nat), e = .returned (.tuple #[v0_, vi r2, .bool r3]) ∧ Owns w' w.heap.size [valM (Dk.slice 3 (Dk.int .i64)) r1 [v0_] bl0_] ∧ Below w.heap.size w w' := by
 unfold spec_TakePage.g at H
 have HS : St (fun _ => True) w w [] [(cF kI A0 l0)] [] := St.start (foot_cons (foot_C (Kd.heap_int _) hr0) foot_nil)
 refine cw_ (n := 31) func115 fun R_ hR_ => ?_
 refine sr_ fun _ hK1 => ?_
 refine fast_ ?_
 refine via_ hK1 (sr_ fun _ hK2 => ?_)
 refine WL.lit0 HS rfl rfl (by decide) rfl underlying22 (sz := 1) (by kernel_rfl) (fun v3 w4 HS => ?_)
 replace HS := HS.deriveN (p := (rF kI ([] : List Int) [])) (fun _ _ => Reps.none _ _)
 refine mv_ ?_
 obtain ⟨q5, H⟩ := if_some H
 obtain ⟨L6, hl7, h8, hF9, hc10⟩ := foot_all (HS.footO 0 rfl) (by decide) rfl
 replace HS := HS.addN (p := (rF kI l0 L6)) (fun W_ _ => hF9.now)
 refine WL.appendL HS 0 rfl rfl rfl (by decide) rfl (vi 0) 8 underlying22 (by kernel_rfl) rfl (by decide) (by decide) rfl rfl L6 hl7 hc10 h8 (by omega) ((([] : List Int) ++ l0).length) (by simp <;> omega) (fun v11 w12 I13 hI14 HS => ?_)
 dsimp only [List.set] at HS
 replace HS := HS.deriveN (p := (rF kI (([] : List Int) ++ l0) I13)) (fun W_ hN_ => reps_more hI14 hN_.2.1 hN_.1)
 refine ad_ hK2 ?_
 refine WC.seq fun K15 hK15 => ?_
 refine sr_ fun _ hK16 => ?_
 refine ad_ hK16 ?_
 refine WC.block ?_
 obtain ⟨G17, hG18, oc19, H, Ho20⟩ := open_G H
 let J25 := fun (i21 : Int) (xs22 : List Int) v23 I24 (E_ : Env) (W_ : World) => E_ = [(0, .slice A0 l0.length c0), (5, v23), (6, vi i21)] ∧ St (fun _ => True) w W_ [rowM w.heap.size 3 1 v23 xs22.length I24] [(cF kI A0 l0)] [(rF kI xs22 I24)]
 have X26 : ∀ E_ W_, (∃ i21 xs22 v23 I24, G17 (Sum.inr (i21, xs22)) = some (r1, r2, r3) ∧ J25 i21 xs22 v23 I24 E_ W_) → ∀ a, Fits a 31 E_ → K15 a W_ := by
   rintro E_ w27 ⟨i21, xs22, v23, I24, H, rfl, HS⟩
   rw [hG18] at H
   (try dsimp only at H)
   refine hK15 _ _ ?_
   refine sr_ fun _ hK28 => ?_
   refine WL.lit0 HS rfl rfl (by decide) rfl underlying22 (sz := 1) (by kernel_rfl) (fun v29 w30 HS => ?_)
   replace HS := HS.deriveN (p := (rF kI ([] : List Int) [])) (fun _ _ => Reps.none _ _)
   refine fast_ ?_
   refine via_ hK28 (WC.ret ?_)
   obtain ⟨A31, c32, rfl⟩ := row_slice (HS.mu 0 rfl)
   replace HS := HS.elsF (xs := ([] : List Int)) (inner := []) (Dk.int .i64) (fun _ _ _ h_ => ⟨h_, rfl⟩) (fun _ => (HS.getN 0 rfl))
   replace HS := HS.front 1 rfl
   dsimp only [List.eraseIdx] at HS
   replace HS := HS.seal rfl (by simp)
   obtain ⟨rfl, rfl, rfl⟩ := (by have h_ := os H; simp only [Prod.mk.injEq] at h_; exact h_)
   exact fin3 Try.f115 rfl rfl rfl rfl hR_ ⟨_, _, rfl, (St.owns (St.forget HS 1 rfl)), HS.b⟩
 clear hK15
 refine WC.loop (fun k_ E_ W_ => ∃ i21 xs22 v23 I24, (∃ o_, spec_TakePage.l0 l0 k_ i21 xs22 = some o_ ∧ G17 o_ = some (r1, r2, r3)) ∧ J25 i21 xs22 v23 I24 E_ W_) k ⟨0, (([] : List Int) ++ l0), v11, I13, ⟨_, H, Ho20⟩, rfl, (St.pk HS [0] [0] rfl rfl)⟩ (sb rfl) ?_
 rintro k_ E_ w34 ⟨i21, xs22, v23, I24, ⟨oc19, H, Ho20⟩, rfl, HS⟩
 rcases k_ with _ | k35
 · exact no_ H
 replace H : spec_TakePage.b0 l0 (spec_TakePage.l0 l0 k35) k35 i21 xs22 = some oc19 := H
 unfold spec_TakePage.b0 at H
 refine WC.seq fun _ hK36 => ?_
 refine sr_ fun _ hK37 => ?_
 refine mv_ ?_
 refine mv_ ?_
 refine ln_ underlying22 ?_
 refine b_ bin_lss ?_
 refine mv_ ?_
 rcases eti_ H with ⟨c38, H⟩ | ⟨c38, H⟩
 · refine off_ (c' := false) (dF c38) ?_
   refine off_ (c' := false) (dF c38) ?_
   refine v_ (Run.pickF rfl rfl (dF c38) rfl) ?_
   refine dn_ hK37 (wn_ rfl ?_)
   refine WC.exit ?_
   obtain rfl := os H
   exact wv_ iq X26 ⟨i21, xs22, v23, I24, Ho20, rfl, HS⟩
 refine on_ (dT c38) (mv_ ?_)
 refine on_ (dT c38) ?_
 obtain ⟨t39, ha40, H⟩ := bind_some H
 refine cs_ HS func146 (spec_PoolOk.runs k35 A0 c0 l0 t39 _ (HS.getO 0 rfl) hc0 ha40) (fun w41 HS => ?_)
 clear ha40
 refine v_ (Run.pickT rfl rfl (dT c38) rfl) ?_
 refine dn_ hK37 ?_
 rcases eti_ H with ⟨c42, H⟩ | ⟨c42, H⟩
 · refine wn_ (bF c42) (WC.exit ?_)
   obtain rfl := os H
   exact wv_ iq X26 ⟨i21, xs22, v23, I24, Ho20, rfl, HS⟩
 refine wy_ c42 ?_
 refine WC.skip (via_ hK36 (WC.seq fun _ hK43 => ?_))
 refine WC.block (sr_ fun _ hK44 => ?_)
 refine mv_ ?_
 refine mv_ ?_
 obtain ⟨⟨q45, q46⟩, H⟩ := if_some H
 obtain ⟨ad47, rfl⟩ := C_open (HS.getO 0 rfl) (lenpos q45 q46)
 refine v_ (ia_ underlying22 1 q45 q46) ?_
 refine v_ (Run.load rfl rfl underlying3 rfl (int_cell (HS.getO 0 rfl) i21 q45 q46)) ?_
 refine b_ bin_eql ?_
 refine dn_ hK44 ?_
 rcases eti_ H with ⟨c48, H⟩ | ⟨c48, H⟩
 · refine wn_ (eF c48) (WC.skip (via_ hK43 (rg_ (mv_ ?_))))
   refine b_ bin_add64 ?_
   refine as_ ?_
   refine WL.done ?_
   exact wr_ k35 iq ⟨(wrap64 (i21 + 1)), xs22, v23, I24, ⟨_, H, Ho20⟩, rfl, HS⟩
 refine wy_ (eT c48) (sr_ fun _ hK49 => ?_)
 refine mv_ ?_
 refine mv_ ?_
 obtain ⟨⟨q50, q51⟩, H⟩ := if_some H
 obtain ⟨A52, c53, rfl⟩ := row_slice (HS.mu 0 rfl)
 obtain ⟨ad54, rfl⟩ := row_open (HS.mu 0 rfl) (lenpos q50 q51)
 refine v_ (ia_ underlying22 1 q50 q51) ?_
 have hk_ := mul_room q50 q51 1
 refine WL.putEl HS 0 rfl rfl rfl rfl rfl rfl [vi 1] rfl (oneL rfl) (by kernel_rfl) (by first | omega | (rw [List.length_nil]; omega) | (simp; omega)) (fun w55 I56 hI57 HS => ?_)
 dsimp only [List.set] at HS
 clear hk_
 replace HS := HS.deriveN (p := (rF kI (xs22.set i21.toNat 1) I56)) (fun W_ hN_ => reps_set hI57 hN_.1 (K_int _) (toNat_lt q50 q51))
 replace HS := HS.rowN 0 rfl (show xs22.length = (xs22.set i21.toNat 1).length from (List.length_set ..).symm)
 dsimp only [List.set] at HS
 generalize hv59 : (Value.slice (some ad54) xs22.length c53) = v58 at HS ⊢
 refine dn_ hK49 (sr_ fun _ hK60 => ?_)
 refine fast_ ?_
 refine via_ hK60 (WC.ret ?_)
 obtain ⟨A61, c62, rfl⟩ := row_slice (HS.mu 0 rfl)
 replace HS := HS.elsF (xs := (xs22.set i21.toNat 1)) (inner := I56) (Dk.int .i64) (fun _ _ _ h_ => ⟨h_, rfl⟩) (fun _ => (HS.getN 0 rfl))
 replace HS := HS.front 1 rfl
 dsimp only [List.eraseIdx] at HS
 replace HS := HS.seal rfl rfl
 obtain rfl := os H
 rw [hG18] at Ho20
 replace H : some _ = some _ := Ho20
 obtain ⟨rfl, rfl, rfl⟩ := (by have h_ := os H; simp only [Prod.mk.injEq] at h_; exact h_)
 exact fin3 Try.f115 rfl rfl rfl rfl hR_ ⟨_, _, rfl, (St.owns HS), HS.b⟩
def spec_l13Change.g (k : Nat) (l0 : List Int) (a1 : Int) (a2 : Int) : Option ((List Int) × Bool) := ((spec_PoolOk.g k l0).bind fun t4 => (if t4 = true then ((spec_l01In.f a1 0 (wrap64 ((l0.length : Int) - 1))).bind fun t8 => (if t8 = true then (if 0 ≤ a1 ∧ a1 < (l0.length : Int) then (if (l0.getD a1.toNat 0) = 0 then (some (([] : List Int), false)) else (if (0) + (l0.length) < 4294967296 then (if 0 ≤ a1 ∧ a1 < ((((([] : List Int) ++ l0).length) : Nat) : Int) then ((spec_PoolOk.g k ((([] : List Int) ++ l0).set a1.toNat (wrap64 (((([] : List Int) ++ l0).getD a1.toNat 0) + a2)))).bind fun t49 => (if t49 = true then (some (((([] : List Int) ++ l0).set a1.toNat (wrap64 (((([] : List Int) ++ l0).getD a1.toNat 0) + a2))), true)) else (some (([] : List Int), false)))) else none) else none)) else none) else (some (([] : List Int), false)))) else (some (([] : List Int), false))))
theorem spec_l13Change.runs (k : Nat) (A0 : Option Addr) (c0 : Nat) (l0 : List Int) (a1 : Int) (a2 : Int) (r1 : List Int) (r2 : Bool) (w : World) (hr0 : kI.C w A0 l0.length l0) (hc0 : l0.length ≤ c0) (H : spec_l13Change.g k l0 a1 a2 = some (r1, r2)) :
   Calls prog 147 #[.slice A0 l0.length c0, vi a1, vi a2] w fun e w' => ∃ (v0_ : Value) (bl0_ : List Nat), e = .returned (.tuple #[v0_, .bool r2]) ∧ Owns w' w.heap.size [valM (Dk.slice 3 (Dk.int .i64)) r1 [v0_] bl0_] ∧ Below w.heap.size w w' := by
 unfold spec_l13Change.g at H
 have HS : St (fun _ => True) w w [] [(cF kI A0 l0)] [] := St.start (foot_cons (foot_C (Kd.heap_int _) hr0) foot_nil)
 refine cw_ (n := 45) func147 fun R_ hR_ => ?_
 refine sr_ fun _ hK1 => ?_
 refine as_ ?_
 refine ad_ hK1 ?_
 refine WC.seq fun _ hK2 => ?_
 refine sr_ fun _ hK3 => ?_
 refine mv_ ?_
 obtain ⟨t4, ha5, H⟩ := bind_some H
 refine cs_ HS func146 (spec_PoolOk.runs k A0 c0 l0 t4 _ (HS.getO 0 rfl) hc0 ha5) (fun w6 HS => ?_)
 clear ha5
 refine nt_ ?_
 refine mv_ ?_
 rcases eti_ H with ⟨c7, H⟩ | ⟨c7, H⟩
 · refine off_ (c' := true) (nB (bF c7)) ?_
   refine WL.know 12 (nB (bF c7)) ?_
   refine fast_ ?_
   refine via_ hK3 (wy_ rfl ?_)
   refine sr_ fun _ hK64 => ?_
   refine WL.lit0 HS rfl rfl (by decide) rfl underlying22 (sz := 1) (by kernel_rfl) (fun v65 w66 HS => ?_)
   replace HS := HS.deriveN (p := (rF kI ([] : List Int) [])) (fun _ _ => Reps.none _ _)
   refine as_ ?_
   refine ad_ hK64 ?_
   refine WC.ret ?_
   obtain ⟨A67, c68, rfl⟩ := row_slice (HS.mu 0 rfl)
   replace HS := HS.elsF (xs := ([] : List Int)) (inner := []) (Dk.int .i64) (fun _ _ _ h_ => ⟨h_, rfl⟩) (fun _ => (HS.getN 0 rfl))
   replace HS := HS.front 1 rfl
   dsimp only [List.eraseIdx] at HS
   replace HS := HS.seal rfl (by simp)
   obtain ⟨rfl, rfl⟩ := Prod.mk.inj (os H)
   exact fin2 Try.f147 rfl rfl rfl hR_ ⟨_, _, rfl, (St.owns HS), HS.b⟩
 refine on_ (nB c7) (mv_ ?_)
 refine on_ (nB c7) (mv_ ?_)
 refine on_ (nB c7) (ln_ underlying22 ?_)
 refine on_ (nB c7) (b_ bin_sub64 ?_)
 refine on_ (nB c7) ?_
 obtain ⟨t8, ha9, H⟩ := bind_some H
 refine cs0_ HS func79 (spec_l01In.calls a1 0 (wrap64 ((l0.length : Int) - 1)) t8 _ ha9) (fun w10 HS => ?_)
 clear ha9
 refine on_ (nB c7) (nt_ ?_)
 refine v_ (Run.pickF rfl rfl (nB c7) rfl) ?_
 refine mv_ ?_
 rcases eti_ H with ⟨c11, H⟩ | ⟨c11, H⟩
 · refine off_ (c' := true) (nB (bF c11)) ?_
   refine WL.know 20 (nB (bF c11)) ?_
   refine fast_ ?_
   refine via_ hK3 (wy_ rfl ?_)
   refine sr_ fun _ hK59 => ?_
   refine WL.lit0 HS rfl rfl (by decide) rfl underlying22 (sz := 1) (by kernel_rfl) (fun v60 w61 HS => ?_)
   replace HS := HS.deriveN (p := (rF kI ([] : List Int) [])) (fun _ _ => Reps.none _ _)
   refine as_ ?_
   refine ad_ hK59 ?_
   refine WC.ret ?_
   obtain ⟨A62, c63, rfl⟩ := row_slice (HS.mu 0 rfl)
   replace HS := HS.elsF (xs := ([] : List Int)) (inner := []) (Dk.int .i64) (fun _ _ _ h_ => ⟨h_, rfl⟩) (fun _ => (HS.getN 0 rfl))
   replace HS := HS.front 1 rfl
   dsimp only [List.eraseIdx] at HS
   replace HS := HS.seal rfl (by simp)
   obtain ⟨rfl, rfl⟩ := Prod.mk.inj (os H)
   exact fin2 Try.f147 rfl rfl rfl hR_ ⟨_, _, rfl, (St.owns HS), HS.b⟩
 refine on_ (nB c11) (mv_ ?_)
 refine on_ (nB c11) (mv_ ?_)
 refine on_ (nB c11) ?_
 obtain ⟨⟨q12, q13⟩, H⟩ := if_some H
 obtain ⟨ad14, rfl⟩ := C_open (HS.getO 0 rfl) (lenpos q12 q13)
 refine v_ (ia_ underlying22 1 q12 q13) ?_
 refine on_ (nB c11) (v_ (Run.load rfl rfl underlying3 rfl (int_cell (HS.getO 0 rfl) a1 q12 q13)) ?_)
 refine on_ (nB c11) (b_ bin_eql ?_)
 refine v_ (Run.pickF rfl rfl (nB c11) rfl) ?_
 refine dn_ hK3 ?_
 rcases ite_ H with ⟨c15, H⟩ | ⟨c15, H⟩
 · refine wy_ (eT c15) (sr_ fun _ hK16 => ?_)
   refine WL.lit0 HS rfl rfl (by decide) rfl underlying22 (sz := 1) (by kernel_rfl) (fun v17 w18 HS => ?_)
   replace HS := HS.deriveN (p := (rF kI ([] : List Int) [])) (fun _ _ => Reps.none _ _)
   refine as_ ?_
   refine ad_ hK16 ?_
   refine WC.ret ?_
   obtain ⟨A19, c20, rfl⟩ := row_slice (HS.mu 0 rfl)
   replace HS := HS.elsF (xs := ([] : List Int)) (inner := []) (Dk.int .i64) (fun _ _ _ h_ => ⟨h_, rfl⟩) (fun _ => (HS.getN 0 rfl))
   replace HS := HS.front 1 rfl
   dsimp only [List.eraseIdx] at HS
   replace HS := HS.seal rfl (by simp)
   obtain ⟨rfl, rfl⟩ := Prod.mk.inj (os H)
   exact fin2 Try.f147 rfl rfl rfl hR_ ⟨_, _, rfl, (St.owns HS), HS.b⟩
 refine wn_ (eF c15) (WC.skip (via_ hK2 (sr_ fun _ hK21 => ?_)))
 refine WL.lit0 HS rfl rfl (by decide) rfl underlying22 (sz := 1) (by kernel_rfl) (fun v22 w23 HS => ?_)
 replace HS := HS.deriveN (p := (rF kI ([] : List Int) [])) (fun _ _ => Reps.none _ _)
 refine mv_ ?_
 obtain ⟨q24, H⟩ := if_some H
 obtain ⟨L25, hl26, h27, hF28, hc29⟩ := foot_all (HS.footO 0 rfl) (by decide) rfl
 replace HS := HS.addN (p := (rF kI l0 L25)) (fun W_ _ => hF28.now)
 refine WL.appendL HS 0 rfl rfl rfl (by decide) rfl (vi 0) 8 underlying22 (by kernel_rfl) rfl (by decide) (by decide) rfl rfl L25 hl26 hc29 h27 (by omega) ((([] : List Int) ++ l0).length) (by simp <;> omega) (fun v30 w31 I32 hI33 HS => ?_)
 dsimp only [List.set] at HS
 replace HS := HS.deriveN (p := (rF kI (([] : List Int) ++ l0) I32)) (fun W_ hN_ => reps_more hI33 hN_.2.1 hN_.1)
 refine ad_ hK21 ?_
 refine sr_ fun _ hK34 => ?_
 refine mv_ ?_
 refine mv_ ?_
 refine mv_ ?_
 refine mv_ ?_
 obtain ⟨⟨q35, q36⟩, H⟩ := if_some H
 obtain ⟨A37, c38, rfl⟩ := row_slice (HS.mu 0 rfl)
 obtain ⟨ad39, rfl⟩ := row_open (HS.mu 0 rfl) (lenpos q35 q36)
 refine v_ (ia_ underlying22 1 q35 q36) ?_
 refine v_ (Run.load rfl rfl underlying3 rfl (row_int (HS.mu 0 rfl) (HS.getN 0 rfl) q35 q36)) ?_
 refine mv_ ?_
 refine b_ bin_add64 ?_
 refine v_ (ia_ underlying22 1 q35 q36) ?_
 have hk_ := mul_room q35 q36 1
 refine WL.putEl HS 0 rfl rfl rfl rfl rfl rfl [vi (wrap64 (((([] : List Int) ++ l0).getD a1.toNat 0) + a2))] rfl (oneL rfl) (by kernel_rfl) (by first | omega | (rw [List.length_nil]; omega) | (simp; omega)) (fun w40 I41 hI42 HS => ?_)
 dsimp only [List.set] at HS
 clear hk_
 replace HS := HS.deriveN (p := (rF kI ((([] : List Int) ++ l0).set a1.toNat (wrap64 (((([] : List Int) ++ l0).getD a1.toNat 0) + a2))) I41)) (fun W_ hN_ => reps_set hI42 hN_.1 (K_int _) (toNat_lt q35 q36))
 replace HS := HS.rowN 0 rfl (show ((([] : List Int) ++ l0).length) = ((([] : List Int) ++ l0).set a1.toNat (wrap64 (((([] : List Int) ++ l0).getD a1.toNat 0) + a2))).length from (List.length_set ..).symm)
 dsimp only [List.set] at HS
 generalize hv44 : (Value.slice (some ad39) ((([] : List Int) ++ l0).length) c38) = v43 at HS ⊢
 refine dn_ hK34 (WC.seq fun _ hK45 => ?_)
 refine sr_ fun _ hK46 => ?_
 refine mv_ ?_
 obtain ⟨A47, c48, rfl⟩ := row_slice (HS.mu 0 rfl)
 obtain ⟨t49, ha50, H⟩ := bind_some H
 refine cs_ HS func146 (spec_PoolOk.runs k A47 c48 ((([] : List Int) ++ l0).set a1.toNat (wrap64 (((([] : List Int) ++ l0).getD a1.toNat 0) + a2))) t49 _ (row_C rfl (HS.mu 0 rfl) (HS.getN 0 rfl)) (row_le (HS.mu 0 rfl)) ha50) (fun w51 HS => ?_)
 clear ha50
 refine nt_ ?_
 refine dn_ hK46 ?_
 rcases ite_ H with ⟨c52, H⟩ | ⟨c52, H⟩
 · refine wn_ (nB c52) (WC.skip (via_ hK45 (sr_ fun _ hK53 => ?_)))
   refine fast_ ?_
   refine via_ hK53 (WC.ret ?_)
   replace HS := HS.elsF (xs := ((([] : List Int) ++ l0).set a1.toNat (wrap64 (((([] : List Int) ++ l0).getD a1.toNat 0) + a2)))) (inner := I41) (Dk.int .i64) (fun _ _ _ h_ => ⟨h_, rfl⟩) (fun _ => (HS.getN 0 rfl))
   replace HS := HS.front 1 rfl
   dsimp only [List.eraseIdx] at HS
   replace HS := HS.seal rfl rfl
   obtain ⟨rfl, rfl⟩ := Prod.mk.inj (os H)
   exact fin2 Try.f147 rfl rfl rfl hR_ ⟨_, _, rfl, (St.owns HS), HS.b⟩
 refine wy_ (nB (bF c52)) (sr_ fun _ hK54 => ?_)
 refine WL.lit0 HS rfl rfl (by decide) rfl underlying22 (sz := 1) (by kernel_rfl) (fun v55 w56 HS => ?_)
 replace HS := HS.deriveN (p := (rF kI ([] : List Int) [])) (fun _ _ => Reps.none _ _)
 refine as_ ?_
 refine ad_ hK54 ?_
 refine WC.ret ?_
 obtain ⟨A57, c58, rfl⟩ := row_slice (HS.mu 0 rfl)
 replace HS := HS.elsF (xs := ([] : List Int)) (inner := []) (Dk.int .i64) (fun _ _ _ h_ => ⟨h_, rfl⟩) (fun _ => (HS.getN 0 rfl))
 replace HS := HS.front 1 rfl
 dsimp only [List.eraseIdx] at HS
 replace HS := HS.seal rfl (by simp)
 obtain ⟨rfl, rfl⟩ := Prod.mk.inj (os H)
 exact fin2 Try.f147 rfl rfl rfl hR_ ⟨_, _, rfl, (St.owns (St.forget HS 1 rfl)), HS.b⟩
def spec_SharePage.g (k : Nat) (l0 : List Int) (a1 : Int) : Option ((List Int) × Bool) := ((spec_l13Change.g k l0 a1 1).bind fun t3 => (some (t3.1, t3.2)))
theorem spec_SharePage.runs (k : Nat) (A0 : Option Addr) (c0 : Nat) (l0 : List Int) (a1 : Int) (r1 : List Int) (r2 : Bool) (w : World) (hr0 : kI.C w A0 l0.length l0) (hc0 : l0.length ≤ c0) (H : spec_SharePage.g k l0 a1 = some (r1, r2)) :
   Calls prog 132 #[.slice A0 l0.length c0, vi a1] w fun e w' => ∃ (v0_ : Value) (bl0_ : List Nat), e = .returned (.tuple #[v0_, .bool r2]) ∧ Owns w' w.heap.size [valM (Dk.slice 3 (Dk.int .i64)) r1 [v0_] bl0_] ∧ Below w.heap.size w w' := by
 unfold spec_SharePage.g at H
 have HS : St (fun _ => True) w w [] [(cF kI A0 l0)] [] := St.start (foot_cons (foot_C (Kd.heap_int _) hr0) foot_nil)
 refine cw_ (n := 11) func132 fun R_ hR_ => ?_
 refine sr_ fun _ hK1 => ?_
 refine as_ ?_
 refine ad_ hK1 ?_
 refine sr_ fun _ hK2 => ?_
 refine mv_ ?_
 refine mv_ ?_
 obtain ⟨t3, ha4, H⟩ := bind_some H
 refine c_ func147 (spec_l13Change.runs k A0 c0 l0 a1 1 t3.1 t3.2 _ (HS.getO 0 rfl) hc0 ha4) ?_
 clear ha4
 rintro _ w5 ⟨v6, bl7, rfl, hO_, hb⟩
 replace HS := HS.got hb hO_
 dsimp only [List.cons_append, List.nil_append] at HS
 clear hO_
 obtain ⟨I8, bl9, HS⟩ := HS.unseal (sz := 1) rfl
 replace HS := HS.freezeN 1 (p := (rF kI t3.1 I8)) rfl (fun _ hP_ _ => RepsB.reps hP_)
 dsimp only [List.eraseIdx] at HS
 refine ⟨_, rfl, ?_⟩
 clear hb
 refine v_ (Run.extract rfl rfl rfl) ?_
 refine v_ (Run.extract rfl rfl rfl) ?_
 refine as_ ?_
 refine ad_ hK2 ?_
 refine WC.ret ?_
 obtain ⟨A10, c11, rfl⟩ := row_slice (HS.mu 0 rfl)
 replace HS := HS.elsF (xs := t3.1) (inner := I8) (Dk.int .i64) (fun _ _ _ h_ => ⟨h_, rfl⟩) (fun _ => (HS.getN 0 rfl))
 replace HS := HS.front 1 rfl
 dsimp only [List.eraseIdx] at HS
 replace HS := HS.seal rfl rfl
 obtain ⟨rfl, rfl⟩ := Prod.mk.inj (os H)
 exact fin2 Try.f132 rfl rfl rfl hR_ ⟨_, _, rfl, (St.owns HS), HS.b⟩
def spec_DropPage.g (k : Nat) (l0 : List Int) (a1 : Int) : Option ((List Int) × Bool) := ((spec_l13Change.g k l0 a1 (-1)).bind fun t3 => (some (t3.1, t3.2)))
theorem spec_DropPage.runs (k : Nat) (A0 : Option Addr) (c0 : Nat) (l0 : List Int) (a1 : Int) (r1 : List Int) (r2 : Bool) (w : World) (hr0 : kI.C w A0 l0.length l0) (hc0 : l0.length ≤ c0) (H : spec_DropPage.g k l0 a1 = some (r1, r2)) :
   Calls prog 116 #[.slice A0 l0.length c0, vi a1] w fun e w' => ∃ (v0_ : Value) (bl0_ : List Nat), e = .returned (.tuple #[v0_, .bool r2]) ∧ Owns w' w.heap.size [valM (Dk.slice 3 (Dk.int .i64)) r1 [v0_] bl0_] ∧ Below w.heap.size w w' := by
 unfold spec_DropPage.g at H
 have HS : St (fun _ => True) w w [] [(cF kI A0 l0)] [] := St.start (foot_cons (foot_C (Kd.heap_int _) hr0) foot_nil)
 refine cw_ (n := 11) func116 fun R_ hR_ => ?_
 refine sr_ fun _ hK1 => ?_
 refine as_ ?_
 refine ad_ hK1 ?_
 refine sr_ fun _ hK2 => ?_
 refine mv_ ?_
 refine mv_ ?_
 obtain ⟨t3, ha4, H⟩ := bind_some H
 refine c_ func147 (spec_l13Change.runs k A0 c0 l0 a1 (-1) t3.1 t3.2 _ (HS.getO 0 rfl) hc0 ha4) ?_
 clear ha4
 rintro _ w5 ⟨v6, bl7, rfl, hO_, hb⟩
 replace HS := HS.got hb hO_
 dsimp only [List.cons_append, List.nil_append] at HS
 clear hO_
 obtain ⟨I8, bl9, HS⟩ := HS.unseal (sz := 1) rfl
 replace HS := HS.freezeN 1 (p := (rF kI t3.1 I8)) rfl (fun _ hP_ _ => RepsB.reps hP_)
 dsimp only [List.eraseIdx] at HS
 refine ⟨_, rfl, ?_⟩
 clear hb
 refine v_ (Run.extract rfl rfl rfl) ?_
 refine v_ (Run.extract rfl rfl rfl) ?_
 refine as_ ?_
 refine ad_ hK2 ?_
 refine WC.ret ?_
 obtain ⟨A10, c11, rfl⟩ := row_slice (HS.mu 0 rfl)
 replace HS := HS.elsF (xs := t3.1) (inner := I8) (Dk.int .i64) (fun _ _ _ h_ => ⟨h_, rfl⟩) (fun _ => (HS.getN 0 rfl))
 replace HS := HS.front 1 rfl
 dsimp only [List.eraseIdx] at HS
 replace HS := HS.seal rfl rfl
 obtain ⟨rfl, rfl⟩ := Prod.mk.inj (os H)
 exact fin2 Try.f116 rfl rfl rfl hR_ ⟨_, _, rfl, (St.owns HS), HS.b⟩
def spec_ForkTable.b0 (x1 : S67) (rec_ : Int → (List Int) → Option ((S58 × S67 × Bool) ⊕ (Int × (List Int)))) (k68 : Nat) (i41 : Int) (xs42 : List Int) : Option ((S58 × S67 × Bool) ⊕ (Int × (List Int))) := (if i41 < (x1.f0.length : Int) then (if 0 ≤ i41 ∧ i41 < (x1.f0.length : Int) then ((spec_SharePage.g k68 xs42 (x1.f0.getD i41.toNat 0)).bind fun t80 => (if t80.2 = true then (rec_ (wrap64 (i41 + 1)) t80.1) else (some (Sum.inl ((⟨[], []⟩ : S58), (⟨[], 0⟩ : S67), false))))) else none) else (some (Sum.inr (i41, xs42))))
def spec_ForkTable.l0 (x1 : S67) : Nat → Int → (List Int) → Option ((S58 × S67 × Bool) ⊕ (Int × (List Int)))
 | 0, _, _ => none
 | k + 1, i41, xs42 => spec_ForkTable.b0 x1 (spec_ForkTable.l0 x1 k) k i41 xs42
def spec_ForkTable.g (k : Nat) (x0 : S58) (x1 : S67) : Option (S58 × S67 × Bool) := ((spec_TableOk.g k (⟨x0.f0, x0.f1⟩ : S58) (⟨x1.f0, x1.f1⟩ : S67)).bind fun t12 => (if t12 = true then ((spec_l15Copy.g k (⟨x0.f0, x0.f1⟩ : S58)).bind fun t17 => ((spec_ForkTable.l0 x1 k 0 t17.f0).bind (fun oc66 => match oc66 with | .inl r_ => some r_ | .inr ⟨i41, xs42⟩ => ((spec_l15CopyTable.g k (⟨x1.f0, x1.f1⟩ : S67)).bind fun t52 => (some ((⟨xs42, t17.f1⟩ : S58), (⟨t52.f0, t52.f1⟩ : S67), true)))))) else (some ((⟨[], []⟩ : S58), (⟨[], 0⟩ : S67), false))))
theorem spec_ForkTable.runs (k : Nat) (x0 : S58) (A0_0 : Option Addr) (c0_0 : Nat) (A0_1 : Option Addr) (c0_1 : Nat) (x1 : S67) (A1_0 : Option Addr) (c1_0 : Nat) (r1 : S58) (r2 : S67) (r3 : Bool) (w : World) (hr0_0 : kI.C w A0_0 x0.f0.length x0.f0) (hc0_0 : x0.f0.length ≤ c0_0) (hr0_1 : kS62.C w A0_1 x0.f1.length x0.f1) (hc0_1 : x0.f1.length ≤ c0_1) (hr1_0 : kI.C w A1_0 x1.f0.length x1.f0) (hc1_0 : x1.f0.length ≤ c1_0) (H : spec_ForkTable.g k x0 x1 = some (r1, r2, r3)) :
   Calls prog 71 #[.agg #[.slice A0_0 x0.f0.length c0_0, .slice A0_1 x0.f1.length c0_1], .agg #[.slice A1_0 x1.f0.length c1_0, vi x1.f1]] w fun e w' => ∃ (A0_0_ : Option Addr) (c0_0_ : Nat) (A0_1_ : Option Addr) (c0_1_ : Nat) (A1_0_ : Option Addr) (c1_0_ : Nat), e = .returned (.tuple #[.agg #[.slice A0_0_ r1.f0.length c0_0_, .slice A0_1_ r1.f1.length c0_1_], .agg #[.slice A1_0_ r2.f0.length c1_0_, vi r2.f1], .bool r3]) ∧ r1.f0.length ≤ c0_0_ ∧ Foot (cF kI A0_0_ r1.f0) w' (fun k_ => w.heap.size ≤ k_) ∧ r1.f1.length ≤ c0_1_ ∧ Foot (cF kS62 A0_1_ r1.f1) w' (fun k_ => w.heap.size ≤ k_) ∧ r2.f0.length ≤ c1_0_ ∧ Foot (cF kI A1_0_ r2.f0) w' (fun k_ => w.heap.size ≤ k_) ∧ Below w.heap.size w w' := by
 unfold spec_ForkTable.g at H
 have HS : St (fun _ => True) w w [] [(cF kI A0_0 x0.f0), (cF kS62 A0_1 x0.f1), (cF kI A1_0 x1.f0)] [] := St.start (foot_cons (foot_C (Kd.heap_int _) hr0_0) (foot_cons (foot_C (Kd.heap_slice _ h62) hr0_1) (foot_cons (foot_C (Kd.heap_int _) hr1_0) foot_nil)))
 refine cw_ (n := 46) func71 fun R_ hR_ => ?_
 refine sr_ fun _ hK1 => ?_
 refine bo_ HS (fun b2 w3 hb2 HS => ?_)
 refine bo_ HS (fun b4 w5 hb4 HS => ?_)
 refine WL.alloc HS (v := .agg #[sn, sn]) (cs := #[sn, sn]) rfl rfl (by decide) rfl (by kernel_rfl) rfl (fun b6 w7 hb6 HS => ?_)
 refine WL.alloc HS (v := .agg #[sn, vi 0]) (cs := #[sn, vi 0]) rfl rfl (by decide) rfl (by kernel_rfl) rfl (fun b8 w9 hb8 HS => ?_)
 refine ad_ hK1 ?_
 refine WC.seq fun _ hK10 => ?_
 refine sr_ fun _ hK11 => ?_
 refine v_ (ls_ (HS.mu 3 rfl) underlying58 part_all) ?_
 refine v_ (ls_ (HS.mu 2 rfl) underlying67 part_all) ?_
 obtain ⟨t12, ha13, H⟩ := bind_some H
 refine cs_ HS func52 (spec_TableOk.runs k (⟨x0.f0, x0.f1⟩ : S58) A0_0 c0_0 A0_1 c0_1 (⟨x1.f0, x1.f1⟩ : S67) A1_0 c1_0 t12 _ (HS.getO 0 rfl) hc0_0 (HS.getO 1 rfl) hc0_1 (HS.getO 2 rfl) hc1_0 ha13) (fun w14 HS => ?_)
 clear ha13
 refine nt_ ?_
 refine dn_ hK11 ?_
 rcases eti_ H with ⟨c15, H⟩ | ⟨c15, H⟩
 · refine wy_ (nB (bF c15)) (sr_ fun _ hK96 => ?_)
   refine v_ (Run.build (cells := #[sn, sn]) rfl [] trivial (by kernel_rfl)) ?_
   refine v_ (Run.build (cells := #[sn, vi 0]) rfl [] trivial (by kernel_rfl)) ?_
   refine WL.storeW HS 1 rfl rfl rfl rfl rfl rfl (oneL rfl) (by kernel_rfl) rfl (fun w97 HS => ?_)
   dsimp only [List.set] at HS
   refine WL.storeW HS 0 rfl rfl rfl rfl rfl rfl (oneL rfl) (by kernel_rfl) rfl (fun w98 HS => ?_)
   dsimp only [List.set] at HS
   refine ad_ hK96 ?_
   obtain ⟨rfl, rfl, rfl⟩ := (by have h_ := os H; simp only [Prod.mk.injEq] at h_; exact h_)
   exact rt3 Try.f71 rfl ⟨_, rfl, resv_box (HS.mu 1 rfl) underlying58 rfl (by kernel_rfl)⟩ ⟨_, rfl, resv_box (HS.mu 0 rfl) underlying67 rfl (by kernel_rfl)⟩ rfl hR_ ⟨_, _, _, _, _, _, rfl, (Nat.le_refl _), (fun W_ _ => Kd.C_nil _ _), (Nat.le_refl _), (fun W_ _ => Kd.C_nil _ _), (Nat.le_refl _), (fun W_ _ => Kd.C_nil _ _), HS.b⟩
 refine wn_ (nB c15) (WC.skip (via_ hK10 (sr_ fun _ hK16 => ?_)))
 refine v_ (ls_ (HS.mu 3 rfl) underlying58 part_all) ?_
 obtain ⟨t17, ha18, H⟩ := bind_some H
 refine c_ func111 (spec_l15Copy.runs k (⟨x0.f0, x0.f1⟩ : S58) A0_0 c0_0 A0_1 c0_1 t17 _ (HS.getO 0 rfl) hc0_0 (HS.getO 1 rfl) hc0_1 ha18) ?_
 clear ha18
 rintro _ w19 ⟨v20, bl21, v22, bl23, rfl, hO_, hb⟩
 replace HS := HS.got hb hO_
 dsimp only [List.cons_append, List.nil_append] at HS
 clear hO_
 obtain ⟨I24, bl25, HS⟩ := HS.unseal (sz := 1) rfl
 replace HS := HS.freezeN 1 (p := (rF kI t17.f0 I24)) rfl (fun _ hP_ _ => RepsB.reps hP_)
 dsimp only [List.eraseIdx] at HS
 replace HS := HS.front 1 rfl
 dsimp only [List.eraseIdx] at HS
 obtain ⟨I26, bl27, HS⟩ := HS.unseal (sz := 1) rfl
 replace HS := HS.freezeN 1 (p := (rF kS62 t17.f1 I26)) rfl (fun _ hP_ _ => RepsB.reps hP_)
 dsimp only [List.eraseIdx] at HS
 refine ⟨_, rfl, ?_⟩
 clear hb
 refine WL.alloc HS (v := .agg #[sn, sn]) (cs := #[sn, sn]) rfl rfl (by decide) rfl (by kernel_rfl) rfl (fun b28 w29 hb28 HS => ?_)
 obtain ⟨A31, c32, rfl⟩ := row_slice (HS.mu 2 rfl)
 obtain ⟨A33, c34, rfl⟩ := row_slice (HS.mu 1 rfl)
 refine WL.storeW HS 0 rfl rfl rfl rfl rfl rfl (oneL rfl) (by kernel_rfl) rfl (fun w30 HS => ?_)
 dsimp only [List.set] at HS
 refine dn_ hK16 (WC.seq fun K35 hK35 => ?_)
 refine sr_ fun _ hK36 => ?_
 refine ad_ hK36 ?_
 refine WC.block ?_
 obtain ⟨G37, hG38, oc39, H, Ho40⟩ := open_G H
 let J45 := fun (i41 : Int) (xs42 : List Int) v43 I44 (E_ : Env) (W_ : World) => E_ = [(3, .pointer (some ⟨b4, 0, none⟩)), (4, .pointer (some ⟨b6, 0, none⟩)), (5, .pointer (some ⟨b8, 0, none⟩)), (7, .pointer (some ⟨b28, 0, none⟩)), (8, vi i41)] ∧ St (fun _ => True) w W_ [boxM b28 #[v43, (.slice A33 t17.f1.length c34)] 58, rowM w.heap.size 71 1 (.slice A33 t17.f1.length c34) t17.f1.length I26, rowM w.heap.size 3 1 v43 xs42.length I44, boxM b8 #[sn, vi 0] 67, boxM b6 #[sn, sn] 58, boxM b4 #[.slice A1_0 x1.f0.length c1_0, vi x1.f1] 67, boxM b2 #[.slice A0_0 x0.f0.length c0_0, .slice A0_1 x0.f1.length c0_1] 58] [(cF kI A0_0 x0.f0), (cF kS62 A0_1 x0.f1), (cF kI A1_0 x1.f0)] [(rF kS62 t17.f1 I26), (rF kI xs42 I44)]
 have X46 : ∀ E_ W_, (∃ i41 xs42 v43 I44, G37 (Sum.inr (i41, xs42)) = some (r1, r2, r3) ∧ J45 i41 xs42 v43 I44 E_ W_) → ∀ a, Fits a 46 E_ → K35 a W_ := by
   rintro E_ w47 ⟨i41, xs42, v43, I44, H, rfl, HS⟩
   rw [hG38] at H
   (try dsimp only at H)
   refine hK35 _ _ ?_
   refine WC.seq fun _ hK48 => ?_
   refine WC.drawW HS [boxM b28 #[v43, (.slice A33 t17.f1.length c34)] 58, boxM b4 #[.slice A1_0 x1.f0.length c1_0, vi x1.f1] 67, boxM b2 #[.slice A0_0 x0.f0.length c0_0, .slice A0_1 x0.f1.length c0_1] 58] (fun _ HS => ⟨(HS.mu 0 rfl), (HS.mu 5 rfl), (HS.mu 6 rfl), trivial⟩) [] rfl rfl (fun w49 HS => ?_)
   obtain ⟨A50, c51, rfl⟩ := row_slice (HS.mu 2 rfl)
   refine dt_ 0 ⟨HS.nowO, HS.nowN, ⟨(HS.mu 0 rfl), (HS.mu 5 rfl), (HS.mu 6 rfl), trivial⟩⟩ (fun w_ hw_ => Run.loadS (cs := [(.slice A50 xs42.length c51), (.slice A33 t17.f1.length c34)]) rfl rfl underlying58 rfl (by kernel_rfl) (box_part hw_.2.2.1 part_all)) ?_
   refine dt_ 1 ⟨HS.nowO, HS.nowN, ⟨(HS.mu 0 rfl), (HS.mu 5 rfl), (HS.mu 6 rfl), trivial⟩⟩ (fun w_ hw_ => Run.loadS (cs := [.slice A1_0 x1.f0.length c1_0, vi x1.f1]) rfl rfl underlying67 rfl (by kernel_rfl) (box_part hw_.2.2.2.1 part_all)) ?_
   obtain ⟨t52, ha53, H⟩ := bind_some H
   refine dc_ 2 (w_none rfl) func112 (spec_l15CopyTable.runs k (⟨x1.f0, x1.f1⟩ : S67) A1_0 c1_0 t52 _ (HS.getO 2 rfl) hc1_0 ha53) ?_
   clear ha53
   rintro _ w54 ⟨v55, bl56, rfl, hO_, hb⟩
   replace HS := HS.got hb hO_
   dsimp only [List.cons_append, List.nil_append] at HS
   clear hO_
   obtain ⟨I57, bl58, HS⟩ := HS.unseal (sz := 1) rfl
   replace HS := HS.freezeN 1 (p := (rF kI t52.f0 I57)) rfl (fun _ hP_ _ => RepsB.reps hP_)
   dsimp only [List.eraseIdx] at HS
   refine ⟨⟨HS.nowO, HS.nowN.2, ⟨(HS.mu 1 rfl), (HS.mu 6 rfl), (HS.mu 7 rfl), trivial⟩⟩, _, rfl, ?_⟩
   clear hb
   refine WD.storeS 3 HS 5 rfl rfl rfl rfl (oneL rfl) (by kernel_rfl) (ble_ rfl) (cs' := #[(.slice A50 xs42.length c51), (.slice A33 t17.f1.length c34)]) (by kernel_rfl) (fun w59 HS => ?_)
   dsimp only [List.set] at HS
   refine ⟨⟨HS.nowO, HS.nowN.2, ⟨(HS.mu 1 rfl), (HS.mu 6 rfl), (HS.mu 7 rfl), trivial⟩⟩, ?_⟩
   obtain ⟨A61, c62, rfl⟩ := row_slice (HS.mu 0 rfl)
   refine WD.storeS 4 HS 4 rfl rfl rfl rfl (oneL rfl) (by kernel_rfl) (ble_ rfl) (cs' := #[(.slice A61 t52.f0.length c62), vi t52.f1]) (by kernel_rfl) (fun w60 HS => ?_)
   dsimp only [List.set] at HS
   refine ⟨⟨HS.nowO, HS.nowN.2, ⟨(HS.mu 1 rfl), (HS.mu 6 rfl), (HS.mu 7 rfl), trivial⟩⟩, ?_⟩
   refine dp_ 5 (fun _ => Run.assign rfl rfl) ?_
   refine dd_ (via_ hK48 (WC.ret ?_))
   have le63 := row_le (HS.mu 3 rfl)
   replace HS := HS.freezeN 3 (p := (cF kI A50 (xs42))) rfl (fun W_ hm_ h_ => row_C (by rfl) hm_ h_.2.2.1)
   dsimp only [List.eraseIdx] at HS
   have le64 := row_le (HS.mu 2 rfl)
   replace HS := HS.freezeN 2 (p := (cF kS62 A33 (t17.f1))) rfl (fun W_ hm_ h_ => row_C (by rfl) hm_ h_.2.2.1)
   dsimp only [List.eraseIdx] at HS
   have le65 := row_le (HS.mu 0 rfl)
   replace HS := HS.freezeN 0 (p := (cF kI A61 (t52.f0))) rfl (fun W_ hm_ h_ => row_C (by rfl) hm_ h_.2.2.1)
   dsimp only [List.eraseIdx] at HS
   obtain ⟨rfl, rfl, rfl⟩ := (by have h_ := os H; simp only [Prod.mk.injEq] at h_; exact h_)
   exact fin3 Try.f71 rfl ⟨_, rfl, resv_box (HS.mu 2 rfl) underlying58 rfl (by kernel_rfl)⟩ ⟨_, rfl, resv_box (HS.mu 1 rfl) underlying67 rfl (by kernel_rfl)⟩ rfl hR_ ⟨_, _, _, _, _, _, rfl, le63, (foot_fresh (HS.footN 2 rfl)), le64, (foot_fresh (HS.footN 1 rfl)), le65, (foot_fresh (HS.footN 0 rfl)), HS.b⟩
 clear hK35
 refine WC.loop (fun k_ E_ W_ => ∃ i41 xs42 v43 I44, (∃ o_, spec_ForkTable.l0 x1 k_ i41 xs42 = some o_ ∧ G37 o_ = some (r1, r2, r3)) ∧ J45 i41 xs42 v43 I44 E_ W_) k ⟨0, t17.f0, (.slice A31 t17.f0.length c32), I24, ⟨_, H, Ho40⟩, rfl, HS⟩ (sb rfl) ?_
 rintro k_ E_ w67 ⟨i41, xs42, v43, I44, ⟨oc39, H, Ho40⟩, rfl, HS⟩
 rcases k_ with _ | k68
 · exact no_ H
 replace H : spec_ForkTable.b0 x1 (spec_ForkTable.l0 x1 k68) k68 i41 xs42 = some oc39 := H
 unfold spec_ForkTable.b0 at H
 refine WC.seq fun _ hK69 => ?_
 refine sr_ fun _ hK70 => ?_
 refine mv_ ?_
 refine v_ (fa_ underlying67) ?_
 refine v_ (lb_ (HS.mu 5 rfl) underlying22 rfl) ?_
 refine ln_ underlying22 ?_
 refine b_ bin_lss ?_
 refine dn_ hK70 ?_
 rcases eti_ H with ⟨c71, H⟩ | ⟨c71, H⟩
 · refine wn_ (dF c71) (WC.exit ?_)
   obtain rfl := os H
   exact wv_ iq X46 ⟨i41, xs42, v43, I44, Ho40, rfl, HS⟩
 refine wy_ (dT c71) (WC.skip (via_ hK69 (WC.seq fun _ hK72 => ?_)))
 refine WC.block (WC.seq fun _ hK73 => ?_)
 refine WC.drawS HS [] rfl rfl (fun w74 HS => ?_)
 have HB := Below.refl w74.heap.size w74
 have HSW := HS
 refine df_ 0 underlying58 ?_
 refine df_ 2 underlying67 ?_
 refine dm_ 4 ?_
 obtain ⟨A75, c76, rfl⟩ := row_slice (HS.mu 2 rfl)
 refine bl_ 1 HS (Below.refl _ _) 0 underlying22 rfl ?_
 refine bl_ 3 HS (Below.refl _ _) 5 underlying22 rfl ?_
 obtain ⟨⟨q77, q78⟩, H⟩ := if_some H
 obtain ⟨ad79, rfl⟩ := C_open (HS.getO 2 rfl) (lenpos q77 q78)
 refine di_ 5 underlying22 1 q77 q78 ?_
 refine dt_ 6 (Below.refl _ _) (fun w_ hw_ => Run.load rfl rfl underlying3 rfl (int_cell ((HS.below hw_).getO 2 rfl) i41 q77 q78)) ?_
 obtain ⟨t80, ha81, H⟩ := bind_some H
 refine dc_ 7 (w_none rfl) func132 (spec_SharePage.runs k68 A75 c76 xs42 (x1.f0.getD i41.toNat 0) t80.1 t80.2 _ (row_C rfl (HS.mu 2 rfl) (HS.getN 1 rfl)) (row_le (HS.mu 2 rfl)) ha81) ?_
 clear ha81
 rintro _ w82 ⟨v83, bl84, rfl, hO_, hb⟩
 replace HB := HB.trans (hb.mono HB.size)
 replace HS := HS.got hb hO_
 dsimp only [List.cons_append, List.nil_append] at HS
 clear hO_
 obtain ⟨I85, bl86, HS⟩ := HS.unseal (sz := 1) rfl
 replace HS := HS.freezeN 1 (p := (rF kI t80.1 I85)) rfl (fun _ hP_ _ => RepsB.reps hP_)
 dsimp only [List.eraseIdx] at HS
 refine ⟨HB, _, rfl, ?_⟩
 clear hb
 refine dm_ 8 ?_
 refine dp_ 9 (fun _ => Run.extract rfl rfl rfl) ?_
 refine dp_ 10 (fun _ => Run.extract rfl rfl rfl) ?_
 refine dp_ 11 (fun _ => Run.assign rfl rfl) ?_
 refine dp_ 12 (fun _ => Run.assign rfl rfl) ?_
 refine dd_ ?_
 clear HB HSW
 refine via_ hK73 (WC.seq fun _ hK87 => ?_)
 refine sr_ fun _ hK88 => ?_
 refine mv_ ?_
 refine nt_ ?_
 refine dn_ hK88 ?_
 rcases ite_ H with ⟨c89, H⟩ | ⟨c89, H⟩
 · refine wn_ (nB c89) (WC.skip (via_ hK87 (rg_ (mv_ ?_))))
   refine v_ (fa_ underlying58) ?_
   obtain ⟨A91, c92, rfl⟩ := row_slice (HS.mu 0 rfl)
   refine WL.store HS 1 rfl rfl rfl rfl rfl rfl rfl (by kernel_rfl) (ble_ rfl) (cs' := #[(.slice A91 t80.1.length c92), (.slice A33 t17.f1.length c34)]) (by kernel_rfl) (fun w90 HS => ?_)
   dsimp only [List.set] at HS
   refine dn_ hK72 (rg_ (mv_ ?_))
   refine b_ bin_add64 ?_
   refine as_ ?_
   refine WL.done ?_
   exact wr_ k68 iq ⟨(wrap64 (i41 + 1)), t80.1, (.slice A91 t80.1.length c92), I85, ⟨_, H, Ho40⟩, rfl, (St.pk (St.front (St.front (St.front (St.front (St.front (St.front (St.front (St.forget HS 3 rfl) 6 rfl) 6 rfl) 6 rfl) 6 rfl) 4 rfl) 6 rfl) 6 rfl) [0, 1, 2] [1, 0] rfl rfl)⟩
 refine wy_ (nB (bF c89)) (sr_ fun _ hK93 => ?_)
 refine v_ (Run.build (cells := #[sn, sn]) rfl [] trivial (by kernel_rfl)) ?_
 refine v_ (Run.build (cells := #[sn, vi 0]) rfl [] trivial (by kernel_rfl)) ?_
 refine WL.storeW HS 5 rfl rfl rfl rfl rfl rfl (oneL rfl) (by kernel_rfl) rfl (fun w94 HS => ?_)
 dsimp only [List.set] at HS
 refine WL.storeW HS 4 rfl rfl rfl rfl rfl rfl (oneL rfl) (by kernel_rfl) rfl (fun w95 HS => ?_)
 dsimp only [List.set] at HS
 refine ad_ hK93 ?_
 refine WC.ret ?_
 obtain rfl := os H
 rw [hG38] at Ho40
 replace H : some _ = some _ := Ho40
 obtain ⟨rfl, rfl, rfl⟩ := (by have h_ := os H; simp only [Prod.mk.injEq] at h_; exact h_)
 exact fin3 Try.f71 rfl ⟨_, rfl, resv_box (HS.mu 5 rfl) underlying58 rfl (by kernel_rfl)⟩ ⟨_, rfl, resv_box (HS.mu 4 rfl) underlying67 rfl (by kernel_rfl)⟩ rfl hR_ ⟨_, _, _, _, _, _, rfl, (Nat.le_refl _), (fun W_ _ => Kd.C_nil _ _), (Nat.le_refl _), (fun W_ _ => Kd.C_nil _ _), (Nat.le_refl _), (fun W_ _ => Kd.C_nil _ _), HS.b⟩
def spec_DropTable.b0 (x1 : S67) (rec_ : Int → (List Int) → (List (List S62)) → Option (Int × (List Int) × (List (List S62)))) (k58 : Nat) (i39 : Int) (xs40 : List Int) (xs43 : List (List S62)) : Option (Int × (List Int) × (List (List S62))) := (if i39 < (x1.f0.length : Int) then (((if 0 ≤ i39 ∧ i39 < (x1.f0.length : Int) then ((spec_DropPage.g k58 xs40 (x1.f0.getD i39.toNat 0)).bind fun t84 => (if 0 ≤ (x1.f0.getD i39.toNat 0) ∧ (x1.f0.getD i39.toNat 0) < ((t84.1.length : Nat) : Int) then (if (t84.1.getD (x1.f0.getD i39.toNat 0).toNat 0) = 0 then (if 0 ≤ (x1.f0.getD i39.toNat 0) ∧ (x1.f0.getD i39.toNat 0) < ((xs43.length : Nat) : Int) then (some (t84.1, (xs43.set (x1.f0.getD i39.toNat 0).toNat ([] : List S62)))) else none) else (some (t84.1, xs43))) else none)) else none) : Option ((List Int) × (List (List S62)))).bind (fun oc76 => (rec_ (wrap64 (i39 + 1)) oc76.1 oc76.2))) else (some (i39, xs40, xs43)))
def spec_DropTable.l0 (x1 : S67) : Nat → Int → (List Int) → (List (List S62)) → Option (Int × (List Int) × (List (List S62)))
 | 0, _, _, _ => none
 | k + 1, i39, xs40, xs43 => spec_DropTable.b0 x1 (spec_DropTable.l0 x1 k) k i39 xs40 xs43
def spec_DropTable.g (k : Nat) (x0 : S58) (x1 : S67) : Option (S58 × Bool) := ((spec_TableOk.g k (⟨x0.f0, x0.f1⟩ : S58) (⟨x1.f0, x1.f1⟩ : S67)).bind fun t10 => (if t10 = true then ((spec_l15Copy.g k (⟨x0.f0, x0.f1⟩ : S58)).bind fun t15 => ((spec_DropTable.l0 x1 k 0 t15.f0 t15.f1).bind (fun oc56 => (some ((⟨oc56.2.1, oc56.2.2⟩ : S58), true))))) else (some ((⟨[], []⟩ : S58), false))))
theorem spec_DropTable.runs (k : Nat) (x0 : S58) (A0_0 : Option Addr) (c0_0 : Nat) (A0_1 : Option Addr) (c0_1 : Nat) (x1 : S67) (A1_0 : Option Addr) (c1_0 : Nat) (r1 : S58) (r2 : Bool) (w : World) (hr0_0 : kI.C w A0_0 x0.f0.length x0.f0) (hc0_0 : x0.f0.length ≤ c0_0) (hr0_1 : kS62.C w A0_1 x0.f1.length x0.f1) (hc0_1 : x0.f1.length ≤ c0_1) (hr1_0 : kI.C w A1_0 x1.f0.length x1.f0) (hc1_0 : x1.f0.length ≤ c1_0) (H : spec_DropTable.g k x0 x1 = some (r1, r2)) :
   Calls prog 69 #[.agg #[.slice A0_0 x0.f0.length c0_0, .slice A0_1 x0.f1.length c0_1], .agg #[.slice A1_0 x1.f0.length c1_0, vi x1.f1]] w fun e w' => ∃ (v0_0_ : Value) (bl0_0_ : List Nat) (v0_1_ : Value) (bl0_1_ : List Nat), e = .returned (.tuple #[.agg #[v0_0_, v0_1_], .bool r2]) ∧ Owns w' w.heap.size [valM (Dk.slice 3 (Dk.int .i64)) r1.f0 [v0_0_] bl0_0_, valM (Dk.slice 71 (Dk.slice 62 dq62)) r1.f1 [v0_1_] bl0_1_] ∧ Below w.heap.size w w' := by
 unfold spec_DropTable.g at H
 have HS : St (fun _ => True) w w [] [(cF kI A0_0 x0.f0), (cF kS62 A0_1 x0.f1), (cF kI A1_0 x1.f0)] [] := St.start (foot_cons (foot_C (Kd.heap_int _) hr0_0) (foot_cons (foot_C (Kd.heap_slice _ h62) hr0_1) (foot_cons (foot_C (Kd.heap_int _) hr1_0) foot_nil)))
 refine cw_ (n := 54) func69 fun R_ hR_ => ?_
 refine sr_ fun _ hK1 => ?_
 refine bo_ HS (fun b2 w3 hb2 HS => ?_)
 refine bo_ HS (fun b4 w5 hb4 HS => ?_)
 refine WL.alloc HS (v := .agg #[sn, sn]) (cs := #[sn, sn]) rfl rfl (by decide) rfl (by kernel_rfl) rfl (fun b6 w7 hb6 HS => ?_)
 refine ad_ hK1 ?_
 exact by (
 clear hK1
 refine WC.seq fun _ hK8 => ?_
 refine sr_ fun _ hK9 => ?_
 refine v_ (ls_ (HS.mu 2 rfl) underlying58 part_all) ?_
 refine v_ (ls_ (HS.mu 1 rfl) underlying67 part_all) ?_
 obtain ⟨t10, ha11, H⟩ := bind_some H
 refine cs_ HS func52 (spec_TableOk.runs k (⟨x0.f0, x0.f1⟩ : S58) A0_0 c0_0 A0_1 c0_1 (⟨x1.f0, x1.f1⟩ : S67) A1_0 c1_0 t10 _ (HS.getO 0 rfl) hc0_0 (HS.getO 1 rfl) hc0_1 (HS.getO 2 rfl) hc1_0 ha11) (fun w12 HS => ?_)
 clear ha11
 exact by (
 refine nt_ ?_
 refine dn_ hK9 ?_
 clear hK9
 rcases eti_ H with ⟨c13, H⟩ | ⟨c13, H⟩
 · refine wy_ (nB (bF c13)) (sr_ fun _ hK116 => ?_)
   refine v_ (Run.build (cells := #[sn, sn]) rfl [] trivial (by kernel_rfl)) ?_
   refine WL.storeW HS 0 rfl rfl rfl rfl rfl rfl (oneL rfl) (by kernel_rfl) rfl (fun w117 HS => ?_)
   dsimp only [List.set] at HS
   exact by (
   refine ad_ hK116 ?_
   clear hK116
   refine WC.ret ?_
   replace HS := HS.nilV (α := Int) 3 (Dk.int .i64)
   replace HS := HS.nilV (α := List S62) 71 (Dk.slice 62 dq62)
   obtain ⟨rfl, rfl⟩ := Prod.mk.inj (os H)
   exact fin2 Try.f69 rfl ⟨_, rfl, resv_box (HS.mu 2 rfl) underlying58 rfl (by kernel_rfl)⟩ rfl hR_ ⟨_, _, _, _, rfl, (St.owns (St.front (St.front (St.forget (St.forget (St.forget HS 4 rfl) 3 rfl) 2 rfl) 0 rfl) 1 rfl)), HS.b⟩ )
 refine wn_ (nB c13) (WC.skip (via_ hK8 (sr_ fun _ hK14 => ?_)))
 exact by (
 clear hK8
 refine v_ (ls_ (HS.mu 2 rfl) underlying58 part_all) ?_
 obtain ⟨t15, ha16, H⟩ := bind_some H
 refine c_ func111 (spec_l15Copy.runs k (⟨x0.f0, x0.f1⟩ : S58) A0_0 c0_0 A0_1 c0_1 t15 _ (HS.getO 0 rfl) hc0_0 (HS.getO 1 rfl) hc0_1 ha16) ?_
 clear ha16
 rintro _ w17 ⟨v18, bl19, v20, bl21, rfl, hO_, hb⟩
 replace HS := HS.got hb hO_
 dsimp only [List.cons_append, List.nil_append] at HS
 exact by (
 clear hO_
 obtain ⟨I22, bl23, HS⟩ := HS.unseal (sz := 1) rfl
 replace HS := HS.freezeN 1 (p := (rF kI t15.f0 I22)) rfl (fun _ hP_ _ => RepsB.reps hP_)
 dsimp only [List.eraseIdx] at HS
 replace HS := HS.front 1 rfl
 dsimp only [List.eraseIdx] at HS
 obtain ⟨I24, bl25, HS⟩ := HS.unseal (sz := 1) rfl
 refine ⟨_, rfl, ?_⟩
 exact by (
 clear hb
 refine WL.alloc HS (v := .agg #[sn, sn]) (cs := #[sn, sn]) rfl rfl (by decide) rfl (by kernel_rfl) rfl (fun b26 w27 hb26 HS => ?_)
 obtain ⟨A29, c30, rfl⟩ := row_slice (HS.mu 3 rfl)
 obtain ⟨A31, c32, rfl⟩ := row_slice (HS.mu 1 rfl)
 refine WL.storeW HS 0 rfl rfl rfl rfl rfl rfl (oneL rfl) (by kernel_rfl) rfl (fun w28 HS => ?_)
 dsimp only [List.set] at HS
 refine dn_ hK14 (WC.seq fun K33 hK33 => ?_)
 clear hK14
 exact by (
 refine sr_ fun _ hK34 => ?_
 refine ad_ hK34 ?_
 clear hK34
 refine WC.block ?_
 obtain ⟨G35, hG36, oc37, H, Ho38⟩ := open_G H
 let J47 := fun (i39 : Int) (xs40 : List Int) v41 I42 (xs43 : List (List S62)) v44 I45 bl46 (E_ : Env) (W_ : World) => E_ = [(3, .pointer (some ⟨b4, 0, none⟩)), (4, .pointer (some ⟨b6, 0, none⟩)), (6, .pointer (some ⟨b26, 0, none⟩)), (7, vi i39)] ∧ St (fun _ => True) w W_ [boxM b26 #[v41, v44] 58, rowM w.heap.size 71 1 v44 xs43.length I45, elsM (Dk.slice 62 dq62) xs43 I45 bl46, rowM w.heap.size 3 1 v41 xs40.length I42, boxM b6 #[sn, sn] 58, boxM b4 #[.slice A1_0 x1.f0.length c1_0, vi x1.f1] 67, boxM b2 #[.slice A0_0 x0.f0.length c0_0, .slice A0_1 x0.f1.length c0_1] 58] [(cF kI A0_0 x0.f0), (cF kS62 A0_1 x0.f1), (cF kI A1_0 x1.f0)] [(rF kI xs40 I42)]
 have X48 : ∀ E_ W_, (∃ i39 xs40 v41 I42 xs43 v44 I45 bl46, G35 (i39, xs40, xs43) = some (r1, r2) ∧ J47 i39 xs40 v41 I42 xs43 v44 I45 bl46 E_ W_) → ∀ a, Fits a 54 E_ → K33 a W_ := by
   rintro E_ w49 ⟨i39, xs40, v41, I42, xs43, v44, I45, bl46, H, rfl, HS⟩
   exact by (
   rw [hG36] at H
   (try dsimp only at H)
   refine hK33 _ _ ?_
   clear hK33
   refine sr_ fun _ hK50 => ?_
   obtain ⟨A51, c52, rfl⟩ := row_slice (HS.mu 3 rfl)
   obtain ⟨A53, c54, rfl⟩ := row_slice (HS.mu 1 rfl)
   refine v_ (ls_ (HS.mu 0 rfl) underlying58 part_all) ?_
   exact by (
   refine WL.storeW HS 4 rfl rfl rfl rfl rfl rfl (oneL rfl) (by kernel_rfl) rfl (fun w55 HS => ?_)
   dsimp only [List.set] at HS
   refine ad_ hK50 ?_
   clear hK50
   refine WC.ret ?_
   replace HS := HS.elsF (xs := xs40) (inner := I42) (Dk.int .i64) (fun _ _ _ h_ => ⟨h_, rfl⟩) (fun _ => (HS.getN 0 rfl))
   replace HS := HS.front 4 rfl
   dsimp only [List.eraseIdx] at HS
   exact by (
   replace HS := HS.seal rfl rfl
   replace HS := HS.front 3 rfl
   dsimp only [List.eraseIdx] at HS
   replace HS := HS.front 3 rfl
   dsimp only [List.eraseIdx] at HS
   replace HS := HS.seal rfl rfl
   obtain ⟨rfl, rfl⟩ := Prod.mk.inj (os H)
   exact fin2 Try.f69 rfl ⟨_, rfl, resv_box (HS.mu 3 rfl) underlying58 rfl (by kernel_rfl)⟩ rfl hR_ ⟨_, _, _, _, rfl, (St.owns (St.front (St.front (St.forget (St.forget (St.forget (St.forget HS 5 rfl) 4 rfl) 3 rfl) 2 rfl) 0 rfl) 1 rfl)), HS.b⟩ )))
 exact by (
 clear hK33
 refine WC.loop (fun k_ E_ W_ => ∃ i39 xs40 v41 I42 xs43 v44 I45 bl46, (∃ o_, spec_DropTable.l0 x1 k_ i39 xs40 xs43 = some o_ ∧ G35 o_ = some (r1, r2)) ∧ J47 i39 xs40 v41 I42 xs43 v44 I45 bl46 E_ W_) k ⟨0, t15.f0, (.slice A29 t15.f0.length c30), I22, t15.f1, (.slice A31 t15.f1.length c32), I24, bl25, ⟨_, H, Ho38⟩, rfl, HS⟩ (sb rfl) ?_
 rintro k_ E_ w57 ⟨i39, xs40, v41, I42, xs43, v44, I45, bl46, ⟨oc37, H, Ho38⟩, rfl, HS⟩
 rcases k_ with _ | k58
 · exact no_ H
 replace H : spec_DropTable.b0 x1 (spec_DropTable.l0 x1 k58) k58 i39 xs40 xs43 = some oc37 := H
 unfold spec_DropTable.b0 at H
 refine WC.seq fun _ hK59 => ?_
 exact by (
 refine sr_ fun _ hK60 => ?_
 refine mv_ ?_
 refine v_ (fa_ underlying67) ?_
 refine v_ (lb_ (HS.mu 5 rfl) underlying22 rfl) ?_
 refine ln_ underlying22 ?_
 refine b_ bin_lss ?_
 refine dn_ hK60 ?_
 clear hK60
 exact by (
 rcases eti_ H with ⟨c61, H⟩ | ⟨c61, H⟩
 · refine wn_ (dF c61) (WC.exit ?_)
   obtain rfl := os H
   exact wv_ iq X48 ⟨i39, xs40, v41, I42, xs43, v44, I45, bl46, Ho38, rfl, HS⟩
 refine wy_ (dT c61) (WC.skip (via_ hK59 (WC.seq fun K62 hK62 => ?_)))
 clear hK59
 obtain ⟨G63, hG64, oc65, H, Ho66⟩ := open_G H
 have X74 : ∀ E_ W_, (∃ (xs67 : List Int) (v68 : Value) (I69 : List Value) (xs70 : List (List S62)) (v71 : Value) (I72 : List Value) (bl73 : List Nat), E_ = [(3, .pointer (some ⟨b4, 0, none⟩)), (4, .pointer (some ⟨b6, 0, none⟩)), (6, .pointer (some ⟨b26, 0, none⟩)), (7, vi i39)] ∧ G63 (xs67, xs70) = some oc37 ∧ St (fun _ => True) w W_ [boxM b26 #[v68, v71] 58, rowM w.heap.size 71 1 v71 xs70.length I72, elsM (Dk.slice 62 dq62) xs70 I72 bl73, rowM w.heap.size 3 1 v68 xs67.length I69, boxM b6 #[sn, sn] 58, boxM b4 #[.slice A1_0 x1.f0.length c1_0, vi x1.f1] 67, boxM b2 #[.slice A0_0 x0.f0.length c0_0, .slice A0_1 x0.f1.length c0_1] 58] [(cF kI A0_0 x0.f0), (cF kS62 A0_1 x0.f1), (cF kI A1_0 x1.f0)] [(rF kI xs67 I69)]) → ∀ a, Fits a 54 E_ → K62 a W_ := by
   exact by (
   rintro E_ w75 ⟨xs67, v68, I69, xs70, v71, I72, bl73, rfl, H, HS⟩
   rw [hG64] at H
   (try dsimp only at H)
   refine hK62 _ _ ?_
   clear hK62
   refine rg_ (mv_ ?_)
   refine b_ bin_add64 ?_
   refine as_ ?_
   exact by (
   refine WL.done ?_
   exact wr_ k58 iq ⟨(wrap64 (i39 + 1)), xs67, v68, I69, xs70, v71, I72, bl73, ⟨_, H, Ho38⟩, rfl, HS⟩ ))
 clear hK62
 refine WC.block (WC.seq fun _ hK77 => ?_)
 refine WC.drawW HS [boxM b26 #[v41, v44] 58, rowM w.heap.size 71 1 v44 xs43.length I45, rowM w.heap.size 3 1 v41 xs40.length I42, boxM b6 #[sn, sn] 58, boxM b4 #[.slice A1_0 x1.f0.length c1_0, vi x1.f1] 67, boxM b2 #[.slice A0_0 x0.f0.length c0_0, .slice A0_1 x0.f1.length c0_1] 58] (fun _ HS => ⟨(HS.mu 0 rfl), (HS.mu 1 rfl), (HS.mu 3 rfl), (HS.mu 4 rfl), (HS.mu 5 rfl), (HS.mu 6 rfl), trivial⟩) [12] rfl rfl (fun w78 HS => ?_)
 refine df_ 0 underlying58 ?_
 refine df_ 2 underlying67 ?_
 refine dm_ 4 ?_
 exact by (
 obtain ⟨A79, c80, rfl⟩ := row_slice (HS.mu 3 rfl)
 refine dt_ 1 ⟨HS.nowO, HS.nowN, ⟨(HS.mu 0 rfl), (HS.mu 1 rfl), (HS.mu 3 rfl), (HS.mu 4 rfl), (HS.mu 5 rfl), (HS.mu 6 rfl), trivial⟩⟩ (fun w_ hw_ => Run.load rfl rfl underlying22 rfl (box_cell hw_.2.2.1 rfl)) ?_
 refine dt_ 3 ⟨HS.nowO, HS.nowN, ⟨(HS.mu 0 rfl), (HS.mu 1 rfl), (HS.mu 3 rfl), (HS.mu 4 rfl), (HS.mu 5 rfl), (HS.mu 6 rfl), trivial⟩⟩ (fun w_ hw_ => Run.load rfl rfl underlying22 rfl (box_cell hw_.2.2.2.2.2.2.1 rfl)) ?_
 obtain ⟨⟨q81, q82⟩, H⟩ := if_some H
 obtain ⟨ad83, rfl⟩ := C_open (HS.getO 2 rfl) (lenpos q81 q82)
 refine di_ 5 underlying22 1 q81 q82 ?_
 refine dt_ 6 ⟨HS.nowO, HS.nowN, ⟨(HS.mu 0 rfl), (HS.mu 1 rfl), (HS.mu 3 rfl), (HS.mu 4 rfl), (HS.mu 5 rfl), (HS.mu 6 rfl), trivial⟩⟩ (fun w_ hw_ => Run.load rfl rfl underlying3 rfl (int_cell (AllF.get 2 rfl hw_.1) i39 q81 q82)) ?_
 obtain ⟨t84, ha85, H⟩ := bind_some H
 exact by (
 refine dc_ 7 (w_none rfl) func116 (spec_DropPage.runs k58 A79 c80 xs40 (x1.f0.getD i39.toNat 0) t84.1 t84.2 _ (row_C rfl (HS.mu 3 rfl) (HS.getN 0 rfl)) (row_le (HS.mu 3 rfl)) ha85) ?_
 clear ha85
 rintro _ w86 ⟨v87, bl88, rfl, hO_, hb⟩
 replace HS := HS.got hb hO_
 dsimp only [List.cons_append, List.nil_append] at HS
 clear hO_
 obtain ⟨I89, bl90, HS⟩ := HS.unseal (sz := 1) rfl
 replace HS := HS.freezeN 1 (p := (rF kI t84.1 I89)) rfl (fun _ hP_ _ => RepsB.reps hP_)
 exact by (
 dsimp only [List.eraseIdx] at HS
 refine ⟨⟨HS.nowO, HS.nowN.2, ⟨(HS.mu 1 rfl), (HS.mu 2 rfl), (HS.mu 4 rfl), (HS.mu 5 rfl), (HS.mu 6 rfl), (HS.mu 7 rfl), trivial⟩⟩, _, rfl, ?_⟩
 clear hb
 refine dm_ 8 ?_
 refine dp_ 9 (fun _ => Run.extract rfl rfl rfl) ?_
 refine dp_ 10 (fun _ => Run.extract rfl rfl rfl) ?_
 refine df_ 11 underlying58 ?_
 obtain ⟨A92, c93, rfl⟩ := row_slice (HS.mu 0 rfl)
 exact by (
 refine WD.storeL 12 HS 1 rfl rfl rfl rfl rfl (by kernel_rfl) (ble_ rfl) (cs' := #[(.slice A92 t84.1.length c93), v44]) (by kernel_rfl) (fun w91 HS => ?_)
 dsimp only [List.set] at HS
 refine dd_ (via_ hK77 (WC.seq fun _ hK94 => ?_))
 clear hK77
 refine WC.drawS HS [] rfl rfl (fun w95 HS => ?_)
 have HB := Below.refl w95.heap.size w95
 have HSW := HS
 refine df_ 0 underlying58 ?_
 exact by (
 refine df_ 2 underlying67 ?_
 refine dm_ 4 ?_
 refine bl_ 1 HS (Below.refl _ _) 1 underlying22 rfl ?_
 refine bl_ 3 HS (Below.refl _ _) 6 underlying22 rfl ?_
 refine di_ 5 underlying22 1 q81 q82 ?_
 refine dt_ 6 (Below.refl _ _) (fun w_ hw_ => Run.load rfl rfl underlying3 rfl (int_cell ((HS.below hw_).getO 2 rfl) i39 q81 q82)) ?_
 obtain ⟨⟨q96, q97⟩, H⟩ := if_some H
 obtain ⟨ad98, rfl⟩ := row_open (HS.mu 0 rfl) (lenpos q96 q97)
 exact by (
 refine di_ 7 underlying22 1 q96 q97 ?_
 refine dt_ 8 (Below.refl _ _) (fun w_ hw_ => Run.load rfl rfl underlying3 rfl (row_int ((HS.below hw_).mu 0 rfl) ((HS.below hw_).getN 0 rfl) q96 q97)) ?_
 refine dp_ 9 (fun _ => Run.bin rfl rfl rfl bin_eql) ?_
 refine dd_ ?_
 clear HB HSW
 refine via_ hK94 ?_
 clear hK94
 rcases eti_ H with ⟨c99, H⟩ | ⟨c99, H⟩
 · refine wn_ (eF c99) (WC.skip ?_)
   obtain rfl := os H
   exact wv_ iq X74 ⟨t84.1, (.slice (some ad98) t84.1.length c93), I89, xs43, v44, I45, bl46, rfl, Ho66, (St.pk (St.front (St.front (St.front (St.front (St.front (St.front (St.front (St.forget HS 4 rfl) 6 rfl) 6 rfl) 6 rfl) 3 rfl) 6 rfl) 6 rfl) 6 rfl) [0, 1, 2] [0] rfl rfl)⟩
 exact by (
 refine wy_ (eT c99) (WC.drawW HS [rowM w.heap.size 3 1 (.slice (some ad98) t84.1.length c93) t84.1.length I89, boxM b26 #[(.slice (some ad98) t84.1.length c93), v44] 58, rowM w.heap.size 71 1 v44 xs43.length I45, rowM w.heap.size 3 1 (.slice A79 xs40.length c80) xs40.length I42, boxM b6 #[sn, sn] 58, boxM b4 #[.slice (some ad83) x1.f0.length c1_0, vi x1.f1] 67, boxM b2 #[.slice A0_0 x0.f0.length c0_0, .slice A0_1 x0.f1.length c0_1] 58] (fun _ HS => ⟨(HS.mu 0 rfl), (HS.mu 1 rfl), (HS.mu 2 rfl), (HS.mu 4 rfl), (HS.mu 5 rfl), (HS.mu 6 rfl), (HS.mu 7 rfl), trivial⟩) [9] rfl rfl (fun w100 HS => ?_))
 refine df_ 0 underlying58 ?_
 refine df_ 2 underlying67 ?_
 refine dm_ 4 ?_
 obtain ⟨A101, c102, rfl⟩ := row_slice (HS.mu 2 rfl)
 refine dt_ 1 ⟨HS.nowO, HS.nowN, ⟨(HS.mu 0 rfl), (HS.mu 1 rfl), (HS.mu 2 rfl), (HS.mu 4 rfl), (HS.mu 5 rfl), (HS.mu 6 rfl), (HS.mu 7 rfl), trivial⟩⟩ (fun w_ hw_ => Run.load rfl rfl underlying56 rfl (box_cell hw_.2.2.2.1 rfl)) ?_
 refine dt_ 3 ⟨HS.nowO, HS.nowN, ⟨(HS.mu 0 rfl), (HS.mu 1 rfl), (HS.mu 2 rfl), (HS.mu 4 rfl), (HS.mu 5 rfl), (HS.mu 6 rfl), (HS.mu 7 rfl), trivial⟩⟩ (fun w_ hw_ => Run.load rfl rfl underlying22 rfl (box_cell hw_.2.2.2.2.2.2.2.1 rfl)) ?_
 refine di_ 5 underlying22 1 q81 q82 ?_
 exact by (
 refine dt_ 6 ⟨HS.nowO, HS.nowN, ⟨(HS.mu 0 rfl), (HS.mu 1 rfl), (HS.mu 2 rfl), (HS.mu 4 rfl), (HS.mu 5 rfl), (HS.mu 6 rfl), (HS.mu 7 rfl), trivial⟩⟩ (fun w_ hw_ => Run.load rfl rfl underlying3 rfl (int_cell (AllF.get 2 rfl hw_.1) i39 q81 q82)) ?_
 refine WD.lit0 7 (w_none rfl) HS rfl underlying71 (sz := 2) (by kernel_rfl) (fun v103 w104 HS => ?_)
 replace HS := HS.els0 (dq62)
 refine ⟨⟨HS.nowO, HS.nowN, ⟨(HS.mu 2 rfl), (HS.mu 3 rfl), (HS.mu 4 rfl), (HS.mu 6 rfl), (HS.mu 7 rfl), (HS.mu 8 rfl), (HS.mu 9 rfl), trivial⟩⟩, ?_⟩
 obtain ⟨⟨q105, q106⟩, H⟩ := if_some H
 obtain ⟨ad107, rfl⟩ := row_open (HS.mu 4 rfl) (lenpos q105 q106)
 refine di_ 8 underlying56 1 q105 q106 ?_
 obtain ⟨A111, c112, rfl⟩ := row_slice (HS.mu 1 rfl)
 exact by (
 have hk_ := mul_room q105 q106 1
 refine WD.putElL 9 HS 4 rfl rfl rfl rfl [(.slice A111 0 c112)] rfl (oneL rfl) (by kernel_rfl) (by first | omega | (rw [List.length_nil]; omega) | (simp; omega)) (fun w108 I109 hI110 HS => ?_)
 dsimp only [List.set] at HS
 clear hk_
 replace HS := HS.rowN 4 rfl (show xs43.length = (xs43.set (x1.f0.getD i39.toNat 0).toNat ([] : List S62)).length from (List.length_set ..).symm)
 dsimp only [List.set] at HS
 replace HS := HS.front 1 rfl
 dsimp only [List.eraseIdx] at HS
 exact by (
 replace HS := HS.seal rfl (by simp)
 replace HS := HS.front 4 rfl
 dsimp only [List.eraseIdx] at HS
 replace HS := HS.front 1 rfl
 dsimp only [List.eraseIdx] at HS
 obtain ⟨bl113, HS⟩ := HS.elsSet (x1.f0.getD i39.toNat 0).toNat rfl hI110 (toNat_lt q105 q106)
 generalize hv115 : (Value.slice (some ad107) xs43.length c102) = v114 at HS ⊢
 refine dd_ ?_
 obtain rfl := os H
 exact wv_ iq X74 ⟨t84.1, (.slice (some ad98) t84.1.length c93), I89, (xs43.set (x1.f0.getD i39.toNat 0).toNat ([] : List S62)), v114, I109, bl113, rfl, Ho66, (St.pk (St.front (St.front (St.front (St.front (St.front (St.front (St.front (St.forget HS 4 rfl) 6 rfl) 6 rfl) 6 rfl) 4 rfl) 4 rfl) 6 rfl) 6 rfl) [0, 1, 2] [0] rfl rfl)⟩ )))))))))))))))))))
end Go.Proofs.Ytlpginalgdbopaa.PFnBlocks
