/- Functions that the statement reaches, as Lean functions, and the proof that a call of each comes to just its answer; written by this claim's own program. No conditions. -/
import Derived.Test.YtacbkcofcbglhaaGFnExactFileBytes2
namespace Go.Proofs.Ytacbkcofcbglhaa.PFnExactFileBytes
open Go.RowKit Go.Proofs.YtacbkcofcbglhaaW.PrintWords Go.Proofs.YtacbkcofcbglhaaW.PrintLast Go.Proofs.YtacbkcofcbglhaaW.PrintMore Go.Proofs.Ytacbkcofcbglhaa.XW Go.Proofs.Ytacbkcofcbglhaa.XOp Go.Proofs.Ytacbkcofcbglhaa.XSt Go.Proofs.Ytacbkcofcbglhaa.XDraw
set_option linter.unusedVariables false
set_option linter.unusedSimpArgs false
set_option maxHeartbeats 4000000
set_option maxRecDepth 20000
def impl_PackNibbles.b0 (l0 : List Int) (rec_ : Int → (List Int) → Option (Int × (List Int))) (k37 : Nat) (i24 : Int) (xs25 : List Int) : Option (Int × (List Int)) := (if i24 < (l0.length : Int) then (if 0 ≤ i24 ∧ i24 < (l0.length : Int) then (if 0 ≤ (wrap64 (Int.tdiv i24 2)) ∧ (wrap64 (Int.tdiv i24 2)) < ((xs25.length : Nat) : Int) then (if 0 ≤ (wrap64 (4 * (Int.tmod i24 2))) then (rec_ (wrap64 (i24 + 1)) (xs25.set (wrap64 (Int.tdiv i24 2)).toNat (Go.bits .or .u8 (xs25.getD (wrap64 (Int.tdiv i24 2)).toNat 0) (shl .u8 (IntKind.u8.wrap (Go.bits .and .i64 (l0.getD i24.toNat 0) 15)) (wrap64 (4 * (Int.tmod i24 2))))))) else none) else none) else none) else (some (i24, xs25)))
def impl_PackNibbles.l0 (l0 : List Int) : Nat → Int → (List Int) → Option (Int × (List Int))
  | 0, _, _ => none
  | k + 1, i24, xs25 => impl_PackNibbles.b0 l0 (impl_PackNibbles.l0 l0 k) k i24 xs25
def impl_PackNibbles.g (k : Nat) (l0 : List Int) : Option (ByteArray × Bool) := (if (l0.length : Int) > 2400 then (some ((⟨#[]⟩ : ByteArray), false)) else ((slices_ContainsFunc_int_int_155.g k l0).bind fun t6 => (if t6 = true then (some ((⟨#[]⟩ : ByteArray), false)) else (if 0 ≤ (wrap64 (Int.tdiv (wrap64 ((l0.length : Int) + 1)) 2)) ∧ (wrap64 (Int.tdiv (wrap64 ((l0.length : Int) + 1)) 2)) < 4294967296 then ((impl_PackNibbles.l0 l0 k 0 (List.replicate (wrap64 (Int.tdiv (wrap64 ((l0.length : Int) + 1)) 2)).toNat 0)).bind (fun oc35 => (some ((strOfNums oc35.2), true)))) else none))))
theorem impl_PackNibbles.runs (k : Nat) (A0 : Option Addr) (c0 : Nat) (l0 : List Int) (r1 : ByteArray) (r2 : Bool) (w : World) (hr0 : kI.C w A0 l0.length l0) (hc0 : l0.length ≤ c0) (H : impl_PackNibbles.g k l0 = some (r1, r2)) :
    Calls Try.prog 143 #[.slice A0 l0.length c0] w fun e w' => e = .returned (.tuple #[.string r1, .bool r2]) ∧ Below w.heap.size w w' := by
  unfold impl_PackNibbles.g at H
  have HS : St (fun _ => True) w w [] [(cF kI A0 l0)] [] := St.start (foot_cons (foot_C (Kd.heap_int _) hr0) foot_nil)
  refine cw_ (n := 43) Try.func143 fun R_ hR_ => ?_
  refine sr_ fun _ hK1 => ?_
  refine as_ ?_
  refine as_ ?_
  refine dn_ hK1 ?_
  refine WC.seq fun _ hK2 => ?_
  refine sr_ fun _ hK3 => ?_
  refine mv_ ?_
  refine ln_ Try.underlying25 ?_
  refine b_ bin_gtr ?_
  refine mv_ ?_
  rcases ite_ H with ⟨c4, H⟩ | ⟨c4, H⟩
  · refine off_ (c' := true) (dT c4) ?_
    refine off_ (c' := true) (dT c4) ?_
    refine v_ (Run.pickT rfl rfl (dT c4) rfl) ?_
    refine dn_ hK3 ?_
    refine wy_ rfl ?_
    refine sr_ fun _ hK5 => ?_
    refine as_ ?_
    refine as_ ?_
    refine dn_ hK5 ?_
    obtain ⟨rfl, rfl⟩ := Prod.mk.inj (os H)
    exact rt2 Try.f143 rfl rfl rfl hR_ ⟨rfl, HS.b⟩
  refine on_ (dF c4) ?_
  refine mv_ ?_
  refine on_ (dF c4) ?_
  obtain ⟨t6, ha7, H⟩ := bind_some H
  refine cs_ HS Try.func125 (slices_ContainsFunc_int_int_155.runs k A0 c0 l0 t6 _ (HS.getO 0 rfl) hc0 ha7) (fun w8 HS => ?_)
  clear ha7
  refine v_ (Run.pickF rfl rfl (dF c4) rfl) ?_
  refine dn_ hK3 ?_
  rcases ite_ H with ⟨c9, H⟩ | ⟨c9, H⟩
  · refine wy_ c9 ?_
    refine sr_ fun _ hK10 => ?_
    refine as_ ?_
    refine as_ ?_
    refine dn_ hK10 ?_
    obtain ⟨rfl, rfl⟩ := Prod.mk.inj (os H)
    exact rt2 Try.f143 rfl rfl rfl hR_ ⟨rfl, HS.b⟩
  refine wn_ (bF c9) ?_
  refine WC.skip ?_
  refine via_ hK2 ?_
  refine sr_ fun _ hK11 => ?_
  refine mv_ ?_
  refine ln_ Try.underlying25 ?_
  refine b_ bin_add64 ?_
  refine v_ (Run.bin rfl rfl rfl (bin_quo64 (show (2 : Int) ≠ 0 by decide))) ?_
  obtain ⟨⟨q12, q13⟩, H⟩ := if_some H
  refine WL.make kU HS rfl rfl (by decide) rfl rfl rfl (.int .u8 0) 1 0 Try.underlying53 (by kernel_rfl) rfl (by decide) (by decide) (fun _ => (K_int _)) q12 (by omega) (fun v14 w15 I16 hI17 HS => ?_)
  replace HS := HS.deriveO (p := (rF kU (List.replicate (wrap64 (Int.tdiv (wrap64 ((l0.length : Int) + 1)) 2)).toNat 0) I16)) (fun W_ hO_ hN_ => hI17 W_)
  refine as_ ?_
  refine dn_ hK11 ?_
  refine WC.seq fun K18 hK18 => ?_
  refine sr_ fun _ hK19 => ?_
  refine mv_ ?_
  refine ln_ Try.underlying25 ?_
  refine mv_ ?_
  refine dn_ hK19 ?_
  refine WC.block ?_
  obtain ⟨G20, hG21, oc22, H, Ho23⟩ := open_G H
  let J28 := fun (i24 : Int) (xs25 : List Int) (v26 : Value) (I27 : List Value) (E_ : Env) (W_ : World) => E_ = [(4, v26), (19, .slice A0 l0.length c0), (20, .int .i64 (l0.length : Int)), (21, .int .i64 i24)] ∧ St (fun _ => True) w W_ [rowM w.heap.size 5 1 v26 xs25.length I27] [(rF kU xs25 I27), (cF kI A0 l0)] []
  have X29 : ∀ E_ W_, (∃ i24 xs25 v26 I27, G20 (i24, xs25) = some (r1, r2) ∧ J28 i24 xs25 v26 I27 E_ W_) → ∀ a, Fits a 43 E_ → K18 a W_ := by
    rintro E_ w30 ⟨i24, xs25, v26, I27, H, rfl, HS⟩
    rw [hG21] at H
    (try dsimp only at H)
    refine hK18 _ _ ?_
    refine sr_ fun _ hK31 => ?_
    refine mv_ ?_
    obtain ⟨A32, c33, rfl⟩ := row_slice (HS.mu 0 rfl)
    have le34 := row_le (HS.mu 0 rfl)
    replace HS := HS.freezeO 0 (p := (cF kU A32 (xs25))) rfl (fun W_ hm_ h_ => row_C (by rfl) hm_ h_.1)
    dsimp only [List.eraseIdx] at HS
    refine v_ (Run.str (xs := xs25) rfl Try.underlying53 Try.underlying5 Try.underlying9 rfl (HS.getO 0 rfl)) ?_
    refine as_ ?_
    refine as_ ?_
    refine dn_ hK31 ?_
    obtain ⟨rfl, rfl⟩ := Prod.mk.inj (os H)
    exact rt2 Try.f143 rfl rfl rfl hR_ ⟨rfl, HS.b⟩
  refine WC.loop (fun k_ E_ W_ => ∃ i24 xs25 v26 I27, (∃ o_, impl_PackNibbles.l0 l0 k_ i24 xs25 = some o_ ∧ G20 o_ = some (r1, r2)) ∧ J28 i24 xs25 v26 I27 E_ W_) k ⟨0, (List.replicate (wrap64 (Int.tdiv (wrap64 ((l0.length : Int) + 1)) 2)).toNat 0), v14, I16, ⟨_, H, Ho23⟩, rfl, HS⟩ (sb rfl) ?_
  rintro k_ E_ w36 ⟨i24, xs25, v26, I27, ⟨oc22, H, Ho23⟩, rfl, HS⟩
  rcases k_ with _ | k37
  · exact no_ H
  replace H : impl_PackNibbles.b0 l0 (impl_PackNibbles.l0 l0 k37) k37 i24 xs25 = some oc22 := H
  unfold impl_PackNibbles.b0 at H
  refine sr_ fun _ hK38 => ?_
  refine b_ bin_lss ?_
  refine dn_ hK38 ?_
  refine WC.seq fun _ hK39 => ?_
  rcases eti_ H with ⟨c40, H⟩ | ⟨c40, H⟩
  · refine wn_ (dF c40) ?_
    refine WC.exit ?_
    obtain rfl := os H
    exact WQ.via2 (fun _ _ h_ => h_) X29 ⟨i24, xs25, v26, I27, Ho23, rfl, HS⟩ (sb rfl)
  refine wy_ (dT c40) ?_
  refine WC.skip ?_
  refine via_ hK39 ?_
  refine WC.seq fun _ hK41 => ?_
  refine WC.block ?_
  refine sr_ fun _ hK42 => ?_
  refine mv_ ?_
  obtain ⟨⟨q43, q44⟩, H⟩ := if_some H
  obtain ⟨ad45, rfl⟩ := C_open (HS.getO 1 rfl) (by omega)
  refine v_ (ia_ Try.underlying25 1 q43 q44) ?_
  refine v_ (Run.load rfl rfl Try.underlying3 rfl (int_cell (HS.getO 1 rfl) i24 q43 q44)) ?_
  refine as_ ?_
  refine as_ ?_
  refine dn_ hK42 ?_
  refine WC.drawW HS [rowM w.heap.size 5 1 v26 xs25.length I27] (fun _ HS => ⟨(HS.mu 0 rfl), trivial⟩) [14] rfl rfl (fun w46 HS => ?_)
  refine dm_ 0 ?_
  refine dm_ 1 ?_
  refine dp_ 2 (fun _ => Run.bin rfl rfl rfl (bin_quo64 (show (2 : Int) ≠ 0 by decide))) ?_
  obtain ⟨⟨q47, q48⟩, H⟩ := if_some H
  obtain ⟨A49, c50, rfl⟩ := row_slice (HS.mu 0 rfl)
  obtain ⟨ad51, rfl⟩ := row_open (HS.mu 0 rfl) (by omega)
  refine di_ 3 Try.underlying53 1 q47 q48 ?_
  refine dm_ 5 ?_
  refine dp_ 6 (fun _ => Run.bin rfl rfl rfl bin_and) ?_
  refine dp_ 7 (fun _ => Run.convI rfl Try.underlying3 Try.underlying5 rfl) ?_
  refine dm_ 8 ?_
  refine dp_ 9 (fun _ => Run.bin rfl rfl rfl (bin_rem (show (2 : Int) ≠ 0 by decide))) ?_
  refine dp_ 10 (fun _ => Run.bin rfl rfl rfl bin_mul64) ?_
  obtain ⟨q52, H⟩ := if_some H
  refine dp_ 11 (fun _ => Run.shlV rfl rfl rfl q52) ?_
  refine dt_ 4 ⟨HS.nowO, HS.nowN, ⟨(HS.mu 0 rfl), trivial⟩⟩ (fun w_ hw_ => Run.load rfl rfl Try.underlying5 rfl (row_int hw_.2.2.1 (AllF.get 0 rfl hw_.1) q47 q48)) ?_
  refine dp_ 12 (fun _ => Run.bin rfl rfl rfl bin_or) ?_
  refine di_ 13 Try.underlying53 1 q47 q48 ?_
  have hk_ := mul_room q47 q48 1
  refine WD.putElL 14 HS 0 rfl rfl rfl rfl [.int .u8 (Go.bits .or .u8 (xs25.getD (wrap64 (Int.tdiv i24 2)).toNat 0) (shl .u8 (IntKind.u8.wrap (Go.bits .and .i64 (l0.getD i24.toNat 0) 15)) (wrap64 (4 * (Int.tmod i24 2)))))] rfl (oneL rfl) (by kernel_rfl) (by first | omega | (rw [List.length_nil]; omega) | (simp; omega)) (fun w53 I54 hI55 HS => ?_)
  dsimp only [List.set] at HS
  clear hk_
  replace HS := HS.deriveO (p := (rF kU (xs25.set (wrap64 (Int.tdiv i24 2)).toNat (Go.bits .or .u8 (xs25.getD (wrap64 (Int.tdiv i24 2)).toNat 0) (shl .u8 (IntKind.u8.wrap (Go.bits .and .i64 (l0.getD i24.toNat 0) 15)) (wrap64 (4 * (Int.tmod i24 2)))))) I54)) (fun W_ hO_ hN_ => reps_set hI55 hO_.1 (K_int _) (toNat_lt q47 q48))
  replace HS := HS.rowN 0 rfl (show xs25.length = (xs25.set (wrap64 (Int.tdiv i24 2)).toNat (Go.bits .or .u8 (xs25.getD (wrap64 (Int.tdiv i24 2)).toNat 0) (shl .u8 (IntKind.u8.wrap (Go.bits .and .i64 (l0.getD i24.toNat 0) 15)) (wrap64 (4 * (Int.tmod i24 2)))))).length from (List.length_set ..).symm)
  dsimp only [List.set] at HS
  refine dd_ ?_
  refine via_ hK41 ?_
  refine rg_ ?_
  refine b_ bin_add64 ?_
  refine mv_ ?_
  refine WL.done ?_
  exact WQ.round k37 (fun _ _ h_ => h_) (Nat.lt_succ_self _) ⟨(wrap64 (i24 + 1)), (xs25.set (wrap64 (Int.tdiv i24 2)).toNat (Go.bits .or .u8 (xs25.getD (wrap64 (Int.tdiv i24 2)).toNat 0) (shl .u8 (IntKind.u8.wrap (Go.bits .and .i64 (l0.getD i24.toNat 0) 15)) (wrap64 (4 * (Int.tmod i24 2)))))), (.slice (some ad51) xs25.length c50), I54, ⟨_, H, Ho23⟩, rfl, (St.pk HS [0, 2] [] rfl rfl)⟩ (sb rfl)
def impl_writer_put.b0 (a1 : Int) (l2 : List Int) (rec_ : Int → (List Int) → Option (Int × (List Int))) (k15 : Nat) (i6 : Int) (xs7 : List Int) : Option (Int × (List Int)) := (if i6 < (l2.length : Int) then (if 0 ≤ i6 ∧ i6 < (l2.length : Int) then (if (xs7.length) < 4294967296 then (rec_ (wrap64 (i6 + 1)) (xs7 ++ [IntKind.u8.wrap (wrap64 ((l2.getD i6.toNat 0) + a1))])) else none) else none) else (some (i6, xs7)))
def impl_writer_put.l0 (a1 : Int) (l2 : List Int) : Nat → Int → (List Int) → Option (Int × (List Int))
  | 0, _, _ => none
  | k + 1, i6, xs7 => impl_writer_put.b0 a1 l2 (impl_writer_put.l0 a1 l2 k) k i6 xs7
def impl_writer_put.g (k : Nat) (x0 : S119) (a1 : Int) (l2 : List Int) : Option S119 := ((impl_writer_put.l0 a1 l2 k 0 x0.f0).bind (fun oc13 => (some (⟨oc13.2⟩ : S119))))
theorem impl_writer_put.runs (k : Nat) (b0 : Nat) (v0_0 : Value) (I0_0 : List Value) (x0 : S119) (a1 : Int) (A2 : Option Addr) (c2 : Nat) (l2 : List Int) (y_ : S119) {ok0_ : Nat → Prop} {w0_ w : World} {ms_ : List Mu} {fo_ fn_ : List Fact} (hc2 : l2.length ≤ c2) (HS : St ok0_ w0_ w (boxM b0 #[v0_0] 119 :: rowX w0_.heap.size 5 1 v0_0 x0.f0.length I0_0 :: ms_) ((cF kI A2 l2) :: fo_) ((rF kU x0.f0 I0_0) :: fn_)) (H : impl_writer_put.g k x0 a1 l2 = some y_) :
    Calls Try.prog 101 #[.pointer (some ⟨b0, 0, none⟩), .int .i64 a1, .slice A2 l2.length c2] w fun e w' => ∃ (v0_ : Value) (I0_ : List Value), e = .returned (.tuple #[]) ∧ St ok0_ w0_ w' (boxM b0 #[v0_] 119 :: rowX w0_.heap.size 5 1 v0_ y_.f0.length I0_ :: ms_) fo_ ((rF kU y_.f0 I0_) :: fn_) := by
  unfold impl_writer_put.g at H
  refine cw_ (n := 28) Try.func101 fun R_ hR_ => ?_
  refine WC.endK (fun KE hKE => ?_)
  refine sr_ fun _ hK1 => ?_
  refine mv_ ?_
  refine ln_ Try.underlying25 ?_
  refine mv_ ?_
  refine dn_ hK1 ?_
  refine WC.block ?_
  obtain ⟨G2, hG3, oc4, H, Ho5⟩ := open_G H
  let J10 := fun (i6 : Int) (xs7 : List Int) (v8 : Value) (I9 : List Value) (E_ : Env) (W_ : World) => E_ = [(0, .pointer (some ⟨b0, 0, none⟩)), (1, .int .i64 a1), (8, .slice A2 l2.length c2), (9, .int .i64 (l2.length : Int)), (10, .int .i64 i6)] ∧ St ok0_ w0_ W_ (boxM b0 #[v8] 119 :: rowX w0_.heap.size 5 1 v8 xs7.length I9 :: ms_) ((cF kI A2 l2) :: fo_) ((rF kU xs7 I9) :: fn_)
  have X11 : ∀ E_ W_, (∃ i6 xs7 v8 I9, G2 (i6, xs7) = some y_ ∧ J10 i6 xs7 v8 I9 E_ W_) → ∀ a, Fits a 28 E_ → KE a W_ := by
    rintro E_ w12 ⟨i6, xs7, v8, I9, H, rfl, HS⟩
    rw [hG3] at H
    (try dsimp only at H)
    refine hKE _ _ ?_
    obtain rfl := os H
    exact fin0 Try.f101 hR_ ⟨_, _, rfl, St.pick HS (fun W_ h_ => h_.2) (fun W_ h_ => ⟨h_.1, h_.2⟩)⟩ (Or.inr rfl)
  clear hKE
  refine WC.loop (fun k_ E_ W_ => ∃ i6 xs7 v8 I9, (∃ o_, impl_writer_put.l0 a1 l2 k_ i6 xs7 = some o_ ∧ G2 o_ = some y_) ∧ J10 i6 xs7 v8 I9 E_ W_) k ⟨0, x0.f0, v0_0, I0_0, ⟨_, H, Ho5⟩, rfl, (St.pick HS (fun W_ h_ => ⟨h_.1, h_.2⟩) (fun W_ h_ => ⟨h_.1, h_.2⟩))⟩ (sb rfl) ?_
  rintro k_ E_ w14 ⟨i6, xs7, v8, I9, ⟨oc4, H, Ho5⟩, rfl, HS⟩
  rcases k_ with _ | k15
  · exact no_ H
  replace H : impl_writer_put.b0 a1 l2 (impl_writer_put.l0 a1 l2 k15) k15 i6 xs7 = some oc4 := H
  unfold impl_writer_put.b0 at H
  refine sr_ fun _ hK16 => ?_
  refine b_ bin_lss ?_
  refine dn_ hK16 ?_
  refine WC.seq fun _ hK17 => ?_
  rcases eti_ H with ⟨c18, H⟩ | ⟨c18, H⟩
  · refine wn_ (dF c18) ?_
    refine WC.exit ?_
    obtain rfl := os H
    exact WQ.via2 (fun _ _ h_ => h_) X11 ⟨i6, xs7, v8, I9, Ho5, rfl, (St.pick HS (fun W_ h_ => ⟨h_.1, h_.2⟩) (fun W_ h_ => ⟨h_.1, h_.2⟩))⟩ (sb rfl)
  refine wy_ (dT c18) ?_
  refine WC.skip ?_
  refine via_ hK17 ?_
  refine WC.seq fun _ hK19 => ?_
  refine WC.block ?_
  refine sr_ fun _ hK20 => ?_
  obtain ⟨⟨q21, q22⟩, H⟩ := if_some H
  obtain ⟨ad23, rfl⟩ := C_open (HS.getO 0 rfl) (by omega)
  refine v_ (ia_ Try.underlying25 1 q21 q22) ?_
  refine v_ (Run.load rfl rfl Try.underlying3 rfl (int_cell (HS.getO 0 rfl) i6 q21 q22)) ?_
  refine as_ ?_
  refine dn_ hK20 ?_
  refine rg_ ?_
  refine mv_ ?_
  refine mv_ ?_
  refine v_ (Run.nilCheck rfl rfl) ?_
  refine v_ (fa_ Try.underlying119) ?_
  obtain ⟨A24, c25, rfl⟩ := rowX_slice (HS.mu 1 rfl)
  refine v_ (lb_ (HS.mu 0 rfl) Try.underlying53 rfl) ?_
  refine mv_ ?_
  refine mv_ ?_
  refine b_ bin_add64 ?_
  refine v_ (Run.convI rfl Try.underlying3 Try.underlying5 rfl) ?_
  refine WL.val rfl rfl (by decide) (Run.lit1 (z := (.int .u8 0)) (vs := [.int .u8 (IntKind.u8.wrap (wrap64 ((l2.getD i6.toNat 0) + a1)))]) rfl rfl rfl Try.underlying53 (by kernel_rfl) (Nat.le_of_ble_eq_true rfl) (Nat.le_of_ble_eq_true rfl)) ?_
  have HS1 := HS.below (below_alloc (Below.refl _ _) (.cells #[.int .u8 (IntKind.u8.wrap (wrap64 ((l2.getD i6.toNat 0) + a1)))] 5))
  obtain ⟨q26, H⟩ := if_some H
  refine WL.appendX HS1 1 rfl rfl rfl (by decide) rfl (.int .u8 0) 1 Try.underlying53 (by kernel_rfl) rfl (by decide) (by decide) rfl rfl [.int .u8 (IntKind.u8.wrap (wrap64 ((l2.getD i6.toNat 0) + a1)))] rfl (fun _ => ⟨_, rfl, lit_news _ _ _⟩) (oneL rfl) (by omega) ((xs7 ++ [IntKind.u8.wrap (wrap64 ((l2.getD i6.toNat 0) + a1))]).length) (by simp) (fun v27 w28 I29 hI30 HS => ?_)
  dsimp only [List.set] at HS
  replace HS := HS.deriveN (p := (rF kU (xs7 ++ [IntKind.u8.wrap (wrap64 ((l2.getD i6.toNat 0) + a1))]) I29)) (fun W_ hN_ => reps_snoc hI30 hN_.1 (K_int _))
  clear HS1
  refine v_ (Run.nilCheck rfl rfl) ?_
  refine v_ (fa_ Try.underlying119) ?_
  obtain ⟨A32, c33, rfl⟩ := rowX_slice (HS.mu 1 rfl)
  refine WL.store HS 0 rfl rfl rfl rfl rfl rfl rfl (by kernel_rfl) (Nat.le_of_ble_eq_true rfl) (cs' := #[(.slice A32 ((xs7 ++ [IntKind.u8.wrap (wrap64 ((l2.getD i6.toNat 0) + a1))]).length) c33)]) (by kernel_rfl) (fun w31 HS => ?_)
  dsimp only [List.set] at HS
  refine dn_ hK19 ?_
  refine rg_ ?_
  refine b_ bin_add64 ?_
  refine mv_ ?_
  refine WL.done ?_
  exact WQ.round k15 (fun _ _ h_ => h_) (Nat.lt_succ_self _) ⟨(wrap64 (i6 + 1)), (xs7 ++ [IntKind.u8.wrap (wrap64 ((l2.getD i6.toNat 0) + a1))]), (.slice A32 ((xs7 ++ [IntKind.u8.wrap (wrap64 ((l2.getD i6.toNat 0) + a1))]).length) c33), I29, ⟨_, H, Ho5⟩, rfl, (St.pick HS (fun W_ h_ => ⟨h_.1, h_.2⟩) (fun W_ h_ => ⟨h_.1, h_.2.2⟩))⟩ (sb rfl)
def impl_writer_wide.b0 (a1 : Int) (rec_ : Int → (List Int) → Option (Int × (List Int))) (k15 : Nat) (i6 : Int) (xs7 : List Int) : Option (Int × (List Int)) := (if i6 ≥ 0 then (if 0 ≤ (wrap64 (8 * i6)) then (if (xs7.length) < 4294967296 then (rec_ (wrap64 (i6 - 1)) (xs7 ++ [IntKind.u8.wrap (shr .i64 a1 (wrap64 (8 * i6)))])) else none) else none) else (some (i6, xs7)))
def impl_writer_wide.l0 (a1 : Int) : Nat → Int → (List Int) → Option (Int × (List Int))
  | 0, _, _ => none
  | k + 1, i6, xs7 => impl_writer_wide.b0 a1 (impl_writer_wide.l0 a1 k) k i6 xs7
def impl_writer_wide.g (k : Nat) (x0 : S119) (a1 : Int) (a2 : Int) : Option S119 := ((impl_writer_wide.l0 a1 k (wrap64 (a2 - 1)) x0.f0).bind (fun oc13 => (some (⟨oc13.2⟩ : S119))))
theorem impl_writer_wide.runs (k : Nat) (b0 : Nat) (v0_0 : Value) (I0_0 : List Value) (x0 : S119) (a1 : Int) (a2 : Int) (y_ : S119) {ok0_ : Nat → Prop} {w0_ w : World} {ms_ : List Mu} {fo_ fn_ : List Fact} (HS : St ok0_ w0_ w (boxM b0 #[v0_0] 119 :: rowX w0_.heap.size 5 1 v0_0 x0.f0.length I0_0 :: ms_) fo_ ((rF kU x0.f0 I0_0) :: fn_)) (H : impl_writer_wide.g k x0 a1 a2 = some y_) :
    Calls Try.prog 102 #[.pointer (some ⟨b0, 0, none⟩), .int .i64 a1, .int .i64 a2] w fun e w' => ∃ (v0_ : Value) (I0_ : List Value), e = .returned (.tuple #[]) ∧ St ok0_ w0_ w' (boxM b0 #[v0_] 119 :: rowX w0_.heap.size 5 1 v0_ y_.f0.length I0_ :: ms_) fo_ ((rF kU y_.f0 I0_) :: fn_) := by
  unfold impl_writer_wide.g at H
  refine cw_ (n := 27) Try.func102 fun R_ hR_ => ?_
  refine WC.endK (fun KE hKE => ?_)
  refine sr_ fun _ hK1 => ?_
  refine mv_ ?_
  refine b_ bin_sub64 ?_
  refine as_ ?_
  refine dn_ hK1 ?_
  refine WC.block ?_
  obtain ⟨G2, hG3, oc4, H, Ho5⟩ := open_G H
  let J10 := fun (i6 : Int) (xs7 : List Int) (v8 : Value) (I9 : List Value) (E_ : Env) (W_ : World) => E_ = [(0, .pointer (some ⟨b0, 0, none⟩)), (1, .int .i64 a1), (6, .int .i64 i6)] ∧ St ok0_ w0_ W_ (boxM b0 #[v8] 119 :: rowX w0_.heap.size 5 1 v8 xs7.length I9 :: ms_) fo_ ((rF kU xs7 I9) :: fn_)
  have X11 : ∀ E_ W_, (∃ i6 xs7 v8 I9, G2 (i6, xs7) = some y_ ∧ J10 i6 xs7 v8 I9 E_ W_) → ∀ a, Fits a 27 E_ → KE a W_ := by
    rintro E_ w12 ⟨i6, xs7, v8, I9, H, rfl, HS⟩
    rw [hG3] at H
    (try dsimp only at H)
    refine hKE _ _ ?_
    obtain rfl := os H
    exact fin0 Try.f102 hR_ ⟨_, _, rfl, St.pick HS (fun W_ h_ => h_) (fun W_ h_ => ⟨h_.1, h_.2⟩)⟩ (Or.inr rfl)
  clear hKE
  refine WC.loop (fun k_ E_ W_ => ∃ i6 xs7 v8 I9, (∃ o_, impl_writer_wide.l0 a1 k_ i6 xs7 = some o_ ∧ G2 o_ = some y_) ∧ J10 i6 xs7 v8 I9 E_ W_) k ⟨(wrap64 (a2 - 1)), x0.f0, v0_0, I0_0, ⟨_, H, Ho5⟩, rfl, (St.pick HS (fun W_ h_ => h_) (fun W_ h_ => ⟨h_.1, h_.2⟩))⟩ (sb rfl) ?_
  rintro k_ E_ w14 ⟨i6, xs7, v8, I9, ⟨oc4, H, Ho5⟩, rfl, HS⟩
  rcases k_ with _ | k15
  · exact no_ H
  replace H : impl_writer_wide.b0 a1 (impl_writer_wide.l0 a1 k15) k15 i6 xs7 = some oc4 := H
  unfold impl_writer_wide.b0 at H
  refine WC.seq fun _ hK16 => ?_
  refine sr_ fun _ hK17 => ?_
  refine mv_ ?_
  refine b_ bin_geq ?_
  refine dn_ hK17 ?_
  rcases eti_ H with ⟨c18, H⟩ | ⟨c18, H⟩
  · refine wn_ (dF c18) ?_
    refine WC.exit ?_
    obtain rfl := os H
    exact WQ.via2 (fun _ _ h_ => h_) X11 ⟨i6, xs7, v8, I9, Ho5, rfl, (St.pick HS (fun W_ h_ => h_) (fun W_ h_ => ⟨h_.1, h_.2⟩))⟩ (sb rfl)
  refine wy_ (dT c18) ?_
  refine WC.skip ?_
  refine via_ hK16 ?_
  refine WC.seq fun _ hK19 => ?_
  refine WC.block ?_
  refine WC.drawW HS [boxM b0 #[v8] 119] (fun _ HS => ⟨(HS.mu 0 rfl), trivial⟩) [14] rfl rfl (fun w20 HS => ?_)
  refine dm_ 0 ?_
  refine dm_ 1 ?_
  refine dp_ 2 (fun _ => Run.nilCheck rfl rfl) ?_
  refine df_ 3 Try.underlying119 ?_
  refine dm_ 5 ?_
  refine dm_ 6 ?_
  refine dp_ 7 (fun _ => Run.bin rfl rfl rfl bin_mul64) ?_
  obtain ⟨q21, H⟩ := if_some H
  refine dp_ 8 (fun _ => Run.shrV rfl rfl rfl q21) ?_
  refine dp_ 9 (fun _ => Run.convI rfl Try.underlying3 Try.underlying5 rfl) ?_
  obtain ⟨A22, c23, rfl⟩ := rowX_slice (HS.mu 1 rfl)
  refine dt_ 4 ⟨HS.nowO, HS.nowN, ⟨(HS.mu 0 rfl), trivial⟩⟩ (fun w_ hw_ => Run.load rfl rfl Try.underlying53 rfl (box_cell hw_.2.2.1 rfl)) ?_
  have HS1 := HS.below (below_alloc (Below.refl _ _) (.cells #[.int .u8 (IntKind.u8.wrap (shr .i64 a1 (wrap64 (8 * i6))))] 5))
  refine dv_ 10 (w_none rfl) (Run.lit1 (z := (.int .u8 0)) (vs := [.int .u8 (IntKind.u8.wrap (shr .i64 a1 (wrap64 (8 * i6))))]) rfl rfl rfl Try.underlying53 (by kernel_rfl) (Nat.le_of_ble_eq_true rfl) (Nat.le_of_ble_eq_true rfl)) ⟨HS1.nowO, HS1.nowN, ⟨(HS1.mu 0 rfl), trivial⟩⟩ ?_
  obtain ⟨q24, H⟩ := if_some H
  refine WD.appendX 11 (w_none rfl) HS1 1 rfl rfl (.int .u8 0) 1 Try.underlying53 (by kernel_rfl) rfl (by decide) (by decide) rfl rfl [.int .u8 (IntKind.u8.wrap (shr .i64 a1 (wrap64 (8 * i6))))] rfl (fun _ => ⟨_, rfl, lit_news _ _ _⟩) (oneL rfl) (by omega) ((xs7 ++ [IntKind.u8.wrap (shr .i64 a1 (wrap64 (8 * i6)))]).length) (by simp) (fun v25 w26 I27 hI28 HS => ?_)
  dsimp only [List.set] at HS
  replace HS := HS.deriveN (p := (rF kU (xs7 ++ [IntKind.u8.wrap (shr .i64 a1 (wrap64 (8 * i6)))]) I27)) (fun W_ hN_ => reps_snoc hI28 hN_.1 (K_int _))
  clear HS1
  refine ⟨⟨HS.nowO, HS.nowN.2, ⟨(HS.mu 0 rfl), trivial⟩⟩, ?_⟩
  refine dp_ 12 (fun _ => Run.nilCheck rfl rfl) ?_
  refine df_ 13 Try.underlying119 ?_
  obtain ⟨A30, c31, rfl⟩ := rowX_slice (HS.mu 1 rfl)
  refine WD.storeL 14 HS 0 rfl rfl rfl rfl rfl (by kernel_rfl) (Nat.le_of_ble_eq_true rfl) (cs' := #[(.slice A30 ((xs7 ++ [IntKind.u8.wrap (shr .i64 a1 (wrap64 (8 * i6)))]).length) c31)]) (by kernel_rfl) (fun w29 HS => ?_)
  dsimp only [List.set] at HS
  refine dd_ ?_
  refine via_ hK19 ?_
  refine rg_ ?_
  refine mv_ ?_
  refine b_ bin_sub64 ?_
  refine as_ ?_
  refine WL.done ?_
  exact WQ.round k15 (fun _ _ h_ => h_) (Nat.lt_succ_self _) ⟨(wrap64 (i6 - 1)), (xs7 ++ [IntKind.u8.wrap (shr .i64 a1 (wrap64 (8 * i6)))]), (.slice A30 ((xs7 ++ [IntKind.u8.wrap (shr .i64 a1 (wrap64 (8 * i6)))]).length) c31), I27, ⟨_, H, Ho5⟩, rfl, (St.pick HS (fun W_ h_ => h_) (fun W_ h_ => ⟨h_.1, h_.2.2⟩))⟩ (sb rfl)
def impl_writer_turns.b1 (l1 : List (List Int)) (i6 : Int) (rec_ : Int → (List Int) → Option (Int × (List Int))) (k41 : Nat) (i32 : Int) (xs33 : List Int) : Option (Int × (List Int)) := (if i32 < ((l1.getD i6.toNat []).length : Int) then (if 0 ≤ i32 ∧ i32 < ((l1.getD i6.toNat []).length : Int) then ((impl_writer_wide.g k41 (⟨xs33⟩ : S119) (wrap64 (((l1.getD i6.toNat []).getD i32.toNat 0) + 128)) 2).bind fun t50 => (rec_ (wrap64 (i32 + 1)) t50.f0)) else none) else (some (i32, xs33)))
def impl_writer_turns.l1 (l1 : List (List Int)) (i6 : Int) : Nat → Int → (List Int) → Option (Int × (List Int))
  | 0, _, _ => none
  | k + 1, i32, xs33 => impl_writer_turns.b1 l1 i6 (impl_writer_turns.l1 l1 i6 k) k i32 xs33
def impl_writer_turns.b0 (l1 : List (List Int)) (rec_ : Int → (List Int) → Option (Int × (List Int))) (k15 : Nat) (i6 : Int) (xs7 : List Int) : Option (Int × (List Int)) := (if i6 < (l1.length : Int) then (if 0 ≤ i6 ∧ i6 < (l1.length : Int) then ((impl_writer_turns.l1 l1 i6 k15 0 xs7).bind (fun oc39 => (rec_ (wrap64 (i6 + 1)) oc39.2))) else none) else (some (i6, xs7)))
def impl_writer_turns.l0 (l1 : List (List Int)) : Nat → Int → (List Int) → Option (Int × (List Int))
  | 0, _, _ => none
  | k + 1, i6, xs7 => impl_writer_turns.b0 l1 (impl_writer_turns.l0 l1 k) k i6 xs7
def impl_writer_turns.g (k : Nat) (x0 : S119) (l1 : List (List Int)) : Option S119 := ((impl_writer_turns.l0 l1 k 0 x0.f0).bind (fun oc13 => (some (⟨oc13.2⟩ : S119))))
theorem impl_writer_turns.runs (k : Nat) (b0 : Nat) (v0_0 : Value) (I0_0 : List Value) (x0 : S119) (A1 : Option Addr) (c1 : Nat) (l1 : List (List Int)) (y_ : S119) {ok0_ : Nat → Prop} {w0_ w : World} {ms_ : List Mu} {fo_ fn_ : List Fact} (hc1 : l1.length ≤ c1) (HS : St ok0_ w0_ w (boxM b0 #[v0_0] 119 :: rowX w0_.heap.size 5 1 v0_0 x0.f0.length I0_0 :: ms_) ((cF kS3 A1 l1) :: fo_) ((rF kU x0.f0 I0_0) :: fn_)) (H : impl_writer_turns.g k x0 l1 = some y_) :
    Calls Try.prog 104 #[.pointer (some ⟨b0, 0, none⟩), .slice A1 l1.length c1] w fun e w' => ∃ (v0_ : Value) (I0_ : List Value), e = .returned (.tuple #[]) ∧ St ok0_ w0_ w' (boxM b0 #[v0_] 119 :: rowX w0_.heap.size 5 1 v0_ y_.f0.length I0_ :: ms_) fo_ ((rF kU y_.f0 I0_) :: fn_) := by
  unfold impl_writer_turns.g at H
  refine cw_ (n := 26) Try.func104 fun R_ hR_ => ?_
  refine WC.endK (fun KE hKE => ?_)
  refine sr_ fun _ hK1 => ?_
  refine mv_ ?_
  refine ln_ Try.underlying23 ?_
  refine mv_ ?_
  refine dn_ hK1 ?_
  refine WC.block ?_
  obtain ⟨G2, hG3, oc4, H, Ho5⟩ := open_G H
  let J10 := fun (i6 : Int) (xs7 : List Int) (v8 : Value) (I9 : List Value) (E_ : Env) (W_ : World) => E_ = [(0, .pointer (some ⟨b0, 0, none⟩)), (8, .slice A1 l1.length c1), (9, .int .i64 (l1.length : Int)), (10, .int .i64 i6)] ∧ St ok0_ w0_ W_ (boxM b0 #[v8] 119 :: rowX w0_.heap.size 5 1 v8 xs7.length I9 :: ms_) ((cF kS3 A1 l1) :: fo_) ((rF kU xs7 I9) :: fn_)
  have X11 : ∀ E_ W_, (∃ i6 xs7 v8 I9, G2 (i6, xs7) = some y_ ∧ J10 i6 xs7 v8 I9 E_ W_) → ∀ a, Fits a 26 E_ → KE a W_ := by
    rintro E_ w12 ⟨i6, xs7, v8, I9, H, rfl, HS⟩
    rw [hG3] at H
    (try dsimp only at H)
    refine hKE _ _ ?_
    obtain rfl := os H
    exact fin0 Try.f104 hR_ ⟨_, _, rfl, St.pick HS (fun W_ h_ => h_.2) (fun W_ h_ => ⟨h_.1, h_.2⟩)⟩ (Or.inr rfl)
  clear hKE
  refine WC.loop (fun k_ E_ W_ => ∃ i6 xs7 v8 I9, (∃ o_, impl_writer_turns.l0 l1 k_ i6 xs7 = some o_ ∧ G2 o_ = some y_) ∧ J10 i6 xs7 v8 I9 E_ W_) k ⟨0, x0.f0, v0_0, I0_0, ⟨_, H, Ho5⟩, rfl, (St.pick HS (fun W_ h_ => ⟨h_.1, h_.2⟩) (fun W_ h_ => ⟨h_.1, h_.2⟩))⟩ (sb rfl) ?_
  rintro k_ E_ w14 ⟨i6, xs7, v8, I9, ⟨oc4, H, Ho5⟩, rfl, HS⟩
  rcases k_ with _ | k15
  · exact no_ H
  replace H : impl_writer_turns.b0 l1 (impl_writer_turns.l0 l1 k15) k15 i6 xs7 = some oc4 := H
  unfold impl_writer_turns.b0 at H
  refine sr_ fun _ hK16 => ?_
  refine b_ bin_lss ?_
  refine dn_ hK16 ?_
  refine WC.seq fun _ hK17 => ?_
  rcases eti_ H with ⟨c18, H⟩ | ⟨c18, H⟩
  · refine wn_ (dF c18) ?_
    refine WC.exit ?_
    obtain rfl := os H
    exact WQ.via2 (fun _ _ h_ => h_) X11 ⟨i6, xs7, v8, I9, Ho5, rfl, (St.pick HS (fun W_ h_ => ⟨h_.1, h_.2⟩) (fun W_ h_ => ⟨h_.1, h_.2⟩))⟩ (sb rfl)
  refine wy_ (dT c18) ?_
  refine WC.skip ?_
  refine via_ hK17 ?_
  refine WC.seq fun K19 hK19 => ?_
  refine WC.block ?_
  refine sr_ fun _ hK20 => ?_
  obtain ⟨⟨q21, q22⟩, H⟩ := if_some H
  obtain ⟨ad23, rfl⟩ := C_open (HS.getO 0 rfl) (by omega)
  refine v_ (ia_ Try.underlying23 1 q21 q22) ?_
  obtain ⟨A24, c25, le26, HS⟩ := HS.slO 0 rfl i6 q21 q22
  refine v_ (Run.load rfl rfl Try.underlying25 rfl (HS.getO 1 rfl)) ?_
  refine as_ ?_
  refine dn_ hK20 ?_
  refine sr_ fun _ hK27 => ?_
  refine mv_ ?_
  refine ln_ Try.underlying25 ?_
  refine mv_ ?_
  refine dn_ hK27 ?_
  refine WC.block ?_
  obtain ⟨G28, hG29, oc30, H, Ho31⟩ := open_G H
  let J36 := fun (i32 : Int) (xs33 : List Int) (v34 : Value) (I35 : List Value) (E_ : Env) (W_ : World) => E_ = [(0, .pointer (some ⟨b0, 0, none⟩)), (8, .slice (some ad23) l1.length c1), (9, .int .i64 (l1.length : Int)), (10, .int .i64 i6), (14, .slice A24 ((l1.getD i6.toNat []).length) c25), (15, .int .i64 ((l1.getD i6.toNat []).length : Int)), (16, .int .i64 i32)] ∧ St ok0_ w0_ W_ (boxM b0 #[v34] 119 :: rowX w0_.heap.size 5 1 v34 xs33.length I35 :: ms_) ((cF kI A24 (l1.getD i6.toNat [])) :: (cF kS3 (some ad23) l1) :: fo_) ((rF kU xs33 I35) :: fn_)
  have X37 : ∀ E_ W_, (∃ i32 xs33 v34 I35, G28 (i32, xs33) = some oc4 ∧ J36 i32 xs33 v34 I35 E_ W_) → ∀ a, Fits a 26 E_ → K19 a W_ := by
    rintro E_ w38 ⟨i32, xs33, v34, I35, H, rfl, HS⟩
    rw [hG29] at H
    (try dsimp only at H)
    refine hK19 _ _ ?_
    refine rg_ ?_
    refine b_ bin_add64 ?_
    refine mv_ ?_
    refine WL.done ?_
    exact WQ.round k15 (fun _ _ h_ => h_) (Nat.lt_succ_self _) ⟨(wrap64 (i6 + 1)), xs33, v34, I35, ⟨_, H, Ho5⟩, rfl, (St.pick HS (fun W_ h_ => ⟨h_.2.1, h_.2.2⟩) (fun W_ h_ => ⟨h_.1, h_.2⟩))⟩ (sb rfl)
  refine WC.loop (fun k_ E_ W_ => ∃ i32 xs33 v34 I35, (∃ o_, impl_writer_turns.l1 l1 i6 k_ i32 xs33 = some o_ ∧ G28 o_ = some oc4) ∧ J36 i32 xs33 v34 I35 E_ W_) k15 ⟨0, xs7, v8, I9, ⟨_, H, Ho31⟩, rfl, (St.pick HS (fun W_ h_ => ⟨h_.1, h_.2.2.1, h_.2.2.2⟩) (fun W_ h_ => ⟨h_.1, h_.2⟩))⟩ (sb rfl) ?_
  rintro k_ E_ w40 ⟨i32, xs33, v34, I35, ⟨oc30, H, Ho31⟩, rfl, HS⟩
  rcases k_ with _ | k41
  · exact no_ H
  replace H : impl_writer_turns.b1 l1 i6 (impl_writer_turns.l1 l1 i6 k41) k41 i32 xs33 = some oc30 := H
  unfold impl_writer_turns.b1 at H
  refine sr_ fun _ hK42 => ?_
  refine b_ bin_lss ?_
  refine dn_ hK42 ?_
  refine WC.seq fun _ hK43 => ?_
  rcases eti_ H with ⟨c44, H⟩ | ⟨c44, H⟩
  · refine wn_ (dF c44) ?_
    refine WC.exit ?_
    obtain rfl := os H
    exact WQ.via2 (fun _ _ h_ => h_) X37 ⟨i32, xs33, v34, I35, Ho31, rfl, (St.pick HS (fun W_ h_ => ⟨h_.1, h_.2.1, h_.2.2⟩) (fun W_ h_ => ⟨h_.1, h_.2⟩))⟩ (sb rfl)
  refine wy_ (dT c44) ?_
  refine WC.skip ?_
  refine via_ hK43 ?_
  refine WC.seq fun _ hK45 => ?_
  refine WC.block ?_
  refine sr_ fun _ hK46 => ?_
  obtain ⟨⟨q47, q48⟩, H⟩ := if_some H
  obtain ⟨ad49, rfl⟩ := C_open (HS.getO 0 rfl) (by omega)
  refine v_ (ia_ Try.underlying25 1 q47 q48) ?_
  refine v_ (Run.load rfl rfl Try.underlying3 rfl (int_cell (HS.getO 0 rfl) i32 q47 q48)) ?_
  refine as_ ?_
  refine dn_ hK46 ?_
  refine rg_ ?_
  refine mv_ ?_
  refine mv_ ?_
  refine b_ bin_add64 ?_
  replace HS := HS.front 1 rfl
  dsimp only [List.eraseIdx] at HS
  replace HS := HS.front 1 rfl
  dsimp only [List.eraseIdx] at HS
  replace HS := HS.deriveN (p := (rF kU xs33 I35)) (fun W_ hN_ => hN_.1)
  obtain ⟨t50, ha51, H⟩ := bind_some H
  refine c_ Try.func102 (impl_writer_wide.runs k41 b0 v34 I35 (⟨xs33⟩ : S119) (wrap64 (((l1.getD i6.toNat []).getD i32.toNat 0) + 128)) 2 t50 HS ha51) ?_
  clear ha51
  rintro _ w52 ⟨v53, I54, rfl, HS⟩
  refine ⟨_, rfl, ?_⟩
  refine dn_ hK45 ?_
  refine rg_ ?_
  refine b_ bin_add64 ?_
  refine mv_ ?_
  refine WL.done ?_
  exact WQ.round k41 (fun _ _ h_ => h_) (Nat.lt_succ_self _) ⟨(wrap64 (i32 + 1)), t50.f0, v53, I54, ⟨_, H, Ho31⟩, rfl, (St.pick HS (fun W_ h_ => ⟨h_.1, h_.2.1, h_.2.2⟩) (fun W_ h_ => ⟨h_.1, h_.2.2⟩))⟩ (sb rfl)
def impl_writer_matrix.b1 (x1 : S36) (rec_ : (List Int) → Int → Option ((List Int) × Int)) (k87 : Nat) (xs13 : List Int) (i16 : Int) : Option ((List Int) × Int) := (if i16 < (x1.f1.length : Int) then (if 0 ≤ i16 ∧ i16 < (x1.f1.length : Int) then (if (xs13.length) + ((x1.f1.getD i16.toNat []).length) < 4294967296 then (rec_ (xs13 ++ (x1.f1.getD i16.toNat [])) (wrap64 (i16 + 1))) else none) else none) else (some (xs13, i16)))
def impl_writer_matrix.l1 (x1 : S36) : Nat → (List Int) → Int → Option ((List Int) × Int)
  | 0, _, _ => none
  | k + 1, xs13, i16 => impl_writer_matrix.b1 x1 (impl_writer_matrix.l1 x1 k) k xs13 i16
def impl_writer_matrix.b0 (x1 : S36) (rec_ : Int → (List Int) → Option (Int × (List Int))) (k68 : Nat) (i43 : Int) (xs44 : List Int) : Option (Int × (List Int)) := (if i43 < (x1.f2.length : Int) then (if 0 ≤ i43 ∧ i43 < (x1.f2.length : Int) then ((impl_writer_put.g k68 (⟨xs44⟩ : S119) 0 (x1.f2.getD i43.toNat [])).bind fun t80 => (rec_ (wrap64 (i43 + 1)) t80.f0)) else none) else (some (i43, xs44)))
def impl_writer_matrix.l0 (x1 : S36) : Nat → Int → (List Int) → Option (Int × (List Int))
  | 0, _, _ => none
  | k + 1, i43, xs44 => impl_writer_matrix.b0 x1 (impl_writer_matrix.l0 x1 k) k i43 xs44
def impl_writer_matrix.g (k : Nat) (x0 : S119) (x1 : S36) : Option S119 := ((impl_writer_matrix.l1 x1 k ([] : List Int) 0).bind (fun oc85 => ((impl_PackNibbles.g k oc85.1).bind fun t23 => (if (x0.f0.length) + t23.1.size < 4294967296 then ((impl_writer_matrix.l0 x1 k 0 (x0.f0 ++ bytesOf t23.1)).bind (fun oc66 => ((impl_writer_wide.g k (⟨oc66.2⟩ : S119) x1.f3 3).bind fun t51 => ((impl_writer_put.g k (⟨t51.f0⟩ : S119) 0 ([x1.f4])).bind fun t61 => (some (⟨t61.f0⟩ : S119)))))) else none))))
theorem impl_writer_matrix.runs (k : Nat) (b0 : Nat) (v0_0 : Value) (I0_0 : List Value) (x0 : S119) (x1 : S36) (A1_1 : Option Addr) (c1_1 : Nat) (A1_2 : Option Addr) (c1_2 : Nat) (y_ : S119) {ok0_ : Nat → Prop} {w0_ w : World} {ms_ : List Mu} {fo_ fn_ : List Fact} (hc1_1 : x1.f1.length ≤ c1_1) (hc1_2 : x1.f2.length ≤ c1_2) (HS : St ok0_ w0_ w (boxM b0 #[v0_0] 119 :: rowX w0_.heap.size 5 1 v0_0 x0.f0.length I0_0 :: ms_) ((cF kS3 A1_1 x1.f1) :: (cF kS3 A1_2 x1.f2) :: fo_) ((rF kU x0.f0 I0_0) :: fn_)) (H : impl_writer_matrix.g k x0 x1 = some y_) :
    Calls Try.prog 103 #[.pointer (some ⟨b0, 0, none⟩), .agg #[.int .i64 x1.f0, .slice A1_1 x1.f1.length c1_1, .slice A1_2 x1.f2.length c1_2, .int .i64 x1.f3, .int .i64 x1.f4]] w fun e w' => ∃ (v0_ : Value) (I0_ : List Value), e = .returned (.tuple #[]) ∧ St ok0_ w0_ w' (boxM b0 #[v0_] 119 :: rowX w0_.heap.size 5 1 v0_ y_.f0.length I0_ :: ms_) fo_ ((rF kU y_.f0 I0_) :: fn_) := by
  unfold impl_writer_matrix.g at H
  refine cw_ (n := 57) Try.func103 fun R_ hR_ => ?_
  refine WC.endK (fun KE hKE => ?_)
  refine sr_ fun _ hK1 => ?_
  refine bo_ HS (fun b2 w3 hb2 HS => ?_)
  refine dn_ hK1 ?_
  refine sr_ fun _ hK4 => ?_
  refine WL.lit0 HS rfl rfl (by decide) rfl Try.underlying25 (sz := 1) (by kernel_rfl) (fun v5 w6 HS => ?_)
  replace HS := HS.deriveN (p := (rF kI ([] : List Int) [])) (fun _ _ => Reps.none _ _)
  refine as_ ?_
  refine dn_ hK4 ?_
  refine WC.seq fun K7 hK7 => ?_
  refine sr_ fun _ hK8 => ?_
  refine v_ (fa_ Try.underlying36) ?_
  refine v_ (lb_ (HS.mu 1 rfl) Try.underlying23 rfl) ?_
  refine ln_ Try.underlying23 ?_
  refine mv_ ?_
  refine dn_ hK8 ?_
  refine WC.block ?_
  obtain ⟨G9, hG10, oc11, H, Ho12⟩ := open_G H
  let J17 := fun (xs13 : List Int) (v14 : Value) (I15 : List Value) (i16 : Int) (E_ : Env) (W_ : World) => E_ = [(0, .pointer (some ⟨b0, 0, none⟩)), (3, .pointer (some ⟨b2, 0, none⟩)), (4, v14), (13, .slice A1_1 x1.f1.length c1_1), (14, .int .i64 (x1.f1.length : Int)), (15, .int .i64 i16)] ∧ St ok0_ w0_ W_ (rowM w0_.heap.size 3 1 v14 xs13.length I15 :: boxM b2 #[.int .i64 x1.f0, .slice A1_1 x1.f1.length c1_1, .slice A1_2 x1.f2.length c1_2, .int .i64 x1.f3, .int .i64 x1.f4] 36 :: boxM b0 #[v0_0] 119 :: rowX w0_.heap.size 5 1 v0_0 x0.f0.length I0_0 :: ms_) ((cF kS3 A1_1 x1.f1) :: (cF kS3 A1_2 x1.f2) :: fo_) ((rF kI xs13 I15) :: (rF kU x0.f0 I0_0) :: fn_)
  have X18 : ∀ E_ W_, (∃ xs13 v14 I15 i16, G9 (xs13, i16) = some y_ ∧ J17 xs13 v14 I15 i16 E_ W_) → ∀ a, Fits a 57 E_ → K7 a W_ := by
    rintro E_ w19 ⟨xs13, v14, I15, i16, H, rfl, HS⟩
    rw [hG10] at H
    (try dsimp only at H)
    refine hK7 _ _ ?_
    refine sr_ fun _ hK20 => ?_
    refine mv_ ?_
    obtain ⟨A21, c22, rfl⟩ := row_slice (HS.mu 0 rfl)
    obtain ⟨t23, ha24, H⟩ := bind_some H
    refine cs_ HS Try.func143 (impl_PackNibbles.runs k A21 c22 xs13 t23.1 t23.2 _ (row_C rfl (HS.mu 0 rfl) (HS.getN 0 rfl)) (row_le (HS.mu 0 rfl)) ha24) (fun w25 HS => ?_)
    clear ha24
    refine mv_ ?_
    refine v_ (Run.extract rfl rfl rfl) ?_
    refine v_ (Run.extract rfl rfl rfl) ?_
    refine as_ ?_
    refine as_ ?_
    refine dn_ hK20 ?_
    refine sr_ fun _ hK26 => ?_
    refine mv_ ?_
    refine mv_ ?_
    refine v_ (Run.nilCheck rfl rfl) ?_
    refine v_ (fa_ Try.underlying119) ?_
    obtain ⟨A27, c28, rfl⟩ := rowX_slice (HS.mu 3 rfl)
    refine v_ (lb_ (HS.mu 2 rfl) Try.underlying53 rfl) ?_
    refine mv_ ?_
    obtain ⟨q29, H⟩ := if_some H
    refine WL.appendS HS 3 rfl rfl rfl (by decide) rfl (.int .u8 0) 1 Try.underlying53 Try.underlying9 (by kernel_rfl) rfl (by decide) rfl rfl (by omega) ((x0.f0 ++ bytesOf t23.1).length) (by simp [bytesOf_length] <;> omega) (fun v30 w31 I32 hI33 HS => ?_)
    dsimp only [List.set] at HS
    replace HS := HS.deriveN (p := (rF kU (x0.f0 ++ bytesOf t23.1) I32)) (fun W_ hN_ => reps_more hI33 hN_.2.1 (bcells_reps _))
    refine v_ (Run.nilCheck rfl rfl) ?_
    refine v_ (fa_ Try.underlying119) ?_
    obtain ⟨A35, c36, rfl⟩ := rowX_slice (HS.mu 3 rfl)
    refine WL.store HS 2 rfl rfl rfl rfl rfl rfl rfl (by kernel_rfl) (Nat.le_of_ble_eq_true rfl) (cs' := #[(.slice A35 ((x0.f0 ++ bytesOf t23.1).length) c36)]) (by kernel_rfl) (fun w34 HS => ?_)
    dsimp only [List.set] at HS
    refine dn_ hK26 ?_
    refine WC.seq fun K37 hK37 => ?_
    refine sr_ fun _ hK38 => ?_
    refine v_ (fa_ Try.underlying36) ?_
    refine v_ (lb_ (HS.mu 1 rfl) Try.underlying23 rfl) ?_
    refine ln_ Try.underlying23 ?_
    refine mv_ ?_
    refine dn_ hK38 ?_
    refine WC.block ?_
    obtain ⟨G39, hG40, oc41, H, Ho42⟩ := open_G H
    let J47 := fun (i43 : Int) (xs44 : List Int) (v45 : Value) (I46 : List Value) (E_ : Env) (W_ : World) => E_ = [(0, .pointer (some ⟨b0, 0, none⟩)), (3, .pointer (some ⟨b2, 0, none⟩)), (38, .slice A1_2 x1.f2.length c1_2), (39, .int .i64 (x1.f2.length : Int)), (40, .int .i64 i43)] ∧ St ok0_ w0_ W_ (boxM b2 #[.int .i64 x1.f0, .slice A1_1 x1.f1.length c1_1, .slice A1_2 x1.f2.length c1_2, .int .i64 x1.f3, .int .i64 x1.f4] 36 :: boxM b0 #[v45] 119 :: rowX w0_.heap.size 5 1 v45 xs44.length I46 :: ms_) ((cF kS3 A1_1 x1.f1) :: (cF kS3 A1_2 x1.f2) :: fo_) ((rF kU xs44 I46) :: fn_)
    have X48 : ∀ E_ W_, (∃ i43 xs44 v45 I46, G39 (i43, xs44) = some y_ ∧ J47 i43 xs44 v45 I46 E_ W_) → ∀ a, Fits a 57 E_ → K37 a W_ := by
      rintro E_ w49 ⟨i43, xs44, v45, I46, H, rfl, HS⟩
      rw [hG40] at H
      (try dsimp only at H)
      refine hK37 _ _ ?_
      refine sr_ fun _ hK50 => ?_
      refine mv_ ?_
      refine v_ (fa_ Try.underlying36) ?_
      refine v_ (lb_ (HS.mu 0 rfl) Try.underlying3 rfl) ?_
      replace HS := HS.front 2 rfl
      dsimp only [List.eraseIdx] at HS
      replace HS := HS.front 2 rfl
      dsimp only [List.eraseIdx] at HS
      replace HS := HS.deriveN (p := (rF kU xs44 I46)) (fun W_ hN_ => hN_.1)
      obtain ⟨t51, ha52, H⟩ := bind_some H
      refine c_ Try.func102 (impl_writer_wide.runs k b0 v45 I46 (⟨xs44⟩ : S119) x1.f3 3 t51 HS ha52) ?_
      clear ha52
      rintro _ w53 ⟨v54, I55, rfl, HS⟩
      refine ⟨_, rfl, ?_⟩
      refine dn_ hK50 ?_
      refine rg_ ?_
      refine mv_ ?_
      refine v_ (fa_ Try.underlying36) ?_
      refine v_ (lb_ (HS.mu 2 rfl) Try.underlying3 rfl) ?_
      refine WL.litN HS (sz := 1) (z := (.int .i64 0)) rfl rfl (by decide) rfl [[.int .i64 x1.f4]] ⟨⟨rfl, _, rfl, rfl, rfl⟩, trivial⟩ rfl Try.underlying25 (by kernel_rfl) (by decide) (by decide) (fun v56 w57 HS => ?_)
      replace HS := HS.deriveN (p := (rF kI [x1.f4] (List.flatten [[.int .i64 x1.f4]]))) (fun W_ hN_ => reps_lit ⟨(K_int _), trivial⟩)
      obtain ⟨A58, c59, rfl⟩ := row_slice (HS.mu 0 rfl)
      have le60 := row_le (HS.mu 0 rfl)
      replace HS := HS.freezeN 0 (p := (fun W => kI.C W A58 1 ([x1.f4]))) rfl (fun W_ hm_ h_ => row_C (by simp) hm_ h_.1)
      dsimp only [List.eraseIdx] at HS
      replace HS := HS.front 1 rfl
      dsimp only [List.eraseIdx] at HS
      replace HS := HS.front 1 rfl
      dsimp only [List.eraseIdx] at HS
      replace HS := HS.deriveO (p := (cF kI A58 ([x1.f4]))) (fun W_ hO_ hN_ => hN_.1)
      replace HS := HS.deriveN (p := (rF kU t51.f0 I55)) (fun W_ hN_ => hN_.2.2.1)
      obtain ⟨t61, ha62, H⟩ := bind_some H
      refine c_ Try.func101 (impl_writer_put.runs k b0 v54 I55 (⟨t51.f0⟩ : S119) 0 A58 c59 ([x1.f4]) t61 le60 HS ha62) ?_
      clear ha62
      rintro _ w63 ⟨v64, I65, rfl, HS⟩
      refine ⟨_, rfl, ?_⟩
      refine WL.done ?_
      refine viaQ_ hKE ?_
      obtain rfl := os H
      exact fin0 Try.f103 hR_ ⟨_, _, rfl, St.pick (St.forget HS 2 rfl) (fun W_ h_ => h_.2.2) (fun W_ h_ => ⟨h_.1, h_.2.2.2.2.2⟩)⟩ (Or.inr rfl)
    refine WC.loop (fun k_ E_ W_ => ∃ i43 xs44 v45 I46, (∃ o_, impl_writer_matrix.l0 x1 k_ i43 xs44 = some o_ ∧ G39 o_ = some y_) ∧ J47 i43 xs44 v45 I46 E_ W_) k ⟨0, (x0.f0 ++ bytesOf t23.1), (.slice A35 ((x0.f0 ++ bytesOf t23.1).length) c36), I32, ⟨_, H, Ho42⟩, rfl, (St.pick (St.forget HS 0 rfl) (fun W_ h_ => ⟨h_.1, h_.2.1, h_.2.2⟩) (fun W_ h_ => ⟨h_.1, h_.2.2.2⟩))⟩ (sb rfl) ?_
    rintro k_ E_ w67 ⟨i43, xs44, v45, I46, ⟨oc41, H, Ho42⟩, rfl, HS⟩
    rcases k_ with _ | k68
    · exact no_ H
    replace H : impl_writer_matrix.b0 x1 (impl_writer_matrix.l0 x1 k68) k68 i43 xs44 = some oc41 := H
    unfold impl_writer_matrix.b0 at H
    refine sr_ fun _ hK69 => ?_
    refine b_ bin_lss ?_
    refine dn_ hK69 ?_
    refine WC.seq fun _ hK70 => ?_
    rcases eti_ H with ⟨c71, H⟩ | ⟨c71, H⟩
    · refine wn_ (dF c71) ?_
      refine WC.exit ?_
      obtain rfl := os H
      exact WQ.via2 (fun _ _ h_ => h_) X48 ⟨i43, xs44, v45, I46, Ho42, rfl, (St.pick HS (fun W_ h_ => ⟨h_.1, h_.2.1, h_.2.2⟩) (fun W_ h_ => ⟨h_.1, h_.2⟩))⟩ (sb rfl)
    refine wy_ (dT c71) ?_
    refine WC.skip ?_
    refine via_ hK70 ?_
    refine WC.seq fun _ hK72 => ?_
    refine WC.block ?_
    refine sr_ fun _ hK73 => ?_
    obtain ⟨⟨q74, q75⟩, H⟩ := if_some H
    obtain ⟨ad76, rfl⟩ := C_open (HS.getO 1 rfl) (by omega)
    refine v_ (ia_ Try.underlying23 1 q74 q75) ?_
    obtain ⟨A77, c78, le79, HS⟩ := HS.slO 1 rfl i43 q74 q75
    refine v_ (Run.load rfl rfl Try.underlying25 rfl (HS.getO 1 rfl)) ?_
    refine as_ ?_
    refine dn_ hK73 ?_
    refine rg_ ?_
    refine mv_ ?_
    refine mv_ ?_
    replace HS := HS.front 2 rfl
    dsimp only [List.eraseIdx] at HS
    replace HS := HS.front 2 rfl
    dsimp only [List.eraseIdx] at HS
    replace HS := HS.deriveO (p := (cF kI A77 (x1.f2.getD i43.toNat []))) (fun W_ hO_ hN_ => hO_.1)
    replace HS := HS.deriveN (p := (rF kU xs44 I46)) (fun W_ hN_ => hN_.1)
    obtain ⟨t80, ha81, H⟩ := bind_some H
    refine c_ Try.func101 (impl_writer_put.runs k68 b0 v45 I46 (⟨xs44⟩ : S119) 0 A77 c78 (x1.f2.getD i43.toNat []) t80 le79 HS ha81) ?_
    clear ha81
    rintro _ w82 ⟨v83, I84, rfl, HS⟩
    refine ⟨_, rfl, ?_⟩
    refine dn_ hK72 ?_
    refine rg_ ?_
    refine b_ bin_add64 ?_
    refine mv_ ?_
    refine WL.done ?_
    exact WQ.round k68 (fun _ _ h_ => h_) (Nat.lt_succ_self _) ⟨(wrap64 (i43 + 1)), t80.f0, v83, I84, ⟨_, H, Ho42⟩, rfl, (St.pick (St.front (St.front (St.front HS 1 rfl) 1 rfl) 2 rfl) (fun W_ h_ => ⟨h_.2.2.1, h_.2.2.2.1, h_.2.2.2.2⟩) (fun W_ h_ => ⟨h_.1, h_.2.2⟩))⟩ (sb rfl)
  refine WC.loop (fun k_ E_ W_ => ∃ xs13 v14 I15 i16, (∃ o_, impl_writer_matrix.l1 x1 k_ xs13 i16 = some o_ ∧ G9 o_ = some y_) ∧ J17 xs13 v14 I15 i16 E_ W_) k ⟨([] : List Int), v5, ([]), 0, ⟨_, H, Ho12⟩, rfl, (St.pick HS (fun W_ h_ => ⟨h_.1, h_.2.1, h_.2.2⟩) (fun W_ h_ => ⟨h_.1, h_.2.1, h_.2.2⟩))⟩ (sb rfl) ?_
  rintro k_ E_ w86 ⟨xs13, v14, I15, i16, ⟨oc11, H, Ho12⟩, rfl, HS⟩
  rcases k_ with _ | k87
  · exact no_ H
  replace H : impl_writer_matrix.b1 x1 (impl_writer_matrix.l1 x1 k87) k87 xs13 i16 = some oc11 := H
  unfold impl_writer_matrix.b1 at H
  refine sr_ fun _ hK88 => ?_
  refine b_ bin_lss ?_
  refine dn_ hK88 ?_
  refine WC.seq fun _ hK89 => ?_
  rcases eti_ H with ⟨c90, H⟩ | ⟨c90, H⟩
  · refine wn_ (dF c90) ?_
    refine WC.exit ?_
    obtain rfl := os H
    exact WQ.via2 (fun _ _ h_ => h_) X18 ⟨xs13, v14, I15, i16, Ho12, rfl, (St.pick HS (fun W_ h_ => ⟨h_.1, h_.2.1, h_.2.2⟩) (fun W_ h_ => ⟨h_.1, h_.2.1, h_.2.2⟩))⟩ (sb rfl)
  refine wy_ (dT c90) ?_
  refine WC.skip ?_
  refine via_ hK89 ?_
  refine WC.seq fun _ hK91 => ?_
  refine WC.block ?_
  refine sr_ fun _ hK92 => ?_
  obtain ⟨⟨q93, q94⟩, H⟩ := if_some H
  obtain ⟨ad95, rfl⟩ := C_open (HS.getO 0 rfl) (by omega)
  refine v_ (ia_ Try.underlying23 1 q93 q94) ?_
  obtain ⟨A96, c97, le98, HS⟩ := HS.slO 0 rfl i16 q93 q94
  refine v_ (Run.load rfl rfl Try.underlying25 rfl (HS.getO 1 rfl)) ?_
  refine as_ ?_
  refine dn_ hK92 ?_
  refine rg_ ?_
  refine mv_ ?_
  refine mv_ ?_
  obtain ⟨q99, H⟩ := if_some H
  obtain ⟨L100, hl101, h102, hF103, hc104⟩ := foot_all (HS.footO 0 rfl) (by decide) rfl
  replace HS := HS.addN (p := (rF kI (x1.f1.getD i16.toNat []) L100)) (fun W_ _ => hF103.now)
  refine WL.appendL HS 0 rfl rfl rfl (by decide) rfl (.int .i64 0) 8 Try.underlying25 (by kernel_rfl) rfl (by decide) (by decide) rfl rfl L100 hl101 hc104 h102 (by omega) ((xs13 ++ (x1.f1.getD i16.toNat [])).length) (by simp <;> omega) (fun v105 w106 I107 hI108 HS => ?_)
  dsimp only [List.set] at HS
  replace HS := HS.deriveN (p := (rF kI (xs13 ++ (x1.f1.getD i16.toNat [])) I107)) (fun W_ hN_ => reps_more hI108 hN_.2.1 hN_.1)
  refine as_ ?_
  refine dn_ hK91 ?_
  refine rg_ ?_
  refine b_ bin_add64 ?_
  refine mv_ ?_
  refine WL.done ?_
  exact WQ.round k87 (fun _ _ h_ => h_) (Nat.lt_succ_self _) ⟨(xs13 ++ (x1.f1.getD i16.toNat [])), v105, I107, (wrap64 (i16 + 1)), ⟨_, H, Ho12⟩, rfl, (St.pick HS (fun W_ h_ => ⟨h_.2.2.1, h_.2.2.2.1, h_.2.2.2.2⟩) (fun W_ h_ => ⟨h_.1, h_.2.2.2.1, h_.2.2.2.2⟩))⟩ (sb rfl)
def impl_ModelText.b4 (x0 : S39) (rec_ : Int → (List Int) → Option (Int × (List Int))) (k334 : Nat) (i43 : Int) (xs44 : List Int) : Option (Int × (List Int)) := (if i43 < (x0.f5.length : Int) then (if 0 ≤ i43 ∧ i43 < (x0.f5.length : Int) then ((impl_writer_put.g k334 (⟨xs44⟩ : S119) 0 ([((x0.f5.getD i43.toNat o48).f6.f1.length : Int)])).bind fun t357 => (rec_ (wrap64 (i43 + 1)) t357.f0)) else none) else (some (i43, xs44)))
def impl_ModelText.l4 (x0 : S39) : Nat → Int → (List Int) → Option (Int × (List Int))
  | 0, _, _ => none
  | k + 1, i43, xs44 => impl_ModelText.b4 x0 (impl_ModelText.l4 x0 k) k i43 xs44
def impl_ModelText.b3 (x0 : S39) (rec_ : Int → (List Int) → Option (Int × (List Int))) (k307 : Nat) (i56 : Int) (xs57 : List Int) : Option (Int × (List Int)) := (if i56 < (x0.f3.length : Int) then (if 0 ≤ i56 ∧ i56 < (x0.f3.length : Int) then ((impl_writer_wide.g k307 (⟨xs57⟩ : S119) ((x0.f3.getD i56.toNat o112).f0) 2).bind fun t322 => ((impl_writer_wide.g k307 (⟨t322.f0⟩ : S119) ((x0.f3.getD i56.toNat o112).f1) 2).bind fun t327 => (rec_ (wrap64 (i56 + 1)) t327.f0))) else none) else (some (i56, xs57)))
def impl_ModelText.l3 (x0 : S39) : Nat → Int → (List Int) → Option (Int × (List Int))
  | 0, _, _ => none
  | k + 1, i56, xs57 => impl_ModelText.b3 x0 (impl_ModelText.l3 x0 k) k i56 xs57
def impl_ModelText.b2 (x0 : S39) (rec_ : Int → (List Int) → Option (Int × (List Int))) (k288 : Nat) (i73 : Int) (xs74 : List Int) : Option (Int × (List Int)) := (if i73 < (x0.f4.length : Int) then (if 0 ≤ i73 ∧ i73 < (x0.f4.length : Int) then ((impl_writer_put.g k288 (⟨xs74⟩ : S119) 128 (x0.f4.getD i73.toNat [])).bind fun t300 => (rec_ (wrap64 (i73 + 1)) t300.f0)) else none) else (some (i73, xs74)))
def impl_ModelText.l2 (x0 : S39) : Nat → Int → (List Int) → Option (Int × (List Int))
  | 0, _, _ => none
  | k + 1, i73, xs74 => impl_ModelText.b2 x0 (impl_ModelText.l2 x0 k) k i73 xs74
def impl_ModelText.b1 (x0 : S39) (i86 : Int) (rec_ : Int → (List Int) → Option (Int × (List Int))) (k259 : Nat) (i213 : Int) (xs214 : List Int) : Option (Int × (List Int)) := (if i213 < (4 : Int) then (if 0 ≤ i213 ∧ i213 < (4 : Int) then ((impl_writer_matrix.g k259 (⟨xs214⟩ : S119) (⟨(([(x0.f5.getD i86.toNat o48).f1, (x0.f5.getD i86.toNat o48).f2, (x0.f5.getD i86.toNat o48).f3, (x0.f5.getD i86.toNat o48).f4]).getD i213.toNat o36).f0, (([(x0.f5.getD i86.toNat o48).f1, (x0.f5.getD i86.toNat o48).f2, (x0.f5.getD i86.toNat o48).f3, (x0.f5.getD i86.toNat o48).f4]).getD i213.toNat o36).f1, (([(x0.f5.getD i86.toNat o48).f1, (x0.f5.getD i86.toNat o48).f2, (x0.f5.getD i86.toNat o48).f3, (x0.f5.getD i86.toNat o48).f4]).getD i213.toNat o36).f2, (([(x0.f5.getD i86.toNat o48).f1, (x0.f5.getD i86.toNat o48).f2, (x0.f5.getD i86.toNat o48).f3, (x0.f5.getD i86.toNat o48).f4]).getD i213.toNat o36).f3, (([(x0.f5.getD i86.toNat o48).f1, (x0.f5.getD i86.toNat o48).f2, (x0.f5.getD i86.toNat o48).f3, (x0.f5.getD i86.toNat o48).f4]).getD i213.toNat o36).f4⟩ : S36)).bind fun t281 => (rec_ (wrap64 (i213 + 1)) t281.f0)) else none) else (some (i213, xs214)))
def impl_ModelText.l1 (x0 : S39) (i86 : Int) : Nat → Int → (List Int) → Option (Int × (List Int))
  | 0, _, _ => none
  | k + 1, i213, xs214 => impl_ModelText.b1 x0 i86 (impl_ModelText.l1 x0 i86 k) k i213 xs214
def impl_ModelText.b0 (x0 : S39) (rec_ : Int → (List Int) → Option (Int × (List Int))) (k146 : Nat) (i86 : Int) (xs87 : List Int) : Option (Int × (List Int)) := (if i86 < (x0.f5.length : Int) then (if 0 ≤ i86 ∧ i86 < (x0.f5.length : Int) then ((impl_writer_put.g k146 (⟨xs87⟩ : S119) 0 ((x0.f5.getD i86.toNat o48).f0)).bind fun t165 => ((impl_ModelText.l1 x0 i86 k146 0 t165.f0).bind (fun oc257 => ((impl_writer_put.g k146 (⟨oc257.2⟩ : S119) 0 ((x0.f5.getD i86.toNat o48).f5)).bind fun t225 => ((impl_writer_matrix.g k146 (⟨t225.f0⟩ : S119) ((x0.f5.getD i86.toNat o48).f6)).bind fun t239 => ((impl_writer_matrix.g k146 (⟨t239.f0⟩ : S119) ((x0.f5.getD i86.toNat o48).f7)).bind fun t252 => (rec_ (wrap64 (i86 + 1)) t252.f0))))))) else none) else (some (i86, xs87)))
def impl_ModelText.l0 (x0 : S39) : Nat → Int → (List Int) → Option (Int × (List Int))
  | 0, _, _ => none
  | k + 1, i86, xs87 => impl_ModelText.b0 x0 (impl_ModelText.l0 x0 k) k i86 xs87
def impl_ModelText.g (k : Nat) (x0 : S39) : Option (ByteArray × Bool) := ((impl_ModelOk.g k x0).bind fun t6 => (if t6 = true then ((impl_writer_put.g k (⟨[84, 77, 49]⟩ : S119) 0 ([x0.f0, x0.f1, x0.f2, (x0.f3.length : Int), (x0.f5.length : Int)])).bind fun t32 => ((impl_ModelText.l4 x0 k 0 t32.f0).bind (fun oc332 => ((impl_ModelText.l3 x0 k 0 oc332.2).bind (fun oc305 => ((impl_ModelText.l2 x0 k 0 oc305.2).bind (fun oc286 => ((impl_ModelText.l0 x0 k 0 oc286.2).bind (fun oc144 => ((impl_writer_put.g k (⟨oc144.2⟩ : S119) 0 x0.f6).bind fun t98 => ((impl_writer_matrix.g k (⟨t98.f0⟩ : S119) x0.f7).bind fun t112 => ((impl_writer_turns.g k (⟨t112.f0⟩ : S119) x0.f8.f0).bind fun t122 => ((impl_writer_turns.g k (⟨t122.f0⟩ : S119) x0.f8.f1).bind fun t132 => ((impl_Sealed.f k (strOfNums t132.f0)).bind fun t141 => (some (t141.1, t141.2)))))))))))))))) else (some ((⟨#[]⟩ : ByteArray), false))))
theorem impl_ModelText.runs (k : Nat) (cs0 : List Value) (x0 : S39) (r1 : ByteArray) (r2 : Bool) (w : World) (hk0 : k39.K w x0 cs0) (H : impl_ModelText.g k x0 = some (r1, r2)) :
    Calls Try.prog 38 #[.agg cs0.toArray] w fun e w' => e = .returned (.tuple #[.string r1, .bool r2]) ∧ Below w.heap.size w w' := by
  have el0 : cs0.length = 14 := k39.K_len hk0
  unfold impl_ModelText.g at H
  have HS : St (fun _ => True) w w [] [(kF k39 x0 cs0)] [] := St.start (foot_cons (foot_K h39 hk0) foot_nil)
  refine cw_ (n := 147) Try.func38 fun R_ hR_ => ?_
  refine sr_ fun _ hK1 => ?_
  refine bo_ HS (fun b2 w3 hb2 HS => ?_)
  refine as_ ?_
  refine as_ ?_
  exact by (
  refine dn_ hK1 ?_
  clear hK1
  refine WC.seq fun _ hK4 => ?_
  refine sr_ fun _ hK5 => ?_
  refine v_ (Run.loadS (cs := cs0) rfl rfl Try.underlying39 rfl (by rw [el0]; kernel_rfl) (box_part (HS.mu 0 rfl) part_all)) ?_
  obtain ⟨t6, ha7, H⟩ := bind_some H
  refine cs_ HS Try.func25 (impl_ModelOk.runs k cs0 x0 t6 _ (HS.getO 0 rfl) ha7) (fun w8 HS => ?_)
  clear ha7
  exact by (
  refine nt_ ?_
  refine dn_ hK5 ?_
  clear hK5
  rcases eti_ H with ⟨c9, H⟩ | ⟨c9, H⟩
  · refine wy_ (nB (bF c9)) ?_
    refine sr_ fun _ hK362 => ?_
    refine as_ ?_
    refine as_ ?_
    exact by (
    refine dn_ hK362 ?_
    clear hK362
    obtain ⟨rfl, rfl⟩ := Prod.mk.inj (os H)
    exact rt2 Try.f38 rfl rfl rfl hR_ ⟨rfl, HS.b⟩ )
  refine wn_ (nB c9) ?_
  refine WC.skip ?_
  refine via_ hK4 ?_
  clear hK4
  exact by (
  refine sr_ fun _ hK10 => ?_
  refine WL.litN HS (sz := 1) (z := (.int .u8 0)) rfl rfl (by decide) rfl [[.int .u8 84], [.int .u8 77], [.int .u8 49]] ⟨⟨rfl, _, rfl, rfl, rfl⟩, ⟨⟨rfl, _, rfl, rfl, rfl⟩, ⟨⟨rfl, _, rfl, rfl, rfl⟩, trivial⟩⟩⟩ rfl Try.underlying53 (by kernel_rfl) (by decide) (by decide) (fun v11 w12 HS => ?_)
  replace HS := HS.deriveO (p := (rF kU [84, 77, 49] (List.flatten [[.int .u8 84], [.int .u8 77], [.int .u8 49]]))) (fun W_ hO_ hN_ => reps_lit ⟨(K_int _), ⟨(K_int _), ⟨(K_int _), trivial⟩⟩⟩)
  refine WL.mark HS 0 rfl rfl rfl (by decide) rfl Try.underlying53 Try.underlying5 rfl (by decide) (fun w13 HS => ?_)
  dsimp only [List.set] at HS
  obtain ⟨A14, c15, rfl⟩ := rowX_slice (HS.mu 0 rfl)
  refine v_ (Run.build (cells := #[(.slice A14 3 c15)]) rfl [(0, (.slice A14 3 c15))] ⟨⟨rfl, rfl⟩, trivial⟩ (by kernel_rfl)) ?_
  refine bo_ HS (fun b16 w17 hb16 HS => ?_)
  exact by (
  refine as_ ?_
  refine dn_ hK10 ?_
  clear hK10
  refine sr_ fun _ hK18 => ?_
  refine mv_ ?_
  refine v_ (fa_ Try.underlying39) ?_
  refine v_ (lb_ (HS.mu 2 rfl) Try.underlying3 (at39_0 (HS.aO 1 rfl)).int) ?_
  refine v_ (fa_ Try.underlying39) ?_
  exact by (
  refine v_ (lb_ (HS.mu 2 rfl) Try.underlying3 (at39_1 (HS.aO 1 rfl)).int) ?_
  refine v_ (fa_ Try.underlying39) ?_
  refine v_ (lb_ (HS.mu 2 rfl) Try.underlying3 (at39_2 (HS.aO 1 rfl)).int) ?_
  refine v_ (fa_ Try.underlying39) ?_
  obtain ⟨A19, c20, hc21, le22, HS⟩ := HS.sO 1 rfl at39_3
  refine v_ (lb_ (HS.mu 2 rfl) Try.underlying34 hc21) ?_
  refine ln_ Try.underlying34 ?_
  refine v_ (fa_ Try.underlying39) ?_
  exact by (
  obtain ⟨A23, c24, hc25, le26, HS⟩ := HS.sO 2 rfl at39_5
  refine v_ (lb_ (HS.mu 2 rfl) Try.underlying35 hc25) ?_
  refine ln_ Try.underlying35 ?_
  refine WL.litN HS (sz := 1) (z := (.int .i64 0)) rfl rfl (by decide) rfl [[.int .i64 x0.f0], [.int .i64 x0.f1], [.int .i64 x0.f2], [.int .i64 (x0.f3.length : Int)], [.int .i64 (x0.f5.length : Int)]] ⟨⟨rfl, _, rfl, rfl, rfl⟩, ⟨⟨rfl, _, rfl, rfl, rfl⟩, ⟨⟨rfl, _, rfl, rfl, rfl⟩, ⟨⟨rfl, _, rfl, rfl, rfl⟩, ⟨⟨rfl, _, rfl, rfl, rfl⟩, trivial⟩⟩⟩⟩⟩ rfl Try.underlying25 (by kernel_rfl) (by decide) (by decide) (fun v27 w28 HS => ?_)
  replace HS := HS.deriveO (p := (rF kI [x0.f0, x0.f1, x0.f2, (x0.f3.length : Int), (x0.f5.length : Int)] (List.flatten [[.int .i64 x0.f0], [.int .i64 x0.f1], [.int .i64 x0.f2], [.int .i64 (x0.f3.length : Int)], [.int .i64 (x0.f5.length : Int)]]))) (fun W_ hO_ hN_ => reps_lit ⟨(K_int _), ⟨(K_int _), ⟨(K_int _), ⟨(K_int _), ⟨(K_int _), trivial⟩⟩⟩⟩⟩)
  obtain ⟨A29, c30, rfl⟩ := row_slice (HS.mu 0 rfl)
  have le31 := row_le (HS.mu 0 rfl)
  replace HS := HS.freezeO 0 (p := (fun W => kI.C W A29 5 ([x0.f0, x0.f1, x0.f2, (x0.f3.length : Int), (x0.f5.length : Int)]))) rfl (fun W_ hm_ h_ => row_C (by simp) hm_ h_.1)
  exact by (
  dsimp only [List.eraseIdx] at HS
  replace HS := HS.front 1 rfl
  dsimp only [List.eraseIdx] at HS
  replace HS := HS.front 1 rfl
  dsimp only [List.eraseIdx] at HS
  replace HS := HS.deriveO (p := (cF kI A29 ([x0.f0, x0.f1, x0.f2, (x0.f3.length : Int), (x0.f5.length : Int)]))) (fun W_ hO_ hN_ => hO_.1)
  replace HS := HS.deriveN (p := (rF kU ([84, 77, 49]) (List.flatten [[.int .u8 84], [.int .u8 77], [.int .u8 49]]))) (fun _ _ => HS.getO 5 rfl)
  obtain ⟨t32, ha33, H⟩ := bind_some H
  exact by (
  refine c_ Try.func101 (impl_writer_put.runs k b16 (.slice A14 3 c15) (List.flatten [[.int .u8 84], [.int .u8 77], [.int .u8 49]]) (⟨[84, 77, 49]⟩ : S119) 0 A29 c30 ([x0.f0, x0.f1, x0.f2, (x0.f3.length : Int), (x0.f5.length : Int)]) t32 le31 HS ha33) ?_
  clear ha33
  rintro _ w34 ⟨v35, I36, rfl, HS⟩
  replace HS := HS.deriveO (p := (rF kU t32.f0 I36)) (fun W_ hO_ hN_ => hN_.1)
  refine ⟨_, rfl, ?_⟩
  refine dn_ hK18 ?_
  clear hK18
  refine WC.seq fun K37 hK37 => ?_
  exact by (
  refine sr_ fun _ hK38 => ?_
  refine v_ (fa_ Try.underlying39) ?_
  refine v_ (lb_ (HS.mu 2 rfl) Try.underlying35 hc25) ?_
  refine ln_ Try.underlying35 ?_
  refine mv_ ?_
  refine dn_ hK38 ?_
  clear hK38
  refine WC.block ?_
  exact by (
  obtain ⟨G39, hG40, oc41, H, Ho42⟩ := open_G H
  let J47 := fun (i43 : Int) (xs44 : List Int) (v45 : Value) (I46 : List Value) (E_ : Env) (W_ : World) => E_ = [(1, .pointer (some ⟨b2, 0, none⟩)), (4, .pointer (some ⟨b16, 0, none⟩)), (38, .slice A23 x0.f5.length c24), (39, .int .i64 (x0.f5.length : Int)), (40, .int .i64 i43)] ∧ St (fun _ => True) w W_ [boxM b16 #[v45] 119, rowX w.heap.size 5 1 v45 xs44.length I46, boxM b2 cs0.toArray 39] [(rF kU xs44 I46), (cF k48 A23 x0.f5), (cF k112 A19 x0.f3), (kF k39 x0 cs0)] []
  have X48 : ∀ E_ W_, (∃ i43 xs44 v45 I46, G39 (i43, xs44) = some (r1, r2) ∧ J47 i43 xs44 v45 I46 E_ W_) → ∀ a, Fits a 147 E_ → K37 a W_ := by
    rintro E_ w49 ⟨i43, xs44, v45, I46, H, rfl, HS⟩
    rw [hG40] at H
    (try dsimp only at H)
    refine hK37 _ _ ?_
    clear hK37
    exact by (
    refine WC.seq fun K50 hK50 => ?_
    refine sr_ fun _ hK51 => ?_
    refine v_ (fa_ Try.underlying39) ?_
    refine v_ (lb_ (HS.mu 2 rfl) Try.underlying34 hc21) ?_
    refine ln_ Try.underlying34 ?_
    refine mv_ ?_
    refine dn_ hK51 ?_
    clear hK51
    exact by (
    refine WC.block ?_
    obtain ⟨G52, hG53, oc54, H, Ho55⟩ := open_G H
    let J60 := fun (i56 : Int) (xs57 : List Int) (v58 : Value) (I59 : List Value) (E_ : Env) (W_ : World) => E_ = [(1, .pointer (some ⟨b2, 0, none⟩)), (4, .pointer (some ⟨b16, 0, none⟩)), (53, .slice A19 x0.f3.length c20), (54, .int .i64 (x0.f3.length : Int)), (55, .int .i64 i56)] ∧ St (fun _ => True) w W_ [boxM b16 #[v58] 119, rowX w.heap.size 5 1 v58 xs57.length I59, boxM b2 cs0.toArray 39] [(rF kU xs57 I59), (cF k48 A23 x0.f5), (cF k112 A19 x0.f3), (kF k39 x0 cs0)] []
    have X61 : ∀ E_ W_, (∃ i56 xs57 v58 I59, G52 (i56, xs57) = some (r1, r2) ∧ J60 i56 xs57 v58 I59 E_ W_) → ∀ a, Fits a 147 E_ → K50 a W_ := by
      rintro E_ w62 ⟨i56, xs57, v58, I59, H, rfl, HS⟩
      rw [hG53] at H
      (try dsimp only at H)
      refine hK50 _ _ ?_
      exact by (
      clear hK50
      refine WC.seq fun K63 hK63 => ?_
      refine sr_ fun _ hK64 => ?_
      refine v_ (fa_ Try.underlying39) ?_
      obtain ⟨A65, c66, hc67, le68, HS⟩ := HS.sO 3 rfl at39_4
      refine v_ (lb_ (HS.mu 2 rfl) Try.underlying23 hc67) ?_
      refine ln_ Try.underlying23 ?_
      refine mv_ ?_
      exact by (
      refine dn_ hK64 ?_
      clear hK64
      refine WC.block ?_
      obtain ⟨G69, hG70, oc71, H, Ho72⟩ := open_G H
      let J77 := fun (i73 : Int) (xs74 : List Int) (v75 : Value) (I76 : List Value) (E_ : Env) (W_ : World) => E_ = [(1, .pointer (some ⟨b2, 0, none⟩)), (4, .pointer (some ⟨b16, 0, none⟩)), (69, .slice A65 x0.f4.length c66), (70, .int .i64 (x0.f4.length : Int)), (71, .int .i64 i73)] ∧ St (fun _ => True) w W_ [boxM b16 #[v75] 119, rowX w.heap.size 5 1 v75 xs74.length I76, boxM b2 cs0.toArray 39] [(cF kS3 A65 x0.f4), (rF kU xs74 I76), (cF k48 A23 x0.f5), (cF k112 A19 x0.f3), (kF k39 x0 cs0)] []
      have X78 : ∀ E_ W_, (∃ i73 xs74 v75 I76, G69 (i73, xs74) = some (r1, r2) ∧ J77 i73 xs74 v75 I76 E_ W_) → ∀ a, Fits a 147 E_ → K63 a W_ := by
        rintro E_ w79 ⟨i73, xs74, v75, I76, H, rfl, HS⟩
        rw [hG70] at H
        exact by (
        (try dsimp only at H)
        refine hK63 _ _ ?_
        clear hK63
        refine WC.seq fun K80 hK80 => ?_
        refine sr_ fun _ hK81 => ?_
        refine v_ (fa_ Try.underlying39) ?_
        refine v_ (lb_ (HS.mu 2 rfl) Try.underlying35 hc25) ?_
        refine ln_ Try.underlying35 ?_
        exact by (
        refine mv_ ?_
        refine dn_ hK81 ?_
        clear hK81
        refine WC.block ?_
        obtain ⟨G82, hG83, oc84, H, Ho85⟩ := open_G H
        let J90 := fun (i86 : Int) (xs87 : List Int) (v88 : Value) (I89 : List Value) (E_ : Env) (W_ : World) => E_ = [(1, .pointer (some ⟨b2, 0, none⟩)), (4, .pointer (some ⟨b16, 0, none⟩)), (80, .slice A23 x0.f5.length c24), (81, .int .i64 (x0.f5.length : Int)), (82, .int .i64 i86)] ∧ St (fun _ => True) w W_ [boxM b16 #[v88] 119, rowX w.heap.size 5 1 v88 xs87.length I89, boxM b2 cs0.toArray 39] [(cF kS3 A65 x0.f4), (rF kU xs87 I89), (cF k48 A23 x0.f5), (cF k112 A19 x0.f3), (kF k39 x0 cs0)] []
        have X91 : ∀ E_ W_, (∃ i86 xs87 v88 I89, G82 (i86, xs87) = some (r1, r2) ∧ J90 i86 xs87 v88 I89 E_ W_) → ∀ a, Fits a 147 E_ → K80 a W_ := by
          rintro E_ w92 ⟨i86, xs87, v88, I89, H, rfl, HS⟩
          exact by (
          rw [hG83] at H
          (try dsimp only at H)
          refine hK80 _ _ ?_
          clear hK80
          refine sr_ fun _ hK93 => ?_
          refine mv_ ?_
          refine v_ (fa_ Try.underlying39) ?_
          obtain ⟨A94, c95, hc96, le97, HS⟩ := HS.sO 4 rfl at39_6
          exact by (
          refine v_ (lb_ (HS.mu 2 rfl) Try.underlying25 hc96) ?_
          replace HS := HS.front 1 rfl
          dsimp only [List.eraseIdx] at HS
          replace HS := HS.front 1 rfl
          dsimp only [List.eraseIdx] at HS
          replace HS := HS.deriveO (p := (cF kI A94 x0.f6)) (fun W_ hO_ hN_ => hO_.1)
          replace HS := HS.deriveN (p := (rF kU xs87 I89)) (fun _ _ => HS.getO 3 rfl)
          obtain ⟨t98, ha99, H⟩ := bind_some H
          exact by (
          refine c_ Try.func101 (impl_writer_put.runs k b16 v88 I89 (⟨xs87⟩ : S119) 0 A94 c95 x0.f6 t98 le97 HS ha99) ?_
          clear ha99
          rintro _ w100 ⟨v101, I102, rfl, HS⟩
          replace HS := HS.deriveO (p := (rF kU t98.f0 I102)) (fun W_ hO_ hN_ => hN_.1)
          refine ⟨_, rfl, ?_⟩
          refine dn_ hK93 ?_
          clear hK93
          refine sr_ fun _ hK103 => ?_
          exact by (
          refine mv_ ?_
          refine v_ (fa_ Try.underlying39) ?_
          obtain ⟨A104, c105, hc106, le107, HS⟩ := HS.sO 6 rfl at39_8
          obtain ⟨A108, c109, hc110, le111, HS⟩ := HS.sO 7 rfl at39_9
          refine v_ (ls_ (HS.mu 2 rfl) Try.underlying36 (part_cons (at39_7 (HS.aO 8 rfl)).int (part_cons hc106 (part_cons hc110 (part_cons (at39_10 (HS.aO 8 rfl)).int (part_cons (at39_11 (HS.aO 8 rfl)).int part_nil)))))) ?_
          replace HS := HS.front 1 rfl
          dsimp only [List.eraseIdx] at HS
          replace HS := HS.front 1 rfl
          exact by (
          dsimp only [List.eraseIdx] at HS
          replace HS := HS.deriveO (p := (cF kS3 A108 x0.f7.f2)) (fun W_ hO_ hN_ => hO_.1)
          replace HS := HS.deriveO (p := (cF kS3 A104 x0.f7.f1)) (fun W_ hO_ hN_ => hO_.2.2.1)
          replace HS := HS.deriveN (p := (rF kU t98.f0 I102)) (fun _ _ => HS.getO 4 rfl)
          obtain ⟨t112, ha113, H⟩ := bind_some H
          refine c_ Try.func103 (impl_writer_matrix.runs k b16 v101 I102 (⟨t98.f0⟩ : S119) x0.f7 A104 c105 A108 c109 t112 le107 le111 HS ha113) ?_
          clear ha113
          rintro _ w114 ⟨v115, I116, rfl, HS⟩
          exact by (
          replace HS := HS.deriveO (p := (rF kU t112.f0 I116)) (fun W_ hO_ hN_ => hN_.1)
          refine ⟨_, rfl, ?_⟩
          refine dn_ hK103 ?_
          clear hK103
          refine sr_ fun _ hK117 => ?_
          refine mv_ ?_
          refine v_ (fa_ Try.underlying39) ?_
          refine v_ (fa_ Try.underlying37) ?_
          exact by (
          obtain ⟨A118, c119, hc120, le121, HS⟩ := HS.sO 9 rfl at39_12
          refine v_ (lb_ (HS.mu 2 rfl) Try.underlying23 hc120) ?_
          replace HS := HS.front 1 rfl
          dsimp only [List.eraseIdx] at HS
          replace HS := HS.front 1 rfl
          dsimp only [List.eraseIdx] at HS
          replace HS := HS.deriveO (p := (cF kS3 A118 x0.f8.f0)) (fun W_ hO_ hN_ => hO_.1)
          replace HS := HS.deriveN (p := (rF kU t112.f0 I116)) (fun _ _ => HS.getO 2 rfl)
          exact by (
          obtain ⟨t122, ha123, H⟩ := bind_some H
          refine c_ Try.func104 (impl_writer_turns.runs k b16 v115 I116 (⟨t112.f0⟩ : S119) A118 c119 x0.f8.f0 t122 le121 HS ha123) ?_
          clear ha123
          rintro _ w124 ⟨v125, I126, rfl, HS⟩
          replace HS := HS.deriveO (p := (rF kU t122.f0 I126)) (fun W_ hO_ hN_ => hN_.1)
          refine ⟨_, rfl, ?_⟩
          refine dn_ hK117 ?_
          clear hK117
          exact by (
          refine sr_ fun _ hK127 => ?_
          refine mv_ ?_
          refine v_ (fa_ Try.underlying39) ?_
          refine v_ (fa_ Try.underlying37) ?_
          obtain ⟨A128, c129, hc130, le131, HS⟩ := HS.sO 11 rfl at39_13
          refine v_ (lb_ (HS.mu 2 rfl) Try.underlying23 hc130) ?_
          replace HS := HS.front 1 rfl
          dsimp only [List.eraseIdx] at HS
          exact by (
          replace HS := HS.front 1 rfl
          dsimp only [List.eraseIdx] at HS
          replace HS := HS.deriveO (p := (cF kS3 A128 x0.f8.f1)) (fun W_ hO_ hN_ => hO_.1)
          replace HS := HS.deriveN (p := (rF kU t122.f0 I126)) (fun _ _ => HS.getO 2 rfl)
          obtain ⟨t132, ha133, H⟩ := bind_some H
          refine c_ Try.func104 (impl_writer_turns.runs k b16 v125 I126 (⟨t122.f0⟩ : S119) A128 c129 x0.f8.f1 t132 le131 HS ha133) ?_
          clear ha133
          rintro _ w134 ⟨v135, I136, rfl, HS⟩
          exact by (
          replace HS := HS.deriveO (p := (rF kU t132.f0 I136)) (fun W_ hO_ hN_ => hN_.1)
          refine ⟨_, rfl, ?_⟩
          refine dn_ hK127 ?_
          clear hK127
          refine sr_ fun _ hK137 => ?_
          refine mv_ ?_
          refine v_ (Run.nilCheck rfl rfl) ?_
          refine v_ (fa_ Try.underlying119) ?_
          exact by (
          obtain ⟨A138, c139, rfl⟩ := rowX_slice (HS.mu 1 rfl)
          refine v_ (lb_ (HS.mu 0 rfl) Try.underlying53 rfl) ?_
          have le140 := rowX_le (HS.mu 1 rfl)
          replace HS := HS.freezeO 1 (p := (cF kU A138 (t132.f0))) rfl (fun W_ hm_ h_ => rowX_C (by rfl) hm_ h_.1)
          dsimp only [List.eraseIdx] at HS
          refine v_ (Run.str (xs := t132.f0) rfl Try.underlying53 Try.underlying5 Try.underlying9 rfl (HS.getO 0 rfl)) ?_
          obtain ⟨t141, ha142, H⟩ := bind_some H
          refine cs_ HS Try.func105 (impl_Sealed.calls k (strOfNums t132.f0) t141.1 t141.2 _ ha142) (fun w143 HS => ?_)
          exact by (
          clear ha142
          refine v_ (Run.extract rfl rfl rfl) ?_
          refine v_ (Run.extract rfl rfl rfl) ?_
          refine as_ ?_
          refine as_ ?_
          refine dn_ hK137 ?_
          clear hK137
          obtain ⟨rfl, rfl⟩ := Prod.mk.inj (os H)
          exact rt2 Try.f38 rfl rfl rfl hR_ ⟨rfl, HS.b⟩ )))))))))))))
        exact by (
        clear hK80
        refine WC.loop (fun k_ E_ W_ => ∃ i86 xs87 v88 I89, (∃ o_, impl_ModelText.l0 x0 k_ i86 xs87 = some o_ ∧ G82 o_ = some (r1, r2)) ∧ J90 i86 xs87 v88 I89 E_ W_) k ⟨0, xs74, v75, I76, ⟨_, H, Ho85⟩, rfl, HS⟩ (sb rfl) ?_
        rintro k_ E_ w145 ⟨i86, xs87, v88, I89, ⟨oc84, H, Ho85⟩, rfl, HS⟩
        rcases k_ with _ | k146
        · exact no_ H
        replace H : impl_ModelText.b0 x0 (impl_ModelText.l0 x0 k146) k146 i86 xs87 = some oc84 := H
        unfold impl_ModelText.b0 at H
        refine sr_ fun _ hK147 => ?_
        exact by (
        refine b_ bin_lss ?_
        refine dn_ hK147 ?_
        clear hK147
        refine WC.seq fun _ hK148 => ?_
        rcases eti_ H with ⟨c149, H⟩ | ⟨c149, H⟩
        · refine wn_ (dF c149) ?_
          refine WC.exit ?_
          obtain rfl := os H
          exact WQ.via2 (fun _ _ h_ => h_) X91 ⟨i86, xs87, v88, I89, Ho85, rfl, HS⟩ (sb rfl)
        exact by (
        refine wy_ (dT c149) ?_
        refine WC.skip ?_
        refine via_ hK148 ?_
        clear hK148
        refine WC.seq fun _ hK150 => ?_
        refine WC.block ?_
        refine sr_ fun _ hK151 => ?_
        obtain ⟨⟨q152, q153⟩, H⟩ := if_some H
        exact by (
        obtain ⟨ad154, rfl⟩ := C_open (HS.getO 2 rfl) (by omega)
        refine v_ (ia_ Try.underlying35 32 q152 q153) ?_
        obtain ⟨e155, el156, HS⟩ := HS.elO 2 rfl (by decide) o48 i86 q152 q153
        replace HS := HS.deriveO (p := (kF k48 (x0.f5.getD i86.toNat o48) e155)) (fun W_ hO_ hN_ => hO_.1.1)
        refine v_ (Run.loadS (cs := e155) rfl rfl Try.underlying48 rfl (by rw [el156]; kernel_rfl) (HS.getO 1 rfl).2) ?_
        refine WL.alloc HS (v := .agg #[.slice none 0 0, .int .i64 0, .slice none 0 0, .slice none 0 0, .int .i64 0, .int .i64 0, .int .i64 0, .slice none 0 0, .slice none 0 0, .int .i64 0, .int .i64 0, .int .i64 0, .slice none 0 0, .slice none 0 0, .int .i64 0, .int .i64 0, .int .i64 0, .slice none 0 0, .slice none 0 0, .int .i64 0, .int .i64 0, .slice none 0 0, .int .i64 0, .slice none 0 0, .slice none 0 0, .int .i64 0, .int .i64 0, .int .i64 0, .slice none 0 0, .slice none 0 0, .int .i64 0, .int .i64 0]) (cs := #[.slice none 0 0, .int .i64 0, .slice none 0 0, .slice none 0 0, .int .i64 0, .int .i64 0, .int .i64 0, .slice none 0 0, .slice none 0 0, .int .i64 0, .int .i64 0, .int .i64 0, .slice none 0 0, .slice none 0 0, .int .i64 0, .int .i64 0, .int .i64 0, .slice none 0 0, .slice none 0 0, .int .i64 0, .int .i64 0, .slice none 0 0, .int .i64 0, .slice none 0 0, .slice none 0 0, .int .i64 0, .int .i64 0, .int .i64 0, .slice none 0 0, .slice none 0 0, .int .i64 0, .int .i64 0]) rfl rfl (by decide) rfl (by kernel_rfl) rfl (fun b157 w158 hb157 HS => ?_)
        refine WL.storeS HS 0 rfl rfl rfl rfl rfl rfl (Kd.K_one _ (HS.getO 0 rfl)) (by rw [el156]; kernel_rfl) (by rw [el156]; decide) (splice_all (by rw [el156]; rfl)) (fun w159 HS => ?_)
        dsimp only [List.set] at HS
        exact by (
        refine dn_ hK151 ?_
        clear hK151
        refine sr_ fun _ hK160 => ?_
        refine mv_ ?_
        refine v_ (fa_ Try.underlying48) ?_
        obtain ⟨A161, c162, hc163, le164, HS⟩ := HS.sO 0 rfl at48_0
        refine v_ (lb_ (HS.mu 0 rfl) Try.underlying25 hc163) ?_
        replace HS := HS.front 2 rfl
        exact by (
        dsimp only [List.eraseIdx] at HS
        replace HS := HS.front 2 rfl
        dsimp only [List.eraseIdx] at HS
        replace HS := HS.deriveO (p := (cF kI A161 ((x0.f5.getD i86.toNat o48).f0))) (fun W_ hO_ hN_ => hO_.1)
        replace HS := HS.deriveN (p := (rF kU xs87 I89)) (fun _ _ => HS.getO 5 rfl)
        obtain ⟨t165, ha166, H⟩ := bind_some H
        refine c_ Try.func101 (impl_writer_put.runs k146 b16 v88 I89 (⟨xs87⟩ : S119) 0 A161 c162 ((x0.f5.getD i86.toNat o48).f0) t165 le164 HS ha166) ?_
        clear ha166
        exact by (
        rintro _ w167 ⟨v168, I169, rfl, HS⟩
        replace HS := HS.deriveO (p := (rF kU t165.f0 I169)) (fun W_ hO_ hN_ => hN_.1)
        refine ⟨_, rfl, ?_⟩
        refine dn_ hK160 ?_
        clear hK160
        refine WC.seq fun K170 hK170 => ?_
        refine sr_ fun _ hK171 => ?_
        refine v_ (fa_ Try.underlying48) ?_
        exact by (
        obtain ⟨A172, c173, hc174, le175, HS⟩ := HS.sO 2 rfl at48_2
        obtain ⟨A176, c177, hc178, le179, HS⟩ := HS.sO 3 rfl at48_3
        refine v_ (ls_ (HS.mu 2 rfl) Try.underlying36 (part_cons (at48_1 (HS.aO 4 rfl)).int (part_cons hc174 (part_cons hc178 (part_cons (at48_4 (HS.aO 4 rfl)).int (part_cons (at48_5 (HS.aO 4 rfl)).int part_nil)))))) ?_
        refine v_ (fa_ Try.underlying48) ?_
        obtain ⟨A180, c181, hc182, le183, HS⟩ := HS.sO 4 rfl at48_7
        obtain ⟨A184, c185, hc186, le187, HS⟩ := HS.sO 5 rfl at48_8
        refine v_ (ls_ (HS.mu 2 rfl) Try.underlying36 (part_cons (at48_6 (HS.aO 6 rfl)).int (part_cons hc182 (part_cons hc186 (part_cons (at48_9 (HS.aO 6 rfl)).int (part_cons (at48_10 (HS.aO 6 rfl)).int part_nil)))))) ?_
        refine v_ (fa_ Try.underlying48) ?_
        exact by (
        obtain ⟨A188, c189, hc190, le191, HS⟩ := HS.sO 6 rfl at48_12
        obtain ⟨A192, c193, hc194, le195, HS⟩ := HS.sO 7 rfl at48_13
        refine v_ (ls_ (HS.mu 2 rfl) Try.underlying36 (part_cons (at48_11 (HS.aO 8 rfl)).int (part_cons hc190 (part_cons hc194 (part_cons (at48_14 (HS.aO 8 rfl)).int (part_cons (at48_15 (HS.aO 8 rfl)).int part_nil)))))) ?_
        refine v_ (fa_ Try.underlying48) ?_
        obtain ⟨A196, c197, hc198, le199, HS⟩ := HS.sO 8 rfl at48_17
        obtain ⟨A200, c201, hc202, le203, HS⟩ := HS.sO 9 rfl at48_18
        refine v_ (ls_ (HS.mu 2 rfl) Try.underlying36 (part_cons (at48_16 (HS.aO 10 rfl)).int (part_cons hc198 (part_cons hc202 (part_cons (at48_19 (HS.aO 10 rfl)).int (part_cons (at48_20 (HS.aO 10 rfl)).int part_nil)))))) ?_
        refine WL.litN HS (sz := 5) (z := (.agg #[.int .i64 0, .slice none 0 0, .slice none 0 0, .int .i64 0, .int .i64 0])) rfl rfl (by decide) rfl [[.int .i64 ((x0.f5.getD i86.toNat o48).f1.f0), .slice A172 ((x0.f5.getD i86.toNat o48).f1.f1.length) c173, .slice A176 ((x0.f5.getD i86.toNat o48).f1.f2.length) c177, .int .i64 ((x0.f5.getD i86.toNat o48).f1.f3), .int .i64 ((x0.f5.getD i86.toNat o48).f1.f4)], [.int .i64 ((x0.f5.getD i86.toNat o48).f2.f0), .slice A180 ((x0.f5.getD i86.toNat o48).f2.f1.length) c181, .slice A184 ((x0.f5.getD i86.toNat o48).f2.f2.length) c185, .int .i64 ((x0.f5.getD i86.toNat o48).f2.f3), .int .i64 ((x0.f5.getD i86.toNat o48).f2.f4)], [.int .i64 ((x0.f5.getD i86.toNat o48).f3.f0), .slice A188 ((x0.f5.getD i86.toNat o48).f3.f1.length) c189, .slice A192 ((x0.f5.getD i86.toNat o48).f3.f2.length) c193, .int .i64 ((x0.f5.getD i86.toNat o48).f3.f3), .int .i64 ((x0.f5.getD i86.toNat o48).f3.f4)], [.int .i64 ((x0.f5.getD i86.toNat o48).f4.f0), .slice A196 ((x0.f5.getD i86.toNat o48).f4.f1.length) c197, .slice A200 ((x0.f5.getD i86.toNat o48).f4.f2.length) c201, .int .i64 ((x0.f5.getD i86.toNat o48).f4.f3), .int .i64 ((x0.f5.getD i86.toNat o48).f4.f4)]] ⟨⟨rfl, _, rfl, rfl, rfl⟩, ⟨⟨rfl, _, rfl, rfl, rfl⟩, ⟨⟨rfl, _, rfl, rfl, rfl⟩, ⟨⟨rfl, _, rfl, rfl, rfl⟩, trivial⟩⟩⟩⟩ rfl Try.underlying87 (by kernel_rfl) (by decide) (by decide) (fun v204 w205 HS => ?_)
        exact by (
        replace HS := HS.deriveO (p := (rF k36 [(x0.f5.getD i86.toNat o48).f1, (x0.f5.getD i86.toNat o48).f2, (x0.f5.getD i86.toNat o48).f3, (x0.f5.getD i86.toNat o48).f4] (List.flatten [[.int .i64 ((x0.f5.getD i86.toNat o48).f1.f0), .slice A172 ((x0.f5.getD i86.toNat o48).f1.f1.length) c173, .slice A176 ((x0.f5.getD i86.toNat o48).f1.f2.length) c177, .int .i64 ((x0.f5.getD i86.toNat o48).f1.f3), .int .i64 ((x0.f5.getD i86.toNat o48).f1.f4)], [.int .i64 ((x0.f5.getD i86.toNat o48).f2.f0), .slice A180 ((x0.f5.getD i86.toNat o48).f2.f1.length) c181, .slice A184 ((x0.f5.getD i86.toNat o48).f2.f2.length) c185, .int .i64 ((x0.f5.getD i86.toNat o48).f2.f3), .int .i64 ((x0.f5.getD i86.toNat o48).f2.f4)], [.int .i64 ((x0.f5.getD i86.toNat o48).f3.f0), .slice A188 ((x0.f5.getD i86.toNat o48).f3.f1.length) c189, .slice A192 ((x0.f5.getD i86.toNat o48).f3.f2.length) c193, .int .i64 ((x0.f5.getD i86.toNat o48).f3.f3), .int .i64 ((x0.f5.getD i86.toNat o48).f3.f4)], [.int .i64 ((x0.f5.getD i86.toNat o48).f4.f0), .slice A196 ((x0.f5.getD i86.toNat o48).f4.f1.length) c197, .slice A200 ((x0.f5.getD i86.toNat o48).f4.f2.length) c201, .int .i64 ((x0.f5.getD i86.toNat o48).f4.f3), .int .i64 ((x0.f5.getD i86.toNat o48).f4.f4)]]))) (fun W_ hO_ hN_ => reps_lit ⟨(k36_mk _ ((x0.f5.getD i86.toNat o48).f1) (le175) hO_.2.2.2.2.2.2.2.1 (le179) hO_.2.2.2.2.2.2.1), ⟨(k36_mk _ ((x0.f5.getD i86.toNat o48).f2) (le183) hO_.2.2.2.2.2.1 (le187) hO_.2.2.2.2.1), ⟨(k36_mk _ ((x0.f5.getD i86.toNat o48).f3) (le191) hO_.2.2.2.1 (le195) hO_.2.2.1), ⟨(k36_mk _ ((x0.f5.getD i86.toNat o48).f4) (le199) hO_.2.1 (le203) hO_.1), trivial⟩⟩⟩⟩)
        obtain ⟨A206, c207, rfl⟩ := row_slice (HS.mu 0 rfl)
        refine ln_ Try.underlying87 ?_
        refine mv_ ?_
        refine dn_ hK171 ?_
        clear hK171
        refine WC.block ?_
        have le208 := row_le (HS.mu 0 rfl)
        exact by (
        replace HS := HS.freezeO 0 (p := (fun W => k36.C W A206 4 ([(x0.f5.getD i86.toNat o48).f1, (x0.f5.getD i86.toNat o48).f2, (x0.f5.getD i86.toNat o48).f3, (x0.f5.getD i86.toNat o48).f4]))) rfl (fun W_ hm_ h_ => row_C (by simp) hm_ h_.1)
        dsimp only [List.eraseIdx] at HS
        obtain ⟨G209, hG210, oc211, H, Ho212⟩ := open_G H
        let J217 := fun (i213 : Int) (xs214 : List Int) (v215 : Value) (I216 : List Value) (E_ : Env) (W_ : World) => E_ = [(1, .pointer (some ⟨b2, 0, none⟩)), (4, .pointer (some ⟨b16, 0, none⟩)), (12, .pointer (some ⟨b157, 0, none⟩)), (80, .slice (some ad154) x0.f5.length c24), (81, .int .i64 (x0.f5.length : Int)), (82, .int .i64 i86), (98, .slice A206 4 c207), (99, .int .i64 (4 : Int)), (100, .int .i64 i213)] ∧ St (fun _ => True) w W_ [boxM b16 #[v215] 119, rowX w.heap.size 5 1 v215 xs214.length I216, boxM b157 e155.toArray 48, boxM b2 cs0.toArray 39] [(fun W => k36.C W A206 4 ([(x0.f5.getD i86.toNat o48).f1, (x0.f5.getD i86.toNat o48).f2, (x0.f5.getD i86.toNat o48).f3, (x0.f5.getD i86.toNat o48).f4])), (cF kS3 A200 (x0.f5.getD i86.toNat o48).f4.f2), (cF kS3 A196 (x0.f5.getD i86.toNat o48).f4.f1), (cF kS3 A192 (x0.f5.getD i86.toNat o48).f3.f2), (cF kS3 A188 (x0.f5.getD i86.toNat o48).f3.f1), (cF kS3 A184 (x0.f5.getD i86.toNat o48).f2.f2), (cF kS3 A180 (x0.f5.getD i86.toNat o48).f2.f1), (cF kS3 A176 (x0.f5.getD i86.toNat o48).f1.f2), (cF kS3 A172 (x0.f5.getD i86.toNat o48).f1.f1), (rF kU xs214 I216), (cF kI A161 (x0.f5.getD i86.toNat o48).f0), (kF k48 (x0.f5.getD i86.toNat o48) e155), (cF kS3 A65 x0.f4), (cF k48 (some ad154) x0.f5), (cF k112 A19 x0.f3), (kF k39 x0 cs0)] []
        have X218 : ∀ E_ W_, (∃ i213 xs214 v215 I216, G209 (i213, xs214) = some oc84 ∧ J217 i213 xs214 v215 I216 E_ W_) → ∀ a, Fits a 147 E_ → K170 a W_ := by
          rintro E_ w219 ⟨i213, xs214, v215, I216, H, rfl, HS⟩
          rw [hG210] at H
          (try dsimp only at H)
          exact by (
          refine hK170 _ _ ?_
          clear hK170
          refine sr_ fun _ hK220 => ?_
          refine mv_ ?_
          refine v_ (fa_ Try.underlying48) ?_
          obtain ⟨A221, c222, hc223, le224, HS⟩ := HS.sO 11 rfl at48_21
          refine v_ (lb_ (HS.mu 2 rfl) Try.underlying25 hc223) ?_
          replace HS := HS.front 1 rfl
          exact by (
          dsimp only [List.eraseIdx] at HS
          replace HS := HS.front 1 rfl
          dsimp only [List.eraseIdx] at HS
          replace HS := HS.deriveO (p := (cF kI A221 ((x0.f5.getD i86.toNat o48).f5))) (fun W_ hO_ hN_ => hO_.1)
          replace HS := HS.deriveN (p := (rF kU xs214 I216)) (fun _ _ => HS.getO 11 rfl)
          obtain ⟨t225, ha226, H⟩ := bind_some H
          refine c_ Try.func101 (impl_writer_put.runs k146 b16 v215 I216 (⟨xs214⟩ : S119) 0 A221 c222 ((x0.f5.getD i86.toNat o48).f5) t225 le224 HS ha226) ?_
          clear ha226
          exact by (
          rintro _ w227 ⟨v228, I229, rfl, HS⟩
          replace HS := HS.deriveO (p := (rF kU t225.f0 I229)) (fun W_ hO_ hN_ => hN_.1)
          refine ⟨_, rfl, ?_⟩
          refine dn_ hK220 ?_
          clear hK220
          refine sr_ fun _ hK230 => ?_
          refine mv_ ?_
          refine v_ (fa_ Try.underlying48) ?_
          exact by (
          obtain ⟨A231, c232, hc233, le234, HS⟩ := HS.sO 13 rfl at48_23
          obtain ⟨A235, c236, hc237, le238, HS⟩ := HS.sO 14 rfl at48_24
          refine v_ (ls_ (HS.mu 2 rfl) Try.underlying36 (part_cons (at48_22 (HS.aO 15 rfl)).int (part_cons hc233 (part_cons hc237 (part_cons (at48_25 (HS.aO 15 rfl)).int (part_cons (at48_26 (HS.aO 15 rfl)).int part_nil)))))) ?_
          replace HS := HS.front 1 rfl
          dsimp only [List.eraseIdx] at HS
          replace HS := HS.front 1 rfl
          dsimp only [List.eraseIdx] at HS
          replace HS := HS.deriveO (p := (cF kS3 A235 ((x0.f5.getD i86.toNat o48).f6.f2))) (fun W_ hO_ hN_ => hO_.1)
          exact by (
          replace HS := HS.deriveO (p := (cF kS3 A231 ((x0.f5.getD i86.toNat o48).f6.f1))) (fun W_ hO_ hN_ => hO_.2.2.1)
          replace HS := HS.deriveN (p := (rF kU t225.f0 I229)) (fun _ _ => HS.getO 4 rfl)
          obtain ⟨t239, ha240, H⟩ := bind_some H
          refine c_ Try.func103 (impl_writer_matrix.runs k146 b16 v228 I229 (⟨t225.f0⟩ : S119) ((x0.f5.getD i86.toNat o48).f6) A231 c232 A235 c236 t239 le234 le238 HS ha240) ?_
          clear ha240
          rintro _ w241 ⟨v242, I243, rfl, HS⟩
          replace HS := HS.deriveO (p := (rF kU t239.f0 I243)) (fun W_ hO_ hN_ => hN_.1)
          refine ⟨_, rfl, ?_⟩
          exact by (
          refine dn_ hK230 ?_
          clear hK230
          refine rg_ ?_
          refine mv_ ?_
          refine v_ (fa_ Try.underlying48) ?_
          obtain ⟨A244, c245, hc246, le247, HS⟩ := HS.sO 16 rfl at48_28
          obtain ⟨A248, c249, hc250, le251, HS⟩ := HS.sO 17 rfl at48_29
          refine v_ (ls_ (HS.mu 2 rfl) Try.underlying36 (part_cons (at48_27 (HS.aO 18 rfl)).int (part_cons hc246 (part_cons hc250 (part_cons (at48_30 (HS.aO 18 rfl)).int (part_cons (at48_31 (HS.aO 18 rfl)).int part_nil)))))) ?_
          exact by (
          replace HS := HS.front 1 rfl
          dsimp only [List.eraseIdx] at HS
          replace HS := HS.front 1 rfl
          dsimp only [List.eraseIdx] at HS
          replace HS := HS.deriveO (p := (cF kS3 A248 ((x0.f5.getD i86.toNat o48).f7.f2))) (fun W_ hO_ hN_ => hO_.1)
          replace HS := HS.deriveO (p := (cF kS3 A244 ((x0.f5.getD i86.toNat o48).f7.f1))) (fun W_ hO_ hN_ => hO_.2.2.1)
          replace HS := HS.deriveN (p := (rF kU t239.f0 I243)) (fun _ _ => HS.getO 4 rfl)
          obtain ⟨t252, ha253, H⟩ := bind_some H
          exact by (
          refine c_ Try.func103 (impl_writer_matrix.runs k146 b16 v242 I243 (⟨t239.f0⟩ : S119) ((x0.f5.getD i86.toNat o48).f7) A244 c245 A248 c249 t252 le247 le251 HS ha253) ?_
          clear ha253
          rintro _ w254 ⟨v255, I256, rfl, HS⟩
          replace HS := HS.deriveO (p := (rF kU t252.f0 I256)) (fun W_ hO_ hN_ => hN_.1)
          refine ⟨_, rfl, ?_⟩
          refine dn_ hK150 ?_
          clear hK150
          refine rg_ ?_
          exact by (
          refine b_ bin_add64 ?_
          refine mv_ ?_
          refine WL.done ?_
          exact WQ.round k146 (fun _ _ h_ => h_) (Nat.lt_succ_self _) ⟨(wrap64 (i86 + 1)), t252.f0, v255, I256, ⟨_, H, Ho85⟩, rfl, (St.pk (St.forget HS 2 rfl) [20, 0, 21, 22, 23] [] rfl rfl)⟩ (sb rfl) )))))))))
        clear hK170
        refine WC.loop (fun k_ E_ W_ => ∃ i213 xs214 v215 I216, (∃ o_, impl_ModelText.l1 x0 i86 k_ i213 xs214 = some o_ ∧ G209 o_ = some oc84) ∧ J217 i213 xs214 v215 I216 E_ W_) k146 ⟨0, t165.f0, v168, I169, ⟨_, H, Ho212⟩, rfl, (St.pk HS [0, 2, 3, 4, 5, 6, 7, 8, 9, 10, 11, 12, 14, 16, 17, 18] [] rfl rfl)⟩ (sb rfl) ?_
        rintro k_ E_ w258 ⟨i213, xs214, v215, I216, ⟨oc211, H, Ho212⟩, rfl, HS⟩
        rcases k_ with _ | k259
        · exact no_ H
        exact by (
        replace H : impl_ModelText.b1 x0 i86 (impl_ModelText.l1 x0 i86 k259) k259 i213 xs214 = some oc211 := H
        unfold impl_ModelText.b1 at H
        refine sr_ fun _ hK260 => ?_
        refine b_ bin_lss ?_
        refine dn_ hK260 ?_
        clear hK260
        refine WC.seq fun _ hK261 => ?_
        rcases eti_ H with ⟨c262, H⟩ | ⟨c262, H⟩
        · refine wn_ (dF c262) ?_
          exact by (
          refine WC.exit ?_
          obtain rfl := os H
          exact WQ.via2 (fun _ _ h_ => h_) X218 ⟨i213, xs214, v215, I216, Ho212, rfl, HS⟩ (sb rfl) )
        refine wy_ (dT c262) ?_
        refine WC.skip ?_
        refine via_ hK261 ?_
        clear hK261
        refine WC.seq fun _ hK263 => ?_
        exact by (
        refine WC.block ?_
        refine sr_ fun _ hK264 => ?_
        obtain ⟨⟨q265, q266⟩, H⟩ := if_some H
        obtain ⟨ad267, rfl⟩ := C_open (HS.getO 0 rfl) (by omega)
        refine v_ (ia_ Try.underlying87 5 q265 q266) ?_
        obtain ⟨e268, el269, HS⟩ := HS.elO 0 rfl (by decide) o36 i213 q265 q266
        obtain ⟨A270, c271, hc272, le273, HS⟩ := HS.eO 0 rfl at36_1
        obtain ⟨A274, c275, hc276, le277, HS⟩ := HS.eO 1 rfl at36_2
        exact by (
        refine v_ (Run.loadS (cs := [.int .i64 ((([(x0.f5.getD i86.toNat o48).f1, (x0.f5.getD i86.toNat o48).f2, (x0.f5.getD i86.toNat o48).f3, (x0.f5.getD i86.toNat o48).f4]).getD i213.toNat o36).f0), .slice A270 ((([(x0.f5.getD i86.toNat o48).f1, (x0.f5.getD i86.toNat o48).f2, (x0.f5.getD i86.toNat o48).f3, (x0.f5.getD i86.toNat o48).f4]).getD i213.toNat o36).f1.length) c271, .slice A274 ((([(x0.f5.getD i86.toNat o48).f1, (x0.f5.getD i86.toNat o48).f2, (x0.f5.getD i86.toNat o48).f3, (x0.f5.getD i86.toNat o48).f4]).getD i213.toNat o36).f2.length) c275, .int .i64 ((([(x0.f5.getD i86.toNat o48).f1, (x0.f5.getD i86.toNat o48).f2, (x0.f5.getD i86.toNat o48).f3, (x0.f5.getD i86.toNat o48).f4]).getD i213.toNat o36).f3), .int .i64 ((([(x0.f5.getD i86.toNat o48).f1, (x0.f5.getD i86.toNat o48).f2, (x0.f5.getD i86.toNat o48).f3, (x0.f5.getD i86.toNat o48).f4]).getD i213.toNat o36).f4)]) rfl rfl Try.underlying36 rfl (by kernel_rfl) (cells_part (HS.getO 2 rfl).2 (part_cons (at36_0 (AtK.whole (HS.getO 2 rfl).1)).int (part_cons hc272 (part_cons hc276 (part_cons (at36_3 (AtK.whole (HS.getO 2 rfl).1)).int (part_cons (at36_4 (AtK.whole (HS.getO 2 rfl).1)).int part_nil))))))) ?_
        refine WL.alloc HS (v := .agg #[.int .i64 0, .slice none 0 0, .slice none 0 0, .int .i64 0, .int .i64 0]) (cs := #[.int .i64 0, .slice none 0 0, .slice none 0 0, .int .i64 0, .int .i64 0]) rfl rfl (by decide) rfl (by kernel_rfl) rfl (fun b278 w279 hb278 HS => ?_)
        refine WL.storeW HS 0 rfl rfl rfl rfl rfl rfl (oneL rfl) (by kernel_rfl) rfl (fun w280 HS => ?_)
        dsimp only [List.set] at HS
        refine dn_ hK264 ?_
        clear hK264
        refine rg_ ?_
        refine mv_ ?_
        exact by (
        refine v_ (ls_ (HS.mu 0 rfl) Try.underlying36 part_all) ?_
        replace HS := HS.front 2 rfl
        dsimp only [List.eraseIdx] at HS
        replace HS := HS.front 2 rfl
        dsimp only [List.eraseIdx] at HS
        replace HS := HS.deriveO (p := (cF kS3 A274 ((([(x0.f5.getD i86.toNat o48).f1, (x0.f5.getD i86.toNat o48).f2, (x0.f5.getD i86.toNat o48).f3, (x0.f5.getD i86.toNat o48).f4]).getD i213.toNat o36).f2))) (fun W_ hO_ hN_ => hO_.1)
        replace HS := HS.deriveO (p := (cF kS3 A270 ((([(x0.f5.getD i86.toNat o48).f1, (x0.f5.getD i86.toNat o48).f2, (x0.f5.getD i86.toNat o48).f3, (x0.f5.getD i86.toNat o48).f4]).getD i213.toNat o36).f1))) (fun W_ hO_ hN_ => hO_.2.2.1)
        replace HS := HS.deriveN (p := (rF kU xs214 I216)) (fun _ _ => HS.getO 14 rfl)
        exact by (
        obtain ⟨t281, ha282, H⟩ := bind_some H
        refine c_ Try.func103 (impl_writer_matrix.runs k259 b16 v215 I216 (⟨xs214⟩ : S119) (⟨(([(x0.f5.getD i86.toNat o48).f1, (x0.f5.getD i86.toNat o48).f2, (x0.f5.getD i86.toNat o48).f3, (x0.f5.getD i86.toNat o48).f4]).getD i213.toNat o36).f0, (([(x0.f5.getD i86.toNat o48).f1, (x0.f5.getD i86.toNat o48).f2, (x0.f5.getD i86.toNat o48).f3, (x0.f5.getD i86.toNat o48).f4]).getD i213.toNat o36).f1, (([(x0.f5.getD i86.toNat o48).f1, (x0.f5.getD i86.toNat o48).f2, (x0.f5.getD i86.toNat o48).f3, (x0.f5.getD i86.toNat o48).f4]).getD i213.toNat o36).f2, (([(x0.f5.getD i86.toNat o48).f1, (x0.f5.getD i86.toNat o48).f2, (x0.f5.getD i86.toNat o48).f3, (x0.f5.getD i86.toNat o48).f4]).getD i213.toNat o36).f3, (([(x0.f5.getD i86.toNat o48).f1, (x0.f5.getD i86.toNat o48).f2, (x0.f5.getD i86.toNat o48).f3, (x0.f5.getD i86.toNat o48).f4]).getD i213.toNat o36).f4⟩ : S36) A270 c271 A274 c275 t281 le273 le277 HS ha282) ?_
        clear ha282
        rintro _ w283 ⟨v284, I285, rfl, HS⟩
        replace HS := HS.deriveO (p := (rF kU t281.f0 I285)) (fun W_ hO_ hN_ => hN_.1)
        refine ⟨_, rfl, ?_⟩
        refine dn_ hK263 ?_
        clear hK263
        exact by (
        refine rg_ ?_
        refine b_ bin_add64 ?_
        refine mv_ ?_
        refine WL.done ?_
        exact WQ.round k259 (fun _ _ h_ => h_) (Nat.lt_succ_self _) ⟨(wrap64 (i213 + 1)), t281.f0, v284, I285, ⟨_, H, Ho212⟩, rfl, (St.pk (St.forget HS 2 rfl) [4, 5, 6, 7, 8, 9, 10, 11, 12, 0, 14, 15, 16, 17, 18, 19] [] rfl rfl)⟩ (sb rfl) )))))))))))))))))))
      clear hK63
      refine WC.loop (fun k_ E_ W_ => ∃ i73 xs74 v75 I76, (∃ o_, impl_ModelText.l2 x0 k_ i73 xs74 = some o_ ∧ G69 o_ = some (r1, r2)) ∧ J77 i73 xs74 v75 I76 E_ W_) k ⟨0, xs57, v58, I59, ⟨_, H, Ho72⟩, rfl, HS⟩ (sb rfl) ?_
      rintro k_ E_ w287 ⟨i73, xs74, v75, I76, ⟨oc71, H, Ho72⟩, rfl, HS⟩
      exact by (
      rcases k_ with _ | k288
      · exact no_ H
      replace H : impl_ModelText.b2 x0 (impl_ModelText.l2 x0 k288) k288 i73 xs74 = some oc71 := H
      unfold impl_ModelText.b2 at H
      refine sr_ fun _ hK289 => ?_
      refine b_ bin_lss ?_
      refine dn_ hK289 ?_
      clear hK289
      exact by (
      refine WC.seq fun _ hK290 => ?_
      rcases eti_ H with ⟨c291, H⟩ | ⟨c291, H⟩
      · refine wn_ (dF c291) ?_
        refine WC.exit ?_
        obtain rfl := os H
        exact WQ.via2 (fun _ _ h_ => h_) X78 ⟨i73, xs74, v75, I76, Ho72, rfl, HS⟩ (sb rfl)
      refine wy_ (dT c291) ?_
      refine WC.skip ?_
      exact by (
      refine via_ hK290 ?_
      clear hK290
      refine WC.seq fun _ hK292 => ?_
      refine WC.block ?_
      refine sr_ fun _ hK293 => ?_
      obtain ⟨⟨q294, q295⟩, H⟩ := if_some H
      obtain ⟨ad296, rfl⟩ := C_open (HS.getO 0 rfl) (by omega)
      refine v_ (ia_ Try.underlying23 1 q294 q295) ?_
      exact by (
      obtain ⟨A297, c298, le299, HS⟩ := HS.slO 0 rfl i73 q294 q295
      refine v_ (Run.load rfl rfl Try.underlying25 rfl (HS.getO 1 rfl)) ?_
      refine as_ ?_
      refine dn_ hK293 ?_
      clear hK293
      refine rg_ ?_
      refine mv_ ?_
      refine mv_ ?_
      exact by (
      replace HS := HS.front 1 rfl
      dsimp only [List.eraseIdx] at HS
      replace HS := HS.front 1 rfl
      dsimp only [List.eraseIdx] at HS
      replace HS := HS.deriveO (p := (cF kI A297 (x0.f4.getD i73.toNat []))) (fun W_ hO_ hN_ => hO_.1)
      replace HS := HS.deriveN (p := (rF kU xs74 I76)) (fun _ _ => HS.getO 4 rfl)
      obtain ⟨t300, ha301, H⟩ := bind_some H
      refine c_ Try.func101 (impl_writer_put.runs k288 b16 v75 I76 (⟨xs74⟩ : S119) 128 A297 c298 (x0.f4.getD i73.toNat []) t300 le299 HS ha301) ?_
      exact by (
      clear ha301
      rintro _ w302 ⟨v303, I304, rfl, HS⟩
      replace HS := HS.deriveO (p := (rF kU t300.f0 I304)) (fun W_ hO_ hN_ => hN_.1)
      refine ⟨_, rfl, ?_⟩
      refine dn_ hK292 ?_
      clear hK292
      refine rg_ ?_
      refine b_ bin_add64 ?_
      exact by (
      refine mv_ ?_
      refine WL.done ?_
      exact WQ.round k288 (fun _ _ h_ => h_) (Nat.lt_succ_self _) ⟨(wrap64 (i73 + 1)), t300.f0, v303, I304, ⟨_, H, Ho72⟩, rfl, (St.pk HS [3, 0, 5, 6, 7] [] rfl rfl)⟩ (sb rfl) )))))))))
    clear hK50
    refine WC.loop (fun k_ E_ W_ => ∃ i56 xs57 v58 I59, (∃ o_, impl_ModelText.l3 x0 k_ i56 xs57 = some o_ ∧ G52 o_ = some (r1, r2)) ∧ J60 i56 xs57 v58 I59 E_ W_) k ⟨0, xs44, v45, I46, ⟨_, H, Ho55⟩, rfl, HS⟩ (sb rfl) ?_
    rintro k_ E_ w306 ⟨i56, xs57, v58, I59, ⟨oc54, H, Ho55⟩, rfl, HS⟩
    rcases k_ with _ | k307
    · exact no_ H
    exact by (
    replace H : impl_ModelText.b3 x0 (impl_ModelText.l3 x0 k307) k307 i56 xs57 = some oc54 := H
    unfold impl_ModelText.b3 at H
    refine sr_ fun _ hK308 => ?_
    refine b_ bin_lss ?_
    refine dn_ hK308 ?_
    clear hK308
    refine WC.seq fun _ hK309 => ?_
    rcases eti_ H with ⟨c310, H⟩ | ⟨c310, H⟩
    · refine wn_ (dF c310) ?_
      exact by (
      refine WC.exit ?_
      obtain rfl := os H
      exact WQ.via2 (fun _ _ h_ => h_) X61 ⟨i56, xs57, v58, I59, Ho55, rfl, HS⟩ (sb rfl) )
    refine wy_ (dT c310) ?_
    refine WC.skip ?_
    refine via_ hK309 ?_
    clear hK309
    refine WC.seq fun _ hK311 => ?_
    exact by (
    refine WC.block ?_
    refine sr_ fun _ hK312 => ?_
    obtain ⟨⟨q313, q314⟩, H⟩ := if_some H
    obtain ⟨ad315, rfl⟩ := C_open (HS.getO 2 rfl) (by omega)
    refine v_ (ia_ Try.underlying34 2 q313 q314) ?_
    obtain ⟨e316, el317, HS⟩ := HS.elO 2 rfl (by decide) o112 i56 q313 q314
    refine v_ (Run.loadS (cs := [.int .i64 ((x0.f3.getD i56.toNat o112).f0), .int .i64 ((x0.f3.getD i56.toNat o112).f1)]) rfl rfl Try.underlying112 rfl (by kernel_rfl) (cells_part (HS.getO 0 rfl).2 (part_cons (at112_0 (AtK.whole (HS.getO 0 rfl).1)).int (part_cons (at112_1 (AtK.whole (HS.getO 0 rfl).1)).int part_nil)))) ?_
    refine WL.alloc HS (v := .agg #[.int .i64 0, .int .i64 0]) (cs := #[.int .i64 0, .int .i64 0]) rfl rfl (by decide) rfl (by kernel_rfl) rfl (fun b318 w319 hb318 HS => ?_)
    exact by (
    refine WL.storeW HS 0 rfl rfl rfl rfl rfl rfl (oneL rfl) (by kernel_rfl) rfl (fun w320 HS => ?_)
    dsimp only [List.set] at HS
    refine dn_ hK312 ?_
    clear hK312
    refine sr_ fun _ hK321 => ?_
    refine mv_ ?_
    refine v_ (fa_ Try.underlying112) ?_
    refine v_ (lb_ (HS.mu 0 rfl) Try.underlying3 rfl) ?_
    exact by (
    replace HS := HS.front 2 rfl
    dsimp only [List.eraseIdx] at HS
    replace HS := HS.front 2 rfl
    dsimp only [List.eraseIdx] at HS
    replace HS := HS.deriveN (p := (rF kU xs57 I59)) (fun _ _ => HS.getO 1 rfl)
    obtain ⟨t322, ha323, H⟩ := bind_some H
    refine c_ Try.func102 (impl_writer_wide.runs k307 b16 v58 I59 (⟨xs57⟩ : S119) ((x0.f3.getD i56.toNat o112).f0) 2 t322 HS ha323) ?_
    clear ha323
    exact by (
    rintro _ w324 ⟨v325, I326, rfl, HS⟩
    replace HS := HS.deriveO (p := (rF kU t322.f0 I326)) (fun W_ hO_ hN_ => hN_.1)
    refine ⟨_, rfl, ?_⟩
    refine dn_ hK321 ?_
    clear hK321
    refine rg_ ?_
    refine mv_ ?_
    refine v_ (fa_ Try.underlying112) ?_
    exact by (
    refine v_ (lb_ (HS.mu 2 rfl) Try.underlying3 rfl) ?_
    replace HS := HS.front 1 rfl
    dsimp only [List.eraseIdx] at HS
    replace HS := HS.front 1 rfl
    dsimp only [List.eraseIdx] at HS
    replace HS := HS.deriveN (p := (rF kU t322.f0 I326)) (fun _ _ => HS.getO 0 rfl)
    obtain ⟨t327, ha328, H⟩ := bind_some H
    refine c_ Try.func102 (impl_writer_wide.runs k307 b16 v325 I326 (⟨t322.f0⟩ : S119) ((x0.f3.getD i56.toNat o112).f1) 2 t327 HS ha328) ?_
    exact by (
    clear ha328
    rintro _ w329 ⟨v330, I331, rfl, HS⟩
    replace HS := HS.deriveO (p := (rF kU t327.f0 I331)) (fun W_ hO_ hN_ => hN_.1)
    refine ⟨_, rfl, ?_⟩
    refine dn_ hK311 ?_
    clear hK311
    refine rg_ ?_
    refine b_ bin_add64 ?_
    exact by (
    refine mv_ ?_
    refine WL.done ?_
    exact WQ.round k307 (fun _ _ h_ => h_) (Nat.lt_succ_self _) ⟨(wrap64 (i56 + 1)), t327.f0, v330, I331, ⟨_, H, Ho55⟩, rfl, (St.pk (St.forget HS 2 rfl) [0, 4, 5, 6] [] rfl rfl)⟩ (sb rfl) ))))))))))
  clear hK37
  refine WC.loop (fun k_ E_ W_ => ∃ i43 xs44 v45 I46, (∃ o_, impl_ModelText.l4 x0 k_ i43 xs44 = some o_ ∧ G39 o_ = some (r1, r2)) ∧ J47 i43 xs44 v45 I46 E_ W_) k ⟨0, t32.f0, v35, I36, ⟨_, H, Ho42⟩, rfl, (St.pk HS [0, 3, 4, 6] [] rfl rfl)⟩ (sb rfl) ?_
  rintro k_ E_ w333 ⟨i43, xs44, v45, I46, ⟨oc41, H, Ho42⟩, rfl, HS⟩
  rcases k_ with _ | k334
  · exact no_ H
  exact by (
  replace H : impl_ModelText.b4 x0 (impl_ModelText.l4 x0 k334) k334 i43 xs44 = some oc41 := H
  unfold impl_ModelText.b4 at H
  refine sr_ fun _ hK335 => ?_
  refine b_ bin_lss ?_
  refine dn_ hK335 ?_
  clear hK335
  refine WC.seq fun _ hK336 => ?_
  rcases eti_ H with ⟨c337, H⟩ | ⟨c337, H⟩
  · refine wn_ (dF c337) ?_
    exact by (
    refine WC.exit ?_
    obtain rfl := os H
    exact WQ.via2 (fun _ _ h_ => h_) X48 ⟨i43, xs44, v45, I46, Ho42, rfl, HS⟩ (sb rfl) )
  refine wy_ (dT c337) ?_
  refine WC.skip ?_
  refine via_ hK336 ?_
  clear hK336
  refine WC.seq fun _ hK338 => ?_
  exact by (
  refine WC.block ?_
  refine sr_ fun _ hK339 => ?_
  obtain ⟨⟨q340, q341⟩, H⟩ := if_some H
  obtain ⟨ad342, rfl⟩ := C_open (HS.getO 1 rfl) (by omega)
  refine v_ (ia_ Try.underlying35 32 q340 q341) ?_
  obtain ⟨e343, el344, HS⟩ := HS.elO 1 rfl (by decide) o48 i43 q340 q341
  replace HS := HS.deriveO (p := (kF k48 (x0.f5.getD i43.toNat o48) e343)) (fun W_ hO_ hN_ => hO_.1.1)
  refine v_ (Run.loadS (cs := e343) rfl rfl Try.underlying48 rfl (by rw [el344]; kernel_rfl) (HS.getO 1 rfl).2) ?_
  exact by (
  refine WL.alloc HS (v := .agg #[.slice none 0 0, .int .i64 0, .slice none 0 0, .slice none 0 0, .int .i64 0, .int .i64 0, .int .i64 0, .slice none 0 0, .slice none 0 0, .int .i64 0, .int .i64 0, .int .i64 0, .slice none 0 0, .slice none 0 0, .int .i64 0, .int .i64 0, .int .i64 0, .slice none 0 0, .slice none 0 0, .int .i64 0, .int .i64 0, .slice none 0 0, .int .i64 0, .slice none 0 0, .slice none 0 0, .int .i64 0, .int .i64 0, .int .i64 0, .slice none 0 0, .slice none 0 0, .int .i64 0, .int .i64 0]) (cs := #[.slice none 0 0, .int .i64 0, .slice none 0 0, .slice none 0 0, .int .i64 0, .int .i64 0, .int .i64 0, .slice none 0 0, .slice none 0 0, .int .i64 0, .int .i64 0, .int .i64 0, .slice none 0 0, .slice none 0 0, .int .i64 0, .int .i64 0, .int .i64 0, .slice none 0 0, .slice none 0 0, .int .i64 0, .int .i64 0, .slice none 0 0, .int .i64 0, .slice none 0 0, .slice none 0 0, .int .i64 0, .int .i64 0, .int .i64 0, .slice none 0 0, .slice none 0 0, .int .i64 0, .int .i64 0]) rfl rfl (by decide) rfl (by kernel_rfl) rfl (fun b345 w346 hb345 HS => ?_)
  refine WL.storeS HS 0 rfl rfl rfl rfl rfl rfl (Kd.K_one _ (HS.getO 0 rfl)) (by rw [el344]; kernel_rfl) (by rw [el344]; decide) (splice_all (by rw [el344]; rfl)) (fun w347 HS => ?_)
  dsimp only [List.set] at HS
  refine dn_ hK339 ?_
  clear hK339
  refine rg_ ?_
  refine mv_ ?_
  refine v_ (fa_ Try.underlying48) ?_
  exact by (
  refine v_ (fa_ Try.underlying36) ?_
  obtain ⟨A348, c349, hc350, le351, HS⟩ := HS.sO 0 rfl at48_23
  refine v_ (lb_ (HS.mu 0 rfl) Try.underlying23 hc350) ?_
  refine ln_ Try.underlying23 ?_
  refine WL.litN HS (sz := 1) (z := (.int .i64 0)) rfl rfl (by decide) rfl [[.int .i64 ((x0.f5.getD i43.toNat o48).f6.f1.length : Int)]] ⟨⟨rfl, _, rfl, rfl, rfl⟩, trivial⟩ rfl Try.underlying25 (by kernel_rfl) (by decide) (by decide) (fun v352 w353 HS => ?_)
  replace HS := HS.deriveO (p := (rF kI [((x0.f5.getD i43.toNat o48).f6.f1.length : Int)] (List.flatten [[.int .i64 ((x0.f5.getD i43.toNat o48).f6.f1.length : Int)]]))) (fun W_ hO_ hN_ => reps_lit ⟨(K_int _), trivial⟩)
  obtain ⟨A354, c355, rfl⟩ := row_slice (HS.mu 0 rfl)
  have le356 := row_le (HS.mu 0 rfl)
  exact by (
  replace HS := HS.freezeO 0 (p := (fun W => kI.C W A354 1 ([((x0.f5.getD i43.toNat o48).f6.f1.length : Int)]))) rfl (fun W_ hm_ h_ => row_C (by simp) hm_ h_.1)
  dsimp only [List.eraseIdx] at HS
  replace HS := HS.front 2 rfl
  dsimp only [List.eraseIdx] at HS
  replace HS := HS.front 2 rfl
  dsimp only [List.eraseIdx] at HS
  replace HS := HS.deriveO (p := (cF kI A354 ([((x0.f5.getD i43.toNat o48).f6.f1.length : Int)]))) (fun W_ hO_ hN_ => hO_.1)
  replace HS := HS.deriveN (p := (rF kU xs44 I46)) (fun _ _ => HS.getO 6 rfl)
  exact by (
  obtain ⟨t357, ha358, H⟩ := bind_some H
  refine c_ Try.func101 (impl_writer_put.runs k334 b16 v45 I46 (⟨xs44⟩ : S119) 0 A354 c355 ([((x0.f5.getD i43.toNat o48).f6.f1.length : Int)]) t357 le356 HS ha358) ?_
  clear ha358
  rintro _ w359 ⟨v360, I361, rfl, HS⟩
  replace HS := HS.deriveO (p := (rF kU t357.f0 I361)) (fun W_ hO_ hN_ => hN_.1)
  refine ⟨_, rfl, ?_⟩
  refine dn_ hK338 ?_
  clear hK338
  exact by (
  refine rg_ ?_
  refine b_ bin_add64 ?_
  refine mv_ ?_
  refine WL.done ?_
  exact WQ.round k334 (fun _ _ h_ => h_) (Nat.lt_succ_self _) ⟨(wrap64 (i43 + 1)), t357.f0, v360, I361, ⟨_, H, Ho42⟩, rfl, (St.pk (St.forget HS 2 rfl) [0, 7, 8, 9] [] rfl rfl)⟩ (sb rfl) )))))))))))))))))
def impl_FileBytes.g (k : Nat) (x0 : S39) : Option Int := ((impl_ModelText.g k x0).bind fun t5 => (some (t5.1.size : Int)))
theorem impl_FileBytes.runs (k : Nat) (cs0 : List Value) (x0 : S39) (r : Int) (w : World) (hk0 : k39.K w x0 cs0) (H : impl_FileBytes.g k x0 = some r) :
    Calls Try.prog 40 #[.agg cs0.toArray] w fun e w' => e = .returned (.int .i64 r) ∧ Below w.heap.size w w' := by
  have el0 : cs0.length = 14 := k39.K_len hk0
  unfold impl_FileBytes.g at H
  have HS : St (fun _ => True) w w [] [(kF k39 x0 cs0)] [] := St.start (foot_cons (foot_K h39 hk0) foot_nil)
  refine cw_ (n := 12) Try.func40 fun R_ hR_ => ?_
  refine sr_ fun _ hK1 => ?_
  refine bo_ HS (fun b2 w3 hb2 HS => ?_)
  refine as_ ?_
  refine dn_ hK1 ?_
  refine sr_ fun _ hK4 => ?_
  refine v_ (Run.loadS (cs := cs0) rfl rfl Try.underlying39 rfl (by rw [el0]; kernel_rfl) (box_part (HS.mu 0 rfl) part_all)) ?_
  obtain ⟨t5, ha6, H⟩ := bind_some H
  refine cs_ HS Try.func38 (impl_ModelText.runs k cs0 x0 t5.1 t5.2 _ (HS.getO 0 rfl) ha6) (fun w7 HS => ?_)
  clear ha6
  refine mv_ ?_
  refine v_ (Run.extract rfl rfl rfl) ?_
  refine v_ (Run.extract rfl rfl rfl) ?_
  refine as_ ?_
  refine as_ ?_
  refine dn_ hK4 ?_
  refine sr_ fun _ hK8 => ?_
  refine mv_ ?_
  refine v_ (Run.lenStr rfl Try.underlying9 rfl) ?_
  refine as_ ?_
  refine dn_ hK8 ?_
  obtain rfl := os H
  exact rt1 Try.f40 rfl rfl hR_ ⟨rfl, HS.b⟩
def spec_l11Bytes.b0 (l0 : List Int) (a1 : Int) (rec_ : (List Int) → Int → Option ((List Int) × Int)) (k24 : Nat) (xs11 : List Int) (i14 : Int) : Option ((List Int) × Int) := (if i14 < (l0.length : Int) then (if 0 ≤ i14 ∧ i14 < (l0.length : Int) then (if (xs11.length) < 4294967296 then (rec_ (xs11 ++ [IntKind.u8.wrap (wrap64 ((l0.getD i14.toNat 0) + a1))]) (wrap64 (i14 + 1))) else none) else none) else (some (xs11, i14)))
def spec_l11Bytes.l0 (l0 : List Int) (a1 : Int) : Nat → (List Int) → Int → Option ((List Int) × Int)
  | 0, _, _ => none
  | k + 1, xs11, i14 => spec_l11Bytes.b0 l0 a1 (spec_l11Bytes.l0 l0 a1 k) k xs11 i14
def spec_l11Bytes.g (k : Nat) (l0 : List Int) (a1 : Int) : Option (List Int) := ((spec_l11Bytes.l0 l0 a1 k ([] : List Int) 0).bind (fun oc22 => (some oc22.1)))
theorem spec_l11Bytes.runs (k : Nat) (A0 : Option Addr) (c0 : Nat) (l0 : List Int) (a1 : Int) (r : List Int) (w : World) (hr0 : kI.C w A0 l0.length l0) (hc0 : l0.length ≤ c0) (H : spec_l11Bytes.g k l0 a1 = some r) :
    Calls Try.prog 97 #[.slice A0 l0.length c0, .int .i64 a1] w fun e w' => ∃ (A0_ : Option Addr) (c0_ : Nat), e = .returned (.slice A0_ r.length c0_) ∧ r.length ≤ c0_ ∧ Foot (cF kU A0_ r) w' (fun k_ => w.heap.size ≤ k_) ∧ Below w.heap.size w w' := by
  unfold spec_l11Bytes.g at H
  have HS : St (fun _ => True) w w [] [(cF kI A0 l0)] [] := St.start (foot_cons (foot_C (Kd.heap_int _) hr0) foot_nil)
  refine cw_ (n := 25) Try.func97 fun R_ hR_ => ?_
  refine sr_ fun _ hK1 => ?_
  refine as_ ?_
  refine dn_ hK1 ?_
  refine sr_ fun _ hK2 => ?_
  refine WL.lit0 HS rfl rfl (by decide) rfl Try.underlying53 (sz := 1) (by kernel_rfl) (fun v3 w4 HS => ?_)
  replace HS := HS.deriveN (p := (rF kU ([] : List Int) [])) (fun _ _ => Reps.none _ _)
  refine as_ ?_
  refine dn_ hK2 ?_
  refine WC.seq fun K5 hK5 => ?_
  refine sr_ fun _ hK6 => ?_
  refine as_ ?_
  refine dn_ hK6 ?_
  refine WC.block ?_
  obtain ⟨G7, hG8, oc9, H, Ho10⟩ := open_G H
  let J15 := fun (xs11 : List Int) (v12 : Value) (I13 : List Value) (i14 : Int) (E_ : Env) (W_ : World) => E_ = [(0, .slice A0 l0.length c0), (1, .int .i64 a1), (5, v12), (6, .int .i64 i14)] ∧ St (fun _ => True) w W_ [rowM w.heap.size 5 1 v12 xs11.length I13] [(cF kI A0 l0)] [(rF kU xs11 I13)]
  have X16 : ∀ E_ W_, (∃ xs11 v12 I13 i14, G7 (xs11, i14) = some r ∧ J15 xs11 v12 I13 i14 E_ W_) → ∀ a, Fits a 25 E_ → K5 a W_ := by
    rintro E_ w17 ⟨xs11, v12, I13, i14, H, rfl, HS⟩
    rw [hG8] at H
    (try dsimp only at H)
    refine hK5 _ _ ?_
    refine sr_ fun _ hK18 => ?_
    refine mv_ ?_
    refine as_ ?_
    refine dn_ hK18 ?_
    refine WC.ret ?_
    obtain ⟨A19, c20, rfl⟩ := row_slice (HS.mu 0 rfl)
    have le21 := row_le (HS.mu 0 rfl)
    replace HS := HS.freezeN 0 (p := (cF kU A19 (xs11))) rfl (fun W_ hm_ h_ => row_C (by rfl) hm_ h_.1)
    dsimp only [List.eraseIdx] at HS
    obtain rfl := os H
    exact fin1 Try.f97 rfl rfl hR_ ⟨_, _, rfl, le21, (foot_fresh (HS.footN 0 rfl)), HS.b⟩
  refine WC.loop (fun k_ E_ W_ => ∃ xs11 v12 I13 i14, (∃ o_, spec_l11Bytes.l0 l0 a1 k_ xs11 i14 = some o_ ∧ G7 o_ = some r) ∧ J15 xs11 v12 I13 i14 E_ W_) k ⟨([] : List Int), v3, ([]), 0, ⟨_, H, Ho10⟩, rfl, HS⟩ (sb rfl) ?_
  rintro k_ E_ w23 ⟨xs11, v12, I13, i14, ⟨oc9, H, Ho10⟩, rfl, HS⟩
  rcases k_ with _ | k24
  · exact no_ H
  replace H : spec_l11Bytes.b0 l0 a1 (spec_l11Bytes.l0 l0 a1 k24) k24 xs11 i14 = some oc9 := H
  unfold spec_l11Bytes.b0 at H
  refine WC.seq fun _ hK25 => ?_
  refine sr_ fun _ hK26 => ?_
  refine mv_ ?_
  refine mv_ ?_
  refine ln_ Try.underlying25 ?_
  refine b_ bin_lss ?_
  refine dn_ hK26 ?_
  rcases eti_ H with ⟨c27, H⟩ | ⟨c27, H⟩
  · refine wn_ (dF c27) ?_
    refine WC.exit ?_
    obtain rfl := os H
    exact WQ.via2 (fun _ _ h_ => h_) X16 ⟨xs11, v12, I13, i14, Ho10, rfl, HS⟩ (sb rfl)
  refine wy_ (dT c27) ?_
  refine WC.skip ?_
  refine via_ hK25 ?_
  refine WC.seq fun _ hK28 => ?_
  refine WC.block ?_
  refine rg_ ?_
  refine mv_ ?_
  refine mv_ ?_
  refine mv_ ?_
  obtain ⟨⟨q29, q30⟩, H⟩ := if_some H
  obtain ⟨ad31, rfl⟩ := C_open (HS.getO 0 rfl) (by omega)
  refine v_ (ia_ Try.underlying25 1 q29 q30) ?_
  refine v_ (Run.load rfl rfl Try.underlying3 rfl (int_cell (HS.getO 0 rfl) i14 q29 q30)) ?_
  refine mv_ ?_
  refine b_ bin_add64 ?_
  refine v_ (Run.convI rfl Try.underlying3 Try.underlying5 rfl) ?_
  refine WL.val rfl rfl (by decide) (Run.lit1 (z := (.int .u8 0)) (vs := [.int .u8 (IntKind.u8.wrap (wrap64 ((l0.getD i14.toNat 0) + a1)))]) rfl rfl rfl Try.underlying53 (by kernel_rfl) (Nat.le_of_ble_eq_true rfl) (Nat.le_of_ble_eq_true rfl)) ?_
  have HS1 := HS.below (below_alloc (Below.refl _ _) (.cells #[.int .u8 (IntKind.u8.wrap (wrap64 ((l0.getD i14.toNat 0) + a1)))] 5))
  obtain ⟨q32, H⟩ := if_some H
  refine WL.append HS1 0 rfl rfl rfl (by decide) rfl (.int .u8 0) 1 Try.underlying53 (by kernel_rfl) rfl (by decide) (by decide) rfl rfl [.int .u8 (IntKind.u8.wrap (wrap64 ((l0.getD i14.toNat 0) + a1)))] rfl (lit_news _ _ _) (oneL rfl) (by omega) ((xs11 ++ [IntKind.u8.wrap (wrap64 ((l0.getD i14.toNat 0) + a1))]).length) (by simp) (fun v33 w34 I35 hI36 HS => ?_)
  dsimp only [List.set] at HS
  replace HS := HS.deriveN (p := (rF kU (xs11 ++ [IntKind.u8.wrap (wrap64 ((l0.getD i14.toNat 0) + a1))]) I35)) (fun W_ hN_ => reps_snoc hI36 hN_.1 (K_int _))
  clear HS1
  refine as_ ?_
  refine dn_ hK28 ?_
  refine rg_ ?_
  refine mv_ ?_
  refine b_ bin_add64 ?_
  refine as_ ?_
  refine WL.done ?_
  exact WQ.round k24 (fun _ _ h_ => h_) (Nat.lt_succ_self _) ⟨(xs11 ++ [IntKind.u8.wrap (wrap64 ((l0.getD i14.toNat 0) + a1))]), v33, I35, (wrap64 (i14 + 1)), ⟨_, H, Ho10⟩, rfl, (St.pk HS [0] [0] rfl rfl)⟩ (sb rfl)
def spec_l11Two.g (k : Nat) (a0 : Int) : Option (List Int) := (some ([IntKind.u8.wrap (wrap64 (Int.tdiv a0 256)), IntKind.u8.wrap (Int.tmod a0 256)]))
theorem spec_l11Two.runs (k : Nat) (a0 : Int) (r : List Int) (w : World) (H : spec_l11Two.g k a0 = some r) :
    Calls Try.prog 96 #[.int .i64 a0] w fun e w' => ∃ (A0_ : Option Addr) (c0_ : Nat), e = .returned (.slice A0_ r.length c0_) ∧ r.length ≤ c0_ ∧ Foot (cF kU A0_ r) w' (fun k_ => w.heap.size ≤ k_) ∧ Below w.heap.size w w' := by
  unfold spec_l11Two.g at H
  have HS : St (fun _ => True) w w [] [] [] := St.start foot_nil
  refine cw_ (n := 10) Try.func96 fun R_ hR_ => ?_
  refine sr_ fun _ hK1 => ?_
  refine as_ ?_
  refine dn_ hK1 ?_
  refine sr_ fun _ hK2 => ?_
  refine mv_ ?_
  refine v_ (Run.bin rfl rfl rfl (bin_quo64 (show (256 : Int) ≠ 0 by decide))) ?_
  refine v_ (Run.convI rfl Try.underlying3 Try.underlying5 rfl) ?_
  refine mv_ ?_
  refine v_ (Run.bin rfl rfl rfl (bin_rem (show (256 : Int) ≠ 0 by decide))) ?_
  refine v_ (Run.convI rfl Try.underlying3 Try.underlying5 rfl) ?_
  refine WL.litN HS (sz := 1) (z := (.int .u8 0)) rfl rfl (by decide) rfl [[.int .u8 (IntKind.u8.wrap (wrap64 (Int.tdiv a0 256)))], [.int .u8 (IntKind.u8.wrap (Int.tmod a0 256))]] ⟨⟨rfl, _, rfl, rfl, rfl⟩, ⟨⟨rfl, _, rfl, rfl, rfl⟩, trivial⟩⟩ rfl Try.underlying53 (by kernel_rfl) (by decide) (by decide) (fun v3 w4 HS => ?_)
  replace HS := HS.deriveN (p := (rF kU [IntKind.u8.wrap (wrap64 (Int.tdiv a0 256)), IntKind.u8.wrap (Int.tmod a0 256)] (List.flatten [[.int .u8 (IntKind.u8.wrap (wrap64 (Int.tdiv a0 256)))], [.int .u8 (IntKind.u8.wrap (Int.tmod a0 256))]]))) (fun W_ hN_ => reps_lit ⟨(K_int _), ⟨(K_int _), trivial⟩⟩)
  refine as_ ?_
  refine dn_ hK2 ?_
  refine WC.ret ?_
  obtain ⟨A5, c6, rfl⟩ := row_slice (HS.mu 0 rfl)
  have le7 := row_le (HS.mu 0 rfl)
  replace HS := HS.freezeN 0 (p := (fun W => kU.C W A5 2 ([IntKind.u8.wrap (wrap64 (Int.tdiv a0 256)), IntKind.u8.wrap (Int.tmod a0 256)]))) rfl (fun W_ hm_ h_ => row_C (by simp) hm_ h_.1)
  dsimp only [List.eraseIdx] at HS
  obtain rfl := os H
  exact fin1 Try.f96 rfl rfl hR_ ⟨_, _, rfl, le7, (foot_fresh (HS.footN 0 rfl)), HS.b⟩
def spec_l11Matrix.b0 (x0 : S36) (rec_ : (List Int) → (List Int) → Int → Option ((List Int) × (List Int) × Int)) (k59 : Nat) (xs16 : List Int) (xs19 : List Int) (i22 : Int) : Option ((List Int) × (List Int) × Int) := (if i22 < (x0.f1.length : Int) then (if 0 ≤ i22 ∧ i22 < (x0.f1.length : Int) then (if (xs16.length) + ((x0.f1.getD i22.toNat []).length) < 4294967296 then (if 0 ≤ i22 ∧ i22 < (x0.f2.length : Int) then ((spec_l11Bytes.g k59 (x0.f2.getD i22.toNat []) 0).bind fun t87 => (if (xs19.length) + (t87.length) < 4294967296 then (rec_ (xs16 ++ (x0.f1.getD i22.toNat [])) (xs19 ++ t87) (wrap64 (i22 + 1))) else none)) else none) else none) else none) else (some (xs16, xs19, i22)))
def spec_l11Matrix.l0 (x0 : S36) : Nat → (List Int) → (List Int) → Int → Option ((List Int) × (List Int) × Int)
  | 0, _, _, _ => none
  | k + 1, xs16, xs19, i22 => spec_l11Matrix.b0 x0 (spec_l11Matrix.l0 x0 k) k xs16 xs19 i22
def spec_l11Matrix.g (k : Nat) (x0 : S36) : Option (List Int) := ((spec_l11Matrix.l0 x0 k ([] : List Int) ([] : List Int) 0).bind (fun oc57 => ((spec_PackNibbles.g k oc57.1).bind fun t29 => (if (t29.1).size < 4294967296 then (if ((bytesOf t29.1).length) + (oc57.2.1.length) < 4294967296 then (if (((bytesOf t29.1) ++ oc57.2.1).length) < 4294967296 then (some (((bytesOf t29.1) ++ oc57.2.1) ++ [IntKind.u8.wrap (wrap64 (Int.tdiv x0.f3 65536)), IntKind.u8.wrap (Int.tmod (wrap64 (Int.tdiv x0.f3 256)) 256), IntKind.u8.wrap (Int.tmod x0.f3 256), IntKind.u8.wrap (x0.f4)])) else none) else none) else none))))
theorem spec_l11Matrix.runs (k : Nat) (x0 : S36) (A0_1 : Option Addr) (c0_1 : Nat) (A0_2 : Option Addr) (c0_2 : Nat) (r : List Int) (w : World) (hr0_1 : kS3.C w A0_1 x0.f1.length x0.f1) (hc0_1 : x0.f1.length ≤ c0_1) (hr0_2 : kS3.C w A0_2 x0.f2.length x0.f2) (hc0_2 : x0.f2.length ≤ c0_2) (H : spec_l11Matrix.g k x0 = some r) :
    Calls Try.prog 98 #[.agg #[.int .i64 x0.f0, .slice A0_1 x0.f1.length c0_1, .slice A0_2 x0.f2.length c0_2, .int .i64 x0.f3, .int .i64 x0.f4]] w fun e w' => ∃ (A0_ : Option Addr) (c0_ : Nat), e = .returned (.slice A0_ r.length c0_) ∧ r.length ≤ c0_ ∧ Foot (cF kU A0_ r) w' (fun k_ => w.heap.size ≤ k_) ∧ Below w.heap.size w w' := by
  unfold spec_l11Matrix.g at H
  have HS : St (fun _ => True) w w [] [(cF kS3 A0_1 x0.f1), (cF kS3 A0_2 x0.f2)] [] := St.start (foot_cons (foot_C (Kd.heap_slice _ (Kd.heap_int _)) hr0_1) (foot_cons (foot_C (Kd.heap_slice _ (Kd.heap_int _)) hr0_2) foot_nil))
  refine cw_ (n := 61) Try.func98 fun R_ hR_ => ?_
  refine sr_ fun _ hK1 => ?_
  refine bo_ HS (fun b2 w3 hb2 HS => ?_)
  refine as_ ?_
  refine dn_ hK1 ?_
  refine sr_ fun _ hK4 => ?_
  refine WL.lit0 HS rfl rfl (by decide) rfl Try.underlying25 (sz := 1) (by kernel_rfl) (fun v5 w6 HS => ?_)
  replace HS := HS.deriveN (p := (rF kI ([] : List Int) [])) (fun _ _ => Reps.none _ _)
  refine as_ ?_
  refine dn_ hK4 ?_
  refine sr_ fun _ hK7 => ?_
  refine WL.lit0 HS rfl rfl (by decide) rfl Try.underlying53 (sz := 1) (by kernel_rfl) (fun v8 w9 HS => ?_)
  replace HS := HS.deriveN (p := (rF kU ([] : List Int) [])) (fun _ _ => Reps.none _ _)
  refine as_ ?_
  refine dn_ hK7 ?_
  refine WC.seq fun K10 hK10 => ?_
  refine sr_ fun _ hK11 => ?_
  refine as_ ?_
  refine dn_ hK11 ?_
  refine WC.block ?_
  obtain ⟨G12, hG13, oc14, H, Ho15⟩ := open_G H
  let J23 := fun (xs16 : List Int) (v17 : Value) (I18 : List Value) (xs19 : List Int) (v20 : Value) (I21 : List Value) (i22 : Int) (E_ : Env) (W_ : World) => E_ = [(1, .pointer (some ⟨b2, 0, none⟩)), (3, v17), (4, v20), (5, .int .i64 i22)] ∧ St (fun _ => True) w W_ [rowM w.heap.size 5 1 v20 xs19.length I21, rowM w.heap.size 3 1 v17 xs16.length I18, boxM b2 #[.int .i64 x0.f0, .slice A0_1 x0.f1.length c0_1, .slice A0_2 x0.f2.length c0_2, .int .i64 x0.f3, .int .i64 x0.f4] 36] [(cF kS3 A0_1 x0.f1), (cF kS3 A0_2 x0.f2)] [(rF kU xs19 I21), (rF kI xs16 I18)]
  have X24 : ∀ E_ W_, (∃ xs16 v17 I18 xs19 v20 I21 i22, G12 (xs16, xs19, i22) = some r ∧ J23 xs16 v17 I18 xs19 v20 I21 i22 E_ W_) → ∀ a, Fits a 61 E_ → K10 a W_ := by
    rintro E_ w25 ⟨xs16, v17, I18, xs19, v20, I21, i22, H, rfl, HS⟩
    rw [hG13] at H
    (try dsimp only at H)
    refine hK10 _ _ ?_
    refine sr_ fun _ hK26 => ?_
    refine mv_ ?_
    obtain ⟨A27, c28, rfl⟩ := row_slice (HS.mu 1 rfl)
    obtain ⟨t29, ha30, H⟩ := bind_some H
    refine cs_ HS Try.func140 (spec_PackNibbles.runs k A27 c28 xs16 t29.1 t29.2 _ (row_C rfl (HS.mu 1 rfl) (HS.getN 1 rfl)) (row_le (HS.mu 1 rfl)) ha30) (fun w31 HS => ?_)
    clear ha30
    refine mv_ ?_
    refine v_ (Run.extract rfl rfl rfl) ?_
    refine v_ (Run.extract rfl rfl rfl) ?_
    refine as_ ?_
    refine as_ ?_
    refine dn_ hK26 ?_
    refine sr_ fun _ hK32 => ?_
    refine mv_ ?_
    obtain ⟨q33, H⟩ := if_some H
    refine WL.bytes HS rfl rfl (by decide) rfl Try.underlying9 Try.underlying53 Try.underlying5 rfl q33 (fun v34 w35 HS => ?_)
    replace HS := HS.deriveN (p := (rF kU (bytesOf t29.1) (bcells t29.1))) (fun W_ hN_ => bcells_reps _)
    refine mv_ ?_
    obtain ⟨q36, H⟩ := if_some H
    obtain ⟨A42, c43, rfl⟩ := row_slice (HS.mu 1 rfl)
    obtain ⟨hl38, h39, hc41⟩ := row_all (dd := kU) (HS.mu 1 rfl) (HS.getN 1 rfl) (by decide)
    refine WL.appendX HS 0 rfl rfl rfl (by decide) rfl (.int .u8 0) 1 Try.underlying53 (by kernel_rfl) rfl (by decide) (by decide) rfl rfl I21 hl38 hc41 h39 (by omega) (((bytesOf t29.1) ++ xs19).length) (by simp <;> omega) (fun v44 w45 I46 hI47 HS => ?_)
    dsimp only [List.set] at HS
    replace HS := HS.deriveN (p := (rF kU ((bytesOf t29.1) ++ xs19) I46)) (fun W_ hN_ => reps_more hI47 hN_.1 hN_.2.1)
    refine as_ ?_
    refine dn_ hK32 ?_
    refine sr_ fun _ hK48 => ?_
    refine mv_ ?_
    refine v_ (fa_ Try.underlying36) ?_
    refine v_ (lb_ (HS.mu 3 rfl) Try.underlying3 rfl) ?_
    refine v_ (Run.bin rfl rfl rfl (bin_quo64 (show (65536 : Int) ≠ 0 by decide))) ?_
    refine v_ (Run.convI rfl Try.underlying3 Try.underlying5 rfl) ?_
    refine v_ (fa_ Try.underlying36) ?_
    refine v_ (lb_ (HS.mu 3 rfl) Try.underlying3 rfl) ?_
    refine v_ (Run.bin rfl rfl rfl (bin_quo64 (show (256 : Int) ≠ 0 by decide))) ?_
    refine v_ (Run.bin rfl rfl rfl (bin_rem (show (256 : Int) ≠ 0 by decide))) ?_
    refine v_ (Run.convI rfl Try.underlying3 Try.underlying5 rfl) ?_
    refine v_ (fa_ Try.underlying36) ?_
    refine v_ (lb_ (HS.mu 3 rfl) Try.underlying3 rfl) ?_
    refine v_ (Run.bin rfl rfl rfl (bin_rem (show (256 : Int) ≠ 0 by decide))) ?_
    refine v_ (Run.convI rfl Try.underlying3 Try.underlying5 rfl) ?_
    refine v_ (fa_ Try.underlying36) ?_
    refine v_ (lb_ (HS.mu 3 rfl) Try.underlying3 rfl) ?_
    refine v_ (Run.convI rfl Try.underlying3 Try.underlying5 rfl) ?_
    refine WL.val rfl rfl (by decide) (Run.litN (sz := 1) (z := (.int .u8 0)) (L := [[.int .u8 (IntKind.u8.wrap (wrap64 (Int.tdiv x0.f3 65536)))], [.int .u8 (IntKind.u8.wrap (Int.tmod (wrap64 (Int.tdiv x0.f3 256)) 256))], [.int .u8 (IntKind.u8.wrap (Int.tmod x0.f3 256))], [.int .u8 (IntKind.u8.wrap (x0.f4))]]) rfl ⟨⟨rfl, _, rfl, rfl, rfl⟩, ⟨⟨rfl, _, rfl, rfl, rfl⟩, ⟨⟨rfl, _, rfl, rfl, rfl⟩, ⟨⟨rfl, _, rfl, rfl, rfl⟩, trivial⟩⟩⟩⟩ rfl Try.underlying53 (by kernel_rfl) (by decide) (by decide)) ?_
    have HS1 := HS.below (below_alloc (Below.refl _ _) (.cells (List.toArray [.int .u8 (IntKind.u8.wrap (wrap64 (Int.tdiv x0.f3 65536))), .int .u8 (IntKind.u8.wrap (Int.tmod (wrap64 (Int.tdiv x0.f3 256)) 256)), .int .u8 (IntKind.u8.wrap (Int.tmod x0.f3 256)), .int .u8 (IntKind.u8.wrap (x0.f4))]) 5))
    obtain ⟨q49, H⟩ := if_some H
    refine WL.appendX HS1 0 rfl rfl rfl (by decide) rfl (.int .u8 0) 1 Try.underlying53 (by kernel_rfl) rfl (by decide) (by decide) rfl rfl [.int .u8 (IntKind.u8.wrap (wrap64 (Int.tdiv x0.f3 65536))), .int .u8 (IntKind.u8.wrap (Int.tmod (wrap64 (Int.tdiv x0.f3 256)) 256)), .int .u8 (IntKind.u8.wrap (Int.tmod x0.f3 256)), .int .u8 (IntKind.u8.wrap (x0.f4))] rfl (fun _ => ⟨_, rfl, lit_news _ _ _⟩) (oneL rfl) (by omega) ((((bytesOf t29.1) ++ xs19) ++ [IntKind.u8.wrap (wrap64 (Int.tdiv x0.f3 65536)), IntKind.u8.wrap (Int.tmod (wrap64 (Int.tdiv x0.f3 256)) 256), IntKind.u8.wrap (Int.tmod x0.f3 256), IntKind.u8.wrap (x0.f4)]).length) (by simp <;> omega) (fun v50 w51 I52 hI53 HS => ?_)
    dsimp only [List.set] at HS
    replace HS := HS.deriveN (p := (rF kU (((bytesOf t29.1) ++ xs19) ++ [IntKind.u8.wrap (wrap64 (Int.tdiv x0.f3 65536)), IntKind.u8.wrap (Int.tmod (wrap64 (Int.tdiv x0.f3 256)) 256), IntKind.u8.wrap (Int.tmod x0.f3 256), IntKind.u8.wrap (x0.f4)]) I52)) (fun W_ hN_ => reps_more (J := List.flatten [[.int .u8 (IntKind.u8.wrap (wrap64 (Int.tdiv x0.f3 65536)))], [.int .u8 (IntKind.u8.wrap (Int.tmod (wrap64 (Int.tdiv x0.f3 256)) 256))], [.int .u8 (IntKind.u8.wrap (Int.tmod x0.f3 256))], [.int .u8 (IntKind.u8.wrap (x0.f4))]]) hI53 hN_.1 (reps_lit ⟨(K_int _), ⟨(K_int _), ⟨(K_int _), ⟨(K_int _), trivial⟩⟩⟩⟩))
    clear HS1
    refine as_ ?_
    refine dn_ hK48 ?_
    refine WC.ret ?_
    obtain ⟨A54, c55, rfl⟩ := rowX_slice (HS.mu 0 rfl)
    have le56 := rowX_le (HS.mu 0 rfl)
    replace HS := HS.freezeN 0 (p := (cF kU A54 ((((bytesOf t29.1) ++ xs19) ++ [IntKind.u8.wrap (wrap64 (Int.tdiv x0.f3 65536)), IntKind.u8.wrap (Int.tmod (wrap64 (Int.tdiv x0.f3 256)) 256), IntKind.u8.wrap (Int.tmod x0.f3 256), IntKind.u8.wrap (x0.f4)])))) rfl (fun W_ hm_ h_ => rowX_C (by rfl) hm_ h_.1)
    dsimp only [List.eraseIdx] at HS
    obtain rfl := os H
    exact fin1 Try.f98 rfl rfl hR_ ⟨_, _, rfl, le56, (foot_fresh (HS.footN 0 rfl)), HS.b⟩
  refine WC.loop (fun k_ E_ W_ => ∃ xs16 v17 I18 xs19 v20 I21 i22, (∃ o_, spec_l11Matrix.l0 x0 k_ xs16 xs19 i22 = some o_ ∧ G12 o_ = some r) ∧ J23 xs16 v17 I18 xs19 v20 I21 i22 E_ W_) k ⟨([] : List Int), v5, ([]), ([] : List Int), v8, ([]), 0, ⟨_, H, Ho15⟩, rfl, HS⟩ (sb rfl) ?_
  rintro k_ E_ w58 ⟨xs16, v17, I18, xs19, v20, I21, i22, ⟨oc14, H, Ho15⟩, rfl, HS⟩
  rcases k_ with _ | k59
  · exact no_ H
  replace H : spec_l11Matrix.b0 x0 (spec_l11Matrix.l0 x0 k59) k59 xs16 xs19 i22 = some oc14 := H
  unfold spec_l11Matrix.b0 at H
  refine WC.seq fun _ hK60 => ?_
  refine sr_ fun _ hK61 => ?_
  refine mv_ ?_
  refine v_ (fa_ Try.underlying36) ?_
  refine v_ (lb_ (HS.mu 2 rfl) Try.underlying23 rfl) ?_
  refine ln_ Try.underlying23 ?_
  refine b_ bin_lss ?_
  refine dn_ hK61 ?_
  rcases eti_ H with ⟨c62, H⟩ | ⟨c62, H⟩
  · refine wn_ (dF c62) ?_
    refine WC.exit ?_
    obtain rfl := os H
    exact WQ.via2 (fun _ _ h_ => h_) X24 ⟨xs16, v17, I18, xs19, v20, I21, i22, Ho15, rfl, HS⟩ (sb rfl)
  refine wy_ (dT c62) ?_
  refine WC.skip ?_
  refine via_ hK60 ?_
  refine WC.seq fun _ hK63 => ?_
  refine WC.block ?_
  refine sr_ fun _ hK64 => ?_
  refine mv_ ?_
  refine v_ (fa_ Try.underlying36) ?_
  refine v_ (lb_ (HS.mu 2 rfl) Try.underlying23 rfl) ?_
  refine mv_ ?_
  obtain ⟨⟨q65, q66⟩, H⟩ := if_some H
  obtain ⟨ad67, rfl⟩ := C_open (HS.getO 0 rfl) (by omega)
  refine v_ (ia_ Try.underlying23 1 q65 q66) ?_
  obtain ⟨A68, c69, le70, HS⟩ := HS.slO 0 rfl i22 q65 q66
  refine v_ (Run.load rfl rfl Try.underlying25 rfl (HS.getO 1 rfl)) ?_
  obtain ⟨q71, H⟩ := if_some H
  obtain ⟨L72, hl73, h74, hF75, hc76⟩ := foot_all (HS.footO 0 rfl) (by decide) rfl
  replace HS := HS.addN (p := (rF kI (x0.f1.getD i22.toNat []) L72)) (fun W_ _ => hF75.now)
  refine WL.appendL HS 1 rfl rfl rfl (by decide) rfl (.int .i64 0) 8 Try.underlying25 (by kernel_rfl) rfl (by decide) (by decide) rfl rfl L72 hl73 hc76 h74 (by omega) ((xs16 ++ (x0.f1.getD i22.toNat [])).length) (by simp <;> omega) (fun v77 w78 I79 hI80 HS => ?_)
  dsimp only [List.set] at HS
  replace HS := HS.deriveN (p := (rF kI (xs16 ++ (x0.f1.getD i22.toNat [])) I79)) (fun W_ hN_ => reps_more hI80 hN_.2.2.1 hN_.1)
  refine as_ ?_
  refine dn_ hK64 ?_
  refine rg_ ?_
  refine mv_ ?_
  refine v_ (fa_ Try.underlying36) ?_
  refine v_ (lb_ (HS.mu 2 rfl) Try.underlying23 rfl) ?_
  refine mv_ ?_
  obtain ⟨⟨q81, q82⟩, H⟩ := if_some H
  obtain ⟨ad83, rfl⟩ := C_open (HS.getO 3 rfl) (by omega)
  refine v_ (ia_ Try.underlying23 1 q81 q82) ?_
  obtain ⟨A84, c85, le86, HS⟩ := HS.slO 3 rfl i22 q81 q82
  refine v_ (Run.load rfl rfl Try.underlying25 rfl (HS.getO 1 rfl)) ?_
  obtain ⟨t87, ha88, H⟩ := bind_some H
  refine c_ Try.func97 (spec_l11Bytes.runs k59 A84 c85 (x0.f2.getD i22.toNat []) 0 t87 _ (HS.getO 0 rfl) le86 ha88) ?_
  clear ha88
  rintro _ w89 ⟨A90, c91, rfl, le92, hf93, hb⟩
  replace HS := HS.newNs hb (foot_cons hf93 foot_nil)
  refine ⟨_, rfl, ?_⟩
  clear hb
  obtain ⟨q94, H⟩ := if_some H
  obtain ⟨L95, hl96, h97, hF98, hc99⟩ := foot_all (HS.footN 0 rfl) (by decide) rfl
  replace HS := HS.addN (p := (rF kU t87 L95)) (fun W_ _ => hF98.now)
  refine WL.appendL HS 0 rfl rfl rfl (by decide) rfl (.int .u8 0) 1 Try.underlying53 (by kernel_rfl) rfl (by decide) (by decide) rfl rfl L95 hl96 hc99 h97 (by omega) ((xs19 ++ t87).length) (by simp <;> omega) (fun v100 w101 I102 hI103 HS => ?_)
  dsimp only [List.set] at HS
  replace HS := HS.deriveN (p := (rF kU (xs19 ++ t87) I102)) (fun W_ hN_ => reps_more hI103 hN_.2.2.2.2.1 hN_.1)
  refine as_ ?_
  refine dn_ hK63 ?_
  refine rg_ ?_
  refine mv_ ?_
  refine b_ bin_add64 ?_
  refine as_ ?_
  refine WL.done ?_
  exact WQ.round k59 (fun _ _ h_ => h_) (Nat.lt_succ_self _) ⟨(xs16 ++ (x0.f1.getD i22.toNat [])), v77, I79, (xs19 ++ t87), v100, I102, (wrap64 (i22 + 1)), ⟨_, H, Ho15⟩, rfl, (St.pk HS [4, 5] [0, 3] rfl rfl)⟩ (sb rfl)
def spec_l11Turns.b1 (l0 : List (List Int)) (i14 : Int) (rec_ : (List Int) → Int → Option ((List Int) × Int)) (k43 : Nat) (xs34 : List Int) (i37 : Int) : Option ((List Int) × Int) := (if 0 ≤ i14 ∧ i14 < (l0.length : Int) then (if i37 < ((l0.getD i14.toNat []).length : Int) then (if 0 ≤ i37 ∧ i37 < ((l0.getD i14.toNat []).length : Int) then ((spec_l11Two.g k43 (wrap64 (((l0.getD i14.toNat []).getD i37.toNat 0) + 128))).bind fun t57 => (if (xs34.length) + (t57.length) < 4294967296 then (rec_ (xs34 ++ t57) (wrap64 (i37 + 1))) else none)) else none) else (some (xs34, i37))) else none)
def spec_l11Turns.l1 (l0 : List (List Int)) (i14 : Int) : Nat → (List Int) → Int → Option ((List Int) × Int)
  | 0, _, _ => none
  | k + 1, xs34, i37 => spec_l11Turns.b1 l0 i14 (spec_l11Turns.l1 l0 i14 k) k xs34 i37
def spec_l11Turns.b0 (l0 : List (List Int)) (rec_ : (List Int) → Int → Option ((List Int) × Int)) (k24 : Nat) (xs11 : List Int) (i14 : Int) : Option ((List Int) × Int) := (if i14 < (l0.length : Int) then ((spec_l11Turns.l1 l0 i14 k24 xs11 0).bind (fun oc41 => (rec_ oc41.1 (wrap64 (i14 + 1))))) else (some (xs11, i14)))
def spec_l11Turns.l0 (l0 : List (List Int)) : Nat → (List Int) → Int → Option ((List Int) × Int)
  | 0, _, _ => none
  | k + 1, xs11, i14 => spec_l11Turns.b0 l0 (spec_l11Turns.l0 l0 k) k xs11 i14
def spec_l11Turns.g (k : Nat) (l0 : List (List Int)) : Option (List Int) := ((spec_l11Turns.l0 l0 k ([] : List Int) 0).bind (fun oc22 => (some oc22.1)))
theorem spec_l11Turns.runs (k : Nat) (A0 : Option Addr) (c0 : Nat) (l0 : List (List Int)) (r : List Int) (w : World) (hr0 : kS3.C w A0 l0.length l0) (hc0 : l0.length ≤ c0) (H : spec_l11Turns.g k l0 = some r) :
    Calls Try.prog 99 #[.slice A0 l0.length c0] w fun e w' => ∃ (A0_ : Option Addr) (c0_ : Nat), e = .returned (.slice A0_ r.length c0_) ∧ r.length ≤ c0_ ∧ Foot (cF kU A0_ r) w' (fun k_ => w.heap.size ≤ k_) ∧ Below w.heap.size w w' := by
  unfold spec_l11Turns.g at H
  have HS : St (fun _ => True) w w [] [(cF kS3 A0 l0)] [] := St.start (foot_cons (foot_C (Kd.heap_slice _ (Kd.heap_int _)) hr0) foot_nil)
  refine cw_ (n := 34) Try.func99 fun R_ hR_ => ?_
  refine sr_ fun _ hK1 => ?_
  refine as_ ?_
  refine dn_ hK1 ?_
  refine sr_ fun _ hK2 => ?_
  refine WL.lit0 HS rfl rfl (by decide) rfl Try.underlying53 (sz := 1) (by kernel_rfl) (fun v3 w4 HS => ?_)
  replace HS := HS.deriveN (p := (rF kU ([] : List Int) [])) (fun _ _ => Reps.none _ _)
  refine as_ ?_
  refine dn_ hK2 ?_
  refine WC.seq fun K5 hK5 => ?_
  refine sr_ fun _ hK6 => ?_
  refine as_ ?_
  refine dn_ hK6 ?_
  refine WC.block ?_
  obtain ⟨G7, hG8, oc9, H, Ho10⟩ := open_G H
  let J15 := fun (xs11 : List Int) (v12 : Value) (I13 : List Value) (i14 : Int) (E_ : Env) (W_ : World) => E_ = [(0, .slice A0 l0.length c0), (3, v12), (4, .int .i64 i14)] ∧ St (fun _ => True) w W_ [rowM w.heap.size 5 1 v12 xs11.length I13] [(cF kS3 A0 l0)] [(rF kU xs11 I13)]
  have X16 : ∀ E_ W_, (∃ xs11 v12 I13 i14, G7 (xs11, i14) = some r ∧ J15 xs11 v12 I13 i14 E_ W_) → ∀ a, Fits a 34 E_ → K5 a W_ := by
    rintro E_ w17 ⟨xs11, v12, I13, i14, H, rfl, HS⟩
    rw [hG8] at H
    (try dsimp only at H)
    refine hK5 _ _ ?_
    refine sr_ fun _ hK18 => ?_
    refine mv_ ?_
    refine as_ ?_
    refine dn_ hK18 ?_
    refine WC.ret ?_
    obtain ⟨A19, c20, rfl⟩ := row_slice (HS.mu 0 rfl)
    have le21 := row_le (HS.mu 0 rfl)
    replace HS := HS.freezeN 0 (p := (cF kU A19 (xs11))) rfl (fun W_ hm_ h_ => row_C (by rfl) hm_ h_.1)
    dsimp only [List.eraseIdx] at HS
    obtain rfl := os H
    exact fin1 Try.f99 rfl rfl hR_ ⟨_, _, rfl, le21, (foot_fresh (HS.footN 0 rfl)), HS.b⟩
  refine WC.loop (fun k_ E_ W_ => ∃ xs11 v12 I13 i14, (∃ o_, spec_l11Turns.l0 l0 k_ xs11 i14 = some o_ ∧ G7 o_ = some r) ∧ J15 xs11 v12 I13 i14 E_ W_) k ⟨([] : List Int), v3, ([]), 0, ⟨_, H, Ho10⟩, rfl, HS⟩ (sb rfl) ?_
  rintro k_ E_ w23 ⟨xs11, v12, I13, i14, ⟨oc9, H, Ho10⟩, rfl, HS⟩
  rcases k_ with _ | k24
  · exact no_ H
  replace H : spec_l11Turns.b0 l0 (spec_l11Turns.l0 l0 k24) k24 xs11 i14 = some oc9 := H
  unfold spec_l11Turns.b0 at H
  refine WC.seq fun _ hK25 => ?_
  refine sr_ fun _ hK26 => ?_
  refine mv_ ?_
  refine mv_ ?_
  refine ln_ Try.underlying23 ?_
  refine b_ bin_lss ?_
  refine dn_ hK26 ?_
  rcases eti_ H with ⟨c27, H⟩ | ⟨c27, H⟩
  · refine wn_ (dF c27) ?_
    refine WC.exit ?_
    obtain rfl := os H
    exact WQ.via2 (fun _ _ h_ => h_) X16 ⟨xs11, v12, I13, i14, Ho10, rfl, HS⟩ (sb rfl)
  refine wy_ (dT c27) ?_
  refine WC.skip ?_
  refine via_ hK25 ?_
  refine WC.seq fun K28 hK28 => ?_
  refine WC.block ?_
  refine sr_ fun _ hK29 => ?_
  refine as_ ?_
  refine dn_ hK29 ?_
  refine WC.block ?_
  obtain ⟨G30, hG31, oc32, H, Ho33⟩ := open_G H
  let J38 := fun (xs34 : List Int) (v35 : Value) (I36 : List Value) (i37 : Int) (E_ : Env) (W_ : World) => E_ = [(0, .slice A0 l0.length c0), (3, v35), (4, .int .i64 i14), (5, .int .i64 i37)] ∧ St (fun _ => True) w W_ [rowM w.heap.size 5 1 v35 xs34.length I36] [(cF kS3 A0 l0)] [(rF kU xs34 I36)]
  have X39 : ∀ E_ W_, (∃ xs34 v35 I36 i37, G30 (xs34, i37) = some oc9 ∧ J38 xs34 v35 I36 i37 E_ W_) → ∀ a, Fits a 34 E_ → K28 a W_ := by
    rintro E_ w40 ⟨xs34, v35, I36, i37, H, rfl, HS⟩
    rw [hG31] at H
    (try dsimp only at H)
    refine hK28 _ _ ?_
    refine rg_ ?_
    refine mv_ ?_
    refine b_ bin_add64 ?_
    refine as_ ?_
    refine WL.done ?_
    exact WQ.round k24 (fun _ _ h_ => h_) (Nat.lt_succ_self _) ⟨xs34, v35, I36, (wrap64 (i14 + 1)), ⟨_, H, Ho10⟩, rfl, HS⟩ (sb rfl)
  refine WC.loop (fun k_ E_ W_ => ∃ xs34 v35 I36 i37, (∃ o_, spec_l11Turns.l1 l0 i14 k_ xs34 i37 = some o_ ∧ G30 o_ = some oc9) ∧ J38 xs34 v35 I36 i37 E_ W_) k24 ⟨xs11, v12, I13, 0, ⟨_, H, Ho33⟩, rfl, HS⟩ (sb rfl) ?_
  rintro k_ E_ w42 ⟨xs34, v35, I36, i37, ⟨oc32, H, Ho33⟩, rfl, HS⟩
  rcases k_ with _ | k43
  · exact no_ H
  replace H : spec_l11Turns.b1 l0 i14 (spec_l11Turns.l1 l0 i14 k43) k43 xs34 i37 = some oc32 := H
  unfold spec_l11Turns.b1 at H
  refine WC.seq fun _ hK44 => ?_
  refine sr_ fun _ hK45 => ?_
  refine mv_ ?_
  refine mv_ ?_
  refine mv_ ?_
  obtain ⟨⟨q46, q47⟩, H⟩ := if_some H
  obtain ⟨ad48, rfl⟩ := C_open (HS.getO 0 rfl) (by omega)
  refine v_ (ia_ Try.underlying23 1 q46 q47) ?_
  obtain ⟨A49, c50, le51, HS⟩ := HS.slO 0 rfl i14 q46 q47
  refine v_ (Run.load rfl rfl Try.underlying25 rfl (HS.getO 1 rfl)) ?_
  refine ln_ Try.underlying25 ?_
  refine b_ bin_lss ?_
  refine dn_ hK45 ?_
  rcases eti_ H with ⟨c52, H⟩ | ⟨c52, H⟩
  · refine wn_ (dF c52) ?_
    refine WC.exit ?_
    obtain rfl := os H
    exact WQ.via2 (fun _ _ h_ => h_) X39 ⟨xs34, v35, I36, i37, Ho33, rfl, (St.pk HS [2] [0] rfl rfl)⟩ (sb rfl)
  refine wy_ (dT c52) ?_
  refine WC.skip ?_
  refine via_ hK44 ?_
  refine WC.seq fun _ hK53 => ?_
  refine WC.block ?_
  refine rg_ ?_
  refine mv_ ?_
  refine mv_ ?_
  refine mv_ ?_
  refine v_ (ia_ Try.underlying23 1 q46 q47) ?_
  refine v_ (Run.load rfl rfl Try.underlying25 rfl (HS.getO 1 rfl)) ?_
  refine mv_ ?_
  obtain ⟨⟨q54, q55⟩, H⟩ := if_some H
  obtain ⟨ad56, rfl⟩ := C_open (HS.getO 0 rfl) (by omega)
  refine v_ (ia_ Try.underlying25 1 q54 q55) ?_
  refine v_ (Run.load rfl rfl Try.underlying3 rfl (int_cell (HS.getO 0 rfl) i37 q54 q55)) ?_
  refine b_ bin_add64 ?_
  obtain ⟨t57, ha58, H⟩ := bind_some H
  refine c_ Try.func96 (spec_l11Two.runs k43 (wrap64 (((l0.getD i14.toNat []).getD i37.toNat 0) + 128)) t57 _  ha58) ?_
  clear ha58
  rintro _ w59 ⟨A60, c61, rfl, le62, hf63, hb⟩
  replace HS := HS.newNs hb (foot_cons hf63 foot_nil)
  refine ⟨_, rfl, ?_⟩
  clear hb
  obtain ⟨q64, H⟩ := if_some H
  obtain ⟨L65, hl66, h67, hF68, hc69⟩ := foot_all (HS.footN 0 rfl) (by decide) rfl
  replace HS := HS.addN (p := (rF kU t57 L65)) (fun W_ _ => hF68.now)
  refine WL.appendL HS 0 rfl rfl rfl (by decide) rfl (.int .u8 0) 1 Try.underlying53 (by kernel_rfl) rfl (by decide) (by decide) rfl rfl L65 hl66 hc69 h67 (by omega) ((xs34 ++ t57).length) (by simp <;> omega) (fun v70 w71 I72 hI73 HS => ?_)
  dsimp only [List.set] at HS
  replace HS := HS.deriveN (p := (rF kU (xs34 ++ t57) I72)) (fun W_ hN_ => reps_more hI73 hN_.2.2.1 hN_.1)
  refine as_ ?_
  refine dn_ hK53 ?_
  refine rg_ ?_
  refine mv_ ?_
  refine b_ bin_add64 ?_
  refine as_ ?_
  refine WL.done ?_
  exact WQ.round k43 (fun _ _ h_ => h_) (Nat.lt_succ_self _) ⟨(xs34 ++ t57), v70, I72, (wrap64 (i37 + 1)), ⟨_, H, Ho33⟩, rfl, (St.pk HS [2] [0] rfl rfl)⟩ (sb rfl)
end Go.Proofs.Ytacbkcofcbglhaa.PFnExactFileBytes
