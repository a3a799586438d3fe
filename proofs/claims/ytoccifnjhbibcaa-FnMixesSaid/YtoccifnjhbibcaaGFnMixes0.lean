/- Functions that the statement reaches, as Lean functions, and the proof that a call of each comes to just its answer; written by this claim's own program. No conditions. -/
import Derived.Test.YtoccifnjhbibcaaPFnMixesx0
import Derived.Test.YtoccifnjhbibcaaPFnMixesx1
import Derived.Test.YtoccifnjhbibcaaPFnMixesx2
import Derived.Test.YtoccifnjhbibcaaPFnMixesx3
import Derived.Test.YtoccifnjhbibcaaPFnMixesx4
import Derived.Test.YtoccifnjhbibcaaPFnMixesx5
import Derived.Test.YtoccifnjhbibcaaPFnMixesx6
import Derived.Test.YtoccifnjhbibcaaVFnMixes1
namespace Go.Proofs.Ytoccifnjhbibcaa.PFnMixes
open Try
open Go.RowKit Go.Proofs.YtoccifnjhbibcaaW.PrintWords Go.Proofs.YtoccifnjhbibcaaW.PrintLast Go.Proofs.YtoccifnjhbibcaaW.PrintMore Go.Proofs.Ytoccifnjhbibcaa.XW Go.Proofs.Ytoccifnjhbibcaa.XOp Go.Proofs.Ytoccifnjhbibcaa.XSt Go.Proofs.Ytoccifnjhbibcaa.XDraw
set_option linter.unusedVariables false
set_option linter.unusedSimpArgs false
set_option maxHeartbeats 4000000
set_option maxRecDepth 20000
structure S92 where
 f0 : List Int
 f1 : Int
 f2 : Int
abbrev kS5 := Kd.slice 5 kU
def spec_l01New.b0 (l0 : List Int) (rec_ : Int → Int → Option (Int × Int)) (k19 : Nat) (i9 : Int) (i10 : Int) : Option (Int × Int) := (if i10 < (l0.length : Int) then (if i10 < 4000 then (if 0 ≤ i10 ∧ i10 < (l0.length : Int) then (rec_ (Go.bits .and .i64 (wrap64 ((wrap64 ((wrap64 (i9 * 131)) + (wrap64 ((l0.getD i10.toNat 0))))) + 7)) 1073741823) (wrap64 (i10 + 1))) else none) else (some (i9, i10))) else (some (i9, i10)))
def spec_l01New.l0 (l0 : List Int) : Nat → Int → Int → Option (Int × Int)
 | 0, _, _ => none
 | k + 1, i9, i10 => spec_l01New.b0 l0 (spec_l01New.l0 l0 k) k i9 i10
def spec_l01New.g (k : Nat) (l0 : List Int) : Option S92 := ((spec_l01New.l0 l0 k (wrap64 (11201 + (l0.length : Int))) 0).bind (fun oc17 => (some (⟨l0, 0, oc17.1⟩ : S92))))
theorem spec_l01New.runs (k : Nat) (A0 : Option Addr) (c0 : Nat) (l0 : List Int) (r : S92) (w : World) (hr0 : kU.C w A0 l0.length l0) (hc0 : l0.length ≤ c0) (H : spec_l01New.g k l0 = some r) :
   Calls prog 21 #[.slice A0 l0.length c0] w fun e w' => ∃ (b0_ : Nat), e = .returned (.pointer (some ⟨b0_, 0, none⟩)) ∧ w.heap.size ≤ b0_ ∧ w'.heap[b0_]? = some (.cells #[.slice A0 l0.length c0, vi r.f1, vi r.f2] 92 (0, 0)) ∧ Below w.heap.size w w' := by
 unfold spec_l01New.g at H
 have HS : St (fun _ => True) w w [] [(cF kU A0 l0)] [] := St.start (foot_cons (foot_C (Kd.heap_int _) hr0) foot_nil)
 refine cw_ (n := 32) func21 fun R_ hR_ => ?_
 refine sr_ fun _ hK1 => ?_
 refine ad_ hK1 ?_
 refine sr_ fun _ hK2 => ?_
 refine mv_ ?_
 refine ln_ underlying22 ?_
 refine b_ bin_add64 ?_
 refine ad_ hK2 ?_
 refine WC.seq fun K3 hK3 => ?_
 refine sr_ fun _ hK4 => ?_
 refine ad_ hK4 ?_
 refine WC.block ?_
 obtain ⟨G5, hG6, oc7, H, Ho8⟩ := open_G H
 let J11 := fun (i9 : Int) (i10 : Int) (E_ : Env) (W_ : World) => E_ = [(0, .slice A0 l0.length c0), (3, vi i9), (4, vi i10)] ∧ St (fun _ => True) w W_ [] [(cF kU A0 l0)] []
 have X12 : ∀ E_ W_, (∃ i9 i10, G5 (i9, i10) = some r ∧ J11 i9 i10 E_ W_) → ∀ a, Fits a 32 E_ → K3 a W_ := by
   rintro E_ w13 ⟨i9, i10, H, rfl, HS⟩
   rw [hG6] at H
   (try dsimp only at H)
   refine hK3 _ _ ?_
   refine sr_ fun _ hK14 => ?_
   refine mv_ ?_
   refine mv_ ?_
   refine v_ (Run.build (cells := #[.slice A0 l0.length c0, vi 0, vi i9]) rfl [(0, .slice A0 l0.length c0), (2, vi i9)] ⟨⟨rfl, rfl⟩, ⟨⟨rfl, rfl⟩, trivial⟩⟩ (by kernel_rfl)) ?_
   refine bo_ HS (fun b15 w16 hb15 HS => ?_)
   refine ad_ hK14 ?_
   obtain rfl := os H
   exact rt1 Try.f21 rfl rfl hR_ ⟨_, rfl, hb15, (HS.mu 0 rfl), HS.b⟩
 clear hK3
 refine WC.loop (fun k_ E_ W_ => ∃ i9 i10, (∃ o_, spec_l01New.l0 l0 k_ i9 i10 = some o_ ∧ G5 o_ = some r) ∧ J11 i9 i10 E_ W_) k ⟨(wrap64 (11201 + (l0.length : Int))), 0, ⟨_, H, Ho8⟩, rfl, HS⟩ (sb rfl) ?_
 rintro k_ E_ w18 ⟨i9, i10, ⟨oc7, H, Ho8⟩, rfl, HS⟩
 rcases k_ with _ | k19
 · exact no_ H
 replace H : spec_l01New.b0 l0 (spec_l01New.l0 l0 k19) k19 i9 i10 = some oc7 := H
 unfold spec_l01New.b0 at H
 refine WC.seq fun _ hK20 => ?_
 refine sr_ fun _ hK21 => ?_
 refine mv_ ?_
 refine mv_ ?_
 refine ln_ underlying22 ?_
 refine b_ bin_lss ?_
 refine mv_ ?_
 rcases eti_ H with ⟨c22, H⟩ | ⟨c22, H⟩
 · refine off_ (c' := false) (dF c22) ?_
   refine off_ (c' := false) (dF c22) ?_
   refine v_ (Run.pickF rfl rfl (dF c22) rfl) ?_
   refine dn_ hK21 (wn_ rfl ?_)
   refine WC.exit ?_
   obtain rfl := os H
   exact wv_ iq X12 ⟨i9, i10, Ho8, rfl, HS⟩
 refine on_ (dT c22) (mv_ ?_)
 refine on_ (dT c22) (b_ bin_lss ?_)
 refine v_ (Run.pickT rfl rfl (dT c22) rfl) ?_
 refine dn_ hK21 ?_
 rcases eti_ H with ⟨c23, H⟩ | ⟨c23, H⟩
 · refine wn_ (dF c23) (WC.exit ?_)
   obtain rfl := os H
   exact wv_ iq X12 ⟨i9, i10, Ho8, rfl, HS⟩
 refine wy_ (dT c23) (WC.skip (via_ hK20 (WC.seq fun _ hK24 => ?_)))
 refine WC.block (rg_ (mv_ ?_))
 refine b_ bin_mul64 ?_
 refine mv_ ?_
 refine mv_ ?_
 obtain ⟨⟨q25, q26⟩, H⟩ := if_some H
 obtain ⟨ad27, rfl⟩ := C_open (HS.getO 0 rfl) (by omega)
 refine v_ (ia_ underlying22 1 q25 q26) ?_
 refine v_ (Run.load rfl rfl underlying5 rfl (int_cell (HS.getO 0 rfl) i10 q25 q26)) ?_
 refine v_ (Run.conv64 rfl underlying5 underlying3 rfl) ?_
 refine b_ bin_add64 ?_
 refine b_ bin_add64 ?_
 refine b_ bin_and ?_
 refine ad_ hK24 ?_
 refine rg_ (mv_ ?_)
 refine b_ bin_add64 ?_
 refine as_ ?_
 refine WL.done ?_
 exact wr_ k19 iq ⟨(Go.bits .and .i64 (wrap64 ((wrap64 ((wrap64 (i9 * 131)) + (wrap64 ((l0.getD i10.toNat 0))))) + 7)) 1073741823), (wrap64 (i10 + 1)), ⟨_, H, Ho8⟩, rfl, HS⟩
def spec_l01Byte.g (k : Nat) (x0 : S92) : Option (Int × S92) := (if x0.f1 < (x0.f0.length : Int) then (if 0 ≤ x0.f1 ∧ x0.f1 < (x0.f0.length : Int) then (some (Go.bits .and .i64 (wrap64 ((Go.bits .and .i64 (Go.bits .xor .i64 ((wrap64 ((wrap64 (x0.f2 * 6364136223846793005)) + 1442695040888963407)) / 8589934592) ((wrap64 ((wrap64 (x0.f2 * 6364136223846793005)) + 1442695040888963407)) / 35184372088832)) 255) + (wrap64 ((x0.f0.getD x0.f1.toNat 0))))) 255, (⟨x0.f0, wrap64 (x0.f1 + 1), wrap64 ((wrap64 (x0.f2 * 6364136223846793005)) + 1442695040888963407)⟩ : S92))) else none) else (some (Go.bits .and .i64 (Go.bits .xor .i64 ((wrap64 ((wrap64 (x0.f2 * 6364136223846793005)) + 1442695040888963407)) / 8589934592) ((wrap64 ((wrap64 (x0.f2 * 6364136223846793005)) + 1442695040888963407)) / 35184372088832)) 255, (⟨x0.f0, x0.f1, wrap64 ((wrap64 (x0.f2 * 6364136223846793005)) + 1442695040888963407)⟩ : S92))))
theorem spec_l01Byte.runs (k : Nat) (b0 : Nat) (x0 : S92) (A0_0 : Option Addr) (c0_0 : Nat) (bs_ : List Nat) (r1 : Int) (y_ : S92) (w0 w : World) (hB_ : Below w0.heap.size w0 w) (hn_ : (b0 :: bs_).Nodup) (hl_ : ∀ k, k ∈ b0 :: bs_ → w0.heap.size ≤ k ∧ k < w.heap.size) (hr0_0 : Foot (cF kU A0_0 x0.f0) w (fun k_ => k_ ∉ b0 :: bs_)) (hc0_0 : x0.f0.length ≤ c0_0) (hb0 : w.heap[b0]? = some (.cells #[.slice A0_0 x0.f0.length c0_0, vi x0.f1, vi x0.f2] 92 (0, 0))) (H : spec_l01Byte.g k x0 = some (r1, y_)) :
   Calls prog 76 #[.pointer (some ⟨b0, 0, none⟩)] w fun e w' => e = .returned (vi r1) ∧ w'.heap[b0]? = some (.cells #[.slice A0_0 x0.f0.length c0_0, vi y_.f1, vi y_.f2] 92 (0, 0)) ∧ RestOf w w' b0 ∧ Below w0.heap.size w0 w' := by
 unfold spec_l01Byte.g at H
 have HS : St (fun _ => True) w0 w [boxM b0 #[.slice A0_0 x0.f0.length c0_0, vi x0.f1, vi x0.f2] 92, keepM w bs_] [(frameF w b0 bs_), (cF kU A0_0 x0.f0)] [] := St.startM hB_ hn_ hl_ hb0 (foot_cons hr0_0 foot_nil)
 refine cw_ (n := 58) func76 fun R_ hR_ => ?_
 refine sr_ fun _ hK1 => ?_
 refine ad_ hK1 ?_
 refine sr_ fun _ hK2 => ?_
 refine mv_ ?_
 refine mv_ ?_
 refine v_ (Run.nilCheck rfl rfl) ?_
 refine v_ (fa_ underlying92) ?_
 refine v_ (lb_ (HS.mu 0 rfl) underlying3 rfl) ?_
 refine b_ bin_mul64 ?_
 refine b_ bin_add64 ?_
 refine v_ (Run.nilCheck rfl rfl) ?_
 refine v_ (fa_ underlying92) ?_
 refine WL.store HS 0 rfl rfl rfl rfl rfl rfl rfl (by kernel_rfl) (ble_ rfl) (cs' := #[.slice A0_0 x0.f0.length c0_0, vi x0.f1, vi (wrap64 ((wrap64 (x0.f2 * 6364136223846793005)) + 1442695040888963407))]) (by kernel_rfl) (fun w3 HS => ?_)
 dsimp only [List.set] at HS
 refine dn_ hK2 (WC.seq fun _ hK4 => ?_)
 refine WC.drawS HS [] rfl rfl (fun w5 HS => ?_)
 have HB := Below.refl w5.heap.size w5
 have HSW := HS
 refine dm_ 0 ?_
 refine dp_ 1 (fun _ => Run.nilCheck rfl rfl) ?_
 refine df_ 2 underlying92 ?_
 refine dm_ 5 ?_
 refine dp_ 6 (fun _ => Run.nilCheck rfl rfl) ?_
 refine df_ 7 underlying92 ?_
 refine bl_ 3 HS (Below.refl _ _) 0 underlying3 rfl ?_
 refine dp_ 4 (fun _ => Run.shr (k := .i64) (j := 33) rfl rfl rfl 8589934592 (by decide) (by decide)) ?_
 refine bl_ 8 HS (Below.refl _ _) 0 underlying3 rfl ?_
 refine dp_ 9 (fun _ => Run.shr (k := .i64) (j := 45) rfl rfl rfl 35184372088832 (by decide) (by decide)) ?_
 refine dp_ 10 (fun _ => Run.bin rfl rfl rfl bin_xor) ?_
 refine dp_ 11 (fun _ => Run.bin rfl rfl rfl bin_and) ?_
 refine dp_ 12 (fun _ => Run.assign rfl rfl) ?_
 refine dd_ ?_
 clear HB HSW
 refine via_ hK4 (WC.seq fun _ hK6 => ?_)
 refine WC.seq fun _ hK7 => ?_
 refine WC.drawS HS [] rfl rfl (fun w8 HS => ?_)
 have HB := Below.refl w8.heap.size w8
 have HSW := HS
 refine dm_ 0 ?_
 refine dp_ 1 (fun _ => Run.nilCheck rfl rfl) ?_
 refine df_ 2 underlying92 ?_
 refine dm_ 4 ?_
 refine dp_ 5 (fun _ => Run.nilCheck rfl rfl) ?_
 refine df_ 6 underlying92 ?_
 refine bl_ 3 HS (Below.refl _ _) 0 underlying3 rfl ?_
 refine bl_ 7 HS (Below.refl _ _) 0 underlying22 rfl ?_
 refine dp_ 8 (fun _ => Run.len (ts := #[]) rfl underlying22 rfl) ?_
 refine dp_ 9 (fun _ => Run.bin rfl rfl rfl bin_lss) ?_
 refine dd_ ?_
 clear HB HSW
 refine via_ hK7 ?_
 rcases eti_ H with ⟨c9, H⟩ | ⟨c9, H⟩
 · refine wn_ (dF c9) (WC.skip (via_ hK6 (sr_ fun _ hK17 => ?_)))
   refine mv_ ?_
   refine ad_ hK17 ?_
   refine WC.ret ?_
   obtain ⟨rfl, rfl⟩ := Prod.mk.inj (os H)
   have HSf := HS
   exact fin1 Try.f76 rfl rfl hR_ ⟨rfl, (HSf.mu 0 rfl), (rest_of (HSf.getO 0 rfl) (HSf.mu 1 rfl)), HSf.b⟩
 refine wy_ (dT c9) (WC.seq fun _ hK10 => ?_)
 refine WC.drawS HS [] rfl rfl (fun w11 HS => ?_)
 have HB := Below.refl w11.heap.size w11
 have HSW := HS
 refine dm_ 0 ?_
 refine dm_ 1 ?_
 refine dp_ 2 (fun _ => Run.nilCheck rfl rfl) ?_
 refine df_ 3 underlying92 ?_
 refine dm_ 5 ?_
 refine dp_ 6 (fun _ => Run.nilCheck rfl rfl) ?_
 refine df_ 7 underlying92 ?_
 refine bl_ 4 HS (Below.refl _ _) 0 underlying22 rfl ?_
 refine bl_ 8 HS (Below.refl _ _) 0 underlying3 rfl ?_
 obtain ⟨⟨q12, q13⟩, H⟩ := if_some H
 obtain ⟨ad14, rfl⟩ := C_open (HS.getO 1 rfl) (by omega)
 refine di_ 9 underlying22 1 q12 q13 ?_
 refine dt_ 10 (Below.refl _ _) (fun w_ hw_ => Run.load rfl rfl underlying5 rfl (int_cell ((HS.below hw_).getO 1 rfl) x0.f1 q12 q13)) ?_
 refine dp_ 11 (fun _ => Run.conv64 rfl underlying5 underlying3 rfl) ?_
 refine dp_ 12 (fun _ => Run.bin rfl rfl rfl bin_add64) ?_
 refine dp_ 13 (fun _ => Run.bin rfl rfl rfl bin_and) ?_
 refine dp_ 14 (fun _ => Run.assign rfl rfl) ?_
 refine dd_ ?_
 clear HB HSW
 refine via_ hK10 (rg_ (mv_ ?_))
 refine mv_ ?_
 refine v_ (Run.nilCheck rfl rfl) ?_
 refine v_ (fa_ underlying92) ?_
 refine v_ (lb_ (HS.mu 0 rfl) underlying3 rfl) ?_
 refine b_ bin_add64 ?_
 refine v_ (Run.nilCheck rfl rfl) ?_
 refine v_ (fa_ underlying92) ?_
 refine WL.store HS 0 rfl rfl rfl rfl rfl rfl rfl (by kernel_rfl) (ble_ rfl) (cs' := #[.slice (some ad14) x0.f0.length c0_0, vi (wrap64 (x0.f1 + 1)), vi (wrap64 ((wrap64 (x0.f2 * 6364136223846793005)) + 1442695040888963407))]) (by kernel_rfl) (fun w15 HS => ?_)
 dsimp only [List.set] at HS
 refine dn_ hK6 (sr_ fun _ hK16 => ?_)
 refine mv_ ?_
 refine ad_ hK16 ?_
 refine WC.ret ?_
 obtain ⟨rfl, rfl⟩ := Prod.mk.inj (os H)
 have HSf := HS
 exact fin1 Try.f76 rfl rfl hR_ ⟨rfl, (HSf.mu 0 rfl), (rest_of (HSf.getO 0 rfl) (HSf.mu 1 rfl)), HSf.b⟩
def spec_l01Below.g (k : Nat) (x0 : S92) (a1 : Int) : Option (Int × S92) := (if a1 ≤ 0 then (some (0, (⟨x0.f0, x0.f1, x0.f2⟩ : S92))) else (if a1 ≤ 256 then ((spec_l01Byte.g k (⟨x0.f0, x0.f1, x0.f2⟩ : S92)).bind fun t10 => (if a1 ≠ 0 then (some (Int.tmod t10.1 a1, (⟨x0.f0, t10.2.f1, t10.2.f2⟩ : S92))) else none)) else ((spec_l01Byte.g k (⟨x0.f0, x0.f1, x0.f2⟩ : S92)).bind fun t15 => ((spec_l01Byte.g k (⟨x0.f0, t15.2.f1, t15.2.f2⟩ : S92)).bind fun t19 => ((spec_l01Byte.g k (⟨x0.f0, t19.2.f1, t19.2.f2⟩ : S92)).bind fun t23 => ((spec_l01Byte.g k (⟨x0.f0, t23.2.f1, t23.2.f2⟩ : S92)).bind fun t27 => (if a1 ≠ 0 then (some (Int.tmod (wrap64 ((wrap64 ((wrap64 ((wrap64 (t15.1 * 16777216)) + (wrap64 (t19.1 * 65536)))) + (wrap64 (t23.1 * 256)))) + t27.1)) a1, (⟨x0.f0, t27.2.f1, t27.2.f2⟩ : S92))) else none)))))))
theorem spec_l01Below.runs (k : Nat) (b0 : Nat) (x0 : S92) (A0_0 : Option Addr) (c0_0 : Nat) (a1 : Int) (bs_ : List Nat) (r1 : Int) (y_ : S92) (w0 w : World) (hB_ : Below w0.heap.size w0 w) (hn_ : (b0 :: bs_).Nodup) (hl_ : ∀ k, k ∈ b0 :: bs_ → w0.heap.size ≤ k ∧ k < w.heap.size) (hr0_0 : Foot (cF kU A0_0 x0.f0) w (fun k_ => k_ ∉ b0 :: bs_)) (hc0_0 : x0.f0.length ≤ c0_0) (hb0 : w.heap[b0]? = some (.cells #[.slice A0_0 x0.f0.length c0_0, vi x0.f1, vi x0.f2] 92 (0, 0))) (H : spec_l01Below.g k x0 a1 = some (r1, y_)) :
   Calls prog 22 #[.pointer (some ⟨b0, 0, none⟩), vi a1] w fun e w' => e = .returned (vi r1) ∧ w'.heap[b0]? = some (.cells #[.slice A0_0 x0.f0.length c0_0, vi y_.f1, vi y_.f2] 92 (0, 0)) ∧ RestOf w w' b0 ∧ Below w0.heap.size w0 w' := by
 unfold spec_l01Below.g at H
 have HS : St (fun _ => True) w0 w [boxM b0 #[.slice A0_0 x0.f0.length c0_0, vi x0.f1, vi x0.f2] 92, keepM w bs_] [(frameF w b0 bs_), (cF kU A0_0 x0.f0)] [] := St.startM hB_ hn_ hl_ hb0 (foot_cons hr0_0 foot_nil)
 refine cw_ (n := 37) func22 fun R_ hR_ => ?_
 refine sr_ fun _ hK1 => ?_
 refine ad_ hK1 ?_
 refine WC.seq fun _ hK2 => ?_
 refine sr_ fun _ hK3 => ?_
 refine mv_ ?_
 refine b_ bin_leq ?_
 refine dn_ hK3 ?_
 rcases ite_ H with ⟨c4, H⟩ | ⟨c4, H⟩
 · refine wy_ (dT c4) (sr_ fun _ hK5 => ?_)
   refine ad_ hK5 ?_
   refine WC.ret ?_
   obtain ⟨rfl, rfl⟩ := Prod.mk.inj (os H)
   have HSf := HS
   exact fin1 Try.f22 rfl rfl hR_ ⟨rfl, (HSf.mu 0 rfl), (rest_of (HSf.getO 0 rfl) (HSf.mu 1 rfl)), HSf.b⟩
 refine wn_ (dF c4) (WC.skip (via_ hK2 (WC.seq fun _ hK6 => ?_)))
 refine sr_ fun _ hK7 => ?_
 refine mv_ ?_
 refine b_ bin_leq ?_
 refine dn_ hK7 ?_
 rcases ite_ H with ⟨c8, H⟩ | ⟨c8, H⟩
 · refine wy_ (dT c8) (sr_ fun _ hK9 => ?_)
   refine mv_ ?_
   obtain ⟨t10, ha11, H⟩ := bind_some H
   refine c_ func76 (spec_l01Byte.runs k b0 (⟨x0.f0, x0.f1, x0.f2⟩ : S92) A0_0 c0_0 _ t10.1 t10.2 _ _ HS.b (HS.nodupM 0 rfl) (HS.boundM 0 rfl) (HS.footOM 0 rfl 1 rfl) hc0_0 (HS.mu 0 rfl) ha11) ?_
   clear ha11
   rintro _ w12 ⟨rfl, hbx_, hrest_, hB1_⟩
   replace HS := HS.calledM 0 rfl hB1_ hrest_ hbx_
   dsimp only [List.set] at HS
   clear hB1_ hrest_ hbx_
   refine ⟨_, rfl, ?_⟩
   refine mv_ ?_
   obtain ⟨z13, H⟩ := if_some H
   refine b_ (bin_rem z13) ?_
   refine ad_ hK9 ?_
   refine WC.ret ?_
   obtain ⟨rfl, rfl⟩ := Prod.mk.inj (os H)
   have HSf := HS
   exact fin1 Try.f22 rfl rfl hR_ ⟨rfl, (HSf.mu 0 rfl), (rest_of (HSf.getO 0 rfl) (HSf.mu 1 rfl)), HSf.b⟩
 refine wn_ (dF c8) (WC.skip (via_ hK6 (sr_ fun _ hK14 => ?_)))
 refine mv_ ?_
 obtain ⟨t15, ha16, H⟩ := bind_some H
 refine c_ func76 (spec_l01Byte.runs k b0 (⟨x0.f0, x0.f1, x0.f2⟩ : S92) A0_0 c0_0 _ t15.1 t15.2 _ _ HS.b (HS.nodupM 0 rfl) (HS.boundM 0 rfl) (HS.footOM 0 rfl 1 rfl) hc0_0 (HS.mu 0 rfl) ha16) ?_
 clear ha16
 rintro _ w17 ⟨rfl, hbx_, hrest_, hB1_⟩
 replace HS := HS.calledM 0 rfl hB1_ hrest_ hbx_
 dsimp only [List.set] at HS
 clear hB1_ hrest_ hbx_
 refine ⟨_, rfl, ?_⟩
 refine ad_ hK14 ?_
 refine sr_ fun _ hK18 => ?_
 refine mv_ ?_
 obtain ⟨t19, ha20, H⟩ := bind_some H
 refine c_ func76 (spec_l01Byte.runs k b0 (⟨x0.f0, t15.2.f1, t15.2.f2⟩ : S92) A0_0 c0_0 _ t19.1 t19.2 _ _ HS.b (HS.nodupM 0 rfl) (HS.boundM 0 rfl) (HS.footOM 0 rfl 1 rfl) hc0_0 (HS.mu 0 rfl) ha20) ?_
 clear ha20
 rintro _ w21 ⟨rfl, hbx_, hrest_, hB1_⟩
 replace HS := HS.calledM 0 rfl hB1_ hrest_ hbx_
 dsimp only [List.set] at HS
 clear hB1_ hrest_ hbx_
 refine ⟨_, rfl, ?_⟩
 refine ad_ hK18 ?_
 refine sr_ fun _ hK22 => ?_
 refine mv_ ?_
 obtain ⟨t23, ha24, H⟩ := bind_some H
 refine c_ func76 (spec_l01Byte.runs k b0 (⟨x0.f0, t19.2.f1, t19.2.f2⟩ : S92) A0_0 c0_0 _ t23.1 t23.2 _ _ HS.b (HS.nodupM 0 rfl) (HS.boundM 0 rfl) (HS.footOM 0 rfl 1 rfl) hc0_0 (HS.mu 0 rfl) ha24) ?_
 clear ha24
 rintro _ w25 ⟨rfl, hbx_, hrest_, hB1_⟩
 replace HS := HS.calledM 0 rfl hB1_ hrest_ hbx_
 dsimp only [List.set] at HS
 clear hB1_ hrest_ hbx_
 refine ⟨_, rfl, ?_⟩
 refine ad_ hK22 ?_
 refine sr_ fun _ hK26 => ?_
 refine mv_ ?_
 obtain ⟨t27, ha28, H⟩ := bind_some H
 refine c_ func76 (spec_l01Byte.runs k b0 (⟨x0.f0, t23.2.f1, t23.2.f2⟩ : S92) A0_0 c0_0 _ t27.1 t27.2 _ _ HS.b (HS.nodupM 0 rfl) (HS.boundM 0 rfl) (HS.footOM 0 rfl 1 rfl) hc0_0 (HS.mu 0 rfl) ha28) ?_
 clear ha28
 rintro _ w29 ⟨rfl, hbx_, hrest_, hB1_⟩
 replace HS := HS.calledM 0 rfl hB1_ hrest_ hbx_
 dsimp only [List.set] at HS
 clear hB1_ hrest_ hbx_
 refine ⟨_, rfl, ?_⟩
 refine ad_ hK26 ?_
 refine sr_ fun _ hK30 => ?_
 refine mv_ ?_
 refine b_ bin_mul64 ?_
 refine mv_ ?_
 refine b_ bin_mul64 ?_
 refine b_ bin_add64 ?_
 refine mv_ ?_
 refine b_ bin_mul64 ?_
 refine b_ bin_add64 ?_
 refine mv_ ?_
 refine b_ bin_add64 ?_
 refine mv_ ?_
 obtain ⟨z31, H⟩ := if_some H
 refine b_ (bin_rem z31) ?_
 refine ad_ hK30 ?_
 refine WC.ret ?_
 obtain ⟨rfl, rfl⟩ := Prod.mk.inj (os H)
 have HSf := HS
 exact fin1 Try.f22 rfl rfl hR_ ⟨rfl, (HSf.mu 0 rfl), (rest_of (HSf.getO 0 rfl) (HSf.mu 1 rfl)), HSf.b⟩
def spec_l05X.b0 (x0 : S92) (a1 : Int) (rec_ : (List Int) → Int → Int → Int → Option ((List Int) × Int × Int × Int)) (k25 : Nat) (xs11 : List Int) (i14 : Int) (i15 : Int) (i16 : Int) : Option ((List Int) × Int × Int × Int) := (if i14 < a1 then ((spec_l01Below.g k25 (⟨x0.f0, i15, i16⟩ : S92) 255).bind fun t30 => (if (xs11.length) < 4294967296 then (rec_ (xs11 ++ [wrap64 (t30.1 - 127)]) (wrap64 (i14 + 1)) t30.2.f1 t30.2.f2) else none)) else (some (xs11, i14, i15, i16)))
def spec_l05X.l0 (x0 : S92) (a1 : Int) : Nat → (List Int) → Int → Int → Int → Option ((List Int) × Int × Int × Int)
 | 0, _, _, _, _ => none
 | k + 1, xs11, i14, i15, i16 => spec_l05X.b0 x0 a1 (spec_l05X.l0 x0 a1 k) k xs11 i14 i15 i16
def spec_l05X.g (k : Nat) (x0 : S92) (a1 : Int) : Option ((List Int) × S92) := ((spec_l05X.l0 x0 a1 k ([] : List Int) 0 x0.f1 x0.f2).bind (fun oc23 => (some (oc23.1, (⟨x0.f0, oc23.2.2.1, oc23.2.2.2⟩ : S92)))))
theorem spec_l05X.runs (k : Nat) (b0 : Nat) (A0_0 : Option Addr) (c0_0 : Nat) (x0 : S92) (a1 : Int) (r1 : List Int) (y_ : S92) {ok0_ : Nat → Prop} {w0_ w : World} {ms_ : List Mu} {fo_ fn_ : List Fact} (hc0_0 : x0.f0.length ≤ c0_0) (HS : St ok0_ w0_ w (boxM b0 #[.slice A0_0 x0.f0.length c0_0, vi x0.f1, vi x0.f2] 92 :: ms_) ((cF kU A0_0 x0.f0) :: fo_) fn_) (H : spec_l05X.g k x0 a1 = some (r1, y_)) :
   Calls prog 24 #[.pointer (some ⟨b0, 0, none⟩), vi a1] w fun e w' => ∃ (v0_ : Value) (bl0_ : List Nat), e = .returned (v0_) ∧ St ok0_ w0_ w' (valM (Dk.slice 3 (Dk.int .i64)) r1 [v0_] bl0_ :: boxM b0 #[.slice A0_0 x0.f0.length c0_0, vi y_.f1, vi y_.f2] 92 :: ms_) fo_ (fn_) := by
 unfold spec_l05X.g at H
 refine cw_ (n := 20) func24 fun R_ hR_ => ?_
 refine sr_ fun _ hK1 => ?_
 refine ad_ hK1 ?_
 refine sr_ fun _ hK2 => ?_
 refine WL.lit0 HS rfl rfl (by decide) rfl underlying24 (sz := 1) (by kernel_rfl) (fun v3 w4 HS => ?_)
 replace HS := HS.deriveN (p := (rF kI ([] : List Int) [])) (fun _ _ => Reps.none _ _)
 refine ad_ hK2 ?_
 refine WC.seq fun K5 hK5 => ?_
 refine sr_ fun _ hK6 => ?_
 refine ad_ hK6 ?_
 refine WC.block ?_
 obtain ⟨G7, hG8, oc9, H, Ho10⟩ := open_G H
 let J17 := fun (xs11 : List Int) v12 I13 (i14 : Int) (i15 : Int) (i16 : Int) (E_ : Env) (W_ : World) => E_ = [(0, .pointer (some ⟨b0, 0, none⟩)), (1, vi a1), (5, v12), (6, vi i14)] ∧ St ok0_ w0_ W_ (rowM w0_.heap.size 3 1 v12 xs11.length I13 :: boxM b0 #[.slice A0_0 x0.f0.length c0_0, vi i15, vi i16] 92 :: ms_) ((cF kU A0_0 x0.f0) :: fo_) ((rF kI xs11 I13) :: fn_)
 have X18 : ∀ E_ W_, (∃ xs11 v12 I13 i14 i15 i16, G7 (xs11, i14, i15, i16) = some (r1, y_) ∧ J17 xs11 v12 I13 i14 i15 i16 E_ W_) → ∀ a, Fits a 20 E_ → K5 a W_ := by
   rintro E_ w19 ⟨xs11, v12, I13, i14, i15, i16, H, rfl, HS⟩
   rw [hG8] at H
   (try dsimp only at H)
   refine hK5 _ _ ?_
   refine sr_ fun _ hK20 => ?_
   refine mv_ ?_
   refine ad_ hK20 ?_
   refine WC.ret ?_
   obtain ⟨A21, c22, rfl⟩ := row_slice (HS.mu 0 rfl)
   replace HS := HS.elsF (xs := xs11) (inner := I13) (Dk.int .i64) (fun _ _ _ h_ => ⟨h_, rfl⟩) (fun _ => (HS.getN 0 rfl))
   replace HS := HS.front 1 rfl
   dsimp only [List.eraseIdx] at HS
   replace HS := HS.seal rfl rfl
   obtain ⟨rfl, rfl⟩ := Prod.mk.inj (os H)
   exact fin1 Try.f24 rfl rfl hR_ ⟨_, _, rfl, St.pick HS (fun W_ h_ => h_.2) (fun W_ h_ => h_.2)⟩
 clear hK5
 refine WC.loop (fun k_ E_ W_ => ∃ xs11 v12 I13 i14 i15 i16, (∃ o_, spec_l05X.l0 x0 a1 k_ xs11 i14 i15 i16 = some o_ ∧ G7 o_ = some (r1, y_)) ∧ J17 xs11 v12 I13 i14 i15 i16 E_ W_) k ⟨([] : List Int), v3, ([]), 0, x0.f1, x0.f2, ⟨_, H, Ho10⟩, rfl, (St.pick HS (fun W_ h_ => ⟨h_.1, h_.2⟩) (fun W_ h_ => ⟨h_.1, h_.2⟩))⟩ (sb rfl) ?_
 rintro k_ E_ w24 ⟨xs11, v12, I13, i14, i15, i16, ⟨oc9, H, Ho10⟩, rfl, HS⟩
 rcases k_ with _ | k25
 · exact no_ H
 replace H : spec_l05X.b0 x0 a1 (spec_l05X.l0 x0 a1 k25) k25 xs11 i14 i15 i16 = some oc9 := H
 unfold spec_l05X.b0 at H
 refine WC.seq fun _ hK26 => ?_
 refine sr_ fun _ hK27 => ?_
 refine mv_ ?_
 refine mv_ ?_
 refine b_ bin_lss ?_
 refine dn_ hK27 ?_
 rcases eti_ H with ⟨c28, H⟩ | ⟨c28, H⟩
 · refine wn_ (dF c28) (WC.exit ?_)
   obtain rfl := os H
   exact wv_ iq X18 ⟨xs11, v12, I13, i14, i15, i16, Ho10, rfl, (St.pick HS (fun W_ h_ => ⟨h_.1, h_.2⟩) (fun W_ h_ => ⟨h_.1, h_.2⟩))⟩
 refine wy_ (dT c28) (WC.skip (via_ hK26 (WC.seq fun _ hK29 => ?_)))
 refine WC.block (rg_ (mv_ ?_))
 refine mv_ ?_
 obtain ⟨t30, ha31, H⟩ := bind_some H
 refine c_ func22 (spec_l01Below.runs k25 b0 (⟨x0.f0, i15, i16⟩ : S92) A0_0 c0_0 255 _ t30.1 t30.2 _ _ HS.b (HS.nodupM 1 rfl) (HS.boundM 1 rfl) (HS.footOM 1 rfl 0 rfl) hc0_0 (HS.mu 1 rfl) ha31) ?_
 clear ha31
 rintro _ w32 ⟨rfl, hbx_, hrest_, hB1_⟩
 replace HS := HS.calledM 1 rfl hB1_ hrest_ hbx_
 dsimp only [List.set] at HS
 clear hB1_ hrest_ hbx_
 refine ⟨_, rfl, ?_⟩
 refine b_ bin_sub64 ?_
 refine WL.val rfl rfl (by decide) (Run.lit1 (z := (vi 0)) (vs := [vi (wrap64 (t30.1 - 127))]) rfl rfl rfl underlying24 (by kernel_rfl) (ble_ rfl) (ble_ rfl)) ?_
 have HS1 := HS.below (below_alloc (Below.refl _ _) (.cells #[vi (wrap64 (t30.1 - 127))] 3))
 obtain ⟨q33, H⟩ := if_some H
 refine WL.append HS1 0 rfl rfl rfl (by decide) rfl (vi 0) 8 underlying24 (by kernel_rfl) rfl (by decide) (by decide) rfl rfl [vi (wrap64 (t30.1 - 127))] rfl (lit_news _ _ _) (oneL rfl) (by omega) ((xs11 ++ [wrap64 (t30.1 - 127)]).length) (by simp) (fun v34 w35 I36 hI37 HS => ?_)
 dsimp only [List.set] at HS
 replace HS := HS.deriveN (p := (rF kI (xs11 ++ [wrap64 (t30.1 - 127)]) I36)) (fun W_ hN_ => reps_snoc hI37 hN_.1 (K_int _))
 clear HS1
 refine ad_ hK29 ?_
 refine rg_ (mv_ ?_)
 refine b_ bin_add64 ?_
 refine as_ ?_
 refine WL.done ?_
 exact wr_ k25 iq ⟨(xs11 ++ [wrap64 (t30.1 - 127)]), v34, I36, (wrap64 (i14 + 1)), t30.2.f1, t30.2.f2, ⟨_, H, Ho10⟩, rfl, (St.pick HS (fun W_ h_ => ⟨h_.1, h_.2⟩) (fun W_ h_ => ⟨h_.1, h_.2.2⟩))⟩
def spec_l16Lists.b0 (x0 : S92) (a1 : Int) (a2 : Int) (rec_ : (List (List Int)) → Int → Int → Int → Option ((List (List Int)) × Int × Int × Int)) (k26 : Nat) (xs11 : List (List Int)) (i15 : Int) (i16 : Int) (i17 : Int) : Option ((List (List Int)) × Int × Int × Int) := (if i15 < a1 then ((spec_l05X.g k26 (⟨x0.f0, i16, i17⟩ : S92) a2).bind fun t31 => (if (xs11.length) < 4294967296 then (rec_ (xs11 ++ [t31.1]) (wrap64 (i15 + 1)) t31.2.f1 t31.2.f2) else none)) else (some (xs11, i15, i16, i17)))
def spec_l16Lists.l0 (x0 : S92) (a1 : Int) (a2 : Int) : Nat → (List (List Int)) → Int → Int → Int → Option ((List (List Int)) × Int × Int × Int)
 | 0, _, _, _, _ => none
 | k + 1, xs11, i15, i16, i17 => spec_l16Lists.b0 x0 a1 a2 (spec_l16Lists.l0 x0 a1 a2 k) k xs11 i15 i16 i17
def spec_l16Lists.g (k : Nat) (x0 : S92) (a1 : Int) (a2 : Int) : Option ((List (List Int)) × S92) := ((spec_l16Lists.l0 x0 a1 a2 k ([] : List (List Int)) 0 x0.f1 x0.f2).bind (fun oc24 => (some (oc24.1, (⟨x0.f0, oc24.2.2.1, oc24.2.2.2⟩ : S92)))))
theorem spec_l16Lists.runs (k : Nat) (b0 : Nat) (A0_0 : Option Addr) (c0_0 : Nat) (x0 : S92) (a1 : Int) (a2 : Int) (r1 : List (List Int)) (y_ : S92) {ok0_ : Nat → Prop} {w0_ w : World} {ms_ : List Mu} {fo_ fn_ : List Fact} (hc0_0 : x0.f0.length ≤ c0_0) (HS : St ok0_ w0_ w (boxM b0 #[.slice A0_0 x0.f0.length c0_0, vi x0.f1, vi x0.f2] 92 :: ms_) ((cF kU A0_0 x0.f0) :: fo_) fn_) (H : spec_l16Lists.g k x0 a1 a2 = some (r1, y_)) :
   Calls prog 23 #[.pointer (some ⟨b0, 0, none⟩), vi a1, vi a2] w fun e w' => ∃ (v0_ : Value) (bl0_ : List Nat), e = .returned (v0_) ∧ St ok0_ w0_ w' (valM (Dk.slice 24 (Dk.slice 3 (Dk.int .i64))) r1 [v0_] bl0_ :: boxM b0 #[.slice A0_0 x0.f0.length c0_0, vi y_.f1, vi y_.f2] 92 :: ms_) fo_ (fn_) := by
 unfold spec_l16Lists.g at H
 refine cw_ (n := 22) func23 fun R_ hR_ => ?_
 refine sr_ fun _ hK1 => ?_
 refine ad_ hK1 ?_
 refine sr_ fun _ hK2 => ?_
 refine WL.lit0 HS rfl rfl (by decide) rfl underlying25 (sz := 1) (by kernel_rfl) (fun v3 w4 HS => ?_)
 replace HS := HS.els0 (Dk.slice 3 (Dk.int .i64))
 refine ad_ hK2 ?_
 refine WC.seq fun K5 hK5 => ?_
 refine sr_ fun _ hK6 => ?_
 refine ad_ hK6 ?_
 refine WC.block ?_
 obtain ⟨G7, hG8, oc9, H, Ho10⟩ := open_G H
 let J18 := fun (xs11 : List (List Int)) v12 I13 bl14 (i15 : Int) (i16 : Int) (i17 : Int) (E_ : Env) (W_ : World) => E_ = [(0, .pointer (some ⟨b0, 0, none⟩)), (1, vi a1), (2, vi a2), (7, v12), (8, vi i15)] ∧ St ok0_ w0_ W_ (elsM (Dk.slice 3 (Dk.int .i64)) xs11 I13 bl14 :: rowM w0_.heap.size 24 1 v12 xs11.length I13 :: boxM b0 #[.slice A0_0 x0.f0.length c0_0, vi i16, vi i17] 92 :: ms_) ((cF kU A0_0 x0.f0) :: fo_) fn_
 have X19 : ∀ E_ W_, (∃ xs11 v12 I13 bl14 i15 i16 i17, G7 (xs11, i15, i16, i17) = some (r1, y_) ∧ J18 xs11 v12 I13 bl14 i15 i16 i17 E_ W_) → ∀ a, Fits a 22 E_ → K5 a W_ := by
   rintro E_ w20 ⟨xs11, v12, I13, bl14, i15, i16, i17, H, rfl, HS⟩
   rw [hG8] at H
   (try dsimp only at H)
   refine hK5 _ _ ?_
   refine sr_ fun _ hK21 => ?_
   refine mv_ ?_
   refine ad_ hK21 ?_
   refine WC.ret ?_
   obtain ⟨A22, c23, rfl⟩ := row_slice (HS.mu 1 rfl)
   replace HS := HS.front 1 rfl
   dsimp only [List.eraseIdx] at HS
   replace HS := HS.seal rfl rfl
   obtain ⟨rfl, rfl⟩ := Prod.mk.inj (os H)
   exact fin1 Try.f23 rfl rfl hR_ ⟨_, _, rfl, St.pick HS (fun W_ h_ => h_.2) (fun W_ h_ => h_)⟩
 clear hK5
 refine WC.loop (fun k_ E_ W_ => ∃ xs11 v12 I13 bl14 i15 i16 i17, (∃ o_, spec_l16Lists.l0 x0 a1 a2 k_ xs11 i15 i16 i17 = some o_ ∧ G7 o_ = some (r1, y_)) ∧ J18 xs11 v12 I13 bl14 i15 i16 i17 E_ W_) k ⟨([] : List (List Int)), v3, ([]), ([]), 0, x0.f1, x0.f2, ⟨_, H, Ho10⟩, rfl, (St.pick HS (fun W_ h_ => ⟨h_.1, h_.2⟩) (fun W_ h_ => h_))⟩ (sb rfl) ?_
 rintro k_ E_ w25 ⟨xs11, v12, I13, bl14, i15, i16, i17, ⟨oc9, H, Ho10⟩, rfl, HS⟩
 rcases k_ with _ | k26
 · exact no_ H
 replace H : spec_l16Lists.b0 x0 a1 a2 (spec_l16Lists.l0 x0 a1 a2 k26) k26 xs11 i15 i16 i17 = some oc9 := H
 unfold spec_l16Lists.b0 at H
 refine WC.seq fun _ hK27 => ?_
 refine sr_ fun _ hK28 => ?_
 refine mv_ ?_
 refine mv_ ?_
 refine b_ bin_lss ?_
 refine dn_ hK28 ?_
 rcases eti_ H with ⟨c29, H⟩ | ⟨c29, H⟩
 · refine wn_ (dF c29) (WC.exit ?_)
   obtain rfl := os H
   exact wv_ iq X19 ⟨xs11, v12, I13, bl14, i15, i16, i17, Ho10, rfl, (St.pick HS (fun W_ h_ => ⟨h_.1, h_.2⟩) (fun W_ h_ => h_))⟩
 refine wy_ (dT c29) (WC.skip (via_ hK27 (WC.seq fun _ hK30 => ?_)))
 refine WC.block (rg_ (mv_ ?_))
 refine mv_ ?_
 refine mv_ ?_
 replace HS := HS.front 2 rfl
 dsimp only [List.eraseIdx] at HS
 replace HS := HS.deriveO (p := (cF kU A0_0 x0.f0)) (fun W_ hO_ hN_ => hO_.1)
 obtain ⟨t31, ha32, H⟩ := bind_some H
 refine c_ func24 (spec_l05X.runs k26 b0 A0_0 c0_0 (⟨x0.f0, i16, i17⟩ : S92) a2 t31.1 t31.2 hc0_0 HS ha32) ?_
 clear ha32
 rintro _ w33 ⟨v34, bl35, rfl, HS⟩
 obtain ⟨I36, bl37, HS⟩ := HS.unseal (sz := 1) rfl
 replace HS := HS.freezeN 1 (p := (rF kI t31.1 I36)) rfl (fun _ hP_ _ => RepsB.reps hP_)
 dsimp only [List.eraseIdx] at HS
 refine ⟨_, rfl, ?_⟩
 obtain ⟨A38, c39, rfl⟩ := row_slice (HS.mu 0 rfl)
 refine WL.val rfl rfl (by decide) (Run.lit1 (z := (sn)) (vs := [(.slice A38 t31.1.length c39)]) rfl rfl rfl underlying25 (by kernel_rfl) (ble_ rfl) (ble_ rfl)) ?_
 have HS1 := HS.below (below_alloc (Below.refl _ _) (.cells #[(.slice A38 t31.1.length c39)] 24))
 obtain ⟨q40, H⟩ := if_some H
 refine WL.append HS1 3 rfl rfl rfl (by decide) rfl (sn) 24 underlying25 (by kernel_rfl) rfl (by decide) (by decide) rfl rfl [(.slice A38 t31.1.length c39)] rfl (lit_news _ _ _) (oneL rfl) (by omega) ((xs11 ++ [t31.1]).length) (by simp) (fun v41 w42 I43 hI44 HS => ?_)
 dsimp only [List.set] at HS
 clear HS1
 replace HS := HS.elsF (xs := t31.1) (inner := I36) (Dk.int .i64) (fun _ _ _ h_ => ⟨h_, rfl⟩) (fun _ => (HS.getN 0 rfl))
 replace HS := HS.front 1 rfl
 dsimp only [List.eraseIdx] at HS
 replace HS := HS.seal rfl rfl
 replace HS := HS.front 2 rfl
 dsimp only [List.eraseIdx] at HS
 replace HS := HS.front 1 rfl
 dsimp only [List.eraseIdx] at HS
 replace HS := HS.elsSnoc hI44
 refine ad_ hK30 ?_
 refine rg_ (mv_ ?_)
 refine b_ bin_add64 ?_
 refine as_ ?_
 refine WL.done ?_
 exact wr_ k26 iq ⟨(xs11 ++ [t31.1]), v41, I43, (bl14 ++ (((.slice A38 t31.1.length c39) : Value).ownBlock.toList ++ [])), (wrap64 (i15 + 1)), t31.2.f1, t31.2.f2, ⟨_, H, Ho10⟩, rfl, (St.pick (St.front (St.front (St.front HS 1 rfl) 2 rfl) 2 rfl) (fun W_ h_ => ⟨h_.1, h_.2⟩) (fun W_ h_ => h_.2))⟩
abbrev kS3 := Kd.slice 3 kI
def spec_DrawAttend.g (k : Nat) (l0 : List Int) : Option ((List Int) × (List (List Int)) × (List (List Int))) := ((spec_l01New.g k l0).bind fun t3 => ((spec_l01Below.g k (⟨l0, t3.f1, t3.f2⟩ : S92) 6).bind fun t10 => ((spec_l01Below.g k (⟨l0, t10.2.f1, t10.2.f2⟩ : S92) 8).bind fun t14 => ((spec_l16Lists.g k (⟨l0, t14.2.f1, t14.2.f2⟩ : S92) (wrap64 (1 + t10.1)) (wrap64 (1 + t14.1))).bind fun t18 => ((spec_l16Lists.g k (⟨l0, t18.2.f1, t18.2.f2⟩ : S92) (wrap64 (1 + t10.1)) (wrap64 (1 + t14.1))).bind fun t26 => ((((spec_l01Below.g k (⟨l0, t26.2.f1, t26.2.f2⟩ : S92) 20).bind fun t69 => (if t69.1 = 0 then (if (0 : Int) ≤ 1 ∧ 1 ≤ (t18.1.length : Int) then (some ((t18.1.drop (1 : Int).toNat), t26.1, t69.2.f1, t69.2.f2)) else none) else (if t69.1 = 1 then (if (0 : Int) ≤ 0 ∧ 0 < ((t26.1.length : Nat) : Int) then (if (0 : Int) ≤ 0 ∧ 0 < (((t26.1.getD (0 : Int).toNat []).length : Nat) : Int) then (some (t18.1, (t26.1.set (0 : Int).toNat ((t26.1.getD (0 : Int).toNat []).set (0 : Int).toNat 128)), t69.2.f1, t69.2.f2)) else none) else none) else (some (t18.1, t26.1, t69.2.f1, t69.2.f2))))) : Option ((List (List Int)) × (List (List Int)) × Int × Int)).bind (fun oc67 => ((spec_l05X.g k (⟨l0, oc67.2.2.1, oc67.2.2.2⟩ : S92) (wrap64 (1 + t14.1))).bind fun t54 => (some (t54.1, oc67.1, oc67.2.1))))))))))
theorem spec_DrawAttend.runs (k : Nat) (A0 : Option Addr) (c0 : Nat) (l0 : List Int) (r1 : List Int) (r2 : List (List Int)) (r3 : List (List Int)) (w : World) (hr0 : kU.C w A0 l0.length l0) (hc0 : l0.length ≤ c0) (H : spec_DrawAttend.g k l0 = some (r1, r2, r3)) :
   Calls prog 7 #[.slice A0 l0.length c0] w fun e w' => ∃ (A0_ : Option Addr) (c0_ : Nat) (A1_ : Option Addr) (c1_ : Nat) (A2_ : Option Addr) (c2_ : Nat), e = .returned (.tuple #[.slice A0_ r1.length c0_, .slice A1_ r2.length c1_, .slice A2_ r3.length c2_]) ∧ r1.length ≤ c0_ ∧ Foot (cF kI A0_ r1) w' (fun k_ => w.heap.size ≤ k_) ∧ r2.length ≤ c1_ ∧ Foot (cF kS3 A1_ r2) w' (fun k_ => w.heap.size ≤ k_) ∧ r3.length ≤ c2_ ∧ Foot (cF kS3 A2_ r3) w' (fun k_ => w.heap.size ≤ k_) ∧ Below w.heap.size w w' := by
 unfold spec_DrawAttend.g at H
 have HS : St (fun _ => True) w w [] [(cF kU A0 l0)] [] := St.start (foot_cons (foot_C (Kd.heap_int _) hr0) foot_nil)
 refine cw_ (n := 43) func7 fun R_ hR_ => ?_
 refine sr_ fun _ hK1 => ?_
 refine fast_ ?_
 refine via_ hK1 (sr_ fun _ hK2 => ?_)
 refine mv_ ?_
 obtain ⟨t3, ha4, H⟩ := bind_some H
 refine c_ func21 (spec_l01New.runs k A0 c0 l0 t3 _ (HS.getO 0 rfl) hc0 ha4) ?_
 clear ha4
 rintro _ w5 ⟨b6, rfl, hn7, hx8, hb⟩
 replace HS := HS.gotBox hb hn7 hx8
 refine ⟨_, rfl, ?_⟩
 clear hb
 refine ad_ hK2 ?_
 refine sr_ fun _ hK9 => ?_
 refine mv_ ?_
 obtain ⟨t10, ha11, H⟩ := bind_some H
 refine c_ func22 (spec_l01Below.runs k b6 (⟨l0, t3.f1, t3.f2⟩ : S92) A0 c0 6 _ t10.1 t10.2 _ _ HS.b (HS.nodupM 0 rfl) (HS.boundM 0 rfl) (HS.footOM 0 rfl 0 rfl) hc0 (HS.mu 0 rfl) ha11) ?_
 clear ha11
 rintro _ w12 ⟨rfl, hbx_, hrest_, hB1_⟩
 replace HS := HS.calledM 0 rfl hB1_ hrest_ hbx_
 dsimp only [List.set] at HS
 clear hB1_ hrest_ hbx_
 refine ⟨_, rfl, ?_⟩
 refine b_ bin_add64 ?_
 refine ad_ hK9 ?_
 refine sr_ fun _ hK13 => ?_
 refine mv_ ?_
 obtain ⟨t14, ha15, H⟩ := bind_some H
 refine c_ func22 (spec_l01Below.runs k b6 (⟨l0, t10.2.f1, t10.2.f2⟩ : S92) A0 c0 8 _ t14.1 t14.2 _ _ HS.b (HS.nodupM 0 rfl) (HS.boundM 0 rfl) (HS.footOM 0 rfl 0 rfl) hc0 (HS.mu 0 rfl) ha15) ?_
 clear ha15
 rintro _ w16 ⟨rfl, hbx_, hrest_, hB1_⟩
 replace HS := HS.calledM 0 rfl hB1_ hrest_ hbx_
 dsimp only [List.set] at HS
 clear hB1_ hrest_ hbx_
 refine ⟨_, rfl, ?_⟩
 refine b_ bin_add64 ?_
 refine ad_ hK13 ?_
 refine sr_ fun _ hK17 => ?_
 refine mv_ ?_
 refine mv_ ?_
 refine mv_ ?_
 replace HS := HS.front 0 rfl
 dsimp only [List.eraseIdx] at HS
 replace HS := HS.deriveO (p := (cF kU A0 l0)) (fun W_ hO_ hN_ => hO_.1)
 obtain ⟨t18, ha19, H⟩ := bind_some H
 refine c_ func23 (spec_l16Lists.runs k b6 A0 c0 (⟨l0, t14.2.f1, t14.2.f2⟩ : S92) (wrap64 (1 + t10.1)) (wrap64 (1 + t14.1)) t18.1 t18.2 hc0 HS ha19) ?_
 clear ha19
 rintro _ w20 ⟨v21, bl22, rfl, HS⟩
 obtain ⟨I23, bl24, HS⟩ := HS.unseal (sz := 1) rfl
 refine ⟨_, rfl, ?_⟩
 refine ad_ hK17 ?_
 refine sr_ fun _ hK25 => ?_
 refine mv_ ?_
 refine mv_ ?_
 refine mv_ ?_
 replace HS := HS.front 2 rfl
 dsimp only [List.eraseIdx] at HS
 replace HS := HS.deriveO (p := (cF kU A0 l0)) (fun W_ hO_ hN_ => hO_.1)
 obtain ⟨t26, ha27, H⟩ := bind_some H
 refine c_ func23 (spec_l16Lists.runs k b6 A0 c0 (⟨l0, t18.2.f1, t18.2.f2⟩ : S92) (wrap64 (1 + t10.1)) (wrap64 (1 + t14.1)) t26.1 t26.2 hc0 HS ha27) ?_
 clear ha27
 rintro _ w28 ⟨v29, bl30, rfl, HS⟩
 obtain ⟨I31, bl32, HS⟩ := HS.unseal (sz := 1) rfl
 refine ⟨_, rfl, ?_⟩
 refine ad_ hK25 ?_
 refine WC.seq fun K33 hK33 => ?_
 obtain ⟨G34, hG35, oc36, H, Ho37⟩ := open_G H
 replace HS := HS.freezeN 4 (p := (rF kS3 t18.1 I23)) rfl (fun _ hP_ _ => RepsB.reps hP_)
 dsimp only [List.eraseIdx] at HS
 obtain ⟨A38, c39, rfl⟩ := row_slice (HS.mu 3 rfl)
 have le40 := row_le (HS.mu 3 rfl)
 replace HS := HS.freezeN 3 (p := (cF kS3 A38 (t18.1))) rfl (fun W_ hm_ h_ => row_C (by rfl) hm_ h_.1)
 dsimp only [List.eraseIdx] at HS
 have X51 : ∀ E_ W_, (∃ (xs41 : List (List Int)) (A42 : Option Addr) (c43 : Nat) (xs45 : List (List Int)) (v46 : Value) (I47 : List Value) (bl48 : List Nat) (i49 : Int) (i50 : Int), E_ = [(5, .pointer (some ⟨b6, 0, none⟩)), (7, vi (wrap64 (1 + t14.1))), (8, .slice A42 xs41.length c43), (9, v46)] ∧ G34 (xs41, xs45, i49, i50) = some (r1, r2, r3) ∧ xs41.length ≤ c43 ∧ St (fun _ => True) w W_ [rowM w.heap.size 24 1 v46 xs45.length I47, elsM (Dk.slice 3 (Dk.int .i64)) xs45 I47 bl48, boxM b6 #[.slice A0 l0.length c0, vi i49, vi i50] 92] [(cF kU A0 l0)] [(cF kS3 A42 xs41)]) → ∀ a, Fits a 43 E_ → K33 a W_ := by
   rintro E_ w52 ⟨xs41, A42, c43, xs45, v46, I47, bl48, i49, i50, rfl, H, le44, HS⟩
   rw [hG35] at H
   (try dsimp only at H)
   refine hK33 _ _ ?_
   refine sr_ fun _ hK53 => ?_
   refine mv_ ?_
   refine mv_ ?_
   replace HS := HS.front 2 rfl
   dsimp only [List.eraseIdx] at HS
   replace HS := HS.deriveO (p := (cF kU A0 l0)) (fun W_ hO_ hN_ => hO_.1)
   obtain ⟨t54, ha55, H⟩ := bind_some H
   refine c_ func24 (spec_l05X.runs k b6 A0 c0 (⟨l0, i49, i50⟩ : S92) (wrap64 (1 + t14.1)) t54.1 t54.2 hc0 HS ha55) ?_
   clear ha55
   rintro _ w56 ⟨v57, bl58, rfl, HS⟩
   obtain ⟨I59, bl60, HS⟩ := HS.unseal (sz := 1) rfl
   replace HS := HS.freezeN 1 (p := (rF kI t54.1 I59)) rfl (fun _ hP_ _ => RepsB.reps hP_)
   dsimp only [List.eraseIdx] at HS
   refine ⟨_, rfl, ?_⟩
   refine fast_ ?_
   refine via_ hK53 (WC.ret ?_)
   obtain ⟨A61, c62, rfl⟩ := row_slice (HS.mu 0 rfl)
   have le63 := row_le (HS.mu 0 rfl)
   replace HS := HS.freezeN 0 (p := (cF kI A61 (t54.1))) rfl (fun W_ hm_ h_ => row_C (by rfl) hm_ h_.1)
   dsimp only [List.eraseIdx] at HS
   replace HS := HS.freezeN 2 (p := (rF kS3 xs45 I47)) rfl (fun _ hP_ _ => RepsB.reps hP_)
   dsimp only [List.eraseIdx] at HS
   obtain ⟨A64, c65, rfl⟩ := row_slice (HS.mu 1 rfl)
   have le66 := row_le (HS.mu 1 rfl)
   replace HS := HS.freezeN 1 (p := (cF kS3 A64 (xs45))) rfl (fun W_ hm_ h_ => row_C (by rfl) hm_ h_.1)
   dsimp only [List.eraseIdx] at HS
   obtain ⟨rfl, rfl, rfl⟩ := (by have h_ := os H; simp only [Prod.mk.injEq] at h_; exact h_)
   exact fin3 Try.f7 rfl rfl rfl rfl hR_ ⟨_, _, _, _, _, _, rfl, le63, (foot_fresh (HS.footN 2 rfl)), le44, (foot_fresh (HS.footN 4 rfl)), le66, (foot_fresh (HS.footN 0 rfl)), HS.b⟩
 clear hK33
 refine sr_ fun _ hK68 => ?_
 refine mv_ ?_
 obtain ⟨t69, ha70, H⟩ := bind_some H
 refine c_ func22 (spec_l01Below.runs k b6 (⟨l0, t26.2.f1, t26.2.f2⟩ : S92) A0 c0 20 _ t69.1 t69.2 _ _ HS.b (HS.nodupM 2 rfl) (HS.boundM 2 rfl) (HS.footOM 2 rfl 0 rfl) hc0 (HS.mu 2 rfl) ha70) ?_
 clear ha70
 rintro _ w71 ⟨rfl, hbx_, hrest_, hB1_⟩
 replace HS := HS.calledM 2 rfl hB1_ hrest_ hbx_
 dsimp only [List.set] at HS
 clear hB1_ hrest_ hbx_
 refine ⟨_, rfl, ?_⟩
 refine dn_ hK68 (WC.block (sr_ fun _ hK72 => ?_))
 refine b_ bin_eql ?_
 refine ad_ hK72 ?_
 rcases ite_ H with ⟨c73, H⟩ | ⟨c73, H⟩
 · refine wy_ (eT c73) (rg_ (mv_ ?_))
   obtain ⟨⟨q74, q75⟩, H⟩ := if_some H
   obtain ⟨A76, c77, he78, le79, hf80⟩ := slc_drop kS3 A38 c39 t18.1 1 q74 q75 le40
   replace HS := HS.deriveN (p := (cF kS3 A76 (t18.1.drop (1 : Int).toNat))) (fun W_ hN_ => hf80 W_ hN_.1)
   refine v_ (Run.eqv he78 (Run.slL rfl underlying25 (by kernel_rfl) rfl rfl q74 q75)) ?_
   refine as_ ?_
   refine WL.done ?_
   obtain rfl := os H
   exact wv_ iq X51 ⟨(t18.1.drop (1 : Int).toNat), A76, c77, t26.1, v29, I31, bl32, t69.2.f1, t69.2.f2, rfl, Ho37, le79, (St.pk HS [0] [0] rfl rfl)⟩
 refine wn_ (eF c73) (sr_ fun _ hK81 => ?_)
 refine b_ bin_eql ?_
 refine ad_ hK81 ?_
 rcases eti_ H with ⟨c82, H⟩ | ⟨c82, H⟩
 · refine wn_ (eF c82) (WC.skip ?_)
   obtain rfl := os H
   exact wv_ iq X51 ⟨t18.1, A38, c39, t26.1, v29, I31, bl32, t69.2.f1, t69.2.f2, rfl, Ho37, le40, (St.pk HS [0] [0] rfl rfl)⟩
 refine wy_ (eT c82) (rg_ (mv_ ?_))
 obtain ⟨⟨q83, q84⟩, H⟩ := if_some H
 obtain ⟨A85, c86, rfl⟩ := row_slice (HS.mu 0 rfl)
 obtain ⟨ad87, rfl⟩ := row_open (HS.mu 0 rfl) (by omega)
 refine v_ (ia_ underlying25 1 q83 q84) ?_
 replace HS := HS.front 1 rfl
 dsimp only [List.eraseIdx] at HS
 obtain ⟨v88, I89, b91, b92, hv90, HS⟩ := HS.rowOut (sz := 1) (0 : Int).toNat rfl (toNat_lt q83 q84)
 replace HS := HS.freezeN 1 (p := (rF kI (t26.1.getD (0 : Int).toNat []) I89)) rfl (fun _ hP_ _ => RepsB.reps hP_)
 dsimp only [List.eraseIdx] at HS
 refine v_ (Run.load rfl rfl underlying24 rfl (row_at (HS.mu 2 rfl) hv90)) ?_
 obtain ⟨⟨q93, q94⟩, H⟩ := if_some H
 obtain ⟨A95, c96, rfl⟩ := row_slice (HS.mu 0 rfl)
 obtain ⟨ad97, rfl⟩ := row_open (HS.mu 0 rfl) (by omega)
 refine v_ (ia_ underlying24 1 q93 q94) ?_
 have hk_ := mul_room q93 q94 1
 refine WL.putEl HS 0 rfl rfl rfl rfl rfl rfl [vi 128] rfl (oneL rfl) (by kernel_rfl) (by first | omega | (rw [List.length_nil]; omega) | (simp; omega)) (fun w98 I99 hI100 HS => ?_)
 dsimp only [List.set] at HS
 clear hk_
 replace HS := HS.deriveN (p := (rF kI ((t26.1.getD (0 : Int).toNat []).set (0 : Int).toNat 128) I99)) (fun W_ hN_ => reps_set hI100 hN_.1 (K_int _) (toNat_lt q93 q94))
 replace HS := HS.rowN 0 rfl (show (t26.1.getD (0 : Int).toNat []).length = ((t26.1.getD (0 : Int).toNat []).set (0 : Int).toNat 128).length from (List.length_set ..).symm)
 dsimp only [List.set] at HS
 generalize hv102 : (Value.slice (some ad97) ((t26.1.getD (0 : Int).toNat []).length) c96) = v101 at HS hv90 ⊢
 obtain ⟨A103, c104, rfl⟩ := row_slice (HS.mu 0 rfl)
 replace HS := HS.elsF (xs := ((t26.1.getD (0 : Int).toNat []).set (0 : Int).toNat 128)) (inner := I99) (Dk.int .i64) (fun _ _ _ h_ => ⟨h_, rfl⟩) (fun _ => (HS.getN 0 rfl))
 replace HS := HS.front 1 rfl
 dsimp only [List.eraseIdx] at HS
 replace HS := HS.seal rfl rfl
 replace HS := HS.front 1 rfl
 dsimp only [List.eraseIdx] at HS
 replace HS := HS.front 1 rfl
 dsimp only [List.eraseIdx] at HS
 obtain ⟨bl105, HS⟩ := HS.rowIn hv90 (toNat_lt q83 q84)
 replace HS := HS.rowN 1 rfl (show t26.1.length = (t26.1.set (0 : Int).toNat ((t26.1.getD (0 : Int).toNat []).set (0 : Int).toNat 128)).length from (List.length_set ..).symm)
 dsimp only [List.set] at HS
 refine WL.done ?_
 obtain rfl := os H
 exact wv_ iq X51 ⟨t18.1, A38, c39, (t26.1.set (0 : Int).toNat ((t26.1.getD (0 : Int).toNat []).set (0 : Int).toNat 128)), (.slice (some ad87) t26.1.length c86), I31, bl105, t69.2.f1, t69.2.f2, rfl, Ho37, le40, (St.pk (St.sel HS [1, 0, 2]) [0] [2] rfl rfl)⟩
def laws_FnMixes.b1 (t10 : (List Int) × (List (List Int)) × (List (List Int))) (i57 : Int) (rec_ : Int → Int → Int → Option (Int × Int × Int)) (k173 : Nat) (i134 : Int) (i135 : Int) (i136 : Int) : Option (Int × Int × Int) := (if i136 < (t10.2.2.length : Int) then (((((if 0 ≤ i136 ∧ i136 < (t10.2.2.length : Int) then (if 0 ≤ i57 ∧ i57 < ((t10.2.2.getD i136.toNat []).length : Int) then (if ((t10.2.2.getD i136.toNat []).getD i57.toNat 0) < i134 then (some ((t10.2.2.getD i136.toNat []).getD i57.toNat 0)) else (some i134)) else none) else none) : Option Int).bind (fun oc205 => (if 0 ≤ i136 ∧ i136 < (t10.2.2.length : Int) then (if 0 ≤ i57 ∧ i57 < ((t10.2.2.getD i136.toNat []).length : Int) then (if ((t10.2.2.getD i136.toNat []).getD i57.toNat 0) > i135 then (some (oc205, ((t10.2.2.getD i136.toNat []).getD i57.toNat 0))) else (some (oc205, i135))) else none) else none))) : Option (Int × Int)).bind (fun oc186 => (rec_ oc186.1 oc186.2 (wrap64 (i136 + 1))))) else (some (i134, i135, i136)))
def laws_FnMixes.l1 (t10 : (List Int) × (List (List Int)) × (List (List Int))) (i57 : Int) : Nat → Int → Int → Int → Option (Int × Int × Int)
 | 0, _, _, _ => none
 | k + 1, i134, i135, i136 => laws_FnMixes.b1 t10 i57 (laws_FnMixes.l1 t10 i57 k) k i134 i135 i136
def laws_FnMixes.b0 (t10 : (List Int) × (List (List Int)) × (List (List Int))) (t26 : (List Int) × Bool) (rec_ : Int → Option (Bool ⊕ Int)) (k112 : Nat) (i57 : Int) : Option (Bool ⊕ Int) := (if i57 < (t26.1.length : Int) then (if (0 : Int) ≤ 0 ∧ 0 < (t10.2.2.length : Int) then (if 0 ≤ i57 ∧ i57 < ((t10.2.2.getD (0 : Int).toNat []).length : Int) then ((laws_FnMixes.l1 t10 i57 k112 ((t10.2.2.getD (0 : Int).toNat []).getD i57.toNat 0) ((t10.2.2.getD (0 : Int).toNat []).getD i57.toNat 0) 1).bind (fun oc171 => (((if oc171.2.1 < 0 then (some 0) else (some oc171.2.1)) : Option Int).bind (fun oc168 => (((if oc171.1 > 0 then (some 0) else (some oc171.1)) : Option Int).bind (fun oc165 => (if 0 ≤ i57 ∧ i57 < (t26.1.length : Int) then (if (t26.1.getD i57.toNat 0) > oc168 then (some (Sum.inl false)) else (if (t26.1.getD i57.toNat 0) < (wrap64 (oc165 - (wrap64 ((wrap64 (Int.tdiv (t10.2.2.length : Int) 2)) + 2)))) then (some (Sum.inl false)) else (rec_ (wrap64 (i57 + 1))))) else none))))))) else none) else none) else (some (Sum.inr i57)))
def laws_FnMixes.l0 (t10 : (List Int) × (List (List Int)) × (List (List Int))) (t26 : (List Int) × Bool) : Nat → Int → Option (Bool ⊕ Int)
 | 0, _ => none
 | k + 1, i57 => laws_FnMixes.b0 t10 t26 (laws_FnMixes.l0 t10 t26 k) k i57
def laws_FnMixes.g (k : Nat) (l0 : List Int) : Option Bool := ((laws_big.f l0).bind fun t4 => (if t4 = true then (some true) else ((spec_DrawAttend.g k l0).bind fun t10 => ((impl_Attend.f k t10.1 t10.2.1 t10.2.2).bind fun t26 => ((spec_Attend.f k t10.1 t10.2.1 t10.2.2).bind fun t36 => (if t26.2 = t36.2 then (if t26.2 = true then ((laws_FnMixes.l0 t10 t26 k 0).bind (fun oc110 => match oc110 with | .inl r_ => some r_ | .inr i57 => (if (0 : Int) ≤ 1 ∧ 1 ≤ (t10.2.2.length : Int) then ((impl_Mix.f ([256]) (t10.2.2.take (1 : Int).toNat)).bind fun t73 => (if (0 : Int) ≤ 0 ∧ 0 < (t10.2.1.length : Int) then ((impl_Score.f k t10.1 (t10.2.1.getD (0 : Int).toNat [])).bind fun t89 => ((impl_Score.f k (t10.2.1.getD (0 : Int).toNat []) t10.1).bind fun t93 => (if t73.2 = true then (if t89.2 = true then (if t93.2 = true then (if (0 : Int) ≤ 0 ∧ 0 < (t10.2.2.length : Int) then ((laws_sameInts.f k t73.1 (t10.2.2.getD (0 : Int).toNat [])).bind fun t106 => (if t106 = true then (some (t89.1 == t93.1)) else (some false))) else none) else (some false)) else (some false)) else (some false)))) else none)) else none))) else (some ((t26.1.length : Int) == 0))) else (some false)))))))
theorem laws_FnMixes.runs (k : Nat) (A0 : Option Addr) (c0 : Nat) (l0 : List Int) (r : Bool) (w : World) (hr0 : kU.C w A0 l0.length l0) (hc0 : l0.length ≤ c0) (H : laws_FnMixes.g k l0 = some r) :
   Calls prog 3 #[.slice A0 l0.length c0] w fun e w' => e = .returned (.bool r) ∧ Below w.heap.size w w' := by
 unfold laws_FnMixes.g at H
 have HS : St (fun _ => True) w w [] [(cF kU A0 l0)] [] := St.start (foot_cons (foot_C (Kd.heap_int _) hr0) foot_nil)
 refine cw_ (n := 173) func3 fun R_ hR_ => ?_
 refine sr_ fun _ hK1 => ?_
 refine ad_ hK1 ?_
 clear hK1
 refine WC.seq fun _ hK2 => ?_
 refine sr_ fun _ hK3 => ?_
 exact by (
 refine mv_ ?_
 obtain ⟨t4, ha5, H⟩ := bind_some H
 refine cs0_ HS func6 (laws_big.calls A0 c0 l0 t4 _ (HS.getO 0 rfl) hc0 ha5) (fun w6 HS => ?_)
 clear ha5
 refine dn_ hK3 ?_
 clear hK3
 rcases ite_ H with ⟨c7, H⟩ | ⟨c7, H⟩
 · refine wy_ c7 ?_
   exact by (
   refine sr_ fun _ hK8 => ?_
   refine ad_ hK8 ?_
   clear hK8
   obtain rfl := os H
   exact rt1 Try.f3 rfl rfl hR_ ⟨rfl, HS.b⟩ )
 refine wn_ (bF c7) (WC.skip (via_ hK2 (sr_ fun _ hK9 => ?_)))
 clear hK2
 refine mv_ ?_
 exact by (
 obtain ⟨t10, ha11, H⟩ := bind_some H
 refine c_ func7 (spec_DrawAttend.runs k A0 c0 l0 t10.1 t10.2.1 t10.2.2 _ (HS.getO 0 rfl) hc0 ha11) ?_
 clear ha11
 rintro _ w12 ⟨A13, c14, A17, c18, A21, c22, rfl, le15, hf16, le19, hf20, le23, hf24, hb⟩
 replace HS := HS.newNs hb (foot_cons hf16 (foot_cons hf20 (foot_cons hf24 foot_nil)))
 refine ⟨_, rfl, ?_⟩
 clear hb
 refine mv_ ?_
 exact by (
 refine v_ (Run.extract rfl rfl rfl) ?_
 refine v_ (Run.extract rfl rfl rfl) ?_
 refine v_ (Run.extract rfl rfl rfl) ?_
 refine fast_ ?_
 refine via_ hK9 (sr_ fun _ hK25 => ?_)
 clear hK9
 refine mv_ ?_
 refine mv_ ?_
 exact by (
 refine mv_ ?_
 obtain ⟨t26, ha27, H⟩ := bind_some H
 refine c_ func8 (impl_Attend.calls k A13 c14 t10.1 A17 c18 t10.2.1 A21 c22 t10.2.2 t26.1 t26.2 _ (HS.getN 0 rfl) le15 (HS.getN 1 rfl) le19 (HS.getN 2 rfl) le23 ha27) ?_
 clear ha27
 rintro _ w28 ⟨v29, rfl, h30, hb⟩
 obtain ⟨A31, c32, rfl, le33, hf34⟩ := res_R h30
 replace HS := HS.newNs hb (foot_cons hf34 foot_nil)
 refine ⟨_, rfl, ?_⟩
 exact by (
 clear hb
 refine mv_ ?_
 refine v_ (Run.extract rfl rfl rfl) ?_
 refine v_ (Run.extract rfl rfl rfl) ?_
 refine as_ ?_
 refine ad_ hK25 ?_
 clear hK25
 refine sr_ fun _ hK35 => ?_
 exact by (
 refine mv_ ?_
 refine mv_ ?_
 refine mv_ ?_
 obtain ⟨t36, ha37, H⟩ := bind_some H
 refine c_ func9 (spec_Attend.calls k A13 c14 t10.1 A17 c18 t10.2.1 A21 c22 t10.2.2 t36.1 t36.2 _ (HS.getN 1 rfl) le15 (HS.getN 2 rfl) le19 (HS.getN 3 rfl) le23 ha37) ?_
 clear ha37
 rintro _ w38 ⟨v39, rfl, h40, hb⟩
 obtain ⟨A41, c42, rfl, le43, hf44⟩ := res_R h40
 exact by (
 replace HS := HS.newNs hb (foot_cons hf44 foot_nil)
 refine ⟨_, rfl, ?_⟩
 clear hb
 refine mv_ ?_
 refine v_ (Run.extract rfl rfl rfl) ?_
 refine v_ (Run.extract rfl rfl rfl) ?_
 refine as_ ?_
 refine ad_ hK35 ?_
 exact by (
 clear hK35
 refine WC.seq fun _ hK45 => ?_
 refine sr_ fun _ hK46 => ?_
 refine mv_ ?_
 refine mv_ ?_
 refine v_ (Run.binB rfl rfl rfl (bin_neqB underlying4)) ?_
 refine dn_ hK46 ?_
 clear hK46
 exact by (
 rcases eti_ H with ⟨c47, H⟩ | ⟨c47, H⟩
 · refine wy_ (qT c47) (sr_ fun _ hK217 => ?_)
   refine ad_ hK217 ?_
   clear hK217
   obtain rfl := os H
   exact rt1 Try.f3 rfl rfl hR_ ⟨rfl, HS.b⟩
 refine wn_ (qF c47) (WC.skip (via_ hK45 (WC.seq fun _ hK48 => ?_)))
 clear hK45
 exact by (
 refine sr_ fun _ hK49 => ?_
 refine mv_ ?_
 refine nt_ ?_
 refine dn_ hK49 ?_
 clear hK49
 rcases eti_ H with ⟨c50, H⟩ | ⟨c50, H⟩
 · refine wy_ (nB (bF c50)) (sr_ fun _ hK216 => ?_)
   refine mv_ ?_
   exact by (
   refine ln_ underlying24 ?_
   refine b_ bin_eql ?_
   refine ad_ hK216 ?_
   clear hK216
   obtain rfl := os H
   exact rt1 Try.f3 rfl rfl hR_ ⟨rfl, HS.b⟩ )
 refine wn_ (nB c50) (WC.skip (via_ hK48 (WC.seq fun K51 hK51 => ?_)))
 clear hK48
 exact by (
 refine sr_ fun _ hK52 => ?_
 refine ad_ hK52 ?_
 clear hK52
 refine WC.block ?_
 obtain ⟨G53, hG54, oc55, H, Ho56⟩ := open_G H
 let J58 := fun (i57 : Int) (E_ : Env) (W_ : World) => E_ = [(3, .slice A13 t10.1.length c14), (4, .slice A17 t10.2.1.length c18), (5, .slice A21 t10.2.2.length c22), (6, .slice A31 t26.1.length c32), (10, vi i57)] ∧ St (fun _ => True) w W_ [] [(cF kU A0 l0)] [(cF kI A31 t26.1), (cF kI A13 t10.1), (cF kS3 A17 t10.2.1), (cF kS3 A21 t10.2.2)]
 have X59 : ∀ E_ W_, (∃ i57, G53 (Sum.inr i57) = some r ∧ J58 i57 E_ W_) → ∀ a, Fits a 173 E_ → K51 a W_ := by
   rintro E_ w60 ⟨i57, H, rfl, HS⟩
   exact by (
   rw [hG54] at H
   (try dsimp only at H)
   refine hK51 _ _ ?_
   clear hK51
   refine sr_ fun _ hK61 => ?_
   refine WL.litN HS (sz := 1) (z := (vi 0)) rfl rfl (by decide) rfl [[vi 256]] ⟨⟨rfl, _, rfl, rfl, rfl⟩, trivial⟩ rfl underlying24 (by kernel_rfl) (by decide) (by decide) (fun v62 w63 HS => ?_)
   replace HS := HS.deriveO (p := (rF kI [256] (List.flatten [[vi 256]]))) (fun W_ hO_ hN_ => reps_lit ⟨(K_int _), trivial⟩)
   refine mv_ ?_
   exact by (
   obtain ⟨⟨q64, q65⟩, H⟩ := if_some H
   obtain ⟨A66, c67, he68, le69, hf70⟩ := slc_take kS3 A21 c22 t10.2.2 1 q64 q65 le23
   replace HS := HS.deriveN (p := (cF kS3 A66 (t10.2.2.take (1 : Int).toNat))) (fun W_ hN_ => hf70 W_ hN_.2.2.2.1)
   refine v_ (Run.eqv he68 (Run.slH rfl underlying25 (by kernel_rfl) rfl rfl q64 (Int.le_trans q65 (Int.ofNat_le.mpr le23)))) ?_
   obtain ⟨A71, c72, rfl⟩ := row_slice (HS.mu 0 rfl)
   obtain ⟨t73, ha74, H⟩ := bind_some H
   refine c_ func10 (impl_Mix.calls A71 c72 ([256]) A66 c67 (t10.2.2.take (1 : Int).toNat) t73.1 t73.2 _ (row_C (by simp) (HS.mu 0 rfl) (HS.getO 0 rfl)) (row_le (HS.mu 0 rfl)) (HS.getN 0 rfl) le69 ha74) ?_
   clear ha74
   exact by (
   rintro _ w75 ⟨v76, rfl, h77, hb⟩
   obtain ⟨A78, c79, rfl, le80, hf81⟩ := res_R h77
   replace HS := HS.newNs hb (foot_cons hf81 foot_nil)
   refine ⟨_, rfl, ?_⟩
   clear hb
   refine mv_ ?_
   refine v_ (Run.extract rfl rfl rfl) ?_
   refine v_ (Run.extract rfl rfl rfl) ?_
   exact by (
   refine as_ ?_
   refine ad_ hK61 ?_
   clear hK61
   refine sr_ fun _ hK82 => ?_
   refine mv_ ?_
   refine mv_ ?_
   obtain ⟨⟨q83, q84⟩, H⟩ := if_some H
   obtain ⟨ad85, rfl⟩ := C_open (HS.getN 4 rfl) (by omega)
   exact by (
   refine v_ (ia_ underlying25 1 q83 q84) ?_
   obtain ⟨A86, c87, le88, HS⟩ := HS.slN 4 rfl 0 q83 q84
   refine v_ (Run.load rfl rfl underlying24 rfl (HS.getN 1 rfl)) ?_
   obtain ⟨t89, ha90, H⟩ := bind_some H
   refine cs_ HS func11 (impl_Score.calls k A13 c14 t10.1 A86 c87 (t10.2.1.getD (0 : Int).toNat []) t89.1 t89.2 _ (HS.getN 5 rfl) le15 (HS.getN 0 rfl) le88 ha90) (fun w91 HS => ?_)
   clear ha90
   refine mv_ ?_
   refine v_ (Run.extract rfl rfl rfl) ?_
   exact by (
   refine v_ (Run.extract rfl rfl rfl) ?_
   refine as_ ?_
   refine ad_ hK82 ?_
   clear hK82
   refine sr_ fun _ hK92 => ?_
   refine mv_ ?_
   refine v_ (ia_ underlying25 1 q83 q84) ?_
   refine v_ (Run.load rfl rfl underlying24 rfl (HS.getN 1 rfl)) ?_
   exact by (
   refine mv_ ?_
   obtain ⟨t93, ha94, H⟩ := bind_some H
   refine cs_ HS func11 (impl_Score.calls k A86 c87 (t10.2.1.getD (0 : Int).toNat []) A13 c14 t10.1 t93.1 t93.2 _ (HS.getN 0 rfl) le88 (HS.getN 5 rfl) le15 ha94) (fun w95 HS => ?_)
   clear ha94
   refine mv_ ?_
   refine v_ (Run.extract rfl rfl rfl) ?_
   refine v_ (Run.extract rfl rfl rfl) ?_
   refine as_ ?_
   exact by (
   refine ad_ hK92 ?_
   clear hK92
   refine sr_ fun _ hK96 => ?_
   refine mv_ ?_
   refine mv_ ?_
   rcases eti_ H with ⟨c97, H⟩ | ⟨c97, H⟩
   · refine off_ (c' := false) (bF c97) ?_
     refine WL.know 155 (bF c97) ?_
     exact by (
     refine fast_ ?_
     refine via_ hK96 ?_
     clear hK96
     obtain rfl := os H
     exact rt1 Try.f3 rfl rfl hR_ ⟨rfl, HS.b⟩ )
   refine on_ c97 ?_
   refine mv_ ?_
   refine v_ (Run.pickT rfl rfl c97 rfl) ?_
   exact by (
   refine mv_ ?_
   rcases eti_ H with ⟨c98, H⟩ | ⟨c98, H⟩
   · refine off_ (c' := false) (bF c98) ?_
     refine WL.know 158 (bF c98) ?_
     refine fast_ ?_
     refine via_ hK96 ?_
     clear hK96
     obtain rfl := os H
     exact rt1 Try.f3 rfl rfl hR_ ⟨rfl, HS.b⟩
   exact by (
   refine on_ c98 ?_
   refine mv_ ?_
   refine v_ (Run.pickT rfl rfl c98 rfl) ?_
   refine mv_ ?_
   rcases eti_ H with ⟨c99, H⟩ | ⟨c99, H⟩
   · refine off_ (c' := false) (bF c99) ?_
     refine WL.know 161 (bF c99) ?_
     refine fast_ ?_
     exact by (
     refine via_ hK96 ?_
     clear hK96
     obtain rfl := os H
     exact rt1 Try.f3 rfl rfl hR_ ⟨rfl, HS.b⟩ )
   refine on_ c99 ?_
   refine mv_ ?_
   refine on_ c99 ?_
   refine mv_ ?_
   exact by (
   refine on_ c99 ?_
   obtain ⟨⟨q100, q101⟩, H⟩ := if_some H
   obtain ⟨ad102, rfl⟩ := C_open (HS.getN 7 rfl) (by omega)
   refine v_ (ia_ underlying25 1 q100 q101) ?_
   refine on_ c99 ?_
   obtain ⟨A103, c104, le105, HS⟩ := HS.slN 7 rfl 0 q100 q101
   refine v_ (Run.load rfl rfl underlying24 rfl (HS.getN 1 rfl)) ?_
   refine on_ c99 ?_
   exact by (
   obtain ⟨t106, ha107, H⟩ := bind_some H
   refine cs0_ HS func12 (laws_sameInts.calls k A78 c79 t73.1 A103 c104 (t10.2.2.getD (0 : Int).toNat []) t106 _ (HS.getN 4 rfl) le80 (HS.getN 0 rfl) le105 ha107) (fun w108 HS => ?_)
   clear ha107
   refine v_ (Run.pickT rfl rfl c99 rfl) ?_
   refine mv_ ?_
   rcases eti_ H with ⟨c109, H⟩ | ⟨c109, H⟩
   · refine off_ (c' := false) (bF c109) ?_
     refine WL.know 168 (bF c109) ?_
     exact by (
     refine fast_ ?_
     refine via_ hK96 ?_
     clear hK96
     obtain rfl := os H
     exact rt1 Try.f3 rfl rfl hR_ ⟨rfl, HS.b⟩ )
   refine on_ c109 ?_
   refine mv_ ?_
   refine on_ c109 ?_
   exact by (
   refine mv_ ?_
   refine on_ c109 ?_
   refine b_ bin_eql ?_
   refine v_ (Run.pickT rfl rfl c109 rfl) ?_
   refine ad_ hK96 ?_
   clear hK96
   obtain rfl := os H
   exact rt1 Try.f3 rfl rfl hR_ ⟨rfl, HS.b⟩ )))))))))))))
 exact by (
 clear hK51
 refine WC.loop (fun k_ E_ W_ => ∃ i57, (∃ o_, laws_FnMixes.l0 t10 t26 k_ i57 = some o_ ∧ G53 o_ = some r) ∧ J58 i57 E_ W_) k ⟨0, ⟨_, H, Ho56⟩, rfl, (St.pk HS [0] [1, 2, 3, 4] rfl rfl)⟩ (sb rfl) ?_
 rintro k_ E_ w111 ⟨i57, ⟨oc55, H, Ho56⟩, rfl, HS⟩
 rcases k_ with _ | k112
 · exact no_ H
 replace H : laws_FnMixes.b0 t10 t26 (laws_FnMixes.l0 t10 t26 k112) k112 i57 = some oc55 := H
 unfold laws_FnMixes.b0 at H
 refine WC.seq fun _ hK113 => ?_
 exact by (
 refine sr_ fun _ hK114 => ?_
 refine mv_ ?_
 refine mv_ ?_
 refine ln_ underlying24 ?_
 refine b_ bin_lss ?_
 refine dn_ hK114 ?_
 clear hK114
 rcases eti_ H with ⟨c115, H⟩ | ⟨c115, H⟩
 · refine wn_ (dF c115) (WC.exit ?_)
   obtain rfl := os H
   exact wv_ iq X59 ⟨i57, Ho56, rfl, HS⟩
 exact by (
 refine wy_ (dT c115) (WC.skip (via_ hK113 (WC.seq fun _ hK116 => ?_)))
 clear hK113
 refine WC.block (sr_ fun _ hK117 => ?_)
 refine mv_ ?_
 obtain ⟨⟨q118, q119⟩, H⟩ := if_some H
 obtain ⟨ad120, rfl⟩ := C_open (HS.getN 3 rfl) (by omega)
 refine v_ (ia_ underlying25 1 q118 q119) ?_
 obtain ⟨A121, c122, le123, HS⟩ := HS.slN 3 rfl 0 q118 q119
 exact by (
 refine v_ (Run.load rfl rfl underlying24 rfl (HS.getN 1 rfl)) ?_
 refine mv_ ?_
 obtain ⟨⟨q124, q125⟩, H⟩ := if_some H
 obtain ⟨ad126, rfl⟩ := C_open (HS.getN 0 rfl) (by omega)
 refine v_ (ia_ underlying24 1 q124 q125) ?_
 refine v_ (Run.load rfl rfl underlying3 rfl (int_cell (HS.getN 0 rfl) i57 q124 q125)) ?_
 refine ad_ hK117 ?_
 clear hK117
 exact by (
 refine sr_ fun _ hK127 => ?_
 refine mv_ ?_
 refine v_ (ia_ underlying25 1 q118 q119) ?_
 refine v_ (Run.load rfl rfl underlying24 rfl (HS.getN 1 rfl)) ?_
 refine mv_ ?_
 refine v_ (ia_ underlying24 1 q124 q125) ?_
 refine v_ (Run.load rfl rfl underlying3 rfl (int_cell (HS.getN 0 rfl) i57 q124 q125)) ?_
 refine ad_ hK127 ?_
 exact by (
 clear hK127
 refine WC.seq fun K128 hK128 => ?_
 refine sr_ fun _ hK129 => ?_
 refine ad_ hK129 ?_
 clear hK129
 refine WC.block ?_
 obtain ⟨G130, hG131, oc132, H, Ho133⟩ := open_G H
 let J137 := fun (i134 : Int) (i135 : Int) (i136 : Int) (E_ : Env) (W_ : World) => E_ = [(3, .slice A13 t10.1.length c14), (4, .slice A17 t10.2.1.length c18), (5, .slice (some ad120) t10.2.2.length c22), (6, .slice A31 t26.1.length c32), (10, vi i57), (11, vi i134), (12, vi i135), (13, vi i136)] ∧ St (fun _ => True) w W_ [] [(cF kU A0 l0)] [(cF kI A31 t26.1), (cF kI A13 t10.1), (cF kS3 A17 t10.2.1), (cF kS3 (some ad120) t10.2.2)]
 exact by (
 have X138 : ∀ E_ W_, (∃ i134 i135 i136, G130 (i134, i135, i136) = some oc55 ∧ J137 i134 i135 i136 E_ W_) → ∀ a, Fits a 173 E_ → K128 a W_ := by
   rintro E_ w139 ⟨i134, i135, i136, H, rfl, HS⟩
   rw [hG131] at H
   (try dsimp only at H)
   refine hK128 _ _ ?_
   clear hK128
   refine sr_ fun _ hK140 => ?_
   refine mv_ ?_
   exact by (
   refine ln_ underlying25 ?_
   refine v_ (Run.bin rfl rfl rfl (bin_quo64 (show (2 : Int) ≠ 0 by decide))) ?_
   refine b_ bin_add64 ?_
   refine ad_ hK140 ?_
   clear hK140
   refine WC.seq fun K141 hK141 => ?_
   obtain ⟨G142, hG143, oc144, H, Ho145⟩ := open_G H
   have X147 : ∀ E_ W_, (∃ (i146 : Int), E_ = [(3, .slice A13 t10.1.length c14), (4, .slice A17 t10.2.1.length c18), (5, .slice (some ad120) t10.2.2.length c22), (6, .slice A31 t26.1.length c32), (10, vi i57), (11, vi i134), (12, vi i146), (14, vi (wrap64 ((wrap64 (Int.tdiv (t10.2.2.length : Int) 2)) + 2)))] ∧ G142 i146 = some oc55 ∧ St (fun _ => True) w W_ [] [(cF kU A0 l0)] [(cF kI A31 t26.1), (cF kI A13 t10.1), (cF kS3 A17 t10.2.1), (cF kS3 (some ad120) t10.2.2)]) → ∀ a, Fits a 173 E_ → K141 a W_ := by
     exact by (
     rintro E_ w148 ⟨i146, rfl, H, HS⟩
     rw [hG143] at H
     (try dsimp only at H)
     refine hK141 _ _ ?_
     clear hK141
     refine WC.seq fun K149 hK149 => ?_
     obtain ⟨G150, hG151, oc152, H, Ho153⟩ := open_G H
     have X155 : ∀ E_ W_, (∃ (i154 : Int), E_ = [(3, .slice A13 t10.1.length c14), (4, .slice A17 t10.2.1.length c18), (5, .slice (some ad120) t10.2.2.length c22), (6, .slice A31 t26.1.length c32), (10, vi i57), (11, vi i154), (12, vi i146), (14, vi (wrap64 ((wrap64 (Int.tdiv (t10.2.2.length : Int) 2)) + 2)))] ∧ G150 i154 = some oc55 ∧ St (fun _ => True) w W_ [] [(cF kU A0 l0)] [(cF kI A31 t26.1), (cF kI A13 t10.1), (cF kS3 A17 t10.2.1), (cF kS3 (some ad120) t10.2.2)]) → ∀ a, Fits a 173 E_ → K149 a W_ := by
       exact by (
       rintro E_ w156 ⟨i154, rfl, H, HS⟩
       rw [hG151] at H
       (try dsimp only at H)
       refine hK149 _ _ ?_
       clear hK149
       refine sr_ fun _ hK157 => ?_
       refine mv_ ?_
       refine mv_ ?_
       exact by (
       obtain ⟨⟨q158, q159⟩, H⟩ := if_some H
       obtain ⟨ad160, rfl⟩ := C_open (HS.getN 0 rfl) (by omega)
       refine v_ (ia_ underlying24 1 q158 q159) ?_
       refine v_ (Run.load rfl rfl underlying3 rfl (int_cell (HS.getN 0 rfl) i57 q158 q159)) ?_
       refine mv_ ?_
       refine b_ bin_gtr ?_
       refine mv_ ?_
       rcases ite_ H with ⟨c161, H⟩ | ⟨c161, H⟩
       · refine off_ (c' := true) (dT c161) ?_
         exact by (
         refine WL.know 121 (dT c161) ?_
         refine fast_ ?_
         refine via_ hK157 (wy_ rfl ?_)
         clear hK157
         refine sr_ fun _ hK162 => ?_
         refine ad_ hK162 ?_
         clear hK162
         refine WC.ret ?_
         obtain rfl := os H
         exact by (
         rw [hG54] at Ho56
         replace H : some _ = some _ := Ho56
         obtain rfl := os H
         exact fin1 Try.f3 rfl rfl hR_ ⟨rfl, HS.b⟩ ))
       refine on_ (dF c161) (mv_ ?_)
       refine on_ (dF c161) (mv_ ?_)
       refine on_ (dF c161) (v_ (ia_ underlying24 1 q158 q159) ?_)
       refine on_ (dF c161) (v_ (Run.load rfl rfl underlying3 rfl (int_cell (HS.getN 0 rfl) i57 q158 q159)) ?_)
       exact by (
       refine on_ (dF c161) (mv_ ?_)
       refine on_ (dF c161) (mv_ ?_)
       refine on_ (dF c161) (b_ bin_sub64 ?_)
       refine on_ (dF c161) (b_ bin_lss ?_)
       refine v_ (Run.pickF rfl rfl (dF c161) rfl) ?_
       refine dn_ hK157 ?_
       clear hK157
       rcases eti_ H with ⟨c163, H⟩ | ⟨c163, H⟩
       · refine wn_ (dF c163) (WC.skip (via_ hK116 (rg_ (mv_ ?_))))
         exact by (
         clear hK116
         refine b_ bin_add64 ?_
         refine as_ ?_
         refine WL.done ?_
         exact wr_ k112 iq ⟨(wrap64 (i57 + 1)), ⟨_, H, Ho56⟩, rfl, HS⟩ )
       refine wy_ (dT c163) (sr_ fun _ hK164 => ?_)
       refine ad_ hK164 ?_
       clear hK164
       exact by (
       refine WC.ret ?_
       obtain rfl := os H
       rw [hG54] at Ho56
       replace H : some _ = some _ := Ho56
       obtain rfl := os H
       exact fin1 Try.f3 rfl rfl hR_ ⟨rfl, HS.b⟩ ))))
     clear hK149
     refine sr_ fun _ hK166 => ?_
     exact by (
     refine mv_ ?_
     refine b_ bin_gtr ?_
     refine dn_ hK166 ?_
     clear hK166
     rcases eti_ H with ⟨c167, H⟩ | ⟨c167, H⟩
     · refine wn_ (dF c167) (WC.skip ?_)
       obtain rfl := os H
       exact wv_ iq X155 ⟨i134, rfl, Ho153, HS⟩
     exact by (
     refine wy_ (dT c167) (rg_ (as_ ?_))
     refine WL.done ?_
     obtain rfl := os H
     exact wv_ iq X155 ⟨0, rfl, Ho153, HS⟩ )))
   clear hK141
   refine sr_ fun _ hK169 => ?_
   refine mv_ ?_
   refine b_ bin_lss ?_
   exact by (
   refine dn_ hK169 ?_
   clear hK169
   rcases eti_ H with ⟨c170, H⟩ | ⟨c170, H⟩
   · refine wn_ (dF c170) (WC.skip ?_)
     obtain rfl := os H
     exact wv_ iq X147 ⟨i135, rfl, Ho145, HS⟩
   refine wy_ (dT c170) (rg_ (as_ ?_))
   refine WL.done ?_
   obtain rfl := os H
   exact wv_ iq X147 ⟨0, rfl, Ho145, HS⟩ ))
 exact by (
 clear hK128
 refine WC.loop (fun k_ E_ W_ => ∃ i134 i135 i136, (∃ o_, laws_FnMixes.l1 t10 i57 k_ i134 i135 i136 = some o_ ∧ G130 o_ = some oc55) ∧ J137 i134 i135 i136 E_ W_) k112 ⟨((t10.2.2.getD (0 : Int).toNat []).getD i57.toNat 0), ((t10.2.2.getD (0 : Int).toNat []).getD i57.toNat 0), 1, ⟨_, H, Ho133⟩, rfl, (St.pk HS [0] [2, 3, 4, 5] rfl rfl)⟩ (sb rfl) ?_
 rintro k_ E_ w172 ⟨i134, i135, i136, ⟨oc132, H, Ho133⟩, rfl, HS⟩
 rcases k_ with _ | k173
 · exact no_ H
 replace H : laws_FnMixes.b1 t10 i57 (laws_FnMixes.l1 t10 i57 k173) k173 i134 i135 i136 = some oc132 := H
 unfold laws_FnMixes.b1 at H
 refine WC.seq fun _ hK174 => ?_
 exact by (
 refine sr_ fun _ hK175 => ?_
 refine mv_ ?_
 refine mv_ ?_
 refine ln_ underlying25 ?_
 refine b_ bin_lss ?_
 refine dn_ hK175 ?_
 clear hK175
 rcases eti_ H with ⟨c176, H⟩ | ⟨c176, H⟩
 · refine wn_ (dF c176) (WC.exit ?_)
   obtain rfl := os H
   exact wv_ iq X138 ⟨i134, i135, i136, Ho133, rfl, HS⟩
 exact by (
 refine wy_ (dT c176) (WC.skip (via_ hK174 (WC.seq fun K177 hK177 => ?_)))
 clear hK174
 obtain ⟨G178, hG179, oc180, H, Ho181⟩ := open_G H
 have X184 : ∀ E_ W_, (∃ (i182 : Int) (i183 : Int), E_ = [(3, .slice A13 t10.1.length c14), (4, .slice A17 t10.2.1.length c18), (5, .slice (some ad120) t10.2.2.length c22), (6, .slice A31 t26.1.length c32), (10, vi i57), (11, vi i182), (12, vi i183), (13, vi i136)] ∧ G178 (i182, i183) = some oc132 ∧ St (fun _ => True) w W_ [] [(cF kU A0 l0)] [(cF kI A31 t26.1), (cF kI A13 t10.1), (cF kS3 A17 t10.2.1), (cF kS3 (some ad120) t10.2.2)]) → ∀ a, Fits a 173 E_ → K177 a W_ := by
   rintro E_ w185 ⟨i182, i183, rfl, H, HS⟩
   rw [hG179] at H
   (try dsimp only at H)
   refine hK177 _ _ ?_
   exact by (
   clear hK177
   refine rg_ (mv_ ?_)
   refine b_ bin_add64 ?_
   refine as_ ?_
   refine WL.done ?_
   exact wr_ k173 iq ⟨i182, i183, (wrap64 (i136 + 1)), ⟨_, H, Ho133⟩, rfl, HS⟩ )
 clear hK177
 refine WC.block (WC.seq fun K187 hK187 => ?_)
 exact by (
 obtain ⟨G188, hG189, oc190, H, Ho191⟩ := open_G H
 have X193 : ∀ E_ W_, (∃ (i192 : Int), E_ = [(3, .slice A13 t10.1.length c14), (4, .slice A17 t10.2.1.length c18), (5, .slice (some ad120) t10.2.2.length c22), (6, .slice A31 t26.1.length c32), (10, vi i57), (11, vi i192), (12, vi i135), (13, vi i136)] ∧ G188 i192 = some oc180 ∧ St (fun _ => True) w W_ [] [(cF kU A0 l0)] [(cF kI A31 t26.1), (cF kI A13 t10.1), (cF kS3 A17 t10.2.1), (cF kS3 (some ad120) t10.2.2)]) → ∀ a, Fits a 173 E_ → K187 a W_ := by
   rintro E_ w194 ⟨i192, rfl, H, HS⟩
   rw [hG189] at H
   (try dsimp only at H)
   refine hK187 _ _ ?_
   clear hK187
   refine sr_ fun _ hK195 => ?_
   exact by (
   refine mv_ ?_
   refine mv_ ?_
   obtain ⟨⟨q196, q197⟩, H⟩ := if_some H
   refine v_ (ia_ underlying25 1 q196 q197) ?_
   obtain ⟨A198, c199, le200, HS⟩ := HS.slN 3 rfl i136 q196 q197
   refine v_ (Run.load rfl rfl underlying24 rfl (HS.getN 1 rfl)) ?_
   refine mv_ ?_
   obtain ⟨⟨q201, q202⟩, H⟩ := if_some H
   exact by (
   obtain ⟨ad203, rfl⟩ := C_open (HS.getN 0 rfl) (by omega)
   refine v_ (ia_ underlying24 1 q201 q202) ?_
   refine v_ (Run.load rfl rfl underlying3 rfl (int_cell (HS.getN 0 rfl) i57 q201 q202)) ?_
   refine mv_ ?_
   refine b_ bin_gtr ?_
   refine dn_ hK195 ?_
   clear hK195
   rcases eti_ H with ⟨c204, H⟩ | ⟨c204, H⟩
   · refine wn_ (dF c204) (WC.skip ?_)
     obtain rfl := os H
     exact wv_ iq X184 ⟨i192, i135, rfl, Ho181, (St.pk HS [0] [2, 3, 4, 5] rfl rfl)⟩
   exact by (
   refine wy_ (dT c204) (rg_ (mv_ ?_))
   refine mv_ ?_
   refine v_ (ia_ underlying25 1 q196 q197) ?_
   refine v_ (Run.load rfl rfl underlying24 rfl (HS.getN 1 rfl)) ?_
   refine mv_ ?_
   refine v_ (ia_ underlying24 1 q201 q202) ?_
   refine v_ (Run.load rfl rfl underlying3 rfl (int_cell (HS.getN 0 rfl) i57 q201 q202)) ?_
   refine as_ ?_
   exact by (
   refine WL.done ?_
   obtain rfl := os H
   exact wv_ iq X184 ⟨i192, ((t10.2.2.getD i136.toNat []).getD i57.toNat 0), rfl, Ho181, (St.pk HS [0] [2, 3, 4, 5] rfl rfl)⟩ ))))
 clear hK187
 refine sr_ fun _ hK206 => ?_
 refine mv_ ?_
 refine mv_ ?_
 obtain ⟨⟨q207, q208⟩, H⟩ := if_some H
 exact by (
 refine v_ (ia_ underlying25 1 q207 q208) ?_
 obtain ⟨A209, c210, le211, HS⟩ := HS.slN 3 rfl i136 q207 q208
 refine v_ (Run.load rfl rfl underlying24 rfl (HS.getN 1 rfl)) ?_
 refine mv_ ?_
 obtain ⟨⟨q212, q213⟩, H⟩ := if_some H
 obtain ⟨ad214, rfl⟩ := C_open (HS.getN 0 rfl) (by omega)
 refine v_ (ia_ underlying24 1 q212 q213) ?_
 refine v_ (Run.load rfl rfl underlying3 rfl (int_cell (HS.getN 0 rfl) i57 q212 q213)) ?_
 exact by (
 refine mv_ ?_
 refine b_ bin_lss ?_
 refine dn_ hK206 ?_
 clear hK206
 rcases eti_ H with ⟨c215, H⟩ | ⟨c215, H⟩
 · refine wn_ (dF c215) (WC.skip ?_)
   obtain rfl := os H
   exact wv_ iq X193 ⟨i134, rfl, Ho191, (St.pk HS [0] [2, 3, 4, 5] rfl rfl)⟩
 exact by (
 refine wy_ (dT c215) (rg_ (mv_ ?_))
 refine mv_ ?_
 refine v_ (ia_ underlying25 1 q207 q208) ?_
 refine v_ (Run.load rfl rfl underlying24 rfl (HS.getN 1 rfl)) ?_
 refine mv_ ?_
 refine v_ (ia_ underlying24 1 q212 q213) ?_
 refine v_ (Run.load rfl rfl underlying3 rfl (int_cell (HS.getN 0 rfl) i57 q212 q213)) ?_
 refine as_ ?_
 exact by (
 refine WL.done ?_
 obtain rfl := os H
 exact wv_ iq X193 ⟨((t10.2.2.getD i136.toNat []).getD i57.toNat 0), rfl, Ho191, (St.pk HS [0] [2, 3, 4, 5] rfl rfl)⟩ ))))))))))))))))))))))))))
def okT5 (x : Int) : Prop := (Lit.int .u8 x).wf = true
theorem opensT5 : XOpen.Opens prog 5 kU okT5 := XOpen.opens_int underlying5
def okT22 (xs : List Int) : Prop := xs.length ≤ 9223372036854775807 ∧ ∀ x ∈ xs, okT5 x
theorem opensT22 : XOpen.Opens prog 22 kS5 okT22 := XOpen.opens_slice underlying22 (by kernel_rfl) opensT5
def laws_FnMixes.Pure : Prop := ∀ (l0 : List Int), okT22 l0 → ∃ k, laws_FnMixes.g k l0 = some true
end Go.Proofs.Ytoccifnjhbibcaa.PFnMixes
