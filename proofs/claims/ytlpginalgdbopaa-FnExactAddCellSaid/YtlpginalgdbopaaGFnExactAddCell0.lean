/- Functions that the statement reaches, as Lean functions, and the proof that a call of each comes to just its answer; written by this claim's own program. No conditions. -/
import Derived.Test.YtlpginalgdbopaaPFnExactAddCellx0
import Derived.Test.YtlpginalgdbopaaPFnExactAddCellx1
import Derived.Test.YtlpginalgdbopaaVFnExactAddCell1
namespace Go.Proofs.Ytlpginalgdbopaa.PFnExactAddCell
open Try
open Go.RowKit Go.Proofs.YtlpginalgdbopaaW.PrintWords Go.Proofs.YtlpginalgdbopaaW.PrintLast Go.Proofs.YtlpginalgdbopaaW.PrintMore Go.Proofs.Ytlpginalgdbopaa.XW Go.Proofs.Ytlpginalgdbopaa.XOp Go.Proofs.Ytlpginalgdbopaa.XSt Go.Proofs.Ytlpginalgdbopaa.XDraw
set_option linter.unusedVariables false
set_option linter.unusedSimpArgs false
set_option maxHeartbeats 4000000
set_option maxRecDepth 20000
structure S149 where
 f0 : Int
 f1 : List Int
abbrev kS3 := Kd.slice 3 kI
def k149 : Kd S149 := Kd.iso (Kd.pair kI kS3) (fun x : S149 => (x.f0, x.f1))
structure S62 where
 f0 : List (List S149)
 f1 : List (List S149)
abbrev kS149 := Kd.slice 149 k149
abbrev kS133 := Kd.slice 133 kS149
def k62 : Kd S62 := Kd.iso (Kd.pair kS133 kS133) (fun x : S62 => (x.f0, x.f1))
theorem k62_mk (w : World) (x : S62) {A0 : Option Addr} {c0 : Nat} (l0 : x.f0.length ≤ c0) (g0 : kS149.C w A0 x.f0.length x.f0) {A1 : Option Addr} {c1 : Nat} (l1 : x.f1.length ≤ c1) (g1 : kS149.C w A1 x.f1.length x.f1) : k62.K w x [.slice A0 x.f0.length c0, .slice A1 x.f1.length c1] := (pS l0 g0 (lS l1 g1))
structure S58 where
 f0 : List Int
 f1 : List (List S62)
abbrev kS62 := Kd.slice 62 k62
structure S67 where
 f0 : List Int
 f1 : Int
structure S164 where
 f0 : Int
 f1 : List Int
def k164 : Kd S164 := Kd.iso (Kd.pair kI kS3) (fun x : S164 => (x.f0, x.f1))
structure S98 where
 f0 : List (List S164)
 f1 : List (List S164)
abbrev kS164 := Kd.slice 164 k164
abbrev kS160 := Kd.slice 160 kS164
def k98 : Kd S98 := Kd.iso (Kd.pair kS160 kS160) (fun x : S98 => (x.f0, x.f1))
structure S84 where
 f0 : List Int
 f1 : List (List S98)
abbrev kS98 := Kd.slice 98 k98
abbrev kS156 := Kd.slice 156 kS98
def k84 : Kd S84 := Kd.iso (Kd.pair kS3 kS156) (fun x : S84 => (x.f0, x.f1))
structure S85 where
 f0 : List Int
 f1 : Int
def k85 : Kd S85 := Kd.iso (Kd.pair kS3 kI) (fun x : S85 => (x.f0, x.f1))
def o149 : S149 := ⟨0, []⟩
theorem h149 : Kd.Heap k149 := Kd.heap_iso _ (Kd.heap_pair (Kd.heap_int _) (Kd.heap_slice _ (Kd.heap_int _)))
def o62 : S62 := ⟨[], []⟩
theorem h62 : Kd.Heap k62 := Kd.heap_iso _ (Kd.heap_pair (Kd.heap_slice _ (Kd.heap_slice _ h149)) (Kd.heap_slice _ (Kd.heap_slice _ h149)))
def o164 : S164 := ⟨0, []⟩
theorem h164 : Kd.Heap k164 := Kd.heap_iso _ (Kd.heap_pair (Kd.heap_int _) (Kd.heap_slice _ (Kd.heap_int _)))
def o98 : S98 := ⟨[], []⟩
theorem h98 : Kd.Heap k98 := Kd.heap_iso _ (Kd.heap_pair (Kd.heap_slice _ (Kd.heap_slice _ h164)) (Kd.heap_slice _ (Kd.heap_slice _ h164)))
theorem at62_0 {w : World} {x : S62} {cs : List Value} (h : AtK k62 w x cs 0) : AtK kS133 w x.f0 cs 0 := h.iso.fst
theorem at62_1 {w : World} {x : S62} {cs : List Value} (h : AtK k62 w x cs 0) : AtK kS133 w x.f1 cs 1 := (h.iso.snd rfl)
theorem at98_0 {w : World} {x : S98} {cs : List Value} (h : AtK k98 w x cs 0) : AtK kS160 w x.f0 cs 0 := h.iso.fst
theorem at98_1 {w : World} {x : S98} {cs : List Value} (h : AtK k98 w x cs 0) : AtK kS160 w x.f1 cs 1 := (h.iso.snd rfl)
theorem at149_0 {w : World} {x : S149} {cs : List Value} (h : AtK k149 w x cs 0) : AtK kI w x.f0 cs 0 := h.iso.fst
theorem at149_1 {w : World} {x : S149} {cs : List Value} (h : AtK k149 w x cs 0) : AtK kS3 w x.f1 cs 1 := (h.iso.snd rfl)
theorem at164_0 {w : World} {x : S164} {cs : List Value} (h : AtK k164 w x cs 0) : AtK kI w x.f0 cs 0 := h.iso.fst
theorem at164_1 {w : World} {x : S164} {cs : List Value} (h : AtK k164 w x cs 0) : AtK kS3 w x.f1 cs 1 := (h.iso.snd rfl)
def dq149 : Dk S149 := Dk.iso (Dk.pair (Dk.int .i64) (Dk.slice 3 (Dk.int .i64))) (fun x : S149 => (x.f0, x.f1))
theorem dq149_mk (w : World) (x : S149) {v1 : Value} {b1 : List Nat} (h1 : (Dk.slice 3 (Dk.int .i64)).B w x.f1 [v1] b1) : dq149.B w x [vi x.f0, v1] b1 := ⟨[vi x.f0], [v1], [], b1, rfl, (by simp), ⟨rfl, rfl⟩, h1⟩
def dq62 : Dk S62 := Dk.iso (Dk.pair (Dk.slice 133 (Dk.slice 149 dq149)) (Dk.slice 133 (Dk.slice 149 dq149))) (fun x : S62 => (x.f0, x.f1))
theorem dq62_mk (w : World) (x : S62) {v0 : Value} {b0 : List Nat} (h0 : (Dk.slice 133 (Dk.slice 149 dq149)).B w x.f0 [v0] b0) {v1 : Value} {b1 : List Nat} (h1 : (Dk.slice 133 (Dk.slice 149 dq149)).B w x.f1 [v1] b1) : dq62.B w x [v0, v1] (b0 ++ b1) := ⟨[v0], [v1], b0, b1, rfl, (by simp), h0, h1⟩
abbrev sh3 : XLeaf.Sh := .int
def n3 (_ : Int) : Nat := 1
theorem lf3 : LeafB (Dk.int .i64) sh3 n3 := LeafB.int
abbrev sh22 : XLeaf.Sh := .row sh3
def n22 (x : List Int) : Nat := (x.map n3).sum
theorem lf22 : LeafB (Dk.slice 3 (Dk.int .i64)) sh22 n22 := LeafB.slice lf3 3
abbrev sh149 : XLeaf.Sh := .both sh3 sh22
def n149 (x : S149) : Nat := n3 x.f0 + (n22 x.f1)
theorem lf149 : LeafB dq149 sh149 n149 := LeafB.iso (LeafB.pair lf3 lf22) (fun x : S149 => (x.f0, x.f1))
abbrev sh133 : XLeaf.Sh := .row sh149
def n133 (x : List S149) : Nat := (x.map n149).sum
theorem lf133 : LeafB (Dk.slice 149 dq149) sh133 n133 := LeafB.slice lf149 149
abbrev sh60 : XLeaf.Sh := .row sh133
def n60 (x : List (List S149)) : Nat := (x.map n133).sum
theorem lf60 : LeafB (Dk.slice 133 (Dk.slice 149 dq149)) sh60 n60 := LeafB.slice lf133 133
abbrev sh62 : XLeaf.Sh := .both sh60 sh60
def n62 (x : S62) : Nat := n60 x.f0 + (n60 x.f1)
theorem lf62 : LeafB dq62 sh62 n62 := LeafB.iso (LeafB.pair lf60 lf60) (fun x : S62 => (x.f0, x.f1))
abbrev sh71 : XLeaf.Sh := .row sh62
def n71 (x : List S62) : Nat := (x.map n62).sum
theorem lf71 : LeafB (Dk.slice 62 dq62) sh71 n71 := LeafB.slice lf62 62
def n56 (x : List (List S62)) : Nat := (x.map n71).sum
def laws_szIntS.g (k : Nat) (l0 : List Int) (a1 : Int) : Option Int := (if (wrap64 (a1 - (l0.length : Int))) < 0 then (some (-1)) else (some (wrap64 (a1 - (l0.length : Int)))))
theorem laws_szIntS.runs (k : Nat) (A0 : Option Addr) (c0 : Nat) (l0 : List Int) (a1 : Int) (r : Int) (w : World) (hr0 : kI.C w A0 l0.length l0) (hc0 : l0.length ≤ c0) (H : laws_szIntS.g k l0 a1 = some r) :
   Calls prog 81 #[.slice A0 l0.length c0, vi a1] w fun e w' => e = .returned (vi r) ∧ Below w.heap.size w w' := by
 unfold laws_szIntS.g at H
 have HS : St (fun _ => True) w w [] [(cF kI A0 l0)] [] := St.start (foot_cons (foot_C (Kd.heap_int _) hr0) foot_nil)
 refine cw_ (n := 12) func81 fun R_ hR_ => ?_
 refine sr_ fun _ hK1 => ?_
 refine ad_ hK1 ?_
 refine sr_ fun _ hK2 => ?_
 refine mv_ ?_
 refine mv_ ?_
 refine ln_ underlying22 ?_
 refine b_ bin_sub64 ?_
 refine ad_ hK2 ?_
 refine WC.seq fun _ hK3 => ?_
 refine sr_ fun _ hK4 => ?_
 refine mv_ ?_
 refine b_ bin_lss ?_
 refine dn_ hK4 ?_
 rcases ite_ H with ⟨c5, H⟩ | ⟨c5, H⟩
 · refine wy_ (dT c5) (sr_ fun _ hK6 => ?_)
   refine ad_ hK6 ?_
   obtain rfl := os H
   exact rt1 Try.f81 rfl rfl hR_ ⟨rfl, HS.b⟩
 refine wn_ (dF c5) (WC.skip (via_ hK3 (sr_ fun _ hK7 => ?_)))
 refine mv_ ?_
 refine ad_ hK7 ?_
 obtain rfl := os H
 exact rt1 Try.f81 rfl rfl hR_ ⟨rfl, HS.b⟩
def laws_szPart.g (k : Nat) (x0 : S164) (a1 : Int) : Option Int := ((laws_szIntS.g k x0.f1 a1).bind fun t5 => (if t5 < 0 then (some (-1)) else (some t5)))
theorem laws_szPart.runs (k : Nat) (x0 : S164) (A0_1 : Option Addr) (c0_1 : Nat) (a1 : Int) (r : Int) (w : World) (hr0_1 : kI.C w A0_1 x0.f1.length x0.f1) (hc0_1 : x0.f1.length ≤ c0_1) (H : laws_szPart.g k x0 a1 = some r) :
   Calls prog 162 #[.agg #[vi x0.f0, .slice A0_1 x0.f1.length c0_1], vi a1] w fun e w' => e = .returned (vi r) ∧ Below w.heap.size w w' := by
 unfold laws_szPart.g at H
 have HS : St (fun _ => True) w w [] [(cF kI A0_1 x0.f1)] [] := St.start (foot_cons (foot_C (Kd.heap_int _) hr0_1) foot_nil)
 refine cw_ (n := 12) func162 fun R_ hR_ => ?_
 refine sr_ fun _ hK1 => ?_
 refine bo_ HS (fun b2 w3 hb2 HS => ?_)
 refine ad_ hK1 ?_
 refine sr_ fun _ hK4 => ?_
 refine v_ (fa_ underlying164) ?_
 refine v_ (lb_ (HS.mu 0 rfl) underlying22 rfl) ?_
 refine mv_ ?_
 obtain ⟨t5, ha6, H⟩ := bind_some H
 refine cs_ HS func81 (laws_szIntS.runs k A0_1 c0_1 x0.f1 a1 t5 _ (HS.getO 0 rfl) hc0_1 ha6) (fun w7 HS => ?_)
 clear ha6
 refine ad_ hK4 ?_
 refine WC.seq fun _ hK8 => ?_
 refine sr_ fun _ hK9 => ?_
 refine mv_ ?_
 refine b_ bin_lss ?_
 refine dn_ hK9 ?_
 rcases ite_ H with ⟨c10, H⟩ | ⟨c10, H⟩
 · refine wy_ (dT c10) (sr_ fun _ hK11 => ?_)
   refine ad_ hK11 ?_
   obtain rfl := os H
   exact rt1 Try.f162 rfl rfl hR_ ⟨rfl, HS.b⟩
 refine wn_ (dF c10) (WC.skip (via_ hK8 (sr_ fun _ hK12 => ?_)))
 refine mv_ ?_
 refine ad_ hK12 ?_
 obtain rfl := os H
 exact rt1 Try.f162 rfl rfl hR_ ⟨rfl, HS.b⟩
def laws_szPartS.b0 (l0 : List S164) (rec_ : Int → Int → Option (Int ⊕ (Int × Int))) (k21 : Nat) (i13 : Int) (i14 : Int) : Option (Int ⊕ (Int × Int)) := (if i14 < (l0.length : Int) then (if 0 ≤ i14 ∧ i14 < (l0.length : Int) then ((laws_szPart.g k21 (l0.getD i14.toNat o164) i13).bind fun t36 => (if t36 < 0 then (some (Sum.inl (-1))) else (rec_ t36 (wrap64 (i14 + 1))))) else none) else (some (Sum.inr (i13, i14))))
def laws_szPartS.l0 (l0 : List S164) : Nat → Int → Int → Option (Int ⊕ (Int × Int))
 | 0, _, _ => none
 | k + 1, i13, i14 => laws_szPartS.b0 l0 (laws_szPartS.l0 l0 k) k i13 i14
def laws_szPartS.g (k : Nat) (l0 : List S164) (a1 : Int) : Option Int := (if (wrap64 (a1 - (l0.length : Int))) < 0 then (some (-1)) else ((laws_szPartS.l0 l0 k (wrap64 (a1 - (l0.length : Int))) 0).bind (fun oc19 => match oc19 with | .inl r_ => some r_ | .inr ⟨i13, i14⟩ => (some i13))))
theorem laws_szPartS.runs (k : Nat) (A0 : Option Addr) (c0 : Nat) (l0 : List S164) (a1 : Int) (r : Int) (w : World) (hr0 : k164.C w A0 l0.length l0) (hc0 : l0.length ≤ c0) (H : laws_szPartS.g k l0 a1 = some r) :
   Calls prog 155 #[.slice A0 l0.length c0, vi a1] w fun e w' => e = .returned (vi r) ∧ Below w.heap.size w w' := by
 unfold laws_szPartS.g at H
 have HS : St (fun _ => True) w w [] [(cF k164 A0 l0)] [] := St.start (foot_cons (foot_C h164 hr0) foot_nil)
 refine cw_ (n := 27) func155 fun R_ hR_ => ?_
 refine sr_ fun _ hK1 => ?_
 refine ad_ hK1 ?_
 refine sr_ fun _ hK2 => ?_
 refine mv_ ?_
 refine mv_ ?_
 refine ln_ underlying160 ?_
 refine b_ bin_sub64 ?_
 refine ad_ hK2 ?_
 refine WC.seq fun _ hK3 => ?_
 refine sr_ fun _ hK4 => ?_
 refine mv_ ?_
 refine b_ bin_lss ?_
 refine dn_ hK4 ?_
 rcases ite_ H with ⟨c5, H⟩ | ⟨c5, H⟩
 · refine wy_ (dT c5) (sr_ fun _ hK6 => ?_)
   refine ad_ hK6 ?_
   obtain rfl := os H
   exact rt1 Try.f155 rfl rfl hR_ ⟨rfl, HS.b⟩
 refine wn_ (dF c5) (WC.skip (via_ hK3 (WC.seq fun K7 hK7 => ?_)))
 refine sr_ fun _ hK8 => ?_
 refine ad_ hK8 ?_
 refine WC.block ?_
 obtain ⟨G9, hG10, oc11, H, Ho12⟩ := open_G H
 let J15 := fun (i13 : Int) (i14 : Int) (E_ : Env) (W_ : World) => E_ = [(0, .slice A0 l0.length c0), (1, vi i13), (5, vi i14)] ∧ St (fun _ => True) w W_ [] [(cF k164 A0 l0)] []
 have X16 : ∀ E_ W_, (∃ i13 i14, G9 (Sum.inr (i13, i14)) = some r ∧ J15 i13 i14 E_ W_) → ∀ a, Fits a 27 E_ → K7 a W_ := by
   rintro E_ w17 ⟨i13, i14, H, rfl, HS⟩
   rw [hG10] at H
   (try dsimp only at H)
   refine hK7 _ _ ?_
   refine sr_ fun _ hK18 => ?_
   refine mv_ ?_
   refine ad_ hK18 ?_
   obtain rfl := os H
   exact rt1 Try.f155 rfl rfl hR_ ⟨rfl, HS.b⟩
 clear hK7
 refine WC.loop (fun k_ E_ W_ => ∃ i13 i14, (∃ o_, laws_szPartS.l0 l0 k_ i13 i14 = some o_ ∧ G9 o_ = some r) ∧ J15 i13 i14 E_ W_) k ⟨(wrap64 (a1 - (l0.length : Int))), 0, ⟨_, H, Ho12⟩, rfl, HS⟩ (sb rfl) ?_
 rintro k_ E_ w20 ⟨i13, i14, ⟨oc11, H, Ho12⟩, rfl, HS⟩
 rcases k_ with _ | k21
 · exact no_ H
 replace H : laws_szPartS.b0 l0 (laws_szPartS.l0 l0 k21) k21 i13 i14 = some oc11 := H
 unfold laws_szPartS.b0 at H
 refine WC.seq fun _ hK22 => ?_
 refine sr_ fun _ hK23 => ?_
 refine mv_ ?_
 refine mv_ ?_
 refine ln_ underlying160 ?_
 refine b_ bin_lss ?_
 refine dn_ hK23 ?_
 rcases eti_ H with ⟨c24, H⟩ | ⟨c24, H⟩
 · refine wn_ (dF c24) (WC.exit ?_)
   obtain rfl := os H
   exact wv_ iq X16 ⟨i13, i14, Ho12, rfl, HS⟩
 refine wy_ (dT c24) (WC.skip (via_ hK22 (WC.seq fun _ hK25 => ?_)))
 refine WC.block (sr_ fun _ hK26 => ?_)
 refine mv_ ?_
 refine mv_ ?_
 obtain ⟨⟨q27, q28⟩, H⟩ := if_some H
 obtain ⟨ad29, rfl⟩ := C_open (HS.getO 0 rfl) (by omega)
 refine v_ (ia_ underlying160 2 q27 q28) ?_
 obtain ⟨e30, el31, HS⟩ := HS.elO 0 rfl (by decide) o164 i14 q27 q28
 obtain ⟨A32, c33, hc34, le35, HS⟩ := HS.eO 0 rfl at164_1
 refine v_ (Run.loadS (cs := [vi ((l0.getD i14.toNat o164).f0), .slice A32 ((l0.getD i14.toNat o164).f1.length) c33]) rfl rfl underlying164 rfl (by kernel_rfl) (cells_part (HS.getO 1 rfl).2 (part_cons (at164_0 (AtK.whole (HS.getO 1 rfl).1)).int (part_cons hc34 part_nil)))) ?_
 refine mv_ ?_
 obtain ⟨t36, ha37, H⟩ := bind_some H
 refine cs_ HS func162 (laws_szPart.runs k21 (l0.getD i14.toNat o164) A32 c33 i13 t36 _ (HS.getO 0 rfl) le35 ha37) (fun w38 HS => ?_)
 clear ha37
 refine ad_ hK26 ?_
 refine sr_ fun _ hK39 => ?_
 refine mv_ ?_
 refine b_ bin_lss ?_
 refine dn_ hK39 ?_
 rcases eti_ H with ⟨c40, H⟩ | ⟨c40, H⟩
 · refine wn_ (dF c40) (WC.skip (via_ hK25 (rg_ (mv_ ?_))))
   refine b_ bin_add64 ?_
   refine as_ ?_
   refine WL.done ?_
   exact wr_ k21 iq ⟨t36, (wrap64 (i14 + 1)), ⟨_, H, Ho12⟩, rfl, (St.pk HS [2] [] rfl rfl)⟩
 refine wy_ (dT c40) (sr_ fun _ hK41 => ?_)
 refine ad_ hK41 ?_
 refine WC.ret ?_
 obtain rfl := os H
 rw [hG10] at Ho12
 replace H : some _ = some _ := Ho12
 obtain rfl := os H
 exact fin1 Try.f155 rfl rfl hR_ ⟨rfl, HS.b⟩
def laws_szPartSS.b0 (l0 : List (List S164)) (rec_ : Int → Int → Option (Int ⊕ (Int × Int))) (k21 : Nat) (i13 : Int) (i14 : Int) : Option (Int ⊕ (Int × Int)) := (if i14 < (l0.length : Int) then (if 0 ≤ i14 ∧ i14 < (l0.length : Int) then ((laws_szPartS.g k21 (l0.getD i14.toNat []) i13).bind fun t33 => (if t33 < 0 then (some (Sum.inl (-1))) else (rec_ t33 (wrap64 (i14 + 1))))) else none) else (some (Sum.inr (i13, i14))))
def laws_szPartSS.l0 (l0 : List (List S164)) : Nat → Int → Int → Option (Int ⊕ (Int × Int))
 | 0, _, _ => none
 | k + 1, i13, i14 => laws_szPartSS.b0 l0 (laws_szPartSS.l0 l0 k) k i13 i14
def laws_szPartSS.g (k : Nat) (l0 : List (List S164)) (a1 : Int) : Option Int := (if (wrap64 (a1 - (l0.length : Int))) < 0 then (some (-1)) else ((laws_szPartSS.l0 l0 k (wrap64 (a1 - (l0.length : Int))) 0).bind (fun oc19 => match oc19 with | .inl r_ => some r_ | .inr ⟨i13, i14⟩ => (some i13))))
theorem laws_szPartSS.runs (k : Nat) (A0 : Option Addr) (c0 : Nat) (l0 : List (List S164)) (a1 : Int) (r : Int) (w : World) (hr0 : kS164.C w A0 l0.length l0) (hc0 : l0.length ≤ c0) (H : laws_szPartSS.g k l0 a1 = some r) :
   Calls prog 133 #[.slice A0 l0.length c0, vi a1] w fun e w' => e = .returned (vi r) ∧ Below w.heap.size w w' := by
 unfold laws_szPartSS.g at H
 have HS : St (fun _ => True) w w [] [(cF kS164 A0 l0)] [] := St.start (foot_cons (foot_C (Kd.heap_slice _ h164) hr0) foot_nil)
 refine cw_ (n := 27) func133 fun R_ hR_ => ?_
 refine sr_ fun _ hK1 => ?_
 refine ad_ hK1 ?_
 refine sr_ fun _ hK2 => ?_
 refine mv_ ?_
 refine mv_ ?_
 refine ln_ underlying96 ?_
 refine b_ bin_sub64 ?_
 refine ad_ hK2 ?_
 refine WC.seq fun _ hK3 => ?_
 refine sr_ fun _ hK4 => ?_
 refine mv_ ?_
 refine b_ bin_lss ?_
 refine dn_ hK4 ?_
 rcases ite_ H with ⟨c5, H⟩ | ⟨c5, H⟩
 · refine wy_ (dT c5) (sr_ fun _ hK6 => ?_)
   refine ad_ hK6 ?_
   obtain rfl := os H
   exact rt1 Try.f133 rfl rfl hR_ ⟨rfl, HS.b⟩
 refine wn_ (dF c5) (WC.skip (via_ hK3 (WC.seq fun K7 hK7 => ?_)))
 refine sr_ fun _ hK8 => ?_
 refine ad_ hK8 ?_
 refine WC.block ?_
 obtain ⟨G9, hG10, oc11, H, Ho12⟩ := open_G H
 let J15 := fun (i13 : Int) (i14 : Int) (E_ : Env) (W_ : World) => E_ = [(0, .slice A0 l0.length c0), (1, vi i13), (5, vi i14)] ∧ St (fun _ => True) w W_ [] [(cF kS164 A0 l0)] []
 have X16 : ∀ E_ W_, (∃ i13 i14, G9 (Sum.inr (i13, i14)) = some r ∧ J15 i13 i14 E_ W_) → ∀ a, Fits a 27 E_ → K7 a W_ := by
   rintro E_ w17 ⟨i13, i14, H, rfl, HS⟩
   rw [hG10] at H
   (try dsimp only at H)
   refine hK7 _ _ ?_
   refine sr_ fun _ hK18 => ?_
   refine mv_ ?_
   refine ad_ hK18 ?_
   obtain rfl := os H
   exact rt1 Try.f133 rfl rfl hR_ ⟨rfl, HS.b⟩
 clear hK7
 refine WC.loop (fun k_ E_ W_ => ∃ i13 i14, (∃ o_, laws_szPartSS.l0 l0 k_ i13 i14 = some o_ ∧ G9 o_ = some r) ∧ J15 i13 i14 E_ W_) k ⟨(wrap64 (a1 - (l0.length : Int))), 0, ⟨_, H, Ho12⟩, rfl, HS⟩ (sb rfl) ?_
 rintro k_ E_ w20 ⟨i13, i14, ⟨oc11, H, Ho12⟩, rfl, HS⟩
 rcases k_ with _ | k21
 · exact no_ H
 replace H : laws_szPartSS.b0 l0 (laws_szPartSS.l0 l0 k21) k21 i13 i14 = some oc11 := H
 unfold laws_szPartSS.b0 at H
 refine WC.seq fun _ hK22 => ?_
 refine sr_ fun _ hK23 => ?_
 refine mv_ ?_
 refine mv_ ?_
 refine ln_ underlying96 ?_
 refine b_ bin_lss ?_
 refine dn_ hK23 ?_
 rcases eti_ H with ⟨c24, H⟩ | ⟨c24, H⟩
 · refine wn_ (dF c24) (WC.exit ?_)
   obtain rfl := os H
   exact wv_ iq X16 ⟨i13, i14, Ho12, rfl, HS⟩
 refine wy_ (dT c24) (WC.skip (via_ hK22 (WC.seq fun _ hK25 => ?_)))
 refine WC.block (sr_ fun _ hK26 => ?_)
 refine mv_ ?_
 refine mv_ ?_
 obtain ⟨⟨q27, q28⟩, H⟩ := if_some H
 obtain ⟨ad29, rfl⟩ := C_open (HS.getO 0 rfl) (by omega)
 refine v_ (ia_ underlying96 1 q27 q28) ?_
 obtain ⟨A30, c31, le32, HS⟩ := HS.slO 0 rfl i14 q27 q28
 refine v_ (Run.load rfl rfl underlying160 rfl (HS.getO 1 rfl)) ?_
 refine mv_ ?_
 obtain ⟨t33, ha34, H⟩ := bind_some H
 refine cs_ HS func155 (laws_szPartS.runs k21 A30 c31 (l0.getD i14.toNat []) i13 t33 _ (HS.getO 0 rfl) le32 ha34) (fun w35 HS => ?_)
 clear ha34
 refine ad_ hK26 ?_
 refine sr_ fun _ hK36 => ?_
 refine mv_ ?_
 refine b_ bin_lss ?_
 refine dn_ hK36 ?_
 rcases eti_ H with ⟨c37, H⟩ | ⟨c37, H⟩
 · refine wn_ (dF c37) (WC.skip (via_ hK25 (rg_ (mv_ ?_))))
   refine b_ bin_add64 ?_
   refine as_ ?_
   refine WL.done ?_
   exact wr_ k21 iq ⟨t33, (wrap64 (i14 + 1)), ⟨_, H, Ho12⟩, rfl, (St.pk HS [2] [] rfl rfl)⟩
 refine wy_ (dT c37) (sr_ fun _ hK38 => ?_)
 refine ad_ hK38 ?_
 refine WC.ret ?_
 obtain rfl := os H
 rw [hG10] at Ho12
 replace H : some _ = some _ := Ho12
 obtain rfl := os H
 exact fin1 Try.f133 rfl rfl hR_ ⟨rfl, HS.b⟩
def laws_szCell.g (k : Nat) (x0 : S98) (a1 : Int) : Option Int := ((laws_szPartSS.g k x0.f0 a1).bind fun t5 => (if t5 < 0 then (some (-1)) else ((laws_szPartSS.g k x0.f1 t5).bind fun t13 => (if t13 < 0 then (some (-1)) else (some t13)))))
theorem laws_szCell.runs (k : Nat) (x0 : S98) (A0_0 : Option Addr) (c0_0 : Nat) (A0_1 : Option Addr) (c0_1 : Nat) (a1 : Int) (r : Int) (w : World) (hr0_0 : kS164.C w A0_0 x0.f0.length x0.f0) (hc0_0 : x0.f0.length ≤ c0_0) (hr0_1 : kS164.C w A0_1 x0.f1.length x0.f1) (hc0_1 : x0.f1.length ≤ c0_1) (H : laws_szCell.g k x0 a1 = some r) :
   Calls prog 73 #[.agg #[.slice A0_0 x0.f0.length c0_0, .slice A0_1 x0.f1.length c0_1], vi a1] w fun e w' => e = .returned (vi r) ∧ Below w.heap.size w w' := by
 unfold laws_szCell.g at H
 have HS : St (fun _ => True) w w [] [(cF kS164 A0_0 x0.f0), (cF kS164 A0_1 x0.f1)] [] := St.start (foot_cons (foot_C (Kd.heap_slice _ h164) hr0_0) (foot_cons (foot_C (Kd.heap_slice _ h164) hr0_1) foot_nil))
 refine cw_ (n := 18) func73 fun R_ hR_ => ?_
 refine sr_ fun _ hK1 => ?_
 refine bo_ HS (fun b2 w3 hb2 HS => ?_)
 refine ad_ hK1 ?_
 refine sr_ fun _ hK4 => ?_
 refine v_ (fa_ underlying98) ?_
 refine v_ (lb_ (HS.mu 0 rfl) underlying96 rfl) ?_
 refine mv_ ?_
 obtain ⟨t5, ha6, H⟩ := bind_some H
 refine cs_ HS func133 (laws_szPartSS.runs k A0_0 c0_0 x0.f0 a1 t5 _ (HS.getO 0 rfl) hc0_0 ha6) (fun w7 HS => ?_)
 clear ha6
 refine ad_ hK4 ?_
 refine WC.seq fun _ hK8 => ?_
 refine sr_ fun _ hK9 => ?_
 refine mv_ ?_
 refine b_ bin_lss ?_
 refine dn_ hK9 ?_
 rcases ite_ H with ⟨c10, H⟩ | ⟨c10, H⟩
 · refine wy_ (dT c10) (sr_ fun _ hK11 => ?_)
   refine ad_ hK11 ?_
   obtain rfl := os H
   exact rt1 Try.f73 rfl rfl hR_ ⟨rfl, HS.b⟩
 refine wn_ (dF c10) (WC.skip (via_ hK8 (sr_ fun _ hK12 => ?_)))
 refine v_ (fa_ underlying98) ?_
 refine v_ (lb_ (HS.mu 0 rfl) underlying96 rfl) ?_
 refine mv_ ?_
 obtain ⟨t13, ha14, H⟩ := bind_some H
 refine cs_ HS func133 (laws_szPartSS.runs k A0_1 c0_1 x0.f1 t5 t13 _ (HS.getO 1 rfl) hc0_1 ha14) (fun w15 HS => ?_)
 clear ha14
 refine ad_ hK12 ?_
 refine WC.seq fun _ hK16 => ?_
 refine sr_ fun _ hK17 => ?_
 refine mv_ ?_
 refine b_ bin_lss ?_
 refine dn_ hK17 ?_
 rcases ite_ H with ⟨c18, H⟩ | ⟨c18, H⟩
 · refine wy_ (dT c18) (sr_ fun _ hK19 => ?_)
   refine ad_ hK19 ?_
   obtain rfl := os H
   exact rt1 Try.f73 rfl rfl hR_ ⟨rfl, HS.b⟩
 refine wn_ (dF c18) (WC.skip (via_ hK16 (sr_ fun _ hK20 => ?_)))
 refine mv_ ?_
 refine ad_ hK20 ?_
 obtain rfl := os H
 exact rt1 Try.f73 rfl rfl hR_ ⟨rfl, HS.b⟩
def laws_szCellS.b0 (l0 : List S98) (rec_ : Int → Int → Option (Int ⊕ (Int × Int))) (k21 : Nat) (i13 : Int) (i14 : Int) : Option (Int ⊕ (Int × Int)) := (if i14 < (l0.length : Int) then (if 0 ≤ i14 ∧ i14 < (l0.length : Int) then ((laws_szCell.g k21 (l0.getD i14.toNat o98) i13).bind fun t40 => (if t40 < 0 then (some (Sum.inl (-1))) else (rec_ t40 (wrap64 (i14 + 1))))) else none) else (some (Sum.inr (i13, i14))))
def laws_szCellS.l0 (l0 : List S98) : Nat → Int → Int → Option (Int ⊕ (Int × Int))
 | 0, _, _ => none
 | k + 1, i13, i14 => laws_szCellS.b0 l0 (laws_szCellS.l0 l0 k) k i13 i14
def laws_szCellS.g (k : Nat) (l0 : List S98) (a1 : Int) : Option Int := (if (wrap64 (a1 - (l0.length : Int))) < 0 then (some (-1)) else ((laws_szCellS.l0 l0 k (wrap64 (a1 - (l0.length : Int))) 0).bind (fun oc19 => match oc19 with | .inl r_ => some r_ | .inr ⟨i13, i14⟩ => (some i13))))
theorem laws_szCellS.runs (k : Nat) (A0 : Option Addr) (c0 : Nat) (l0 : List S98) (a1 : Int) (r : Int) (w : World) (hr0 : k98.C w A0 l0.length l0) (hc0 : l0.length ≤ c0) (H : laws_szCellS.g k l0 a1 = some r) :
   Calls prog 151 #[.slice A0 l0.length c0, vi a1] w fun e w' => e = .returned (vi r) ∧ Below w.heap.size w w' := by
 unfold laws_szCellS.g at H
 have HS : St (fun _ => True) w w [] [(cF k98 A0 l0)] [] := St.start (foot_cons (foot_C h98 hr0) foot_nil)
 refine cw_ (n := 27) func151 fun R_ hR_ => ?_
 refine sr_ fun _ hK1 => ?_
 refine ad_ hK1 ?_
 refine sr_ fun _ hK2 => ?_
 refine mv_ ?_
 refine mv_ ?_
 refine ln_ underlying156 ?_
 refine b_ bin_sub64 ?_
 refine ad_ hK2 ?_
 refine WC.seq fun _ hK3 => ?_
 refine sr_ fun _ hK4 => ?_
 refine mv_ ?_
 refine b_ bin_lss ?_
 refine dn_ hK4 ?_
 rcases ite_ H with ⟨c5, H⟩ | ⟨c5, H⟩
 · refine wy_ (dT c5) (sr_ fun _ hK6 => ?_)
   refine ad_ hK6 ?_
   obtain rfl := os H
   exact rt1 Try.f151 rfl rfl hR_ ⟨rfl, HS.b⟩
 refine wn_ (dF c5) (WC.skip (via_ hK3 (WC.seq fun K7 hK7 => ?_)))
 refine sr_ fun _ hK8 => ?_
 refine ad_ hK8 ?_
 refine WC.block ?_
 obtain ⟨G9, hG10, oc11, H, Ho12⟩ := open_G H
 let J15 := fun (i13 : Int) (i14 : Int) (E_ : Env) (W_ : World) => E_ = [(0, .slice A0 l0.length c0), (1, vi i13), (5, vi i14)] ∧ St (fun _ => True) w W_ [] [(cF k98 A0 l0)] []
 have X16 : ∀ E_ W_, (∃ i13 i14, G9 (Sum.inr (i13, i14)) = some r ∧ J15 i13 i14 E_ W_) → ∀ a, Fits a 27 E_ → K7 a W_ := by
   rintro E_ w17 ⟨i13, i14, H, rfl, HS⟩
   rw [hG10] at H
   (try dsimp only at H)
   refine hK7 _ _ ?_
   refine sr_ fun _ hK18 => ?_
   refine mv_ ?_
   refine ad_ hK18 ?_
   obtain rfl := os H
   exact rt1 Try.f151 rfl rfl hR_ ⟨rfl, HS.b⟩
 clear hK7
 refine WC.loop (fun k_ E_ W_ => ∃ i13 i14, (∃ o_, laws_szCellS.l0 l0 k_ i13 i14 = some o_ ∧ G9 o_ = some r) ∧ J15 i13 i14 E_ W_) k ⟨(wrap64 (a1 - (l0.length : Int))), 0, ⟨_, H, Ho12⟩, rfl, HS⟩ (sb rfl) ?_
 rintro k_ E_ w20 ⟨i13, i14, ⟨oc11, H, Ho12⟩, rfl, HS⟩
 rcases k_ with _ | k21
 · exact no_ H
 replace H : laws_szCellS.b0 l0 (laws_szCellS.l0 l0 k21) k21 i13 i14 = some oc11 := H
 unfold laws_szCellS.b0 at H
 refine WC.seq fun _ hK22 => ?_
 refine sr_ fun _ hK23 => ?_
 refine mv_ ?_
 refine mv_ ?_
 refine ln_ underlying156 ?_
 refine b_ bin_lss ?_
 refine dn_ hK23 ?_
 rcases eti_ H with ⟨c24, H⟩ | ⟨c24, H⟩
 · refine wn_ (dF c24) (WC.exit ?_)
   obtain rfl := os H
   exact wv_ iq X16 ⟨i13, i14, Ho12, rfl, HS⟩
 refine wy_ (dT c24) (WC.skip (via_ hK22 (WC.seq fun _ hK25 => ?_)))
 refine WC.block (sr_ fun _ hK26 => ?_)
 refine mv_ ?_
 refine mv_ ?_
 obtain ⟨⟨q27, q28⟩, H⟩ := if_some H
 obtain ⟨ad29, rfl⟩ := C_open (HS.getO 0 rfl) (by omega)
 refine v_ (ia_ underlying156 2 q27 q28) ?_
 obtain ⟨e30, el31, HS⟩ := HS.elO 0 rfl (by decide) o98 i14 q27 q28
 obtain ⟨A32, c33, hc34, le35, HS⟩ := HS.eO 0 rfl at98_0
 obtain ⟨A36, c37, hc38, le39, HS⟩ := HS.eO 1 rfl at98_1
 refine v_ (Run.loadS (cs := [.slice A32 ((l0.getD i14.toNat o98).f0.length) c33, .slice A36 ((l0.getD i14.toNat o98).f1.length) c37]) rfl rfl underlying98 rfl (by kernel_rfl) (cells_part (HS.getO 2 rfl).2 (part_cons hc34 (part_cons hc38 part_nil)))) ?_
 refine mv_ ?_
 obtain ⟨t40, ha41, H⟩ := bind_some H
 refine cs_ HS func73 (laws_szCell.runs k21 (l0.getD i14.toNat o98) A32 c33 A36 c37 i13 t40 _ (HS.getO 1 rfl) le35 (HS.getO 0 rfl) le39 ha41) (fun w42 HS => ?_)
 clear ha41
 refine ad_ hK26 ?_
 refine sr_ fun _ hK43 => ?_
 refine mv_ ?_
 refine b_ bin_lss ?_
 refine dn_ hK43 ?_
 rcases eti_ H with ⟨c44, H⟩ | ⟨c44, H⟩
 · refine wn_ (dF c44) (WC.skip (via_ hK25 (rg_ (mv_ ?_))))
   refine b_ bin_add64 ?_
   refine as_ ?_
   refine WL.done ?_
   exact wr_ k21 iq ⟨t40, (wrap64 (i14 + 1)), ⟨_, H, Ho12⟩, rfl, (St.pk HS [3] [] rfl rfl)⟩
 refine wy_ (dT c44) (sr_ fun _ hK45 => ?_)
 refine ad_ hK45 ?_
 refine WC.ret ?_
 obtain rfl := os H
 rw [hG10] at Ho12
 replace H : some _ = some _ := Ho12
 obtain rfl := os H
 exact fin1 Try.f151 rfl rfl hR_ ⟨rfl, HS.b⟩
def laws_szCellSS.b0 (l0 : List (List S98)) (rec_ : Int → Int → Option (Int ⊕ (Int × Int))) (k21 : Nat) (i13 : Int) (i14 : Int) : Option (Int ⊕ (Int × Int)) := (if i14 < (l0.length : Int) then (if 0 ≤ i14 ∧ i14 < (l0.length : Int) then ((laws_szCellS.g k21 (l0.getD i14.toNat []) i13).bind fun t33 => (if t33 < 0 then (some (Sum.inl (-1))) else (rec_ t33 (wrap64 (i14 + 1))))) else none) else (some (Sum.inr (i13, i14))))
def laws_szCellSS.l0 (l0 : List (List S98)) : Nat → Int → Int → Option (Int ⊕ (Int × Int))
 | 0, _, _ => none
 | k + 1, i13, i14 => laws_szCellSS.b0 l0 (laws_szCellSS.l0 l0 k) k i13 i14
def laws_szCellSS.g (k : Nat) (l0 : List (List S98)) (a1 : Int) : Option Int := (if (wrap64 (a1 - (l0.length : Int))) < 0 then (some (-1)) else ((laws_szCellSS.l0 l0 k (wrap64 (a1 - (l0.length : Int))) 0).bind (fun oc19 => match oc19 with | .inl r_ => some r_ | .inr ⟨i13, i14⟩ => (some i13))))
theorem laws_szCellSS.runs (k : Nat) (A0 : Option Addr) (c0 : Nat) (l0 : List (List S98)) (a1 : Int) (r : Int) (w : World) (hr0 : kS98.C w A0 l0.length l0) (hc0 : l0.length ≤ c0) (H : laws_szCellSS.g k l0 a1 = some r) :
   Calls prog 125 #[.slice A0 l0.length c0, vi a1] w fun e w' => e = .returned (vi r) ∧ Below w.heap.size w w' := by
 unfold laws_szCellSS.g at H
 have HS : St (fun _ => True) w w [] [(cF kS98 A0 l0)] [] := St.start (foot_cons (foot_C (Kd.heap_slice _ h98) hr0) foot_nil)
 refine cw_ (n := 27) func125 fun R_ hR_ => ?_
 refine sr_ fun _ hK1 => ?_
 refine ad_ hK1 ?_
 refine sr_ fun _ hK2 => ?_
 refine mv_ ?_
 refine mv_ ?_
 refine ln_ underlying82 ?_
 refine b_ bin_sub64 ?_
 refine ad_ hK2 ?_
 refine WC.seq fun _ hK3 => ?_
 refine sr_ fun _ hK4 => ?_
 refine mv_ ?_
 refine b_ bin_lss ?_
 refine dn_ hK4 ?_
 rcases ite_ H with ⟨c5, H⟩ | ⟨c5, H⟩
 · refine wy_ (dT c5) (sr_ fun _ hK6 => ?_)
   refine ad_ hK6 ?_
   obtain rfl := os H
   exact rt1 Try.f125 rfl rfl hR_ ⟨rfl, HS.b⟩
 refine wn_ (dF c5) (WC.skip (via_ hK3 (WC.seq fun K7 hK7 => ?_)))
 refine sr_ fun _ hK8 => ?_
 refine ad_ hK8 ?_
 refine WC.block ?_
 obtain ⟨G9, hG10, oc11, H, Ho12⟩ := open_G H
 let J15 := fun (i13 : Int) (i14 : Int) (E_ : Env) (W_ : World) => E_ = [(0, .slice A0 l0.length c0), (1, vi i13), (5, vi i14)] ∧ St (fun _ => True) w W_ [] [(cF kS98 A0 l0)] []
 have X16 : ∀ E_ W_, (∃ i13 i14, G9 (Sum.inr (i13, i14)) = some r ∧ J15 i13 i14 E_ W_) → ∀ a, Fits a 27 E_ → K7 a W_ := by
   rintro E_ w17 ⟨i13, i14, H, rfl, HS⟩
   rw [hG10] at H
   (try dsimp only at H)
   refine hK7 _ _ ?_
   refine sr_ fun _ hK18 => ?_
   refine mv_ ?_
   refine ad_ hK18 ?_
   obtain rfl := os H
   exact rt1 Try.f125 rfl rfl hR_ ⟨rfl, HS.b⟩
 clear hK7
 refine WC.loop (fun k_ E_ W_ => ∃ i13 i14, (∃ o_, laws_szCellSS.l0 l0 k_ i13 i14 = some o_ ∧ G9 o_ = some r) ∧ J15 i13 i14 E_ W_) k ⟨(wrap64 (a1 - (l0.length : Int))), 0, ⟨_, H, Ho12⟩, rfl, HS⟩ (sb rfl) ?_
 rintro k_ E_ w20 ⟨i13, i14, ⟨oc11, H, Ho12⟩, rfl, HS⟩
 rcases k_ with _ | k21
 · exact no_ H
 replace H : laws_szCellSS.b0 l0 (laws_szCellSS.l0 l0 k21) k21 i13 i14 = some oc11 := H
 unfold laws_szCellSS.b0 at H
 refine WC.seq fun _ hK22 => ?_
 refine sr_ fun _ hK23 => ?_
 refine mv_ ?_
 refine mv_ ?_
 refine ln_ underlying82 ?_
 refine b_ bin_lss ?_
 refine dn_ hK23 ?_
 rcases eti_ H with ⟨c24, H⟩ | ⟨c24, H⟩
 · refine wn_ (dF c24) (WC.exit ?_)
   obtain rfl := os H
   exact wv_ iq X16 ⟨i13, i14, Ho12, rfl, HS⟩
 refine wy_ (dT c24) (WC.skip (via_ hK22 (WC.seq fun _ hK25 => ?_)))
 refine WC.block (sr_ fun _ hK26 => ?_)
 refine mv_ ?_
 refine mv_ ?_
 obtain ⟨⟨q27, q28⟩, H⟩ := if_some H
 obtain ⟨ad29, rfl⟩ := C_open (HS.getO 0 rfl) (by omega)
 refine v_ (ia_ underlying82 1 q27 q28) ?_
 obtain ⟨A30, c31, le32, HS⟩ := HS.slO 0 rfl i14 q27 q28
 refine v_ (Run.load rfl rfl underlying156 rfl (HS.getO 1 rfl)) ?_
 refine mv_ ?_
 obtain ⟨t33, ha34, H⟩ := bind_some H
 refine cs_ HS func151 (laws_szCellS.runs k21 A30 c31 (l0.getD i14.toNat []) i13 t33 _ (HS.getO 0 rfl) le32 ha34) (fun w35 HS => ?_)
 clear ha34
 refine ad_ hK26 ?_
 refine sr_ fun _ hK36 => ?_
 refine mv_ ?_
 refine b_ bin_lss ?_
 refine dn_ hK36 ?_
 rcases eti_ H with ⟨c37, H⟩ | ⟨c37, H⟩
 · refine wn_ (dF c37) (WC.skip (via_ hK25 (rg_ (mv_ ?_))))
   refine b_ bin_add64 ?_
   refine as_ ?_
   refine WL.done ?_
   exact wr_ k21 iq ⟨t33, (wrap64 (i14 + 1)), ⟨_, H, Ho12⟩, rfl, (St.pk HS [2] [] rfl rfl)⟩
 refine wy_ (dT c37) (sr_ fun _ hK38 => ?_)
 refine ad_ hK38 ?_
 refine WC.ret ?_
 obtain rfl := os H
 rw [hG10] at Ho12
 replace H : some _ = some _ := Ho12
 obtain rfl := os H
 exact fin1 Try.f125 rfl rfl hR_ ⟨rfl, HS.b⟩
def laws_szStore.g (k : Nat) (x0 : S84) (a1 : Int) : Option Int := ((laws_szIntS.g k x0.f0 a1).bind fun t5 => (if t5 < 0 then (some (-1)) else ((laws_szCellSS.g k x0.f1 t5).bind fun t13 => (if t13 < 0 then (some (-1)) else (some t13)))))
theorem laws_szStore.runs (k : Nat) (x0 : S84) (A0_0 : Option Addr) (c0_0 : Nat) (A0_1 : Option Addr) (c0_1 : Nat) (a1 : Int) (r : Int) (w : World) (hr0_0 : kI.C w A0_0 x0.f0.length x0.f0) (hc0_0 : x0.f0.length ≤ c0_0) (hr0_1 : kS98.C w A0_1 x0.f1.length x0.f1) (hc0_1 : x0.f1.length ≤ c0_1) (H : laws_szStore.g k x0 a1 = some r) :
   Calls prog 58 #[.agg #[.slice A0_0 x0.f0.length c0_0, .slice A0_1 x0.f1.length c0_1], vi a1] w fun e w' => e = .returned (vi r) ∧ Below w.heap.size w w' := by
 unfold laws_szStore.g at H
 have HS : St (fun _ => True) w w [] [(cF kI A0_0 x0.f0), (cF kS98 A0_1 x0.f1)] [] := St.start (foot_cons (foot_C (Kd.heap_int _) hr0_0) (foot_cons (foot_C (Kd.heap_slice _ h98) hr0_1) foot_nil))
 refine cw_ (n := 18) func58 fun R_ hR_ => ?_
 refine sr_ fun _ hK1 => ?_
 refine bo_ HS (fun b2 w3 hb2 HS => ?_)
 refine ad_ hK1 ?_
 refine sr_ fun _ hK4 => ?_
 refine v_ (fa_ underlying84) ?_
 refine v_ (lb_ (HS.mu 0 rfl) underlying22 rfl) ?_
 refine mv_ ?_
 obtain ⟨t5, ha6, H⟩ := bind_some H
 refine cs_ HS func81 (laws_szIntS.runs k A0_0 c0_0 x0.f0 a1 t5 _ (HS.getO 0 rfl) hc0_0 ha6) (fun w7 HS => ?_)
 clear ha6
 refine ad_ hK4 ?_
 refine WC.seq fun _ hK8 => ?_
 refine sr_ fun _ hK9 => ?_
 refine mv_ ?_
 refine b_ bin_lss ?_
 refine dn_ hK9 ?_
 rcases ite_ H with ⟨c10, H⟩ | ⟨c10, H⟩
 · refine wy_ (dT c10) (sr_ fun _ hK11 => ?_)
   refine ad_ hK11 ?_
   obtain rfl := os H
   exact rt1 Try.f58 rfl rfl hR_ ⟨rfl, HS.b⟩
 refine wn_ (dF c10) (WC.skip (via_ hK8 (sr_ fun _ hK12 => ?_)))
 refine v_ (fa_ underlying84) ?_
 refine v_ (lb_ (HS.mu 0 rfl) underlying82 rfl) ?_
 refine mv_ ?_
 obtain ⟨t13, ha14, H⟩ := bind_some H
 refine cs_ HS func125 (laws_szCellSS.runs k A0_1 c0_1 x0.f1 t5 t13 _ (HS.getO 1 rfl) hc0_1 ha14) (fun w15 HS => ?_)
 clear ha14
 refine ad_ hK12 ?_
 refine WC.seq fun _ hK16 => ?_
 refine sr_ fun _ hK17 => ?_
 refine mv_ ?_
 refine b_ bin_lss ?_
 refine dn_ hK17 ?_
 rcases ite_ H with ⟨c18, H⟩ | ⟨c18, H⟩
 · refine wy_ (dT c18) (sr_ fun _ hK19 => ?_)
   refine ad_ hK19 ?_
   obtain rfl := os H
   exact rt1 Try.f58 rfl rfl hR_ ⟨rfl, HS.b⟩
 refine wn_ (dF c18) (WC.skip (via_ hK16 (sr_ fun _ hK20 => ?_)))
 refine mv_ ?_
 refine ad_ hK20 ?_
 obtain rfl := os H
 exact rt1 Try.f58 rfl rfl hR_ ⟨rfl, HS.b⟩
def laws_szTable.g (k : Nat) (x0 : S85) (a1 : Int) : Option Int := ((laws_szIntS.g k x0.f0 a1).bind fun t5 => (if t5 < 0 then (some (-1)) else (some t5)))
theorem laws_szTable.runs (k : Nat) (x0 : S85) (A0_0 : Option Addr) (c0_0 : Nat) (a1 : Int) (r : Int) (w : World) (hr0_0 : kI.C w A0_0 x0.f0.length x0.f0) (hc0_0 : x0.f0.length ≤ c0_0) (H : laws_szTable.g k x0 a1 = some r) :
   Calls prog 59 #[.agg #[.slice A0_0 x0.f0.length c0_0, vi x0.f1], vi a1] w fun e w' => e = .returned (vi r) ∧ Below w.heap.size w w' := by
 unfold laws_szTable.g at H
 have HS : St (fun _ => True) w w [] [(cF kI A0_0 x0.f0)] [] := St.start (foot_cons (foot_C (Kd.heap_int _) hr0_0) foot_nil)
 refine cw_ (n := 12) func59 fun R_ hR_ => ?_
 refine sr_ fun _ hK1 => ?_
 refine bo_ HS (fun b2 w3 hb2 HS => ?_)
 refine ad_ hK1 ?_
 refine sr_ fun _ hK4 => ?_
 refine v_ (fa_ underlying85) ?_
 refine v_ (lb_ (HS.mu 0 rfl) underlying22 rfl) ?_
 refine mv_ ?_
 obtain ⟨t5, ha6, H⟩ := bind_some H
 refine cs_ HS func81 (laws_szIntS.runs k A0_0 c0_0 x0.f0 a1 t5 _ (HS.getO 0 rfl) hc0_0 ha6) (fun w7 HS => ?_)
 clear ha6
 refine ad_ hK4 ?_
 refine WC.seq fun _ hK8 => ?_
 refine sr_ fun _ hK9 => ?_
 refine mv_ ?_
 refine b_ bin_lss ?_
 refine dn_ hK9 ?_
 rcases ite_ H with ⟨c10, H⟩ | ⟨c10, H⟩
 · refine wy_ (dT c10) (sr_ fun _ hK11 => ?_)
   refine ad_ hK11 ?_
   obtain rfl := os H
   exact rt1 Try.f59 rfl rfl hR_ ⟨rfl, HS.b⟩
 refine wn_ (dF c10) (WC.skip (via_ hK8 (sr_ fun _ hK12 => ?_)))
 refine mv_ ?_
 refine ad_ hK12 ?_
 obtain rfl := os H
 exact rt1 Try.f59 rfl rfl hR_ ⟨rfl, HS.b⟩
def laws_toIntS.b0 (l0 : List Int) (rec_ : Int → (List Int) → Option (Int × (List Int))) (k27 : Nat) (i15 : Int) (xs16 : List Int) : Option (Int × (List Int)) := (if i15 < (l0.length : Int) then (if 0 ≤ i15 ∧ i15 < (l0.length : Int) then (if 0 ≤ i15 ∧ i15 < ((xs16.length : Nat) : Int) then (rec_ (wrap64 (i15 + 1)) (xs16.set i15.toNat (l0.getD i15.toNat 0))) else none) else none) else (some (i15, xs16)))
def laws_toIntS.l0 (l0 : List Int) : Nat → Int → (List Int) → Option (Int × (List Int))
 | 0, _, _ => none
 | k + 1, i15, xs16 => laws_toIntS.b0 l0 (laws_toIntS.l0 l0 k) k i15 xs16
def laws_toIntS.g (k : Nat) (l0 : List Int) : Option (List Int) := (if 0 ≤ (l0.length : Int) ∧ (l0.length : Int) < 4294967296 then ((laws_toIntS.l0 l0 k 0 (List.replicate (l0.length : Int).toNat 0)).bind (fun oc25 => (some oc25.2))) else none)
theorem laws_toIntS.runs (k : Nat) (A0 : Option Addr) (c0 : Nat) (l0 : List Int) (r : List Int) (w : World) (hr0 : kI.C w A0 l0.length l0) (hc0 : l0.length ≤ c0) (H : laws_toIntS.g k l0 = some r) :
   Calls prog 16 #[.slice A0 l0.length c0] w fun e w' => ∃ (v0_ : Value) (bl0_ : List Nat), e = .returned (v0_) ∧ Owns w' w.heap.size [valM (Dk.slice 3 (Dk.int .i64)) r [v0_] bl0_] ∧ Below w.heap.size w w' := by
 unfold laws_toIntS.g at H
 have HS : St (fun _ => True) w w [] [(cF kI A0 l0)] [] := St.start (foot_cons (foot_C (Kd.heap_int _) hr0) foot_nil)
 refine cw_ (n := 22) func16 fun R_ hR_ => ?_
 refine sr_ fun _ hK1 => ?_
 refine ad_ hK1 ?_
 refine sr_ fun _ hK2 => ?_
 refine mv_ ?_
 refine ln_ underlying22 ?_
 obtain ⟨⟨q3, q4⟩, H⟩ := if_some H
 refine WL.make kI HS rfl rfl (by decide) rfl rfl rfl (vi 0) 8 0 underlying22 (by kernel_rfl) rfl (by decide) (by decide) (fun _ => (K_int _)) q3 (by omega) (fun v5 w6 I7 hI8 HS => ?_)
 replace HS := HS.deriveN (p := (rF kI (List.replicate (l0.length : Int).toNat 0) I7)) (fun W_ hN_ => hI8 W_)
 refine ad_ hK2 ?_
 refine WC.seq fun K9 hK9 => ?_
 refine sr_ fun _ hK10 => ?_
 refine ad_ hK10 ?_
 refine WC.block ?_
 obtain ⟨G11, hG12, oc13, H, Ho14⟩ := open_G H
 let J19 := fun (i15 : Int) (xs16 : List Int) v17 I18 (E_ : Env) (W_ : World) => E_ = [(0, .slice A0 l0.length c0), (3, v17), (4, vi i15)] ∧ St (fun _ => True) w W_ [rowM w.heap.size 3 1 v17 xs16.length I18] [(cF kI A0 l0)] [(rF kI xs16 I18)]
 have X20 : ∀ E_ W_, (∃ i15 xs16 v17 I18, G11 (i15, xs16) = some r ∧ J19 i15 xs16 v17 I18 E_ W_) → ∀ a, Fits a 22 E_ → K9 a W_ := by
   rintro E_ w21 ⟨i15, xs16, v17, I18, H, rfl, HS⟩
   rw [hG12] at H
   (try dsimp only at H)
   refine hK9 _ _ ?_
   refine sr_ fun _ hK22 => ?_
   refine mv_ ?_
   refine ad_ hK22 ?_
   refine WC.ret ?_
   obtain ⟨A23, c24, rfl⟩ := row_slice (HS.mu 0 rfl)
   replace HS := HS.elsF (xs := xs16) (inner := I18) (Dk.int .i64) (fun _ _ _ h_ => ⟨h_, rfl⟩) (fun _ => (HS.getN 0 rfl))
   replace HS := HS.front 1 rfl
   dsimp only [List.eraseIdx] at HS
   replace HS := HS.seal rfl rfl
   obtain rfl := os H
   exact fin1 Try.f16 rfl rfl hR_ ⟨_, _, rfl, (St.owns HS), HS.b⟩
 clear hK9
 refine WC.loop (fun k_ E_ W_ => ∃ i15 xs16 v17 I18, (∃ o_, laws_toIntS.l0 l0 k_ i15 xs16 = some o_ ∧ G11 o_ = some r) ∧ J19 i15 xs16 v17 I18 E_ W_) k ⟨0, (List.replicate (l0.length : Int).toNat 0), v5, I7, ⟨_, H, Ho14⟩, rfl, HS⟩ (sb rfl) ?_
 rintro k_ E_ w26 ⟨i15, xs16, v17, I18, ⟨oc13, H, Ho14⟩, rfl, HS⟩
 rcases k_ with _ | k27
 · exact no_ H
 replace H : laws_toIntS.b0 l0 (laws_toIntS.l0 l0 k27) k27 i15 xs16 = some oc13 := H
 unfold laws_toIntS.b0 at H
 refine WC.seq fun _ hK28 => ?_
 refine sr_ fun _ hK29 => ?_
 refine mv_ ?_
 refine mv_ ?_
 refine ln_ underlying22 ?_
 refine b_ bin_lss ?_
 refine dn_ hK29 ?_
 rcases eti_ H with ⟨c30, H⟩ | ⟨c30, H⟩
 · refine wn_ (dF c30) (WC.exit ?_)
   obtain rfl := os H
   exact wv_ iq X20 ⟨i15, xs16, v17, I18, Ho14, rfl, HS⟩
 refine wy_ (dT c30) (WC.skip (via_ hK28 (WC.seq fun _ hK31 => ?_)))
 refine WC.block (rg_ (mv_ ?_))
 refine mv_ ?_
 refine mv_ ?_
 refine mv_ ?_
 obtain ⟨⟨q32, q33⟩, H⟩ := if_some H
 obtain ⟨ad34, rfl⟩ := C_open (HS.getO 0 rfl) (by omega)
 refine v_ (ia_ underlying22 1 q32 q33) ?_
 refine v_ (Run.load rfl rfl underlying3 rfl (int_cell (HS.getO 0 rfl) i15 q32 q33)) ?_
 obtain ⟨⟨q35, q36⟩, H⟩ := if_some H
 obtain ⟨A37, c38, rfl⟩ := row_slice (HS.mu 0 rfl)
 obtain ⟨ad39, rfl⟩ := row_open (HS.mu 0 rfl) (by omega)
 refine v_ (ia_ underlying22 1 q35 q36) ?_
 have hk_ := mul_room q35 q36 1
 refine WL.putEl HS 0 rfl rfl rfl rfl rfl rfl [vi (l0.getD i15.toNat 0)] rfl (oneL rfl) (by kernel_rfl) (by first | omega | (rw [List.length_nil]; omega) | (simp; omega)) (fun w40 I41 hI42 HS => ?_)
 dsimp only [List.set] at HS
 clear hk_
 replace HS := HS.deriveN (p := (rF kI (xs16.set i15.toNat (l0.getD i15.toNat 0)) I41)) (fun W_ hN_ => reps_set hI42 hN_.1 (K_int _) (toNat_lt q35 q36))
 replace HS := HS.rowN 0 rfl (show xs16.length = (xs16.set i15.toNat (l0.getD i15.toNat 0)).length from (List.length_set ..).symm)
 dsimp only [List.set] at HS
 generalize hv44 : (Value.slice (some ad39) xs16.length c38) = v43 at HS ⊢
 refine dn_ hK31 (rg_ (mv_ ?_))
 refine b_ bin_add64 ?_
 refine as_ ?_
 refine WL.done ?_
 exact wr_ k27 iq ⟨(wrap64 (i15 + 1)), (xs16.set i15.toNat (l0.getD i15.toNat 0)), v43, I41, ⟨_, H, Ho14⟩, rfl, (St.pk HS [0] [0] rfl rfl)⟩
def laws_toPart.g (k : Nat) (x0 : S164) : Option S149 := ((laws_toIntS.g k x0.f1).bind fun t12 => (some (⟨x0.f0, t12⟩ : S149)))
theorem laws_toPart.runs (k : Nat) (x0 : S164) (A0_1 : Option Addr) (c0_1 : Nat) (r : S149) (w : World) (hr0_1 : kI.C w A0_1 x0.f1.length x0.f1) (hc0_1 : x0.f1.length ≤ c0_1) (H : laws_toPart.g k x0 = some r) :
   Calls prog 163 #[.agg #[vi x0.f0, .slice A0_1 x0.f1.length c0_1]] w fun e w' => ∃ (v0_1_ : Value) (bl0_1_ : List Nat), e = .returned (.agg #[vi r.f0, v0_1_]) ∧ Owns w' w.heap.size [valM (Dk.slice 3 (Dk.int .i64)) r.f1 [v0_1_] bl0_1_] ∧ Below w.heap.size w w' := by
 unfold laws_toPart.g at H
 have HS : St (fun _ => True) w w [] [(cF kI A0_1 x0.f1)] [] := St.start (foot_cons (foot_C (Kd.heap_int _) hr0_1) foot_nil)
 refine cw_ (n := 12) func163 fun R_ hR_ => ?_
 refine sr_ fun _ hK1 => ?_
 refine bo_ HS (fun b2 w3 hb2 HS => ?_)
 refine WL.alloc HS (v := .agg #[vi 0, sn]) (cs := #[vi 0, sn]) rfl rfl (by decide) rfl (by kernel_rfl) rfl (fun b4 w5 hb4 HS => ?_)
 refine dn_ hK1 (sr_ fun _ hK6 => ?_)
 refine WL.alloc HS (v := .agg #[vi 0, sn]) (cs := #[vi 0, sn]) rfl rfl (by decide) rfl (by kernel_rfl) rfl (fun b7 w8 hb7 HS => ?_)
 refine dn_ hK6 (sr_ fun _ hK9 => ?_)
 refine v_ (fa_ underlying164) ?_
 refine v_ (lb_ (HS.mu 2 rfl) underlying3 rfl) ?_
 refine v_ (fa_ underlying149) ?_
 refine WL.store HS 0 rfl rfl rfl rfl rfl rfl rfl (by kernel_rfl) (ble_ rfl) (cs' := #[vi x0.f0, sn]) (by kernel_rfl) (fun w10 HS => ?_)
 dsimp only [List.set] at HS
 refine dn_ hK9 (sr_ fun _ hK11 => ?_)
 refine v_ (fa_ underlying164) ?_
 refine v_ (lb_ (HS.mu 2 rfl) underlying22 rfl) ?_
 obtain ⟨t12, ha13, H⟩ := bind_some H
 refine c_ func16 (laws_toIntS.runs k A0_1 c0_1 x0.f1 t12 _ (HS.getO 0 rfl) hc0_1 ha13) ?_
 clear ha13
 rintro _ w14 ⟨v15, bl16, rfl, hO_, hb⟩
 replace HS := HS.got hb hO_
 dsimp only [List.cons_append, List.nil_append] at HS
 clear hO_
 obtain ⟨I17, bl18, HS⟩ := HS.unseal (sz := 1) rfl
 replace HS := HS.freezeN 1 (p := (rF kI t12 I17)) rfl (fun _ hP_ _ => RepsB.reps hP_)
 dsimp only [List.eraseIdx] at HS
 refine ⟨_, rfl, ?_⟩
 clear hb
 refine v_ (fa_ underlying149) ?_
 obtain ⟨A20, c21, rfl⟩ := row_slice (HS.mu 0 rfl)
 refine WL.store HS 1 rfl rfl rfl rfl rfl rfl rfl (by kernel_rfl) (ble_ rfl) (cs' := #[vi x0.f0, (.slice A20 t12.length c21)]) (by kernel_rfl) (fun w19 HS => ?_)
 dsimp only [List.set] at HS
 refine dn_ hK11 (sr_ fun _ hK22 => ?_)
 refine v_ (ls_ (HS.mu 1 rfl) underlying149 part_all) ?_
 refine WL.storeW HS 2 rfl rfl rfl rfl rfl rfl (oneL rfl) (by kernel_rfl) rfl (fun w23 HS => ?_)
 dsimp only [List.set] at HS
 refine dn_ hK22 (WC.ret ?_)
 replace HS := HS.elsF (xs := t12) (inner := I17) (Dk.int .i64) (fun _ _ _ h_ => ⟨h_, rfl⟩) (fun _ => (HS.getN 0 rfl))
 replace HS := HS.front 1 rfl
 dsimp only [List.eraseIdx] at HS
 replace HS := HS.seal rfl rfl
 obtain rfl := os H
 exact fin1 Try.f163 rfl ⟨_, rfl, resv_box (HS.mu 2 rfl) underlying149 rfl (by kernel_rfl)⟩ hR_ ⟨_, _, rfl, (St.owns (St.forget (St.forget (St.forget HS 3 rfl) 2 rfl) 1 rfl)), HS.b⟩
def laws_toPartS.b0 (l0 : List S164) (rec_ : Int → (List S149) → Option (Int × (List S149))) (k28 : Nat) (i15 : Int) (xs16 : List S149) : Option (Int × (List S149)) := (if i15 < (l0.length : Int) then (if 0 ≤ i15 ∧ i15 < (l0.length : Int) then ((laws_toPart.g k28 (l0.getD i15.toNat o164)).bind fun t42 => (if 0 ≤ i15 ∧ i15 < ((xs16.length : Nat) : Int) then (rec_ (wrap64 (i15 + 1)) (xs16.set i15.toNat t42)) else none)) else none) else (some (i15, xs16)))
def laws_toPartS.l0 (l0 : List S164) : Nat → Int → (List S149) → Option (Int × (List S149))
 | 0, _, _ => none
 | k + 1, i15, xs16 => laws_toPartS.b0 l0 (laws_toPartS.l0 l0 k) k i15 xs16
def laws_toPartS.g (k : Nat) (l0 : List S164) : Option (List S149) := (if 0 ≤ (l0.length : Int) ∧ (l0.length : Int) < 4294967296 then ((laws_toPartS.l0 l0 k 0 (List.replicate (l0.length : Int).toNat o149)).bind (fun oc26 => (some oc26.2))) else none)
theorem laws_toPartS.runs (k : Nat) (A0 : Option Addr) (c0 : Nat) (l0 : List S164) (r : List S149) (w : World) (hr0 : k164.C w A0 l0.length l0) (hc0 : l0.length ≤ c0) (H : laws_toPartS.g k l0 = some r) :
   Calls prog 156 #[.slice A0 l0.length c0] w fun e w' => ∃ (v0_ : Value) (bl0_ : List Nat), e = .returned (v0_) ∧ Owns w' w.heap.size [valM (Dk.slice 149 dq149) r [v0_] bl0_] ∧ Below w.heap.size w w' := by
 unfold laws_toPartS.g at H
 have HS : St (fun _ => True) w w [] [(cF k164 A0 l0)] [] := St.start (foot_cons (foot_C h164 hr0) foot_nil)
 refine cw_ (n := 23) func156 fun R_ hR_ => ?_
 refine sr_ fun _ hK1 => ?_
 refine ad_ hK1 ?_
 refine sr_ fun _ hK2 => ?_
 refine mv_ ?_
 refine ln_ underlying160 ?_
 obtain ⟨⟨q3, q4⟩, H⟩ := if_some H
 refine WL.makeO dq149 HS rfl rfl (by decide) rfl rfl rfl (.agg #[vi 0, sn]) 32 o149 underlying133 (by kernel_rfl) rfl (by decide) (by decide) (fun _ => (dq149_mk _ o149 ⟨sn, [], [], rfl, rfl, own_nil _ _ _ _, RepsB.none _ _⟩)) q3 (by omega) (fun v5 w6 I7 HS => ?_)
 refine ad_ hK2 ?_
 refine WC.seq fun K9 hK9 => ?_
 refine sr_ fun _ hK10 => ?_
 refine ad_ hK10 ?_
 refine WC.block ?_
 obtain ⟨G11, hG12, oc13, H, Ho14⟩ := open_G H
 let J20 := fun (i15 : Int) (xs16 : List S149) v17 I18 bl19 (E_ : Env) (W_ : World) => E_ = [(0, .slice A0 l0.length c0), (3, v17), (4, vi i15)] ∧ St (fun _ => True) w W_ [rowM w.heap.size 149 2 v17 xs16.length I18, elsM dq149 xs16 I18 bl19] [(cF k164 A0 l0)] []
 have X21 : ∀ E_ W_, (∃ i15 xs16 v17 I18 bl19, G11 (i15, xs16) = some r ∧ J20 i15 xs16 v17 I18 bl19 E_ W_) → ∀ a, Fits a 23 E_ → K9 a W_ := by
   rintro E_ w22 ⟨i15, xs16, v17, I18, bl19, H, rfl, HS⟩
   rw [hG12] at H
   (try dsimp only at H)
   refine hK9 _ _ ?_
   refine sr_ fun _ hK23 => ?_
   refine mv_ ?_
   refine ad_ hK23 ?_
   refine WC.ret ?_
   obtain ⟨A24, c25, rfl⟩ := row_slice (HS.mu 0 rfl)
   replace HS := HS.front 1 rfl
   dsimp only [List.eraseIdx] at HS
   replace HS := HS.front 1 rfl
   dsimp only [List.eraseIdx] at HS
   replace HS := HS.seal rfl rfl
   obtain rfl := os H
   exact fin1 Try.f156 rfl rfl hR_ ⟨_, _, rfl, (St.owns HS), HS.b⟩
 clear hK9
 refine WC.loop (fun k_ E_ W_ => ∃ i15 xs16 v17 I18 bl19, (∃ o_, laws_toPartS.l0 l0 k_ i15 xs16 = some o_ ∧ G11 o_ = some r) ∧ J20 i15 xs16 v17 I18 bl19 E_ W_) k ⟨0, (List.replicate (l0.length : Int).toNat o149), v5, I7, ([]), ⟨_, H, Ho14⟩, rfl, HS⟩ (sb rfl) ?_
 rintro k_ E_ w27 ⟨i15, xs16, v17, I18, bl19, ⟨oc13, H, Ho14⟩, rfl, HS⟩
 rcases k_ with _ | k28
 · exact no_ H
 replace H : laws_toPartS.b0 l0 (laws_toPartS.l0 l0 k28) k28 i15 xs16 = some oc13 := H
 unfold laws_toPartS.b0 at H
 refine WC.seq fun _ hK29 => ?_
 refine sr_ fun _ hK30 => ?_
 refine mv_ ?_
 refine mv_ ?_
 refine ln_ underlying160 ?_
 refine b_ bin_lss ?_
 refine dn_ hK30 ?_
 rcases eti_ H with ⟨c31, H⟩ | ⟨c31, H⟩
 · refine wn_ (dF c31) (WC.exit ?_)
   obtain rfl := os H
   exact wv_ iq X21 ⟨i15, xs16, v17, I18, bl19, Ho14, rfl, HS⟩
 refine wy_ (dT c31) (WC.skip (via_ hK29 (WC.seq fun _ hK32 => ?_)))
 refine WC.block (rg_ (mv_ ?_))
 refine mv_ ?_
 refine mv_ ?_
 refine mv_ ?_
 obtain ⟨⟨q33, q34⟩, H⟩ := if_some H
 obtain ⟨ad35, rfl⟩ := C_open (HS.getO 0 rfl) (by omega)
 refine v_ (ia_ underlying160 2 q33 q34) ?_
 obtain ⟨e36, el37, HS⟩ := HS.elO 0 rfl (by decide) o164 i15 q33 q34
 obtain ⟨A38, c39, hc40, le41, HS⟩ := HS.eO 0 rfl at164_1
 refine v_ (Run.loadS (cs := [vi ((l0.getD i15.toNat o164).f0), .slice A38 ((l0.getD i15.toNat o164).f1.length) c39]) rfl rfl underlying164 rfl (by kernel_rfl) (cells_part (HS.getO 1 rfl).2 (part_cons (at164_0 (AtK.whole (HS.getO 1 rfl).1)).int (part_cons hc40 part_nil)))) ?_
 obtain ⟨t42, ha43, H⟩ := bind_some H
 refine c_ func163 (laws_toPart.runs k28 (l0.getD i15.toNat o164) A38 c39 t42 _ (HS.getO 0 rfl) le41 ha43) ?_
 clear ha43
 rintro _ w44 ⟨v45, bl46, rfl, hO_, hb⟩
 replace HS := HS.got hb hO_
 dsimp only [List.cons_append, List.nil_append] at HS
 clear hO_
 obtain ⟨I47, bl48, HS⟩ := HS.unseal (sz := 1) rfl
 replace HS := HS.freezeN 1 (p := (rF kI t42.f1 I47)) rfl (fun _ hP_ _ => RepsB.reps hP_)
 dsimp only [List.eraseIdx] at HS
 refine ⟨_, rfl, ?_⟩
 clear hb
 obtain ⟨⟨q49, q50⟩, H⟩ := if_some H
 obtain ⟨A51, c52, rfl⟩ := row_slice (HS.mu 1 rfl)
 obtain ⟨ad53, rfl⟩ := row_open (HS.mu 1 rfl) (by omega)
 refine v_ (ia_ underlying133 2 q49 q50) ?_
 obtain ⟨A57, c58, rfl⟩ := row_slice (HS.mu 0 rfl)
 have hk_ := mul_room q49 q50 2
 refine WL.putEl HS 1 rfl rfl rfl rfl rfl rfl [vi t42.f0, (.slice A57 t42.f1.length c58)] rfl (oneL rfl) (by kernel_rfl) (by first | omega | (rw [List.length_nil]; omega) | (simp; omega)) (fun w54 I55 hI56 HS => ?_)
 dsimp only [List.set] at HS
 clear hk_
 replace HS := HS.rowN 1 rfl (show xs16.length = (xs16.set i15.toNat t42).length from (List.length_set ..).symm)
 dsimp only [List.set] at HS
 replace HS := HS.elsF (xs := t42.f1) (inner := I47) (Dk.int .i64) (fun _ _ _ h_ => ⟨h_, rfl⟩) (fun _ => (HS.getN 0 rfl))
 replace HS := HS.front 1 rfl
 dsimp only [List.eraseIdx] at HS
 replace HS := HS.seal rfl rfl
 replace HS := HS.put0 (valM dq149 t42 ([vi t42.f0, (.slice A57 t42.f1.length c58)]) (((.slice A57 t42.f1.length c58) : Value).ownBlock.toList ++ [])) (fun hP_ => foot_val (dq149_mk _ t42 hP_)) (fun h_ => h_) (fun _ h_ => h_)
 replace HS := HS.front 2 rfl
 dsimp only [List.eraseIdx] at HS
 replace HS := HS.front 1 rfl
 dsimp only [List.eraseIdx] at HS
 obtain ⟨bl59, HS⟩ := HS.elsSet i15.toNat rfl hI56 (toNat_lt q49 q50)
 generalize hv61 : (Value.slice (some ad53) xs16.length c52) = v60 at HS ⊢
 refine dn_ hK32 (rg_ (mv_ ?_))
 refine b_ bin_add64 ?_
 refine as_ ?_
 refine WL.done ?_
 exact wr_ k28 iq ⟨(wrap64 (i15 + 1)), (xs16.set i15.toNat t42), v60, I55, bl59, ⟨_, H, Ho14⟩, rfl, (St.pk (St.front (St.front HS 0 rfl) 1 rfl) [2] [] rfl rfl)⟩
def laws_toPartSS.b0 (l0 : List (List S164)) (rec_ : Int → (List (List S149)) → Option (Int × (List (List S149)))) (k28 : Nat) (i15 : Int) (xs16 : List (List S149)) : Option (Int × (List (List S149))) := (if i15 < (l0.length : Int) then (if 0 ≤ i15 ∧ i15 < (l0.length : Int) then ((laws_toPartS.g k28 (l0.getD i15.toNat [])).bind fun t39 => (if 0 ≤ i15 ∧ i15 < ((xs16.length : Nat) : Int) then (rec_ (wrap64 (i15 + 1)) (xs16.set i15.toNat t39)) else none)) else none) else (some (i15, xs16)))
def laws_toPartSS.l0 (l0 : List (List S164)) : Nat → Int → (List (List S149)) → Option (Int × (List (List S149)))
 | 0, _, _ => none
 | k + 1, i15, xs16 => laws_toPartSS.b0 l0 (laws_toPartSS.l0 l0 k) k i15 xs16
def laws_toPartSS.g (k : Nat) (l0 : List (List S164)) : Option (List (List S149)) := (if 0 ≤ (l0.length : Int) ∧ (l0.length : Int) < 4294967296 then ((laws_toPartSS.l0 l0 k 0 (List.replicate (l0.length : Int).toNat ([] : List S149))).bind (fun oc26 => (some oc26.2))) else none)
theorem laws_toPartSS.runs (k : Nat) (A0 : Option Addr) (c0 : Nat) (l0 : List (List S164)) (r : List (List S149)) (w : World) (hr0 : kS164.C w A0 l0.length l0) (hc0 : l0.length ≤ c0) (H : laws_toPartSS.g k l0 = some r) :
   Calls prog 134 #[.slice A0 l0.length c0] w fun e w' => ∃ (v0_ : Value) (bl0_ : List Nat), e = .returned (v0_) ∧ Owns w' w.heap.size [valM (Dk.slice 133 (Dk.slice 149 dq149)) r [v0_] bl0_] ∧ Below w.heap.size w w' := by
 unfold laws_toPartSS.g at H
 have HS : St (fun _ => True) w w [] [(cF kS164 A0 l0)] [] := St.start (foot_cons (foot_C (Kd.heap_slice _ h164) hr0) foot_nil)
 refine cw_ (n := 23) func134 fun R_ hR_ => ?_
 refine sr_ fun _ hK1 => ?_
 refine ad_ hK1 ?_
 refine sr_ fun _ hK2 => ?_
 refine mv_ ?_
 refine ln_ underlying96 ?_
 obtain ⟨⟨q3, q4⟩, H⟩ := if_some H
 refine WL.makeO (Dk.slice 149 dq149) HS rfl rfl (by decide) rfl rfl rfl (sn) 24 ([] : List S149) underlying60 (by kernel_rfl) rfl (by decide) (by decide) (fun _ => ⟨sn, [], [], rfl, rfl, own_nil _ _ _ _, RepsB.none _ _⟩) q3 (by omega) (fun v5 w6 I7 HS => ?_)
 refine ad_ hK2 ?_
 refine WC.seq fun K9 hK9 => ?_
 refine sr_ fun _ hK10 => ?_
 refine ad_ hK10 ?_
 refine WC.block ?_
 obtain ⟨G11, hG12, oc13, H, Ho14⟩ := open_G H
 let J20 := fun (i15 : Int) (xs16 : List (List S149)) v17 I18 bl19 (E_ : Env) (W_ : World) => E_ = [(0, .slice A0 l0.length c0), (3, v17), (4, vi i15)] ∧ St (fun _ => True) w W_ [rowM w.heap.size 133 1 v17 xs16.length I18, elsM (Dk.slice 149 dq149) xs16 I18 bl19] [(cF kS164 A0 l0)] []
 have X21 : ∀ E_ W_, (∃ i15 xs16 v17 I18 bl19, G11 (i15, xs16) = some r ∧ J20 i15 xs16 v17 I18 bl19 E_ W_) → ∀ a, Fits a 23 E_ → K9 a W_ := by
   rintro E_ w22 ⟨i15, xs16, v17, I18, bl19, H, rfl, HS⟩
   rw [hG12] at H
   (try dsimp only at H)
   refine hK9 _ _ ?_
   refine sr_ fun _ hK23 => ?_
   refine mv_ ?_
   refine ad_ hK23 ?_
   refine WC.ret ?_
   obtain ⟨A24, c25, rfl⟩ := row_slice (HS.mu 0 rfl)
   replace HS := HS.front 1 rfl
   dsimp only [List.eraseIdx] at HS
   replace HS := HS.front 1 rfl
   dsimp only [List.eraseIdx] at HS
   replace HS := HS.seal rfl rfl
   obtain rfl := os H
   exact fin1 Try.f134 rfl rfl hR_ ⟨_, _, rfl, (St.owns HS), HS.b⟩
 clear hK9
 refine WC.loop (fun k_ E_ W_ => ∃ i15 xs16 v17 I18 bl19, (∃ o_, laws_toPartSS.l0 l0 k_ i15 xs16 = some o_ ∧ G11 o_ = some r) ∧ J20 i15 xs16 v17 I18 bl19 E_ W_) k ⟨0, (List.replicate (l0.length : Int).toNat ([] : List S149)), v5, I7, ([]), ⟨_, H, Ho14⟩, rfl, HS⟩ (sb rfl) ?_
 rintro k_ E_ w27 ⟨i15, xs16, v17, I18, bl19, ⟨oc13, H, Ho14⟩, rfl, HS⟩
 rcases k_ with _ | k28
 · exact no_ H
 replace H : laws_toPartSS.b0 l0 (laws_toPartSS.l0 l0 k28) k28 i15 xs16 = some oc13 := H
 unfold laws_toPartSS.b0 at H
 refine WC.seq fun _ hK29 => ?_
 refine sr_ fun _ hK30 => ?_
 refine mv_ ?_
 refine mv_ ?_
 refine ln_ underlying96 ?_
 refine b_ bin_lss ?_
 refine dn_ hK30 ?_
 rcases eti_ H with ⟨c31, H⟩ | ⟨c31, H⟩
 · refine wn_ (dF c31) (WC.exit ?_)
   obtain rfl := os H
   exact wv_ iq X21 ⟨i15, xs16, v17, I18, bl19, Ho14, rfl, HS⟩
 refine wy_ (dT c31) (WC.skip (via_ hK29 (WC.seq fun _ hK32 => ?_)))
 refine WC.block (rg_ (mv_ ?_))
 refine mv_ ?_
 refine mv_ ?_
 refine mv_ ?_
 obtain ⟨⟨q33, q34⟩, H⟩ := if_some H
 obtain ⟨ad35, rfl⟩ := C_open (HS.getO 0 rfl) (by omega)
 refine v_ (ia_ underlying96 1 q33 q34) ?_
 obtain ⟨A36, c37, le38, HS⟩ := HS.slO 0 rfl i15 q33 q34
 refine v_ (Run.load rfl rfl underlying160 rfl (HS.getO 1 rfl)) ?_
 obtain ⟨t39, ha40, H⟩ := bind_some H
 refine c_ func156 (laws_toPartS.runs k28 A36 c37 (l0.getD i15.toNat []) t39 _ (HS.getO 0 rfl) le38 ha40) ?_
 clear ha40
 rintro _ w41 ⟨v42, bl43, rfl, hO_, hb⟩
 replace HS := HS.got hb hO_
 dsimp only [List.cons_append, List.nil_append] at HS
 clear hO_
 obtain ⟨I44, bl45, HS⟩ := HS.unseal (sz := 2) rfl
 refine ⟨_, rfl, ?_⟩
 clear hb
 obtain ⟨⟨q46, q47⟩, H⟩ := if_some H
 obtain ⟨A48, c49, rfl⟩ := row_slice (HS.mu 2 rfl)
 obtain ⟨ad50, rfl⟩ := row_open (HS.mu 2 rfl) (by omega)
 refine v_ (ia_ underlying60 1 q46 q47) ?_
 obtain ⟨A54, c55, rfl⟩ := row_slice (HS.mu 0 rfl)
 have hk_ := mul_room q46 q47 1
 refine WL.putEl HS 2 rfl rfl rfl rfl rfl rfl [(.slice A54 t39.length c55)] rfl (oneL rfl) (by kernel_rfl) (by first | omega | (rw [List.length_nil]; omega) | (simp; omega)) (fun w51 I52 hI53 HS => ?_)
 dsimp only [List.set] at HS
 clear hk_
 replace HS := HS.rowN 2 rfl (show xs16.length = (xs16.set i15.toNat t39).length from (List.length_set ..).symm)
 dsimp only [List.set] at HS
 replace HS := HS.front 1 rfl
 dsimp only [List.eraseIdx] at HS
 replace HS := HS.front 1 rfl
 dsimp only [List.eraseIdx] at HS
 replace HS := HS.seal rfl rfl
 replace HS := HS.front 2 rfl
 dsimp only [List.eraseIdx] at HS
 replace HS := HS.front 1 rfl
 dsimp only [List.eraseIdx] at HS
 obtain ⟨bl56, HS⟩ := HS.elsSet i15.toNat rfl hI53 (toNat_lt q46 q47)
 generalize hv58 : (Value.slice (some ad50) xs16.length c49) = v57 at HS ⊢
 refine dn_ hK32 (rg_ (mv_ ?_))
 refine b_ bin_add64 ?_
 refine as_ ?_
 refine WL.done ?_
 exact wr_ k28 iq ⟨(wrap64 (i15 + 1)), (xs16.set i15.toNat t39), v57, I52, bl56, ⟨_, H, Ho14⟩, rfl, (St.pk (St.front (St.front HS 0 rfl) 1 rfl) [2] [] rfl rfl)⟩
def laws_toCell.g (k : Nat) (x0 : S98) : Option S62 := ((laws_toPartSS.g k x0.f0).bind fun t10 => ((laws_toPartSS.g k x0.f1).bind fun t21 => (some (⟨t10, t21⟩ : S62))))
theorem laws_toCell.runs (k : Nat) (x0 : S98) (A0_0 : Option Addr) (c0_0 : Nat) (A0_1 : Option Addr) (c0_1 : Nat) (r : S62) (w : World) (hr0_0 : kS164.C w A0_0 x0.f0.length x0.f0) (hc0_0 : x0.f0.length ≤ c0_0) (hr0_1 : kS164.C w A0_1 x0.f1.length x0.f1) (hc0_1 : x0.f1.length ≤ c0_1) (H : laws_toCell.g k x0 = some r) :
   Calls prog 74 #[.agg #[.slice A0_0 x0.f0.length c0_0, .slice A0_1 x0.f1.length c0_1]] w fun e w' => ∃ (v0_0_ : Value) (bl0_0_ : List Nat) (v0_1_ : Value) (bl0_1_ : List Nat), e = .returned (.agg #[v0_0_, v0_1_]) ∧ Owns w' w.heap.size [valM (Dk.slice 133 (Dk.slice 149 dq149)) r.f0 [v0_0_] bl0_0_, valM (Dk.slice 133 (Dk.slice 149 dq149)) r.f1 [v0_1_] bl0_1_] ∧ Below w.heap.size w w' := by
 unfold laws_toCell.g at H
 have HS : St (fun _ => True) w w [] [(cF kS164 A0_0 x0.f0), (cF kS164 A0_1 x0.f1)] [] := St.start (foot_cons (foot_C (Kd.heap_slice _ h164) hr0_0) (foot_cons (foot_C (Kd.heap_slice _ h164) hr0_1) foot_nil))
 refine cw_ (n := 13) func74 fun R_ hR_ => ?_
 refine sr_ fun _ hK1 => ?_
 refine bo_ HS (fun b2 w3 hb2 HS => ?_)
 refine WL.alloc HS (v := .agg #[sn, sn]) (cs := #[sn, sn]) rfl rfl (by decide) rfl (by kernel_rfl) rfl (fun b4 w5 hb4 HS => ?_)
 refine dn_ hK1 (sr_ fun _ hK6 => ?_)
 refine WL.alloc HS (v := .agg #[sn, sn]) (cs := #[sn, sn]) rfl rfl (by decide) rfl (by kernel_rfl) rfl (fun b7 w8 hb7 HS => ?_)
 refine dn_ hK6 (sr_ fun _ hK9 => ?_)
 refine v_ (fa_ underlying98) ?_
 refine v_ (lb_ (HS.mu 2 rfl) underlying96 rfl) ?_
 obtain ⟨t10, ha11, H⟩ := bind_some H
 refine c_ func134 (laws_toPartSS.runs k A0_0 c0_0 x0.f0 t10 _ (HS.getO 0 rfl) hc0_0 ha11) ?_
 clear ha11
 rintro _ w12 ⟨v13, bl14, rfl, hO_, hb⟩
 replace HS := HS.got hb hO_
 dsimp only [List.cons_append, List.nil_append] at HS
 clear hO_
 obtain ⟨I15, bl16, HS⟩ := HS.unseal (sz := 1) rfl
 refine ⟨_, rfl, ?_⟩
 clear hb
 refine v_ (fa_ underlying62) ?_
 obtain ⟨A18, c19, rfl⟩ := row_slice (HS.mu 0 rfl)
 refine WL.store HS 2 rfl rfl rfl rfl rfl rfl rfl (by kernel_rfl) (ble_ rfl) (cs' := #[(.slice A18 t10.length c19), sn]) (by kernel_rfl) (fun w17 HS => ?_)
 dsimp only [List.set] at HS
 refine dn_ hK9 (sr_ fun _ hK20 => ?_)
 refine v_ (fa_ underlying98) ?_
 refine v_ (lb_ (HS.mu 4 rfl) underlying96 rfl) ?_
 obtain ⟨t21, ha22, H⟩ := bind_some H
 refine c_ func134 (laws_toPartSS.runs k A0_1 c0_1 x0.f1 t21 _ (HS.getO 1 rfl) hc0_1 ha22) ?_
 clear ha22
 rintro _ w23 ⟨v24, bl25, rfl, hO_, hb⟩
 replace HS := HS.got hb hO_
 dsimp only [List.cons_append, List.nil_append] at HS
 clear hO_
 obtain ⟨I26, bl27, HS⟩ := HS.unseal (sz := 1) rfl
 refine ⟨_, rfl, ?_⟩
 clear hb
 refine v_ (fa_ underlying62) ?_
 obtain ⟨A29, c30, rfl⟩ := row_slice (HS.mu 0 rfl)
 refine WL.store HS 4 rfl rfl rfl rfl rfl rfl rfl (by kernel_rfl) (ble_ rfl) (cs' := #[(.slice A18 t10.length c19), (.slice A29 t21.length c30)]) (by kernel_rfl) (fun w28 HS => ?_)
 dsimp only [List.set] at HS
 refine dn_ hK20 (sr_ fun _ hK31 => ?_)
 refine v_ (ls_ (HS.mu 4 rfl) underlying62 part_all) ?_
 refine WL.storeW HS 5 rfl rfl rfl rfl rfl rfl (oneL rfl) (by kernel_rfl) rfl (fun w32 HS => ?_)
 dsimp only [List.set] at HS
 refine dn_ hK31 (WC.ret ?_)
 replace HS := HS.front 3 rfl
 dsimp only [List.eraseIdx] at HS
 replace HS := HS.front 3 rfl
 dsimp only [List.eraseIdx] at HS
 replace HS := HS.seal rfl rfl
 replace HS := HS.front 2 rfl
 dsimp only [List.eraseIdx] at HS
 replace HS := HS.front 2 rfl
 dsimp only [List.eraseIdx] at HS
 replace HS := HS.seal rfl rfl
 obtain rfl := os H
 exact fin1 Try.f74 rfl ⟨_, rfl, resv_box (HS.mu 3 rfl) underlying62 rfl (by kernel_rfl)⟩ hR_ ⟨_, _, _, _, rfl, (St.owns (St.front (St.front (St.forget (St.forget (St.forget HS 4 rfl) 3 rfl) 2 rfl) 0 rfl) 1 rfl)), HS.b⟩
def laws_toCellS.b0 (l0 : List S98) (rec_ : Int → (List S62) → Option (Int × (List S62))) (k28 : Nat) (i15 : Int) (xs16 : List S62) : Option (Int × (List S62)) := (if i15 < (l0.length : Int) then (if 0 ≤ i15 ∧ i15 < (l0.length : Int) then ((laws_toCell.g k28 (l0.getD i15.toNat o98)).bind fun t46 => (if 0 ≤ i15 ∧ i15 < ((xs16.length : Nat) : Int) then (rec_ (wrap64 (i15 + 1)) (xs16.set i15.toNat t46)) else none)) else none) else (some (i15, xs16)))
def laws_toCellS.l0 (l0 : List S98) : Nat → Int → (List S62) → Option (Int × (List S62))
 | 0, _, _ => none
 | k + 1, i15, xs16 => laws_toCellS.b0 l0 (laws_toCellS.l0 l0 k) k i15 xs16
def laws_toCellS.g (k : Nat) (l0 : List S98) : Option (List S62) := (if 0 ≤ (l0.length : Int) ∧ (l0.length : Int) < 4294967296 then ((laws_toCellS.l0 l0 k 0 (List.replicate (l0.length : Int).toNat o62)).bind (fun oc26 => (some oc26.2))) else none)
theorem laws_toCellS.runs (k : Nat) (A0 : Option Addr) (c0 : Nat) (l0 : List S98) (r : List S62) (w : World) (hr0 : k98.C w A0 l0.length l0) (hc0 : l0.length ≤ c0) (H : laws_toCellS.g k l0 = some r) :
   Calls prog 152 #[.slice A0 l0.length c0] w fun e w' => ∃ (v0_ : Value) (bl0_ : List Nat), e = .returned (v0_) ∧ Owns w' w.heap.size [valM (Dk.slice 62 dq62) r [v0_] bl0_] ∧ Below w.heap.size w w' := by
 unfold laws_toCellS.g at H
 have HS : St (fun _ => True) w w [] [(cF k98 A0 l0)] [] := St.start (foot_cons (foot_C h98 hr0) foot_nil)
 refine cw_ (n := 23) func152 fun R_ hR_ => ?_
 refine sr_ fun _ hK1 => ?_
 refine ad_ hK1 ?_
 refine sr_ fun _ hK2 => ?_
 refine mv_ ?_
 refine ln_ underlying156 ?_
 obtain ⟨⟨q3, q4⟩, H⟩ := if_some H
 refine WL.makeO dq62 HS rfl rfl (by decide) rfl rfl rfl (.agg #[sn, sn]) 48 o62 underlying71 (by kernel_rfl) rfl (by decide) (by decide) (fun _ => (dq62_mk _ o62 ⟨sn, [], [], rfl, rfl, own_nil _ _ _ _, RepsB.none _ _⟩ ⟨sn, [], [], rfl, rfl, own_nil _ _ _ _, RepsB.none _ _⟩)) q3 (by omega) (fun v5 w6 I7 HS => ?_)
 refine ad_ hK2 ?_
 refine WC.seq fun K9 hK9 => ?_
 refine sr_ fun _ hK10 => ?_
 refine ad_ hK10 ?_
 refine WC.block ?_
 obtain ⟨G11, hG12, oc13, H, Ho14⟩ := open_G H
 let J20 := fun (i15 : Int) (xs16 : List S62) v17 I18 bl19 (E_ : Env) (W_ : World) => E_ = [(0, .slice A0 l0.length c0), (3, v17), (4, vi i15)] ∧ St (fun _ => True) w W_ [rowM w.heap.size 62 2 v17 xs16.length I18, elsM dq62 xs16 I18 bl19] [(cF k98 A0 l0)] []
 have X21 : ∀ E_ W_, (∃ i15 xs16 v17 I18 bl19, G11 (i15, xs16) = some r ∧ J20 i15 xs16 v17 I18 bl19 E_ W_) → ∀ a, Fits a 23 E_ → K9 a W_ := by
   rintro E_ w22 ⟨i15, xs16, v17, I18, bl19, H, rfl, HS⟩
   rw [hG12] at H
   (try dsimp only at H)
   refine hK9 _ _ ?_
   refine sr_ fun _ hK23 => ?_
   refine mv_ ?_
   refine ad_ hK23 ?_
   refine WC.ret ?_
   obtain ⟨A24, c25, rfl⟩ := row_slice (HS.mu 0 rfl)
   replace HS := HS.front 1 rfl
   dsimp only [List.eraseIdx] at HS
   replace HS := HS.front 1 rfl
   dsimp only [List.eraseIdx] at HS
   replace HS := HS.seal rfl rfl
   obtain rfl := os H
   exact fin1 Try.f152 rfl rfl hR_ ⟨_, _, rfl, (St.owns HS), HS.b⟩
 clear hK9
 refine WC.loop (fun k_ E_ W_ => ∃ i15 xs16 v17 I18 bl19, (∃ o_, laws_toCellS.l0 l0 k_ i15 xs16 = some o_ ∧ G11 o_ = some r) ∧ J20 i15 xs16 v17 I18 bl19 E_ W_) k ⟨0, (List.replicate (l0.length : Int).toNat o62), v5, I7, ([]), ⟨_, H, Ho14⟩, rfl, HS⟩ (sb rfl) ?_
 rintro k_ E_ w27 ⟨i15, xs16, v17, I18, bl19, ⟨oc13, H, Ho14⟩, rfl, HS⟩
 rcases k_ with _ | k28
 · exact no_ H
 replace H : laws_toCellS.b0 l0 (laws_toCellS.l0 l0 k28) k28 i15 xs16 = some oc13 := H
 unfold laws_toCellS.b0 at H
 refine WC.seq fun _ hK29 => ?_
 refine sr_ fun _ hK30 => ?_
 refine mv_ ?_
 refine mv_ ?_
 refine ln_ underlying156 ?_
 refine b_ bin_lss ?_
 refine dn_ hK30 ?_
 rcases eti_ H with ⟨c31, H⟩ | ⟨c31, H⟩
 · refine wn_ (dF c31) (WC.exit ?_)
   obtain rfl := os H
   exact wv_ iq X21 ⟨i15, xs16, v17, I18, bl19, Ho14, rfl, HS⟩
 refine wy_ (dT c31) (WC.skip (via_ hK29 (WC.seq fun _ hK32 => ?_)))
 refine WC.block (rg_ (mv_ ?_))
 refine mv_ ?_
 refine mv_ ?_
 refine mv_ ?_
 obtain ⟨⟨q33, q34⟩, H⟩ := if_some H
 obtain ⟨ad35, rfl⟩ := C_open (HS.getO 0 rfl) (by omega)
 refine v_ (ia_ underlying156 2 q33 q34) ?_
 obtain ⟨e36, el37, HS⟩ := HS.elO 0 rfl (by decide) o98 i15 q33 q34
 obtain ⟨A38, c39, hc40, le41, HS⟩ := HS.eO 0 rfl at98_0
 obtain ⟨A42, c43, hc44, le45, HS⟩ := HS.eO 1 rfl at98_1
 refine v_ (Run.loadS (cs := [.slice A38 ((l0.getD i15.toNat o98).f0.length) c39, .slice A42 ((l0.getD i15.toNat o98).f1.length) c43]) rfl rfl underlying98 rfl (by kernel_rfl) (cells_part (HS.getO 2 rfl).2 (part_cons hc40 (part_cons hc44 part_nil)))) ?_
 obtain ⟨t46, ha47, H⟩ := bind_some H
 refine c_ func74 (laws_toCell.runs k28 (l0.getD i15.toNat o98) A38 c39 A42 c43 t46 _ (HS.getO 1 rfl) le41 (HS.getO 0 rfl) le45 ha47) ?_
 clear ha47
 rintro _ w48 ⟨v49, bl50, v51, bl52, rfl, hO_, hb⟩
 replace HS := HS.got hb hO_
 dsimp only [List.cons_append, List.nil_append] at HS
 clear hO_
 obtain ⟨I53, bl54, HS⟩ := HS.unseal (sz := 1) rfl
 replace HS := HS.front 2 rfl
 dsimp only [List.eraseIdx] at HS
 obtain ⟨I55, bl56, HS⟩ := HS.unseal (sz := 1) rfl
 refine ⟨_, rfl, ?_⟩
 clear hb
 obtain ⟨⟨q57, q58⟩, H⟩ := if_some H
 obtain ⟨A59, c60, rfl⟩ := row_slice (HS.mu 4 rfl)
 obtain ⟨ad61, rfl⟩ := row_open (HS.mu 4 rfl) (by omega)
 refine v_ (ia_ underlying71 2 q57 q58) ?_
 obtain ⟨A65, c66, rfl⟩ := row_slice (HS.mu 2 rfl)
 obtain ⟨A67, c68, rfl⟩ := row_slice (HS.mu 0 rfl)
 have hk_ := mul_room q57 q58 2
 refine WL.putEl HS 4 rfl rfl rfl rfl rfl rfl [(.slice A65 t46.f0.length c66), (.slice A67 t46.f1.length c68)] rfl (oneL rfl) (by kernel_rfl) (by first | omega | (rw [List.length_nil]; omega) | (simp; omega)) (fun w62 I63 hI64 HS => ?_)
 dsimp only [List.set] at HS
 clear hk_
 replace HS := HS.rowN 4 rfl (show xs16.length = (xs16.set i15.toNat t46).length from (List.length_set ..).symm)
 dsimp only [List.set] at HS
 replace HS := HS.front 3 rfl
 dsimp only [List.eraseIdx] at HS
 replace HS := HS.front 3 rfl
 dsimp only [List.eraseIdx] at HS
 replace HS := HS.seal rfl rfl
 replace HS := HS.front 2 rfl
 dsimp only [List.eraseIdx] at HS
 replace HS := HS.front 2 rfl
 dsimp only [List.eraseIdx] at HS
 replace HS := HS.seal rfl rfl
 replace HS := HS.front 1 rfl
 dsimp only [List.eraseIdx] at HS
 replace HS := HS.both
 replace HS := HS.put0 (valM dq62 t46 ([(.slice A65 t46.f0.length c66), (.slice A67 t46.f1.length c68)]) ((((.slice A65 t46.f0.length c66) : Value).ownBlock.toList ++ bl54) ++ (((.slice A67 t46.f1.length c68) : Value).ownBlock.toList ++ bl56))) (fun hP_ => foot_val (dq62_mk _ t46 hP_.1 hP_.2)) (fun h_ => h_) (fun _ h_ => h_)
 replace HS := HS.front 2 rfl
 dsimp only [List.eraseIdx] at HS
 replace HS := HS.front 1 rfl
 dsimp only [List.eraseIdx] at HS
 obtain ⟨bl69, HS⟩ := HS.elsSet i15.toNat rfl hI64 (toNat_lt q57 q58)
 generalize hv71 : (Value.slice (some ad61) xs16.length c60) = v70 at HS ⊢
 refine dn_ hK32 (rg_ (mv_ ?_))
 refine b_ bin_add64 ?_
 refine as_ ?_
 refine WL.done ?_
 exact wr_ k28 iq ⟨(wrap64 (i15 + 1)), (xs16.set i15.toNat t46), v70, I63, bl69, ⟨_, H, Ho14⟩, rfl, (St.pk (St.front (St.front HS 0 rfl) 1 rfl) [3] [] rfl rfl)⟩
def laws_toCellSS.b0 (l0 : List (List S98)) (rec_ : Int → (List (List S62)) → Option (Int × (List (List S62)))) (k28 : Nat) (i15 : Int) (xs16 : List (List S62)) : Option (Int × (List (List S62))) := (if i15 < (l0.length : Int) then (if 0 ≤ i15 ∧ i15 < (l0.length : Int) then ((laws_toCellS.g k28 (l0.getD i15.toNat [])).bind fun t39 => (if 0 ≤ i15 ∧ i15 < ((xs16.length : Nat) : Int) then (rec_ (wrap64 (i15 + 1)) (xs16.set i15.toNat t39)) else none)) else none) else (some (i15, xs16)))
def laws_toCellSS.l0 (l0 : List (List S98)) : Nat → Int → (List (List S62)) → Option (Int × (List (List S62)))
 | 0, _, _ => none
 | k + 1, i15, xs16 => laws_toCellSS.b0 l0 (laws_toCellSS.l0 l0 k) k i15 xs16
def laws_toCellSS.g (k : Nat) (l0 : List (List S98)) : Option (List (List S62)) := (if 0 ≤ (l0.length : Int) ∧ (l0.length : Int) < 4294967296 then ((laws_toCellSS.l0 l0 k 0 (List.replicate (l0.length : Int).toNat ([] : List S62))).bind (fun oc26 => (some oc26.2))) else none)
theorem laws_toCellSS.runs (k : Nat) (A0 : Option Addr) (c0 : Nat) (l0 : List (List S98)) (r : List (List S62)) (w : World) (hr0 : kS98.C w A0 l0.length l0) (hc0 : l0.length ≤ c0) (H : laws_toCellSS.g k l0 = some r) :
   Calls prog 126 #[.slice A0 l0.length c0] w fun e w' => ∃ (v0_ : Value) (bl0_ : List Nat), e = .returned (v0_) ∧ Owns w' w.heap.size [valM (Dk.slice 71 (Dk.slice 62 dq62)) r [v0_] bl0_] ∧ Below w.heap.size w w' := by
 unfold laws_toCellSS.g at H
 have HS : St (fun _ => True) w w [] [(cF kS98 A0 l0)] [] := St.start (foot_cons (foot_C (Kd.heap_slice _ h98) hr0) foot_nil)
 refine cw_ (n := 23) func126 fun R_ hR_ => ?_
 refine sr_ fun _ hK1 => ?_
 refine ad_ hK1 ?_
 refine sr_ fun _ hK2 => ?_
 refine mv_ ?_
 refine ln_ underlying82 ?_
 obtain ⟨⟨q3, q4⟩, H⟩ := if_some H
 refine WL.makeO (Dk.slice 62 dq62) HS rfl rfl (by decide) rfl rfl rfl (sn) 24 ([] : List S62) underlying56 (by kernel_rfl) rfl (by decide) (by decide) (fun _ => ⟨sn, [], [], rfl, rfl, own_nil _ _ _ _, RepsB.none _ _⟩) q3 (by omega) (fun v5 w6 I7 HS => ?_)
 refine ad_ hK2 ?_
 refine WC.seq fun K9 hK9 => ?_
 refine sr_ fun _ hK10 => ?_
 refine ad_ hK10 ?_
 refine WC.block ?_
 obtain ⟨G11, hG12, oc13, H, Ho14⟩ := open_G H
 let J20 := fun (i15 : Int) (xs16 : List (List S62)) v17 I18 bl19 (E_ : Env) (W_ : World) => E_ = [(0, .slice A0 l0.length c0), (3, v17), (4, vi i15)] ∧ St (fun _ => True) w W_ [rowM w.heap.size 71 1 v17 xs16.length I18, elsM (Dk.slice 62 dq62) xs16 I18 bl19] [(cF kS98 A0 l0)] []
 have X21 : ∀ E_ W_, (∃ i15 xs16 v17 I18 bl19, G11 (i15, xs16) = some r ∧ J20 i15 xs16 v17 I18 bl19 E_ W_) → ∀ a, Fits a 23 E_ → K9 a W_ := by
   rintro E_ w22 ⟨i15, xs16, v17, I18, bl19, H, rfl, HS⟩
   rw [hG12] at H
   (try dsimp only at H)
   refine hK9 _ _ ?_
   refine sr_ fun _ hK23 => ?_
   refine mv_ ?_
   refine ad_ hK23 ?_
   refine WC.ret ?_
   obtain ⟨A24, c25, rfl⟩ := row_slice (HS.mu 0 rfl)
   replace HS := HS.front 1 rfl
   dsimp only [List.eraseIdx] at HS
   replace HS := HS.front 1 rfl
   dsimp only [List.eraseIdx] at HS
   replace HS := HS.seal rfl rfl
   obtain rfl := os H
   exact fin1 Try.f126 rfl rfl hR_ ⟨_, _, rfl, (St.owns HS), HS.b⟩
 clear hK9
 refine WC.loop (fun k_ E_ W_ => ∃ i15 xs16 v17 I18 bl19, (∃ o_, laws_toCellSS.l0 l0 k_ i15 xs16 = some o_ ∧ G11 o_ = some r) ∧ J20 i15 xs16 v17 I18 bl19 E_ W_) k ⟨0, (List.replicate (l0.length : Int).toNat ([] : List S62)), v5, I7, ([]), ⟨_, H, Ho14⟩, rfl, HS⟩ (sb rfl) ?_
 rintro k_ E_ w27 ⟨i15, xs16, v17, I18, bl19, ⟨oc13, H, Ho14⟩, rfl, HS⟩
 rcases k_ with _ | k28
 · exact no_ H
 replace H : laws_toCellSS.b0 l0 (laws_toCellSS.l0 l0 k28) k28 i15 xs16 = some oc13 := H
 unfold laws_toCellSS.b0 at H
 refine WC.seq fun _ hK29 => ?_
 refine sr_ fun _ hK30 => ?_
 refine mv_ ?_
 refine mv_ ?_
 refine ln_ underlying82 ?_
 refine b_ bin_lss ?_
 refine dn_ hK30 ?_
 rcases eti_ H with ⟨c31, H⟩ | ⟨c31, H⟩
 · refine wn_ (dF c31) (WC.exit ?_)
   obtain rfl := os H
   exact wv_ iq X21 ⟨i15, xs16, v17, I18, bl19, Ho14, rfl, HS⟩
 refine wy_ (dT c31) (WC.skip (via_ hK29 (WC.seq fun _ hK32 => ?_)))
 refine WC.block (rg_ (mv_ ?_))
 refine mv_ ?_
 refine mv_ ?_
 refine mv_ ?_
 obtain ⟨⟨q33, q34⟩, H⟩ := if_some H
 obtain ⟨ad35, rfl⟩ := C_open (HS.getO 0 rfl) (by omega)
 refine v_ (ia_ underlying82 1 q33 q34) ?_
 obtain ⟨A36, c37, le38, HS⟩ := HS.slO 0 rfl i15 q33 q34
 refine v_ (Run.load rfl rfl underlying156 rfl (HS.getO 1 rfl)) ?_
 obtain ⟨t39, ha40, H⟩ := bind_some H
 refine c_ func152 (laws_toCellS.runs k28 A36 c37 (l0.getD i15.toNat []) t39 _ (HS.getO 0 rfl) le38 ha40) ?_
 clear ha40
 rintro _ w41 ⟨v42, bl43, rfl, hO_, hb⟩
 replace HS := HS.got hb hO_
 dsimp only [List.cons_append, List.nil_append] at HS
 clear hO_
 obtain ⟨I44, bl45, HS⟩ := HS.unseal (sz := 2) rfl
 refine ⟨_, rfl, ?_⟩
 clear hb
 obtain ⟨⟨q46, q47⟩, H⟩ := if_some H
 obtain ⟨A48, c49, rfl⟩ := row_slice (HS.mu 2 rfl)
 obtain ⟨ad50, rfl⟩ := row_open (HS.mu 2 rfl) (by omega)
 refine v_ (ia_ underlying56 1 q46 q47) ?_
 obtain ⟨A54, c55, rfl⟩ := row_slice (HS.mu 0 rfl)
 have hk_ := mul_room q46 q47 1
 refine WL.putEl HS 2 rfl rfl rfl rfl rfl rfl [(.slice A54 t39.length c55)] rfl (oneL rfl) (by kernel_rfl) (by first | omega | (rw [List.length_nil]; omega) | (simp; omega)) (fun w51 I52 hI53 HS => ?_)
 dsimp only [List.set] at HS
 clear hk_
 replace HS := HS.rowN 2 rfl (show xs16.length = (xs16.set i15.toNat t39).length from (List.length_set ..).symm)
 dsimp only [List.set] at HS
 replace HS := HS.front 1 rfl
 dsimp only [List.eraseIdx] at HS
 replace HS := HS.front 1 rfl
 dsimp only [List.eraseIdx] at HS
 replace HS := HS.seal rfl rfl
 replace HS := HS.front 2 rfl
 dsimp only [List.eraseIdx] at HS
 replace HS := HS.front 1 rfl
 dsimp only [List.eraseIdx] at HS
 obtain ⟨bl56, HS⟩ := HS.elsSet i15.toNat rfl hI53 (toNat_lt q46 q47)
 generalize hv58 : (Value.slice (some ad50) xs16.length c49) = v57 at HS ⊢
 refine dn_ hK32 (rg_ (mv_ ?_))
 refine b_ bin_add64 ?_
 refine as_ ?_
 refine WL.done ?_
 exact wr_ k28 iq ⟨(wrap64 (i15 + 1)), (xs16.set i15.toNat t39), v57, I52, bl56, ⟨_, H, Ho14⟩, rfl, (St.pk (St.front (St.front HS 0 rfl) 1 rfl) [2] [] rfl rfl)⟩
def laws_toStore.g (k : Nat) (x0 : S84) : Option S58 := ((laws_toIntS.g k x0.f0).bind fun t10 => ((laws_toCellSS.g k x0.f1).bind fun t21 => (some (⟨t10, t21⟩ : S58))))
theorem laws_toStore.runs (k : Nat) (x0 : S84) (A0_0 : Option Addr) (c0_0 : Nat) (A0_1 : Option Addr) (c0_1 : Nat) (r : S58) (w : World) (hr0_0 : kI.C w A0_0 x0.f0.length x0.f0) (hc0_0 : x0.f0.length ≤ c0_0) (hr0_1 : kS98.C w A0_1 x0.f1.length x0.f1) (hc0_1 : x0.f1.length ≤ c0_1) (H : laws_toStore.g k x0 = some r) :
   Calls prog 60 #[.agg #[.slice A0_0 x0.f0.length c0_0, .slice A0_1 x0.f1.length c0_1]] w fun e w' => ∃ (v0_0_ : Value) (bl0_0_ : List Nat) (v0_1_ : Value) (bl0_1_ : List Nat), e = .returned (.agg #[v0_0_, v0_1_]) ∧ Owns w' w.heap.size [valM (Dk.slice 3 (Dk.int .i64)) r.f0 [v0_0_] bl0_0_, valM (Dk.slice 71 (Dk.slice 62 dq62)) r.f1 [v0_1_] bl0_1_] ∧ Below w.heap.size w w' := by
 unfold laws_toStore.g at H
 have HS : St (fun _ => True) w w [] [(cF kI A0_0 x0.f0), (cF kS98 A0_1 x0.f1)] [] := St.start (foot_cons (foot_C (Kd.heap_int _) hr0_0) (foot_cons (foot_C (Kd.heap_slice _ h98) hr0_1) foot_nil))
 refine cw_ (n := 13) func60 fun R_ hR_ => ?_
 refine sr_ fun _ hK1 => ?_
 refine bo_ HS (fun b2 w3 hb2 HS => ?_)
 refine WL.alloc HS (v := .agg #[sn, sn]) (cs := #[sn, sn]) rfl rfl (by decide) rfl (by kernel_rfl) rfl (fun b4 w5 hb4 HS => ?_)
 refine dn_ hK1 (sr_ fun _ hK6 => ?_)
 refine WL.alloc HS (v := .agg #[sn, sn]) (cs := #[sn, sn]) rfl rfl (by decide) rfl (by kernel_rfl) rfl (fun b7 w8 hb7 HS => ?_)
 refine dn_ hK6 (sr_ fun _ hK9 => ?_)
 refine v_ (fa_ underlying84) ?_
 refine v_ (lb_ (HS.mu 2 rfl) underlying22 rfl) ?_
 obtain ⟨t10, ha11, H⟩ := bind_some H
 refine c_ func16 (laws_toIntS.runs k A0_0 c0_0 x0.f0 t10 _ (HS.getO 0 rfl) hc0_0 ha11) ?_
 clear ha11
 rintro _ w12 ⟨v13, bl14, rfl, hO_, hb⟩
 replace HS := HS.got hb hO_
 dsimp only [List.cons_append, List.nil_append] at HS
 clear hO_
 obtain ⟨I15, bl16, HS⟩ := HS.unseal (sz := 1) rfl
 replace HS := HS.freezeN 1 (p := (rF kI t10 I15)) rfl (fun _ hP_ _ => RepsB.reps hP_)
 dsimp only [List.eraseIdx] at HS
 refine ⟨_, rfl, ?_⟩
 clear hb
 refine v_ (fa_ underlying58) ?_
 obtain ⟨A18, c19, rfl⟩ := row_slice (HS.mu 0 rfl)
 refine WL.store HS 1 rfl rfl rfl rfl rfl rfl rfl (by kernel_rfl) (ble_ rfl) (cs' := #[(.slice A18 t10.length c19), sn]) (by kernel_rfl) (fun w17 HS => ?_)
 dsimp only [List.set] at HS
 refine dn_ hK9 (sr_ fun _ hK20 => ?_)
 refine v_ (fa_ underlying84) ?_
 refine v_ (lb_ (HS.mu 3 rfl) underlying82 rfl) ?_
 obtain ⟨t21, ha22, H⟩ := bind_some H
 refine c_ func126 (laws_toCellSS.runs k A0_1 c0_1 x0.f1 t21 _ (HS.getO 1 rfl) hc0_1 ha22) ?_
 clear ha22
 rintro _ w23 ⟨v24, bl25, rfl, hO_, hb⟩
 replace HS := HS.got hb hO_
 dsimp only [List.cons_append, List.nil_append] at HS
 clear hO_
 obtain ⟨I26, bl27, HS⟩ := HS.unseal (sz := 1) rfl
 refine ⟨_, rfl, ?_⟩
 clear hb
 refine v_ (fa_ underlying58) ?_
 obtain ⟨A29, c30, rfl⟩ := row_slice (HS.mu 0 rfl)
 refine WL.store HS 3 rfl rfl rfl rfl rfl rfl rfl (by kernel_rfl) (ble_ rfl) (cs' := #[(.slice A18 t10.length c19), (.slice A29 t21.length c30)]) (by kernel_rfl) (fun w28 HS => ?_)
 dsimp only [List.set] at HS
 refine dn_ hK20 (sr_ fun _ hK31 => ?_)
 refine v_ (ls_ (HS.mu 3 rfl) underlying58 part_all) ?_
 refine WL.storeW HS 4 rfl rfl rfl rfl rfl rfl (oneL rfl) (by kernel_rfl) rfl (fun w32 HS => ?_)
 dsimp only [List.set] at HS
 refine dn_ hK31 (WC.ret ?_)
 replace HS := HS.elsF (xs := t10) (inner := I15) (Dk.int .i64) (fun _ _ _ h_ => ⟨h_, rfl⟩) (fun _ => (HS.getN 0 rfl))
 replace HS := HS.front 3 rfl
 dsimp only [List.eraseIdx] at HS
 replace HS := HS.seal rfl rfl
 replace HS := HS.front 2 rfl
 dsimp only [List.eraseIdx] at HS
 replace HS := HS.front 2 rfl
 dsimp only [List.eraseIdx] at HS
 replace HS := HS.seal rfl rfl
 obtain rfl := os H
 exact fin1 Try.f60 rfl ⟨_, rfl, resv_box (HS.mu 3 rfl) underlying58 rfl (by kernel_rfl)⟩ hR_ ⟨_, _, _, _, rfl, (St.owns (St.front (St.front (St.forget (St.forget (St.forget HS 4 rfl) 3 rfl) 2 rfl) 0 rfl) 1 rfl)), HS.b⟩
def laws_toTable.g (k : Nat) (x0 : S85) : Option S67 := ((laws_toIntS.g k x0.f0).bind fun t10 => (some (⟨t10, x0.f1⟩ : S67)))
theorem laws_toTable.runs (k : Nat) (x0 : S85) (A0_0 : Option Addr) (c0_0 : Nat) (r : S67) (w : World) (hr0_0 : kI.C w A0_0 x0.f0.length x0.f0) (hc0_0 : x0.f0.length ≤ c0_0) (H : laws_toTable.g k x0 = some r) :
   Calls prog 61 #[.agg #[.slice A0_0 x0.f0.length c0_0, vi x0.f1]] w fun e w' => ∃ (v0_0_ : Value) (bl0_0_ : List Nat), e = .returned (.agg #[v0_0_, vi r.f1]) ∧ Owns w' w.heap.size [valM (Dk.slice 3 (Dk.int .i64)) r.f0 [v0_0_] bl0_0_] ∧ Below w.heap.size w w' := by
 unfold laws_toTable.g at H
 have HS : St (fun _ => True) w w [] [(cF kI A0_0 x0.f0)] [] := St.start (foot_cons (foot_C (Kd.heap_int _) hr0_0) foot_nil)
 refine cw_ (n := 12) func61 fun R_ hR_ => ?_
 refine sr_ fun _ hK1 => ?_
 refine bo_ HS (fun b2 w3 hb2 HS => ?_)
 refine WL.alloc HS (v := .agg #[sn, vi 0]) (cs := #[sn, vi 0]) rfl rfl (by decide) rfl (by kernel_rfl) rfl (fun b4 w5 hb4 HS => ?_)
 refine dn_ hK1 (sr_ fun _ hK6 => ?_)
 refine WL.alloc HS (v := .agg #[sn, vi 0]) (cs := #[sn, vi 0]) rfl rfl (by decide) rfl (by kernel_rfl) rfl (fun b7 w8 hb7 HS => ?_)
 refine dn_ hK6 (sr_ fun _ hK9 => ?_)
 refine v_ (fa_ underlying85) ?_
 refine v_ (lb_ (HS.mu 2 rfl) underlying22 rfl) ?_
 obtain ⟨t10, ha11, H⟩ := bind_some H
 refine c_ func16 (laws_toIntS.runs k A0_0 c0_0 x0.f0 t10 _ (HS.getO 0 rfl) hc0_0 ha11) ?_
 clear ha11
 rintro _ w12 ⟨v13, bl14, rfl, hO_, hb⟩
 replace HS := HS.got hb hO_
 dsimp only [List.cons_append, List.nil_append] at HS
 clear hO_
 obtain ⟨I15, bl16, HS⟩ := HS.unseal (sz := 1) rfl
 replace HS := HS.freezeN 1 (p := (rF kI t10 I15)) rfl (fun _ hP_ _ => RepsB.reps hP_)
 dsimp only [List.eraseIdx] at HS
 refine ⟨_, rfl, ?_⟩
 clear hb
 refine v_ (fa_ underlying67) ?_
 obtain ⟨A18, c19, rfl⟩ := row_slice (HS.mu 0 rfl)
 refine WL.store HS 1 rfl rfl rfl rfl rfl rfl rfl (by kernel_rfl) (ble_ rfl) (cs' := #[(.slice A18 t10.length c19), vi 0]) (by kernel_rfl) (fun w17 HS => ?_)
 dsimp only [List.set] at HS
 refine dn_ hK9 (sr_ fun _ hK20 => ?_)
 refine v_ (fa_ underlying85) ?_
 refine v_ (lb_ (HS.mu 3 rfl) underlying3 rfl) ?_
 refine v_ (fa_ underlying67) ?_
 refine WL.store HS 1 rfl rfl rfl rfl rfl rfl rfl (by kernel_rfl) (ble_ rfl) (cs' := #[(.slice A18 t10.length c19), vi x0.f1]) (by kernel_rfl) (fun w21 HS => ?_)
 dsimp only [List.set] at HS
 refine dn_ hK20 (sr_ fun _ hK22 => ?_)
 refine v_ (ls_ (HS.mu 1 rfl) underlying67 part_all) ?_
 refine WL.storeW HS 2 rfl rfl rfl rfl rfl rfl (oneL rfl) (by kernel_rfl) rfl (fun w23 HS => ?_)
 dsimp only [List.set] at HS
 refine dn_ hK22 (WC.ret ?_)
 replace HS := HS.elsF (xs := t10) (inner := I15) (Dk.int .i64) (fun _ _ _ h_ => ⟨h_, rfl⟩) (fun _ => (HS.getN 0 rfl))
 replace HS := HS.front 1 rfl
 dsimp only [List.eraseIdx] at HS
 replace HS := HS.seal rfl rfl
 obtain rfl := os H
 exact fin1 Try.f61 rfl ⟨_, rfl, resv_box (HS.mu 2 rfl) underlying67 rfl (by kernel_rfl)⟩ hR_ ⟨_, _, rfl, (St.owns (St.forget (St.forget (St.forget HS 3 rfl) 2 rfl) 1 rfl)), HS.b⟩
def spec_l05All.b0 (l0 : List Int) (a1 : Int) (a2 : Int) (rec_ : Int → Option (Bool ⊕ Int)) (k15 : Nat) (i8 : Int) : Option (Bool ⊕ Int) := (if i8 < (l0.length : Int) then (if 0 ≤ i8 ∧ i8 < (l0.length : Int) then ((spec_l01In.f (l0.getD i8.toNat 0) a1 a2).bind fun t24 => (if t24 = true then (rec_ (wrap64 (i8 + 1))) else (some (Sum.inl false)))) else none) else (some (Sum.inr i8)))
def spec_l05All.l0 (l0 : List Int) (a1 : Int) (a2 : Int) : Nat → Int → Option (Bool ⊕ Int)
 | 0, _ => none
 | k + 1, i8 => spec_l05All.b0 l0 a1 a2 (spec_l05All.l0 l0 a1 a2 k) k i8
def spec_l05All.g (k : Nat) (l0 : List Int) (a1 : Int) (a2 : Int) : Option Bool := ((spec_l05All.l0 l0 a1 a2 k 0).bind (fun oc13 => match oc13 with | .inl r_ => some r_ | .inr i8 => (some true)))
theorem spec_l05All.runs (k : Nat) (A0 : Option Addr) (c0 : Nat) (l0 : List Int) (a1 : Int) (a2 : Int) (r : Bool) (w : World) (hr0 : kI.C w A0 l0.length l0) (hc0 : l0.length ≤ c0) (H : spec_l05All.g k l0 a1 a2 = some r) :
   Calls prog 82 #[.slice A0 l0.length c0, vi a1, vi a2] w fun e w' => e = .returned (.bool r) ∧ Below w.heap.size w w' := by
 unfold spec_l05All.g at H
 have HS : St (fun _ => True) w w [] [(cF kI A0 l0)] [] := St.start (foot_cons (foot_C (Kd.heap_int _) hr0) foot_nil)
 refine cw_ (n := 22) func82 fun R_ hR_ => ?_
 refine sr_ fun _ hK1 => ?_
 refine ad_ hK1 ?_
 refine WC.seq fun K2 hK2 => ?_
 refine sr_ fun _ hK3 => ?_
 refine ad_ hK3 ?_
 refine WC.block ?_
 obtain ⟨G4, hG5, oc6, H, Ho7⟩ := open_G H
 let J9 := fun (i8 : Int) (E_ : Env) (W_ : World) => E_ = [(0, .slice A0 l0.length c0), (1, vi a1), (2, vi a2), (7, vi i8)] ∧ St (fun _ => True) w W_ [] [(cF kI A0 l0)] []
 have X10 : ∀ E_ W_, (∃ i8, G4 (Sum.inr i8) = some r ∧ J9 i8 E_ W_) → ∀ a, Fits a 22 E_ → K2 a W_ := by
   rintro E_ w11 ⟨i8, H, rfl, HS⟩
   rw [hG5] at H
   (try dsimp only at H)
   refine hK2 _ _ ?_
   refine sr_ fun _ hK12 => ?_
   refine ad_ hK12 ?_
   obtain rfl := os H
   exact rt1 Try.f82 rfl rfl hR_ ⟨rfl, HS.b⟩
 clear hK2
 refine WC.loop (fun k_ E_ W_ => ∃ i8, (∃ o_, spec_l05All.l0 l0 a1 a2 k_ i8 = some o_ ∧ G4 o_ = some r) ∧ J9 i8 E_ W_) k ⟨0, ⟨_, H, Ho7⟩, rfl, HS⟩ (sb rfl) ?_
 rintro k_ E_ w14 ⟨i8, ⟨oc6, H, Ho7⟩, rfl, HS⟩
 rcases k_ with _ | k15
 · exact no_ H
 replace H : spec_l05All.b0 l0 a1 a2 (spec_l05All.l0 l0 a1 a2 k15) k15 i8 = some oc6 := H
 unfold spec_l05All.b0 at H
 refine WC.seq fun _ hK16 => ?_
 refine sr_ fun _ hK17 => ?_
 refine mv_ ?_
 refine mv_ ?_
 refine ln_ underlying22 ?_
 refine b_ bin_lss ?_
 refine dn_ hK17 ?_
 rcases eti_ H with ⟨c18, H⟩ | ⟨c18, H⟩
 · refine wn_ (dF c18) (WC.exit ?_)
   obtain rfl := os H
   exact wv_ iq X10 ⟨i8, Ho7, rfl, HS⟩
 refine wy_ (dT c18) (WC.skip (via_ hK16 (WC.seq fun _ hK19 => ?_)))
 refine WC.block (sr_ fun _ hK20 => ?_)
 refine mv_ ?_
 refine mv_ ?_
 obtain ⟨⟨q21, q22⟩, H⟩ := if_some H
 obtain ⟨ad23, rfl⟩ := C_open (HS.getO 0 rfl) (by omega)
 refine v_ (ia_ underlying22 1 q21 q22) ?_
 refine v_ (Run.load rfl rfl underlying3 rfl (int_cell (HS.getO 0 rfl) i8 q21 q22)) ?_
 refine mv_ ?_
 refine mv_ ?_
 obtain ⟨t24, ha25, H⟩ := bind_some H
 refine cs0_ HS func79 (spec_l01In.calls (l0.getD i8.toNat 0) a1 a2 t24 _ ha25) (fun w26 HS => ?_)
 clear ha25
 refine nt_ ?_
 refine dn_ hK20 ?_
 rcases ite_ H with ⟨c27, H⟩ | ⟨c27, H⟩
 · refine wn_ (nB c27) (WC.skip (via_ hK19 (rg_ (mv_ ?_))))
   refine b_ bin_add64 ?_
   refine as_ ?_
   refine WL.done ?_
   exact wr_ k15 iq ⟨(wrap64 (i8 + 1)), ⟨_, H, Ho7⟩, rfl, HS⟩
 refine wy_ (nB (bF c27)) (sr_ fun _ hK28 => ?_)
 refine ad_ hK28 ?_
 refine WC.ret ?_
 obtain rfl := os H
 rw [hG5] at Ho7
 replace H : some _ = some _ := Ho7
 obtain rfl := os H
 exact fin1 Try.f82 rfl rfl hR_ ⟨rfl, HS.b⟩
def spec_PoolOk.g (k : Nat) (l0 : List Int) : Option Bool := (if (l0.length : Int) ≤ 16 then ((spec_l05All.g k l0 0 20).bind fun t4 => (some t4)) else (some false))
theorem spec_PoolOk.runs (k : Nat) (A0 : Option Addr) (c0 : Nat) (l0 : List Int) (r : Bool) (w : World) (hr0 : kI.C w A0 l0.length l0) (hc0 : l0.length ≤ c0) (H : spec_PoolOk.g k l0 = some r) :
   Calls prog 146 #[.slice A0 l0.length c0] w fun e w' => e = .returned (.bool r) ∧ Below w.heap.size w w' := by
 unfold spec_PoolOk.g at H
 have HS : St (fun _ => True) w w [] [(cF kI A0 l0)] [] := St.start (foot_cons (foot_C (Kd.heap_int _) hr0) foot_nil)
 refine cw_ (n := 10) func146 fun R_ hR_ => ?_
 refine sr_ fun _ hK1 => ?_
 refine ad_ hK1 ?_
 refine sr_ fun _ hK2 => ?_
 refine mv_ ?_
 refine ln_ underlying22 ?_
 refine b_ bin_leq ?_
 refine mv_ ?_
 rcases eti_ H with ⟨c3, H⟩ | ⟨c3, H⟩
 · refine off_ (c' := false) (dF c3) ?_
   refine WL.know 6 (dF c3) ?_
   refine fast_ ?_
   refine via_ hK2 ?_
   obtain rfl := os H
   exact rt1 Try.f146 rfl rfl hR_ ⟨rfl, HS.b⟩
 refine on_ (dT c3) (mv_ ?_)
 refine on_ (dT c3) ?_
 obtain ⟨t4, ha5, H⟩ := bind_some H
 refine cs_ HS func82 (spec_l05All.runs k A0 c0 l0 0 20 t4 _ (HS.getO 0 rfl) hc0 ha5) (fun w6 HS => ?_)
 clear ha5
 refine v_ (Run.pickT rfl rfl (dT c3) rfl) ?_
 refine ad_ hK2 ?_
 obtain rfl := os H
 exact rt1 Try.f146 rfl rfl hR_ ⟨rfl, HS.b⟩
def spec_StoreOk.b0 (x0 : S58) (rec_ : Int → Option (Bool ⊕ Int)) (k24 : Nat) (i17 : Int) : Option (Bool ⊕ Int) := (if i17 < (x0.f1.length : Int) then (if 0 ≤ i17 ∧ i17 < (x0.f1.length : Int) then (if ((x0.f1.getD i17.toNat []).length : Int) > 4 then (some (Sum.inl false)) else (if 0 ≤ i17 ∧ i17 < (x0.f0.length : Int) then (if (x0.f0.getD i17.toNat 0) = 0 then (if ((x0.f1.getD i17.toNat []).length : Int) > 0 then (some (Sum.inl false)) else (rec_ (wrap64 (i17 + 1)))) else (rec_ (wrap64 (i17 + 1)))) else none)) else none) else (some (Sum.inr i17)))
def spec_StoreOk.l0 (x0 : S58) : Nat → Int → Option (Bool ⊕ Int)
 | 0, _ => none
 | k + 1, i17 => spec_StoreOk.b0 x0 (spec_StoreOk.l0 x0 k) k i17
def spec_StoreOk.g (k : Nat) (x0 : S58) : Option Bool := ((spec_PoolOk.g k x0.f0).bind fun t6 => (if t6 = true then (if (x0.f1.length : Int) = (x0.f0.length : Int) then ((spec_StoreOk.l0 x0 k 0).bind (fun oc22 => match oc22 with | .inl r_ => some r_ | .inr i17 => (some true))) else (some false)) else (some false)))
theorem spec_StoreOk.runs (k : Nat) (x0 : S58) (A0_0 : Option Addr) (c0_0 : Nat) (A0_1 : Option Addr) (c0_1 : Nat) (r : Bool) (w : World) (hr0_0 : kI.C w A0_0 x0.f0.length x0.f0) (hc0_0 : x0.f0.length ≤ c0_0) (hr0_1 : kS62.C w A0_1 x0.f1.length x0.f1) (hc0_1 : x0.f1.length ≤ c0_1) (H : spec_StoreOk.g k x0 = some r) :
   Calls prog 121 #[.agg #[.slice A0_0 x0.f0.length c0_0, .slice A0_1 x0.f1.length c0_1]] w fun e w' => e = .returned (.bool r) ∧ Below w.heap.size w w' := by
 unfold spec_StoreOk.g at H
 have HS : St (fun _ => True) w w [] [(cF kI A0_0 x0.f0), (cF kS62 A0_1 x0.f1)] [] := St.start (foot_cons (foot_C (Kd.heap_int _) hr0_0) (foot_cons (foot_C (Kd.heap_slice _ h62) hr0_1) foot_nil))
 refine cw_ (n := 48) func121 fun R_ hR_ => ?_
 refine sr_ fun _ hK1 => ?_
 refine bo_ HS (fun b2 w3 hb2 HS => ?_)
 refine ad_ hK1 ?_
 refine WC.seq fun _ hK4 => ?_
 refine sr_ fun _ hK5 => ?_
 refine v_ (fa_ underlying58) ?_
 refine v_ (lb_ (HS.mu 0 rfl) underlying22 rfl) ?_
 obtain ⟨t6, ha7, H⟩ := bind_some H
 refine cs_ HS func146 (spec_PoolOk.runs k A0_0 c0_0 x0.f0 t6 _ (HS.getO 0 rfl) hc0_0 ha7) (fun w8 HS => ?_)
 clear ha7
 refine nt_ ?_
 refine mv_ ?_
 rcases eti_ H with ⟨c9, H⟩ | ⟨c9, H⟩
 · refine off_ (c' := true) (nB (bF c9)) ?_
   refine WL.know 8 (nB (bF c9)) ?_
   refine fast_ ?_
   refine via_ hK5 (wy_ rfl ?_)
   refine sr_ fun _ hK45 => ?_
   refine ad_ hK45 ?_
   obtain rfl := os H
   exact rt1 Try.f121 rfl rfl hR_ ⟨rfl, HS.b⟩
 refine on_ (nB c9) (v_ (fa_ underlying58) ?_)
 refine on_ (nB c9) (v_ (lb_ (HS.mu 0 rfl) underlying56 rfl) ?_)
 refine on_ (nB c9) (ln_ underlying56 ?_)
 refine on_ (nB c9) (v_ (fa_ underlying58) ?_)
 refine on_ (nB c9) (v_ (lb_ (HS.mu 0 rfl) underlying22 rfl) ?_)
 refine on_ (nB c9) (ln_ underlying22 ?_)
 refine on_ (nB c9) (b_ bin_neq ?_)
 refine v_ (Run.pickF rfl rfl (nB c9) rfl) ?_
 refine dn_ hK5 ?_
 rcases eti_ H with ⟨c10, H⟩ | ⟨c10, H⟩
 · refine wy_ (qT c10) (sr_ fun _ hK44 => ?_)
   refine ad_ hK44 ?_
   obtain rfl := os H
   exact rt1 Try.f121 rfl rfl hR_ ⟨rfl, HS.b⟩
 refine wn_ (qF c10) (WC.skip (via_ hK4 (WC.seq fun K11 hK11 => ?_)))
 refine sr_ fun _ hK12 => ?_
 refine ad_ hK12 ?_
 refine WC.block ?_
 obtain ⟨G13, hG14, oc15, H, Ho16⟩ := open_G H
 let J18 := fun (i17 : Int) (E_ : Env) (W_ : World) => E_ = [(1, .pointer (some ⟨b2, 0, none⟩)), (3, vi i17)] ∧ St (fun _ => True) w W_ [boxM b2 #[.slice A0_0 x0.f0.length c0_0, .slice A0_1 x0.f1.length c0_1] 58] [(cF kI A0_0 x0.f0), (cF kS62 A0_1 x0.f1)] []
 have X19 : ∀ E_ W_, (∃ i17, G13 (Sum.inr i17) = some r ∧ J18 i17 E_ W_) → ∀ a, Fits a 48 E_ → K11 a W_ := by
   rintro E_ w20 ⟨i17, H, rfl, HS⟩
   rw [hG14] at H
   (try dsimp only at H)
   refine hK11 _ _ ?_
   refine sr_ fun _ hK21 => ?_
   refine ad_ hK21 ?_
   obtain rfl := os H
   exact rt1 Try.f121 rfl rfl hR_ ⟨rfl, HS.b⟩
 clear hK11
 refine WC.loop (fun k_ E_ W_ => ∃ i17, (∃ o_, spec_StoreOk.l0 x0 k_ i17 = some o_ ∧ G13 o_ = some r) ∧ J18 i17 E_ W_) k ⟨0, ⟨_, H, Ho16⟩, rfl, HS⟩ (sb rfl) ?_
 rintro k_ E_ w23 ⟨i17, ⟨oc15, H, Ho16⟩, rfl, HS⟩
 rcases k_ with _ | k24
 · exact no_ H
 replace H : spec_StoreOk.b0 x0 (spec_StoreOk.l0 x0 k24) k24 i17 = some oc15 := H
 unfold spec_StoreOk.b0 at H
 refine WC.seq fun _ hK25 => ?_
 refine sr_ fun _ hK26 => ?_
 refine mv_ ?_
 refine v_ (fa_ underlying58) ?_
 refine v_ (lb_ (HS.mu 0 rfl) underlying56 rfl) ?_
 refine ln_ underlying56 ?_
 refine b_ bin_lss ?_
 refine dn_ hK26 ?_
 rcases eti_ H with ⟨c27, H⟩ | ⟨c27, H⟩
 · refine wn_ (dF c27) (WC.exit ?_)
   obtain rfl := os H
   exact wv_ iq X19 ⟨i17, Ho16, rfl, HS⟩
 refine wy_ (dT c27) (WC.skip (via_ hK25 (WC.seq fun _ hK28 => ?_)))
 refine WC.block (sr_ fun _ hK29 => ?_)
 refine v_ (fa_ underlying58) ?_
 refine v_ (lb_ (HS.mu 0 rfl) underlying56 rfl) ?_
 refine mv_ ?_
 obtain ⟨⟨q30, q31⟩, H⟩ := if_some H
 obtain ⟨ad32, rfl⟩ := C_open (HS.getO 1 rfl) (by omega)
 refine v_ (ia_ underlying56 1 q30 q31) ?_
 obtain ⟨A33, c34, le35, HS⟩ := HS.slO 1 rfl i17 q30 q31
 refine v_ (Run.load rfl rfl underlying71 rfl (HS.getO 1 rfl)) ?_
 refine ln_ underlying71 ?_
 refine b_ bin_gtr ?_
 refine mv_ ?_
 rcases ite_ H with ⟨c36, H⟩ | ⟨c36, H⟩
 · refine off_ (c' := true) (dT c36) ?_
   refine WL.know 31 (dT c36) ?_
   refine fast_ ?_
   refine via_ hK29 (wy_ rfl ?_)
   refine sr_ fun _ hK37 => ?_
   refine ad_ hK37 ?_
   refine WC.ret ?_
   obtain rfl := os H
   rw [hG14] at Ho16
   replace H : some _ = some _ := Ho16
   obtain rfl := os H
   exact fin1 Try.f121 rfl rfl hR_ ⟨rfl, HS.b⟩
 refine on_ (dF c36) (v_ (fa_ underlying58) ?_)
 refine on_ (dF c36) (v_ (lb_ (HS.mu 0 rfl) underlying22 rfl) ?_)
 refine on_ (dF c36) (mv_ ?_)
 refine on_ (dF c36) ?_
 obtain ⟨⟨q38, q39⟩, H⟩ := if_some H
 obtain ⟨ad40, rfl⟩ := C_open (HS.getO 2 rfl) (by omega)
 refine v_ (ia_ underlying22 1 q38 q39) ?_
 refine on_ (dF c36) (v_ (Run.load rfl rfl underlying3 rfl (int_cell (HS.getO 2 rfl) i17 q38 q39)) ?_)
 refine on_ (dF c36) (b_ bin_eql ?_)
 refine on_ (dF c36) (mv_ ?_)
 rcases eti_ H with ⟨c41, H⟩ | ⟨c41, H⟩
 · refine off_ (c' := false) (eF c41) ?_
   refine off_ (c' := false) (eF c41) ?_
   refine off_ (c' := false) (eF c41) ?_
   refine off_ (c' := false) (eF c41) ?_
   refine off_ (c' := false) (eF c41) ?_
   refine off_ (c' := false) (eF c41) ?_
   refine off_ (c' := false) (eF c41) ?_
   refine on_ (dF c36) (v_ (Run.pickF rfl rfl (eF c41) rfl) ?_)
   refine v_ (Run.pickF rfl rfl (dF c36) rfl) ?_
   refine dn_ hK29 (wn_ rfl ?_)
   refine WC.skip (via_ hK28 (rg_ (mv_ ?_)))
   refine b_ bin_add64 ?_
   refine as_ ?_
   refine WL.done ?_
   exact wr_ k24 iq ⟨(wrap64 (i17 + 1)), ⟨_, H, Ho16⟩, rfl, (St.pk HS [2, 3] [] rfl rfl)⟩
 refine on_ (eT c41) (v_ (fa_ underlying58) ?_)
 refine on_ (eT c41) (v_ (lb_ (HS.mu 0 rfl) underlying56 rfl) ?_)
 refine on_ (eT c41) (mv_ ?_)
 refine on_ (eT c41) (v_ (ia_ underlying56 1 q30 q31) ?_)
 refine on_ (eT c41) (v_ (Run.load rfl rfl underlying71 rfl (HS.getO 1 rfl)) ?_)
 refine on_ (eT c41) (ln_ underlying71 ?_)
 refine on_ (eT c41) (b_ bin_gtr ?_)
 refine on_ (dF c36) (v_ (Run.pickT rfl rfl (eT c41) rfl) ?_)
 refine v_ (Run.pickF rfl rfl (dF c36) rfl) ?_
 refine dn_ hK29 ?_
 rcases eti_ H with ⟨c42, H⟩ | ⟨c42, H⟩
 · refine wn_ (dF c42) (WC.skip (via_ hK28 (rg_ (mv_ ?_))))
   refine b_ bin_add64 ?_
   refine as_ ?_
   refine WL.done ?_
   exact wr_ k24 iq ⟨(wrap64 (i17 + 1)), ⟨_, H, Ho16⟩, rfl, (St.pk HS [2, 3] [] rfl rfl)⟩
 refine wy_ (dT c42) (sr_ fun _ hK43 => ?_)
 refine ad_ hK43 ?_
 refine WC.ret ?_
 obtain rfl := os H
 rw [hG14] at Ho16
 replace H : some _ = some _ := Ho16
 obtain rfl := os H
 exact fin1 Try.f121 rfl rfl hR_ ⟨rfl, HS.b⟩
def spec_TableOk.b1 (x1 : S67) (i25 : Int) (rec_ : Int → Option (Bool ⊕ Int)) (k85 : Nat) (i58 : Int) : Option (Bool ⊕ Int) := (if i58 < i25 then (if 0 ≤ i58 ∧ i58 < (x1.f0.length : Int) then (if (x1.f0.getD i58.toNat 0) = (x1.f0.getD i25.toNat 0) then (some (Sum.inl false)) else (rec_ (wrap64 (i58 + 1)))) else none) else (some (Sum.inr i58)))
def spec_TableOk.l1 (x1 : S67) (i25 : Int) : Nat → Int → Option (Bool ⊕ Int)
 | 0, _ => none
 | k + 1, i58 => spec_TableOk.b1 x1 i25 (spec_TableOk.l1 x1 i25 k) k i58
def spec_TableOk.b0 (x0 : S58) (x1 : S67) (rec_ : Int → Option (Bool ⊕ Int)) (k32 : Nat) (i25 : Int) : Option (Bool ⊕ Int) := (if i25 < (x1.f0.length : Int) then (if 0 ≤ i25 ∧ i25 < (x1.f0.length : Int) then ((spec_l01In.f (x1.f0.getD i25.toNat 0) 0 (wrap64 ((x0.f0.length : Int) - 1))).bind fun t43 => (if t43 = true then (if 0 ≤ (x1.f0.getD i25.toNat 0) ∧ (x1.f0.getD i25.toNat 0) < (x0.f0.length : Int) then (if (x0.f0.getD (x1.f0.getD i25.toNat 0).toNat 0) = 0 then (some (Sum.inl false)) else ((spec_TableOk.l1 x1 i25 k32 0).bind (fun oc83 => match oc83 with | .inl r_ => some (Sum.inl r_) | .inr i58 => (((if (wrap64 (x1.f1 - (wrap64 (i25 * 4)))) > 4 then (some 4) else (some (wrap64 (x1.f1 - (wrap64 (i25 * 4)))))) : Option Int).bind (fun oc80 => (if 0 ≤ (x1.f0.getD i25.toNat 0) ∧ (x1.f0.getD i25.toNat 0) < (x0.f1.length : Int) then (if ((x0.f1.getD (x1.f0.getD i25.toNat 0).toNat []).length : Int) < oc80 then (some (Sum.inl false)) else (rec_ (wrap64 (i25 + 1)))) else none)))))) else none) else (some (Sum.inl false)))) else none) else (some (Sum.inr i25)))
def spec_TableOk.l0 (x0 : S58) (x1 : S67) : Nat → Int → Option (Bool ⊕ Int)
 | 0, _ => none
 | k + 1, i25 => spec_TableOk.b0 x0 x1 (spec_TableOk.l0 x0 x1 k) k i25
def spec_TableOk.g (k : Nat) (x0 : S58) (x1 : S67) : Option Bool := ((spec_StoreOk.g k (⟨x0.f0, x0.f1⟩ : S58)).bind fun t9 => (if t9 = true then (if x1.f1 < 0 then (some false) else ((spec_NeedPages.f x1.f1).bind fun t15 => (if (x1.f0.length : Int) = t15 then ((spec_TableOk.l0 x0 x1 k 0).bind (fun oc30 => match oc30 with | .inl r_ => some r_ | .inr i25 => (some true))) else (some false)))) else (some false)))
theorem spec_TableOk.runs (k : Nat) (x0 : S58) (A0_0 : Option Addr) (c0_0 : Nat) (A0_1 : Option Addr) (c0_1 : Nat) (x1 : S67) (A1_0 : Option Addr) (c1_0 : Nat) (r : Bool) (w : World) (hr0_0 : kI.C w A0_0 x0.f0.length x0.f0) (hc0_0 : x0.f0.length ≤ c0_0) (hr0_1 : kS62.C w A0_1 x0.f1.length x0.f1) (hc0_1 : x0.f1.length ≤ c0_1) (hr1_0 : kI.C w A1_0 x1.f0.length x1.f0) (hc1_0 : x1.f0.length ≤ c1_0) (H : spec_TableOk.g k x0 x1 = some r) :
   Calls prog 52 #[.agg #[.slice A0_0 x0.f0.length c0_0, .slice A0_1 x0.f1.length c0_1], .agg #[.slice A1_0 x1.f0.length c1_0, vi x1.f1]] w fun e w' => e = .returned (.bool r) ∧ Below w.heap.size w w' := by
 unfold spec_TableOk.g at H
 have HS : St (fun _ => True) w w [] [(cF kI A0_0 x0.f0), (cF kS62 A0_1 x0.f1), (cF kI A1_0 x1.f0)] [] := St.start (foot_cons (foot_C (Kd.heap_int _) hr0_0) (foot_cons (foot_C (Kd.heap_slice _ h62) hr0_1) (foot_cons (foot_C (Kd.heap_int _) hr1_0) foot_nil)))
 refine cw_ (n := 80) func52 fun R_ hR_ => ?_
 refine sr_ fun _ hK1 => ?_
 refine bo_ HS (fun b2 w3 hb2 HS => ?_)
 refine bo_ HS (fun b4 w5 hb4 HS => ?_)
 refine ad_ hK1 ?_
 refine WC.seq fun _ hK6 => ?_
 refine WC.seq fun _ hK7 => ?_
 refine WC.drawS HS [] rfl rfl (fun w8 HS => ?_)
 have HB := Below.refl w8.heap.size w8
 have HSW := HS
 refine dt_ 0 (Below.refl _ _) (fun w_ hw_ => Run.loadS (cs := [.slice A0_0 x0.f0.length c0_0, .slice A0_1 x0.f1.length c0_1]) rfl rfl underlying58 rfl (by kernel_rfl) (box_part ((HS.below hw_).mu 1 rfl) part_all)) ?_
 obtain ⟨t9, ha10, H⟩ := bind_some H
 refine dcs_ HS HB 1 (w_none rfl) func121 (spec_StoreOk.runs k (⟨x0.f0, x0.f1⟩ : S58) A0_0 c0_0 A0_1 c0_1 t9 _ (HS.getO 0 rfl) hc0_0 (HS.getO 1 rfl) hc0_1 ha10) (fun w11 HS HB => ?_)
 clear ha10
 refine dp_ 2 (fun _ => Run.not rfl rfl) ?_
 refine dm_ 3 ?_
 rcases eti_ H with ⟨c12, H⟩ | ⟨c12, H⟩
 · refine doT_ 4 (nB (bF c12)) ?_
   refine doT_ 5 (nB (bF c12)) ?_
   refine doT_ 6 (nB (bF c12)) ?_
   refine dp_ 7 (fun _ => Run.pickT rfl rfl (nB (bF c12)) rfl) ?_
   refine dm_ 8 ?_
   refine doT_ 9 rfl ?_
   refine doT_ 10 rfl ?_
   refine doT_ 11 rfl ?_
   refine doT_ 12 rfl ?_
   refine doT_ 13 rfl ?_
   refine doT_ 14 rfl ?_
   refine doT_ 15 rfl ?_
   refine dp_ 16 (fun _ => Run.pickT rfl rfl rfl rfl) ?_
   refine dd_ ?_
   clear HB HSW
   refine via_ hK7 (wy_ rfl ?_)
   refine sr_ fun _ hK97 => ?_
   refine ad_ hK97 ?_
   obtain rfl := os H
   exact rt1 Try.f52 rfl rfl hR_ ⟨rfl, HS.b⟩
 refine dfg_ 4 (nB c12) underlying67 ?_
 refine blg_ 5 (nB c12) HSW HB 0 underlying3 rfl ?_
 refine dg_ 6 (nB c12) (fun _ => Run.bin rfl rfl rfl bin_lss) ?_
 refine dp_ 7 (fun _ => Run.pickF rfl rfl (nB c12) rfl) ?_
 refine dm_ 8 ?_
 rcases ite_ H with ⟨c13, H⟩ | ⟨c13, H⟩
 · refine doT_ 9 (dT c13) ?_
   refine doT_ 10 (dT c13) ?_
   refine doT_ 11 (dT c13) ?_
   refine doT_ 12 (dT c13) ?_
   refine doT_ 13 (dT c13) ?_
   refine doT_ 14 (dT c13) ?_
   refine doT_ 15 (dT c13) ?_
   refine dp_ 16 (fun _ => Run.pickT rfl rfl (dT c13) rfl) ?_
   refine dd_ ?_
   clear HB HSW
   refine via_ hK7 (wy_ rfl ?_)
   refine sr_ fun _ hK14 => ?_
   refine ad_ hK14 ?_
   obtain rfl := os H
   exact rt1 Try.f52 rfl rfl hR_ ⟨rfl, HS.b⟩
 refine dfg_ 9 (dF c13) underlying67 ?_
 refine dfg_ 12 (dF c13) underlying67 ?_
 refine blg_ 10 (dF c13) HSW HB 0 underlying22 rfl ?_
 refine dg_ 11 (dF c13) (fun _ => Run.len (ts := #[]) rfl underlying22 rfl) ?_
 refine blg_ 13 (dF c13) HSW HB 0 underlying3 rfl ?_
 obtain ⟨t15, ha16, H⟩ := bind_some H
 refine dcs0_ HS HB 14 (w_on rfl rfl rfl (dF c13)) func122 (spec_NeedPages.calls x1.f1 t15 _ ha16) (fun w17 HS HB => ?_)
 clear ha16
 refine dg_ 15 (dF c13) (fun _ => Run.bin rfl rfl rfl bin_neq) ?_
 refine dp_ 16 (fun _ => Run.pickF rfl rfl (dF c13) rfl) ?_
 refine dd_ ?_
 clear HB HSW
 refine via_ hK7 ?_
 rcases eti_ H with ⟨c18, H⟩ | ⟨c18, H⟩
 · refine wy_ (qT c18) (sr_ fun _ hK96 => ?_)
   refine ad_ hK96 ?_
   obtain rfl := os H
   exact rt1 Try.f52 rfl rfl hR_ ⟨rfl, HS.b⟩
 refine wn_ (qF c18) (WC.skip (via_ hK6 (WC.seq fun K19 hK19 => ?_)))
 refine sr_ fun _ hK20 => ?_
 refine ad_ hK20 ?_
 refine WC.block ?_
 obtain ⟨G21, hG22, oc23, H, Ho24⟩ := open_G H
 let J26 := fun (i25 : Int) (E_ : Env) (W_ : World) => E_ = [(2, .pointer (some ⟨b2, 0, none⟩)), (3, .pointer (some ⟨b4, 0, none⟩)), (5, vi i25)] ∧ St (fun _ => True) w W_ [boxM b4 #[.slice A1_0 x1.f0.length c1_0, vi x1.f1] 67, boxM b2 #[.slice A0_0 x0.f0.length c0_0, .slice A0_1 x0.f1.length c0_1] 58] [(cF kI A0_0 x0.f0), (cF kS62 A0_1 x0.f1), (cF kI A1_0 x1.f0)] []
 have X27 : ∀ E_ W_, (∃ i25, G21 (Sum.inr i25) = some r ∧ J26 i25 E_ W_) → ∀ a, Fits a 80 E_ → K19 a W_ := by
   rintro E_ w28 ⟨i25, H, rfl, HS⟩
   rw [hG22] at H
   (try dsimp only at H)
   refine hK19 _ _ ?_
   refine sr_ fun _ hK29 => ?_
   refine ad_ hK29 ?_
   obtain rfl := os H
   exact rt1 Try.f52 rfl rfl hR_ ⟨rfl, HS.b⟩
 clear hK19
 refine WC.loop (fun k_ E_ W_ => ∃ i25, (∃ o_, spec_TableOk.l0 x0 x1 k_ i25 = some o_ ∧ G21 o_ = some r) ∧ J26 i25 E_ W_) k ⟨0, ⟨_, H, Ho24⟩, rfl, HS⟩ (sb rfl) ?_
 rintro k_ E_ w31 ⟨i25, ⟨oc23, H, Ho24⟩, rfl, HS⟩
 rcases k_ with _ | k32
 · exact no_ H
 replace H : spec_TableOk.b0 x0 x1 (spec_TableOk.l0 x0 x1 k32) k32 i25 = some oc23 := H
 unfold spec_TableOk.b0 at H
 refine WC.seq fun _ hK33 => ?_
 refine sr_ fun _ hK34 => ?_
 refine mv_ ?_
 refine v_ (fa_ underlying67) ?_
 refine v_ (lb_ (HS.mu 0 rfl) underlying22 rfl) ?_
 refine ln_ underlying22 ?_
 refine b_ bin_lss ?_
 refine dn_ hK34 ?_
 rcases eti_ H with ⟨c35, H⟩ | ⟨c35, H⟩
 · refine wn_ (dF c35) (WC.exit ?_)
   obtain rfl := os H
   exact wv_ iq X27 ⟨i25, Ho24, rfl, HS⟩
 refine wy_ (dT c35) (WC.skip (via_ hK33 (WC.seq fun _ hK36 => ?_)))
 refine WC.block (sr_ fun _ hK37 => ?_)
 refine v_ (fa_ underlying67) ?_
 refine v_ (lb_ (HS.mu 0 rfl) underlying22 rfl) ?_
 refine mv_ ?_
 obtain ⟨⟨q38, q39⟩, H⟩ := if_some H
 obtain ⟨ad40, rfl⟩ := C_open (HS.getO 2 rfl) (by omega)
 refine v_ (ia_ underlying22 1 q38 q39) ?_
 refine v_ (Run.load rfl rfl underlying3 rfl (int_cell (HS.getO 2 rfl) i25 q38 q39)) ?_
 refine ad_ hK37 ?_
 refine WC.seq fun _ hK41 => ?_
 refine sr_ fun _ hK42 => ?_
 refine mv_ ?_
 refine v_ (fa_ underlying58) ?_
 refine v_ (lb_ (HS.mu 1 rfl) underlying22 rfl) ?_
 refine ln_ underlying22 ?_
 refine b_ bin_sub64 ?_
 obtain ⟨t43, ha44, H⟩ := bind_some H
 refine cs0_ HS func79 (spec_l01In.calls (x1.f0.getD i25.toNat 0) 0 (wrap64 ((x0.f0.length : Int) - 1)) t43 _ ha44) (fun w45 HS => ?_)
 clear ha44
 refine nt_ ?_
 refine mv_ ?_
 rcases eti_ H with ⟨c46, H⟩ | ⟨c46, H⟩
 · refine off_ (c' := true) (nB (bF c46)) ?_
   refine WL.know 45 (nB (bF c46)) ?_
   refine fast_ ?_
   refine via_ hK42 (wy_ rfl ?_)
   refine sr_ fun _ hK95 => ?_
   refine ad_ hK95 ?_
   refine WC.ret ?_
   obtain rfl := os H
   rw [hG22] at Ho24
   replace H : some _ = some _ := Ho24
   obtain rfl := os H
   exact fin1 Try.f52 rfl rfl hR_ ⟨rfl, HS.b⟩
 refine on_ (nB c46) (v_ (fa_ underlying58) ?_)
 refine on_ (nB c46) (v_ (lb_ (HS.mu 1 rfl) underlying22 rfl) ?_)
 refine on_ (nB c46) (mv_ ?_)
 refine on_ (nB c46) ?_
 obtain ⟨⟨q47, q48⟩, H⟩ := if_some H
 obtain ⟨ad49, rfl⟩ := C_open (HS.getO 0 rfl) (by omega)
 refine v_ (ia_ underlying22 1 q47 q48) ?_
 refine on_ (nB c46) (v_ (Run.load rfl rfl underlying3 rfl (int_cell (HS.getO 0 rfl) (x1.f0.getD i25.toNat 0) q47 q48)) ?_)
 refine on_ (nB c46) (b_ bin_eql ?_)
 refine v_ (Run.pickF rfl rfl (nB c46) rfl) ?_
 refine dn_ hK42 ?_
 rcases ite_ H with ⟨c50, H⟩ | ⟨c50, H⟩
 · refine wy_ (eT c50) (sr_ fun _ hK51 => ?_)
   refine ad_ hK51 ?_
   refine WC.ret ?_
   obtain rfl := os H
   rw [hG22] at Ho24
   replace H : some _ = some _ := Ho24
   obtain rfl := os H
   exact fin1 Try.f52 rfl rfl hR_ ⟨rfl, HS.b⟩
 refine wn_ (eF c50) (WC.skip (via_ hK41 (WC.seq fun K52 hK52 => ?_)))
 refine sr_ fun _ hK53 => ?_
 refine ad_ hK53 ?_
 refine WC.block ?_
 obtain ⟨G54, hG55, oc56, H, Ho57⟩ := open_G H
 let J59 := fun (i58 : Int) (E_ : Env) (W_ : World) => E_ = [(2, .pointer (some ⟨b2, 0, none⟩)), (3, .pointer (some ⟨b4, 0, none⟩)), (5, vi i25), (6, vi (x1.f0.getD i25.toNat 0)), (7, vi i58)] ∧ St (fun _ => True) w W_ [boxM b4 #[.slice (some ad40) x1.f0.length c1_0, vi x1.f1] 67, boxM b2 #[.slice (some ad49) x0.f0.length c0_0, .slice A0_1 x0.f1.length c0_1] 58] [(cF kI (some ad49) x0.f0), (cF kS62 A0_1 x0.f1), (cF kI (some ad40) x1.f0)] []
 have X60 : ∀ E_ W_, (∃ i58, G54 (Sum.inr i58) = some oc23 ∧ J59 i58 E_ W_) → ∀ a, Fits a 80 E_ → K52 a W_ := by
   rintro E_ w61 ⟨i58, H, rfl, HS⟩
   rw [hG55] at H
   (try dsimp only at H)
   refine hK52 _ _ ?_
   refine sr_ fun _ hK62 => ?_
   refine v_ (fa_ underlying67) ?_
   refine v_ (lb_ (HS.mu 0 rfl) underlying3 rfl) ?_
   refine mv_ ?_
   refine b_ bin_mul64 ?_
   refine b_ bin_sub64 ?_
   refine ad_ hK62 ?_
   refine WC.seq fun K63 hK63 => ?_
   obtain ⟨G64, hG65, oc66, H, Ho67⟩ := open_G H
   have X69 : ∀ E_ W_, (∃ (i68 : Int), E_ = [(2, .pointer (some ⟨b2, 0, none⟩)), (3, .pointer (some ⟨b4, 0, none⟩)), (5, vi i25), (6, vi (x1.f0.getD i25.toNat 0)), (8, vi i68)] ∧ G64 i68 = some oc23 ∧ St (fun _ => True) w W_ [boxM b4 #[.slice (some ad40) x1.f0.length c1_0, vi x1.f1] 67, boxM b2 #[.slice (some ad49) x0.f0.length c0_0, .slice A0_1 x0.f1.length c0_1] 58] [(cF kI (some ad49) x0.f0), (cF kS62 A0_1 x0.f1), (cF kI (some ad40) x1.f0)] []) → ∀ a, Fits a 80 E_ → K63 a W_ := by
     rintro E_ w70 ⟨i68, rfl, H, HS⟩
     rw [hG65] at H
     (try dsimp only at H)
     refine hK63 _ _ ?_
     refine sr_ fun _ hK71 => ?_
     refine v_ (fa_ underlying58) ?_
     refine v_ (lb_ (HS.mu 1 rfl) underlying56 rfl) ?_
     refine mv_ ?_
     obtain ⟨⟨q72, q73⟩, H⟩ := if_some H
     obtain ⟨ad74, rfl⟩ := C_open (HS.getO 1 rfl) (by omega)
     refine v_ (ia_ underlying56 1 q72 q73) ?_
     obtain ⟨A75, c76, le77, HS⟩ := HS.slO 1 rfl (x1.f0.getD i25.toNat 0) q72 q73
     refine v_ (Run.load rfl rfl underlying71 rfl (HS.getO 1 rfl)) ?_
     refine ln_ underlying71 ?_
     refine mv_ ?_
     refine b_ bin_lss ?_
     refine dn_ hK71 ?_
     rcases eti_ H with ⟨c78, H⟩ | ⟨c78, H⟩
     · refine wn_ (dF c78) (WC.skip (via_ hK36 (rg_ (mv_ ?_))))
       refine b_ bin_add64 ?_
       refine as_ ?_
       refine WL.done ?_
       exact wr_ k32 iq ⟨(wrap64 (i25 + 1)), ⟨_, H, Ho24⟩, rfl, (St.pk HS [2, 3, 4] [] rfl rfl)⟩
     refine wy_ (dT c78) (sr_ fun _ hK79 => ?_)
     refine ad_ hK79 ?_
     refine WC.ret ?_
     obtain rfl := os H
     rw [hG22] at Ho24
     replace H : some _ = some _ := Ho24
     obtain rfl := os H
     exact fin1 Try.f52 rfl rfl hR_ ⟨rfl, HS.b⟩
   clear hK63
   refine sr_ fun _ hK81 => ?_
   refine mv_ ?_
   refine b_ bin_gtr ?_
   refine dn_ hK81 ?_
   rcases eti_ H with ⟨c82, H⟩ | ⟨c82, H⟩
   · refine wn_ (dF c82) (WC.skip ?_)
     obtain rfl := os H
     exact wv_ iq X69 ⟨(wrap64 (x1.f1 - (wrap64 (i25 * 4)))), rfl, Ho67, HS⟩
   refine wy_ (dT c82) (rg_ (as_ ?_))
   refine WL.done ?_
   obtain rfl := os H
   exact wv_ iq X69 ⟨4, rfl, Ho67, HS⟩
 clear hK52
 refine WC.loop (fun k_ E_ W_ => ∃ i58, (∃ o_, spec_TableOk.l1 x1 i25 k_ i58 = some o_ ∧ G54 o_ = some oc23) ∧ J59 i58 E_ W_) k32 ⟨0, ⟨_, H, Ho57⟩, rfl, HS⟩ (sb rfl) ?_
 rintro k_ E_ w84 ⟨i58, ⟨oc56, H, Ho57⟩, rfl, HS⟩
 rcases k_ with _ | k85
 · exact no_ H
 replace H : spec_TableOk.b1 x1 i25 (spec_TableOk.l1 x1 i25 k85) k85 i58 = some oc56 := H
 unfold spec_TableOk.b1 at H
 refine WC.seq fun _ hK86 => ?_
 refine sr_ fun _ hK87 => ?_
 refine mv_ ?_
 refine mv_ ?_
 refine b_ bin_lss ?_
 refine dn_ hK87 ?_
 rcases eti_ H with ⟨c88, H⟩ | ⟨c88, H⟩
 · refine wn_ (dF c88) (WC.exit ?_)
   obtain rfl := os H
   exact wv_ iq X60 ⟨i58, Ho57, rfl, HS⟩
 refine wy_ (dT c88) (WC.skip (via_ hK86 (WC.seq fun _ hK89 => ?_)))
 refine WC.block (sr_ fun _ hK90 => ?_)
 refine v_ (fa_ underlying67) ?_
 refine v_ (lb_ (HS.mu 0 rfl) underlying22 rfl) ?_
 refine mv_ ?_
 obtain ⟨⟨q91, q92⟩, H⟩ := if_some H
 refine v_ (ia_ underlying22 1 q91 q92) ?_
 refine v_ (Run.load rfl rfl underlying3 rfl (int_cell (HS.getO 2 rfl) i58 q91 q92)) ?_
 refine mv_ ?_
 refine b_ bin_eql ?_
 refine dn_ hK90 ?_
 rcases eti_ H with ⟨c93, H⟩ | ⟨c93, H⟩
 · refine wn_ (eF c93) (WC.skip (via_ hK89 (rg_ (mv_ ?_))))
   refine b_ bin_add64 ?_
   refine as_ ?_
   refine WL.done ?_
   exact wr_ k85 iq ⟨(wrap64 (i58 + 1)), ⟨_, H, Ho57⟩, rfl, HS⟩
 refine wy_ (eT c93) (sr_ fun _ hK94 => ?_)
 refine ad_ hK94 ?_
 refine WC.ret ?_
 obtain rfl := os H
 rw [hG55] at Ho57
 replace H : some _ = some _ := Ho57
 obtain rfl := os H
 rw [hG22] at Ho24
 replace H : some _ = some _ := Ho24
 obtain rfl := os H
 exact fin1 Try.f52 rfl rfl hR_ ⟨rfl, HS.b⟩
def spec_l14CopyParts.b0 (l0 : List S149) (rec_ : (List S149) → Int → Option ((List S149) × Int)) (k24 : Nat) (xs11 : List S149) (i15 : Int) : Option ((List S149) × Int) := (if i15 < (l0.length : Int) then (if 0 ≤ i15 ∧ i15 < (l0.length : Int) then (if (0) + ((l0.getD i15.toNat o149).f1.length) < 4294967296 then (if (xs11.length) < 4294967296 then (rec_ (xs11 ++ [(⟨(l0.getD i15.toNat o149).f0, (([] : List Int) ++ (l0.getD i15.toNat o149).f1)⟩ : S149)]) (wrap64 (i15 + 1))) else none) else none) else none) else (some (xs11, i15)))
def spec_l14CopyParts.l0 (l0 : List S149) : Nat → (List S149) → Int → Option ((List S149) × Int)
 | 0, _, _ => none
 | k + 1, xs11, i15 => spec_l14CopyParts.b0 l0 (spec_l14CopyParts.l0 l0 k) k xs11 i15
def spec_l14CopyParts.g (k : Nat) (l0 : List S149) : Option (List S149) := ((spec_l14CopyParts.l0 l0 k ([] : List S149) 0).bind (fun oc22 => (some oc22.1)))
theorem spec_l14CopyParts.runs (k : Nat) (A0 : Option Addr) (c0 : Nat) (l0 : List S149) (r : List S149) (w : World) (hr0 : k149.C w A0 l0.length l0) (hc0 : l0.length ≤ c0) (H : spec_l14CopyParts.g k l0 = some r) :
   Calls prog 145 #[.slice A0 l0.length c0] w fun e w' => ∃ (v0_ : Value) (bl0_ : List Nat), e = .returned (v0_) ∧ Owns w' w.heap.size [valM (Dk.slice 149 dq149) r [v0_] bl0_] ∧ Below w.heap.size w w' := by
 unfold spec_l14CopyParts.g at H
 have HS : St (fun _ => True) w w [] [(cF k149 A0 l0)] [] := St.start (foot_cons (foot_C h149 hr0) foot_nil)
 refine cw_ (n := 29) func145 fun R_ hR_ => ?_
 refine sr_ fun _ hK1 => ?_
 refine ad_ hK1 ?_
 refine sr_ fun _ hK2 => ?_
 refine WL.lit0 HS rfl rfl (by decide) rfl underlying133 (sz := 2) (by kernel_rfl) (fun v3 w4 HS => ?_)
 replace HS := HS.els0 (dq149)
 refine ad_ hK2 ?_
 refine WC.seq fun K5 hK5 => ?_
 refine sr_ fun _ hK6 => ?_
 refine ad_ hK6 ?_
 refine WC.block ?_
 obtain ⟨G7, hG8, oc9, H, Ho10⟩ := open_G H
 let J16 := fun (xs11 : List S149) v12 I13 bl14 (i15 : Int) (E_ : Env) (W_ : World) => E_ = [(0, .slice A0 l0.length c0), (3, v12), (4, vi i15)] ∧ St (fun _ => True) w W_ [elsM dq149 xs11 I13 bl14, rowM w.heap.size 149 2 v12 xs11.length I13] [(cF k149 A0 l0)] []
 have X17 : ∀ E_ W_, (∃ xs11 v12 I13 bl14 i15, G7 (xs11, i15) = some r ∧ J16 xs11 v12 I13 bl14 i15 E_ W_) → ∀ a, Fits a 29 E_ → K5 a W_ := by
   rintro E_ w18 ⟨xs11, v12, I13, bl14, i15, H, rfl, HS⟩
   rw [hG8] at H
   (try dsimp only at H)
   refine hK5 _ _ ?_
   refine sr_ fun _ hK19 => ?_
   refine mv_ ?_
   refine ad_ hK19 ?_
   refine WC.ret ?_
   obtain ⟨A20, c21, rfl⟩ := row_slice (HS.mu 1 rfl)
   replace HS := HS.front 1 rfl
   dsimp only [List.eraseIdx] at HS
   replace HS := HS.seal rfl rfl
   obtain rfl := os H
   exact fin1 Try.f145 rfl rfl hR_ ⟨_, _, rfl, (St.owns HS), HS.b⟩
 clear hK5
 refine WC.loop (fun k_ E_ W_ => ∃ xs11 v12 I13 bl14 i15, (∃ o_, spec_l14CopyParts.l0 l0 k_ xs11 i15 = some o_ ∧ G7 o_ = some r) ∧ J16 xs11 v12 I13 bl14 i15 E_ W_) k ⟨([] : List S149), v3, ([]), ([]), 0, ⟨_, H, Ho10⟩, rfl, HS⟩ (sb rfl) ?_
 rintro k_ E_ w23 ⟨xs11, v12, I13, bl14, i15, ⟨oc9, H, Ho10⟩, rfl, HS⟩
 rcases k_ with _ | k24
 · exact no_ H
 replace H : spec_l14CopyParts.b0 l0 (spec_l14CopyParts.l0 l0 k24) k24 xs11 i15 = some oc9 := H
 unfold spec_l14CopyParts.b0 at H
 refine WC.seq fun _ hK25 => ?_
 refine sr_ fun _ hK26 => ?_
 refine mv_ ?_
 refine mv_ ?_
 refine ln_ underlying133 ?_
 refine b_ bin_lss ?_
 refine dn_ hK26 ?_
 rcases eti_ H with ⟨c27, H⟩ | ⟨c27, H⟩
 · refine wn_ (dF c27) (WC.exit ?_)
   obtain rfl := os H
   exact wv_ iq X17 ⟨xs11, v12, I13, bl14, i15, Ho10, rfl, HS⟩
 refine wy_ (dT c27) (WC.skip (via_ hK25 (WC.seq fun _ hK28 => ?_)))
 refine WC.block ?_
 obtain ⟨⟨q29, q30⟩, H⟩ := if_some H
 obtain ⟨ad31, rfl⟩ := C_open (HS.getO 0 rfl) (by omega)
 obtain ⟨e32, el33, HS⟩ := HS.elO 0 rfl (by decide) o149 i15 q29 q30
 refine WC.drawW HS [] (fun _ HS => trivial) [] rfl rfl (fun w34 HS => ?_)
 refine dm_ 0 ?_
 refine dm_ 1 ?_
 refine dm_ 2 ?_
 refine di_ 3 underlying133 2 q29 q30 ?_
 refine df_ 4 underlying149 ?_
 refine dm_ 7 ?_
 refine dm_ 8 ?_
 refine di_ 9 underlying133 2 q29 q30 ?_
 refine df_ 10 underlying149 ?_
 refine dt_ 5 ⟨HS.nowO, HS.nowN, trivial⟩ (fun w_ hw_ => Run.load rfl rfl underlying3 rfl (el_at (AllF.get 1 rfl hw_.1) o149 i15 q29 q30 (fun _ h_ => (at149_0 (AtK.whole h_)).int))) ?_
 obtain ⟨A35, c36, hc37, le38, HS⟩ := HS.eO 0 rfl at149_1
 refine dt_ 11 ⟨HS.nowO.2, HS.nowN, trivial⟩ (fun w_ hw_ => Run.load rfl rfl underlying22 rfl ((AllF.get 0 rfl hw_.1).2 1 _ hc37)) ?_
 refine WD.lit0 6 (w_none rfl) HS rfl underlying22 (sz := 1) (by kernel_rfl) (fun v39 w40 HS => ?_)
 replace HS := HS.deriveN (p := (rF kI ([] : List Int) [])) (fun _ _ => Reps.none _ _)
 refine ⟨⟨HS.nowO.2, HS.nowN.2, trivial⟩, ?_⟩
 obtain ⟨q41, H⟩ := if_some H
 obtain ⟨L42, hl43, h44, hF45, hc46⟩ := foot_all (HS.footO 0 rfl) (by decide) rfl
 replace HS := HS.addN (p := (rF kI ((l0.getD i15.toNat o149).f1) L42)) (fun W_ _ => hF45.now)
 refine WD.appendL 12 (w_none rfl) HS 0 rfl rfl (vi 0) 8 underlying22 (by kernel_rfl) rfl (by decide) (by decide) rfl rfl L42 hl43 hc46 h44 (by omega) ((([] : List Int) ++ (l0.getD i15.toNat o149).f1).length) (by simp <;> omega) (fun v47 w48 I49 hI50 HS => ?_)
 dsimp only [List.set] at HS
 replace HS := HS.deriveN (p := (rF kI (([] : List Int) ++ (l0.getD i15.toNat o149).f1) I49)) (fun W_ hN_ => reps_more hI50 hN_.2.1 hN_.1)
 refine ⟨⟨HS.nowO.2, HS.nowN.2.2.2, trivial⟩, ?_⟩
 obtain ⟨A51, c52, rfl⟩ := row_slice (HS.mu 0 rfl)
 refine db_ 13 [(0, vi ((l0.getD i15.toNat o149).f0)), (1, (.slice A51 ((([] : List Int) ++ (l0.getD i15.toNat o149).f1).length) c52))] (cells := #[vi ((l0.getD i15.toNat o149).f0), (.slice A51 ((([] : List Int) ++ (l0.getD i15.toNat o149).f1).length) c52)]) rfl rfl ⟨⟨rfl, rfl⟩, ⟨⟨rfl, rfl⟩, trivial⟩⟩ (by kernel_rfl) ?_
 have HS1 := HS.below (below_alloc (Below.refl _ _) (.cells #[vi ((l0.getD i15.toNat o149).f0), (.slice A51 ((([] : List Int) ++ (l0.getD i15.toNat o149).f1).length) c52)] 149))
 refine dv_ 14 (w_none rfl) (Run.lit1 (z := (.agg #[vi 0, sn])) (vs := [vi ((l0.getD i15.toNat o149).f0), (.slice A51 ((([] : List Int) ++ (l0.getD i15.toNat o149).f1).length) c52)]) rfl rfl rfl underlying133 (by kernel_rfl) (ble_ rfl) (ble_ rfl)) ⟨HS1.nowO.2, HS1.nowN.2.2.2, trivial⟩ ?_
 obtain ⟨q53, H⟩ := if_some H
 refine WD.append 15 (w_none rfl) HS1 2 rfl rfl (.agg #[vi 0, sn]) 32 underlying133 (by kernel_rfl) rfl (by decide) (by decide) rfl rfl [vi ((l0.getD i15.toNat o149).f0), (.slice A51 ((([] : List Int) ++ (l0.getD i15.toNat o149).f1).length) c52)] rfl (lit_news _ _ _) (oneL rfl) (by omega) ((xs11 ++ [(⟨(l0.getD i15.toNat o149).f0, (([] : List Int) ++ (l0.getD i15.toNat o149).f1)⟩ : S149)]).length) (by simp) (fun v54 w55 I56 hI57 HS => ?_)
 dsimp only [List.set] at HS
 clear HS1
 replace HS := HS.elsF (xs := (([] : List Int) ++ (l0.getD i15.toNat o149).f1)) (inner := I49) (Dk.int .i64) (fun _ _ _ h_ => ⟨h_, rfl⟩) (fun _ => (HS.getN 0 rfl))
 replace HS := HS.front 1 rfl
 dsimp only [List.eraseIdx] at HS
 replace HS := HS.seal rfl rfl
 replace HS := HS.put0 (valM dq149 (⟨(l0.getD i15.toNat o149).f0, (([] : List Int) ++ (l0.getD i15.toNat o149).f1)⟩ : S149) ([vi ((l0.getD i15.toNat o149).f0), (.slice A51 ((([] : List Int) ++ (l0.getD i15.toNat o149).f1).length) c52)]) (((.slice A51 ((([] : List Int) ++ (l0.getD i15.toNat o149).f1).length) c52) : Value).ownBlock.toList ++ [])) (fun hP_ => foot_val (dq149_mk _ (⟨(l0.getD i15.toNat o149).f0, (([] : List Int) ++ (l0.getD i15.toNat o149).f1)⟩ : S149) hP_)) (fun h_ => h_) (fun _ h_ => h_)
 replace HS := HS.front 1 rfl
 dsimp only [List.eraseIdx] at HS
 replace HS := HS.front 1 rfl
 dsimp only [List.eraseIdx] at HS
 replace HS := HS.elsSnoc hI57
 refine ⟨⟨HS.nowO.2, HS.nowN.2.2.2, trivial⟩, ?_⟩
 refine dp_ 16 (fun _ => Run.assign rfl rfl) ?_
 refine dd_ (via_ hK28 (rg_ (mv_ ?_)))
 refine b_ bin_add64 ?_
 refine as_ ?_
 refine WL.done ?_
 exact wr_ k24 iq ⟨(xs11 ++ [(⟨(l0.getD i15.toNat o149).f0, (([] : List Int) ++ (l0.getD i15.toNat o149).f1)⟩ : S149)]), v54, I56, (bl14 ++ (((.slice A51 ((([] : List Int) ++ (l0.getD i15.toNat o149).f1).length) c52) : Value).ownBlock.toList ++ [])), (wrap64 (i15 + 1)), ⟨_, H, Ho10⟩, rfl, (St.pk HS [2] [] rfl rfl)⟩
def spec_l14Copy.b1 (x0 : S62) (rec_ : Int → (List (List S149)) → Option (Int × (List (List S149)))) (k79 : Nat) (i16 : Int) (xs17 : List (List S149)) : Option (Int × (List (List S149))) := (if i16 < (x0.f0.length : Int) then (if 0 ≤ i16 ∧ i16 < (x0.f0.length : Int) then ((spec_l14CopyParts.g k79 (x0.f0.getD i16.toNat [])).bind fun t93 => (if (xs17.length) < 4294967296 then (rec_ (wrap64 (i16 + 1)) (xs17 ++ [t93])) else none)) else none) else (some (i16, xs17)))
def spec_l14Copy.l1 (x0 : S62) : Nat → Int → (List (List S149)) → Option (Int × (List (List S149)))
 | 0, _, _ => none
 | k + 1, i16, xs17 => spec_l14Copy.b1 x0 (spec_l14Copy.l1 x0 k) k i16 xs17
def spec_l14Copy.b0 (x0 : S62) (rec_ : Int → (List (List S149)) → Option (Int × (List (List S149)))) (k46 : Nat) (i30 : Int) (xs31 : List (List S149)) : Option (Int × (List (List S149))) := (if i30 < (x0.f1.length : Int) then (if 0 ≤ i30 ∧ i30 < (x0.f1.length : Int) then ((spec_l14CopyParts.g k46 (x0.f1.getD i30.toNat [])).bind fun t60 => (if (xs31.length) < 4294967296 then (rec_ (wrap64 (i30 + 1)) (xs31 ++ [t60])) else none)) else none) else (some (i30, xs31)))
def spec_l14Copy.l0 (x0 : S62) : Nat → Int → (List (List S149)) → Option (Int × (List (List S149)))
 | 0, _, _ => none
 | k + 1, i30, xs31 => spec_l14Copy.b0 x0 (spec_l14Copy.l0 x0 k) k i30 xs31
def spec_l14Copy.g (k : Nat) (x0 : S62) : Option S62 := ((spec_l14Copy.l1 x0 k 0 ([] : List (List S149))).bind (fun oc77 => ((spec_l14Copy.l0 x0 k 0 ([] : List (List S149))).bind (fun oc44 => (some (⟨oc77.2, oc44.2⟩ : S62))))))
theorem spec_l14Copy.runs (k : Nat) (x0 : S62) (A0_0 : Option Addr) (c0_0 : Nat) (A0_1 : Option Addr) (c0_1 : Nat) (r : S62) (w : World) (hr0_0 : kS149.C w A0_0 x0.f0.length x0.f0) (hc0_0 : x0.f0.length ≤ c0_0) (hr0_1 : kS149.C w A0_1 x0.f1.length x0.f1) (hc0_1 : x0.f1.length ≤ c0_1) (H : spec_l14Copy.g k x0 = some r) :
   Calls prog 114 #[.agg #[.slice A0_0 x0.f0.length c0_0, .slice A0_1 x0.f1.length c0_1]] w fun e w' => ∃ (v0_0_ : Value) (bl0_0_ : List Nat) (v0_1_ : Value) (bl0_1_ : List Nat), e = .returned (.agg #[v0_0_, v0_1_]) ∧ Owns w' w.heap.size [valM (Dk.slice 133 (Dk.slice 149 dq149)) r.f0 [v0_0_] bl0_0_, valM (Dk.slice 133 (Dk.slice 149 dq149)) r.f1 [v0_1_] bl0_1_] ∧ Below w.heap.size w w' := by
 unfold spec_l14Copy.g at H
 have HS : St (fun _ => True) w w [] [(cF kS149 A0_0 x0.f0), (cF kS149 A0_1 x0.f1)] [] := St.start (foot_cons (foot_C (Kd.heap_slice _ h149) hr0_0) (foot_cons (foot_C (Kd.heap_slice _ h149) hr0_1) foot_nil))
 refine cw_ (n := 44) func114 fun R_ hR_ => ?_
 refine sr_ fun _ hK1 => ?_
 refine bo_ HS (fun b2 w3 hb2 HS => ?_)
 refine WL.alloc HS (v := .agg #[sn, sn]) (cs := #[sn, sn]) rfl rfl (by decide) rfl (by kernel_rfl) rfl (fun b4 w5 hb4 HS => ?_)
 refine dn_ hK1 (sr_ fun _ hK6 => ?_)
 refine v_ (Run.build (cells := #[sn, sn]) rfl [] trivial (by kernel_rfl)) ?_
 refine WL.alloc HS (v := .agg #[sn, sn]) (cs := #[sn, sn]) rfl rfl (by decide) rfl (by kernel_rfl) rfl (fun b7 w8 hb7 HS => ?_)
 refine WL.storeW HS 0 rfl rfl rfl rfl rfl rfl (oneL rfl) (by kernel_rfl) rfl (fun w9 HS => ?_)
 dsimp only [List.set] at HS
 refine dn_ hK6 (WC.seq fun K10 hK10 => ?_)
 refine sr_ fun _ hK11 => ?_
 refine ad_ hK11 ?_
 refine WC.block ?_
 replace HS := HS.rowNil 133 1
 replace HS := HS.els0 (Dk.slice 149 dq149)
 obtain ⟨G12, hG13, oc14, H, Ho15⟩ := open_G H
 let J21 := fun (i16 : Int) (xs17 : List (List S149)) v18 I19 bl20 (E_ : Env) (W_ : World) => E_ = [(1, .pointer (some ⟨b2, 0, none⟩)), (2, .pointer (some ⟨b4, 0, none⟩)), (3, .pointer (some ⟨b7, 0, none⟩)), (4, vi i16)] ∧ St (fun _ => True) w W_ [elsM (Dk.slice 149 dq149) xs17 I19 bl20, rowM w.heap.size 133 1 v18 xs17.length I19, boxM b7 #[v18, sn] 62, boxM b4 #[sn, sn] 62, boxM b2 #[.slice A0_0 x0.f0.length c0_0, .slice A0_1 x0.f1.length c0_1] 62] [(cF kS149 A0_0 x0.f0), (cF kS149 A0_1 x0.f1)] []
 have X22 : ∀ E_ W_, (∃ i16 xs17 v18 I19 bl20, G12 (i16, xs17) = some r ∧ J21 i16 xs17 v18 I19 bl20 E_ W_) → ∀ a, Fits a 44 E_ → K10 a W_ := by
   rintro E_ w23 ⟨i16, xs17, v18, I19, bl20, H, rfl, HS⟩
   rw [hG13] at H
   (try dsimp only at H)
   refine hK10 _ _ ?_
   refine WC.seq fun K24 hK24 => ?_
   refine sr_ fun _ hK25 => ?_
   refine ad_ hK25 ?_
   refine WC.block ?_
   replace HS := HS.rowNil 133 1
   replace HS := HS.els0 (Dk.slice 149 dq149)
   obtain ⟨G26, hG27, oc28, H, Ho29⟩ := open_G H
   let J35 := fun (i30 : Int) (xs31 : List (List S149)) v32 I33 bl34 (E_ : Env) (W_ : World) => E_ = [(1, .pointer (some ⟨b2, 0, none⟩)), (2, .pointer (some ⟨b4, 0, none⟩)), (3, .pointer (some ⟨b7, 0, none⟩)), (5, vi i30)] ∧ St (fun _ => True) w W_ [elsM (Dk.slice 149 dq149) xs31 I33 bl34, rowM w.heap.size 133 1 v32 xs31.length I33, elsM (Dk.slice 149 dq149) xs17 I19 bl20, rowM w.heap.size 133 1 v18 xs17.length I19, boxM b7 #[v18, v32] 62, boxM b4 #[sn, sn] 62, boxM b2 #[.slice A0_0 x0.f0.length c0_0, .slice A0_1 x0.f1.length c0_1] 62] [(cF kS149 A0_0 x0.f0), (cF kS149 A0_1 x0.f1)] []
   have X36 : ∀ E_ W_, (∃ i30 xs31 v32 I33 bl34, G26 (i30, xs31) = some r ∧ J35 i30 xs31 v32 I33 bl34 E_ W_) → ∀ a, Fits a 44 E_ → K24 a W_ := by
     rintro E_ w37 ⟨i30, xs31, v32, I33, bl34, H, rfl, HS⟩
     rw [hG27] at H
     (try dsimp only at H)
     refine hK24 _ _ ?_
     refine sr_ fun _ hK38 => ?_
     obtain ⟨A39, c40, rfl⟩ := row_slice (HS.mu 3 rfl)
     obtain ⟨A41, c42, rfl⟩ := row_slice (HS.mu 1 rfl)
     refine v_ (ls_ (HS.mu 4 rfl) underlying62 part_all) ?_
     refine WL.storeW HS 5 rfl rfl rfl rfl rfl rfl (oneL rfl) (by kernel_rfl) rfl (fun w43 HS => ?_)
     dsimp only [List.set] at HS
     refine dn_ hK38 (WC.ret ?_)
     replace HS := HS.front 2 rfl
     dsimp only [List.eraseIdx] at HS
     replace HS := HS.front 3 rfl
     dsimp only [List.eraseIdx] at HS
     replace HS := HS.seal rfl rfl
     replace HS := HS.front 1 rfl
     dsimp only [List.eraseIdx] at HS
     replace HS := HS.front 2 rfl
     dsimp only [List.eraseIdx] at HS
     replace HS := HS.seal rfl rfl
     obtain rfl := os H
     exact fin1 Try.f114 rfl ⟨_, rfl, resv_box (HS.mu 3 rfl) underlying62 rfl (by kernel_rfl)⟩ hR_ ⟨_, _, _, _, rfl, (St.owns (St.front (St.front (St.forget (St.forget (St.forget HS 4 rfl) 3 rfl) 2 rfl) 0 rfl) 1 rfl)), HS.b⟩
   clear hK24
   refine WC.loop (fun k_ E_ W_ => ∃ i30 xs31 v32 I33 bl34, (∃ o_, spec_l14Copy.l0 x0 k_ i30 xs31 = some o_ ∧ G26 o_ = some r) ∧ J35 i30 xs31 v32 I33 bl34 E_ W_) k ⟨0, ([] : List (List S149)), (sn), ([]), ([]), ⟨_, H, Ho29⟩, rfl, HS⟩ (sb rfl) ?_
   rintro k_ E_ w45 ⟨i30, xs31, v32, I33, bl34, ⟨oc28, H, Ho29⟩, rfl, HS⟩
   rcases k_ with _ | k46
   · exact no_ H
   replace H : spec_l14Copy.b0 x0 (spec_l14Copy.l0 x0 k46) k46 i30 xs31 = some oc28 := H
   unfold spec_l14Copy.b0 at H
   refine WC.seq fun _ hK47 => ?_
   refine sr_ fun _ hK48 => ?_
   refine mv_ ?_
   refine v_ (fa_ underlying62) ?_
   refine v_ (lb_ (HS.mu 6 rfl) underlying60 rfl) ?_
   refine ln_ underlying60 ?_
   refine b_ bin_lss ?_
   refine dn_ hK48 ?_
   rcases eti_ H with ⟨c49, H⟩ | ⟨c49, H⟩
   · refine wn_ (dF c49) (WC.exit ?_)
     obtain rfl := os H
     exact wv_ iq X36 ⟨i30, xs31, v32, I33, bl34, Ho29, rfl, HS⟩
   refine wy_ (dT c49) (WC.skip (via_ hK47 (WC.seq fun _ hK50 => ?_)))
   refine WC.block (WC.drawW HS [boxM b7 #[v18, v32] 62, boxM b4 #[sn, sn] 62, boxM b2 #[.slice A0_0 x0.f0.length c0_0, .slice A0_1 x0.f1.length c0_1] 62] (fun _ HS => ⟨(HS.mu 4 rfl), (HS.mu 5 rfl), (HS.mu 6 rfl), trivial⟩) [11] rfl rfl (fun w51 HS => ?_))
   refine df_ 0 underlying62 ?_
   refine df_ 2 underlying62 ?_
   refine dm_ 4 ?_
   obtain ⟨A52, c53, rfl⟩ := row_slice (HS.mu 1 rfl)
   refine dt_ 1 ⟨HS.nowO, HS.nowN, ⟨(HS.mu 4 rfl), (HS.mu 5 rfl), (HS.mu 6 rfl), trivial⟩⟩ (fun w_ hw_ => Run.load rfl rfl underlying60 rfl (box_cell hw_.2.2.1 rfl)) ?_
   refine dt_ 3 ⟨HS.nowO, HS.nowN, ⟨(HS.mu 4 rfl), (HS.mu 5 rfl), (HS.mu 6 rfl), trivial⟩⟩ (fun w_ hw_ => Run.load rfl rfl underlying60 rfl (box_cell hw_.2.2.2.2.1 rfl)) ?_
   obtain ⟨⟨q54, q55⟩, H⟩ := if_some H
   obtain ⟨ad56, rfl⟩ := C_open (HS.getO 1 rfl) (by omega)
   refine di_ 5 underlying60 1 q54 q55 ?_
   obtain ⟨A57, c58, le59, HS⟩ := HS.slO 1 rfl i30 q54 q55
   refine dv_ 6 (w_none rfl) (Run.load rfl rfl underlying133 rfl (HS.getO 1 rfl)) ⟨HS.nowO.2.2, HS.nowN, ⟨(HS.mu 4 rfl), (HS.mu 5 rfl), (HS.mu 6 rfl), trivial⟩⟩ ?_
   obtain ⟨t60, ha61, H⟩ := bind_some H
   refine dc_ 7 (w_none rfl) func145 (spec_l14CopyParts.runs k46 A57 c58 (x0.f1.getD i30.toNat []) t60 _ (HS.getO 0 rfl) le59 ha61) ?_
   clear ha61
   rintro _ w62 ⟨v63, bl64, rfl, hO_, hb⟩
   replace HS := HS.got hb hO_
   dsimp only [List.cons_append, List.nil_append] at HS
   clear hO_
   obtain ⟨I65, bl66, HS⟩ := HS.unseal (sz := 2) rfl
   refine ⟨⟨HS.nowO.2.2, HS.nowN, ⟨(HS.mu 6 rfl), (HS.mu 7 rfl), (HS.mu 8 rfl), trivial⟩⟩, _, rfl, ?_⟩
   clear hb
   obtain ⟨A67, c68, rfl⟩ := row_slice (HS.mu 0 rfl)
   have HS1 := HS.below (below_alloc (Below.refl _ _) (.cells #[(.slice A67 t60.length c68)] 133))
   refine dv_ 8 (w_none rfl) (Run.lit1 (z := (sn)) (vs := [(.slice A67 t60.length c68)]) rfl rfl rfl underlying60 (by kernel_rfl) (ble_ rfl) (ble_ rfl)) ⟨HS1.nowO.2.2, HS1.nowN, ⟨(HS1.mu 6 rfl), (HS1.mu 7 rfl), (HS1.mu 8 rfl), trivial⟩⟩ ?_
   obtain ⟨q69, H⟩ := if_some H
   refine WD.append 9 (w_none rfl) HS1 3 rfl rfl (sn) 24 underlying60 (by kernel_rfl) rfl (by decide) (by decide) rfl rfl [(.slice A67 t60.length c68)] rfl (lit_news _ _ _) (oneL rfl) (by omega) ((xs31 ++ [t60]).length) (by simp) (fun v70 w71 I72 hI73 HS => ?_)
   dsimp only [List.set] at HS
   clear HS1
   replace HS := HS.front 1 rfl
   dsimp only [List.eraseIdx] at HS
   replace HS := HS.front 1 rfl
   dsimp only [List.eraseIdx] at HS
   replace HS := HS.seal rfl rfl
   replace HS := HS.front 1 rfl
   dsimp only [List.eraseIdx] at HS
   replace HS := HS.front 1 rfl
   dsimp only [List.eraseIdx] at HS
   replace HS := HS.elsSnoc hI73
   refine ⟨⟨HS.nowO.2.2, HS.nowN, ⟨(HS.mu 4 rfl), (HS.mu 5 rfl), (HS.mu 6 rfl), trivial⟩⟩, ?_⟩
   refine df_ 10 underlying62 ?_
   obtain ⟨A75, c76, rfl⟩ := row_slice (HS.mu 1 rfl)
   refine WD.storeL 11 HS 4 rfl rfl rfl rfl rfl (by kernel_rfl) (ble_ rfl) (cs' := #[v18, (.slice A75 ((xs31 ++ [t60]).length) c76)]) (by kernel_rfl) (fun w74 HS => ?_)
   dsimp only [List.set] at HS
   refine dd_ (via_ hK50 (rg_ (mv_ ?_)))
   refine b_ bin_add64 ?_
   refine as_ ?_
   refine WL.done ?_
   exact wr_ k46 iq ⟨(wrap64 (i30 + 1)), (xs31 ++ [t60]), (.slice A75 ((xs31 ++ [t60]).length) c76), I72, (bl34 ++ (((.slice A67 t60.length c68) : Value).ownBlock.toList ++ bl66)), ⟨_, H, Ho29⟩, rfl, (St.pk HS [2, 3] [] rfl rfl)⟩
 clear hK10
 refine WC.loop (fun k_ E_ W_ => ∃ i16 xs17 v18 I19 bl20, (∃ o_, spec_l14Copy.l1 x0 k_ i16 xs17 = some o_ ∧ G12 o_ = some r) ∧ J21 i16 xs17 v18 I19 bl20 E_ W_) k ⟨0, ([] : List (List S149)), (sn), ([]), ([]), ⟨_, H, Ho15⟩, rfl, HS⟩ (sb rfl) ?_
 rintro k_ E_ w78 ⟨i16, xs17, v18, I19, bl20, ⟨oc14, H, Ho15⟩, rfl, HS⟩
 rcases k_ with _ | k79
 · exact no_ H
 replace H : spec_l14Copy.b1 x0 (spec_l14Copy.l1 x0 k79) k79 i16 xs17 = some oc14 := H
 unfold spec_l14Copy.b1 at H
 refine WC.seq fun _ hK80 => ?_
 refine sr_ fun _ hK81 => ?_
 refine mv_ ?_
 refine v_ (fa_ underlying62) ?_
 refine v_ (lb_ (HS.mu 4 rfl) underlying60 rfl) ?_
 refine ln_ underlying60 ?_
 refine b_ bin_lss ?_
 refine dn_ hK81 ?_
 rcases eti_ H with ⟨c82, H⟩ | ⟨c82, H⟩
 · refine wn_ (dF c82) (WC.exit ?_)
   obtain rfl := os H
   exact wv_ iq X22 ⟨i16, xs17, v18, I19, bl20, Ho15, rfl, HS⟩
 refine wy_ (dT c82) (WC.skip (via_ hK80 (WC.seq fun _ hK83 => ?_)))
 refine WC.block (WC.drawW HS [boxM b7 #[v18, sn] 62, boxM b4 #[sn, sn] 62, boxM b2 #[.slice A0_0 x0.f0.length c0_0, .slice A0_1 x0.f1.length c0_1] 62] (fun _ HS => ⟨(HS.mu 2 rfl), (HS.mu 3 rfl), (HS.mu 4 rfl), trivial⟩) [11] rfl rfl (fun w84 HS => ?_))
 refine df_ 0 underlying62 ?_
 refine df_ 2 underlying62 ?_
 refine dm_ 4 ?_
 obtain ⟨A85, c86, rfl⟩ := row_slice (HS.mu 1 rfl)
 refine dt_ 1 ⟨HS.nowO, HS.nowN, ⟨(HS.mu 2 rfl), (HS.mu 3 rfl), (HS.mu 4 rfl), trivial⟩⟩ (fun w_ hw_ => Run.load rfl rfl underlying60 rfl (box_cell hw_.2.2.1 rfl)) ?_
 refine dt_ 3 ⟨HS.nowO, HS.nowN, ⟨(HS.mu 2 rfl), (HS.mu 3 rfl), (HS.mu 4 rfl), trivial⟩⟩ (fun w_ hw_ => Run.load rfl rfl underlying60 rfl (box_cell hw_.2.2.2.2.1 rfl)) ?_
 obtain ⟨⟨q87, q88⟩, H⟩ := if_some H
 obtain ⟨ad89, rfl⟩ := C_open (HS.getO 0 rfl) (by omega)
 refine di_ 5 underlying60 1 q87 q88 ?_
 obtain ⟨A90, c91, le92, HS⟩ := HS.slO 0 rfl i16 q87 q88
 refine dv_ 6 (w_none rfl) (Run.load rfl rfl underlying133 rfl (HS.getO 1 rfl)) ⟨HS.nowO.2.2, HS.nowN, ⟨(HS.mu 2 rfl), (HS.mu 3 rfl), (HS.mu 4 rfl), trivial⟩⟩ ?_
 obtain ⟨t93, ha94, H⟩ := bind_some H
 refine dc_ 7 (w_none rfl) func145 (spec_l14CopyParts.runs k79 A90 c91 (x0.f0.getD i16.toNat []) t93 _ (HS.getO 0 rfl) le92 ha94) ?_
 clear ha94
 rintro _ w95 ⟨v96, bl97, rfl, hO_, hb⟩
 replace HS := HS.got hb hO_
 dsimp only [List.cons_append, List.nil_append] at HS
 clear hO_
 obtain ⟨I98, bl99, HS⟩ := HS.unseal (sz := 2) rfl
 refine ⟨⟨HS.nowO.2.2, HS.nowN, ⟨(HS.mu 4 rfl), (HS.mu 5 rfl), (HS.mu 6 rfl), trivial⟩⟩, _, rfl, ?_⟩
 clear hb
 obtain ⟨A100, c101, rfl⟩ := row_slice (HS.mu 0 rfl)
 have HS1 := HS.below (below_alloc (Below.refl _ _) (.cells #[(.slice A100 t93.length c101)] 133))
 refine dv_ 8 (w_none rfl) (Run.lit1 (z := (sn)) (vs := [(.slice A100 t93.length c101)]) rfl rfl rfl underlying60 (by kernel_rfl) (ble_ rfl) (ble_ rfl)) ⟨HS1.nowO.2.2, HS1.nowN, ⟨(HS1.mu 4 rfl), (HS1.mu 5 rfl), (HS1.mu 6 rfl), trivial⟩⟩ ?_
 obtain ⟨q102, H⟩ := if_some H
 refine WD.append 9 (w_none rfl) HS1 3 rfl rfl (sn) 24 underlying60 (by kernel_rfl) rfl (by decide) (by decide) rfl rfl [(.slice A100 t93.length c101)] rfl (lit_news _ _ _) (oneL rfl) (by omega) ((xs17 ++ [t93]).length) (by simp) (fun v103 w104 I105 hI106 HS => ?_)
 dsimp only [List.set] at HS
 clear HS1
 replace HS := HS.front 1 rfl
 dsimp only [List.eraseIdx] at HS
 replace HS := HS.front 1 rfl
 dsimp only [List.eraseIdx] at HS
 replace HS := HS.seal rfl rfl
 replace HS := HS.front 1 rfl
 dsimp only [List.eraseIdx] at HS
 replace HS := HS.front 1 rfl
 dsimp only [List.eraseIdx] at HS
 replace HS := HS.elsSnoc hI106
 refine ⟨⟨HS.nowO.2.2, HS.nowN, ⟨(HS.mu 2 rfl), (HS.mu 3 rfl), (HS.mu 4 rfl), trivial⟩⟩, ?_⟩
 refine df_ 10 underlying62 ?_
 obtain ⟨A108, c109, rfl⟩ := row_slice (HS.mu 1 rfl)
 refine WD.storeL 11 HS 2 rfl rfl rfl rfl rfl (by kernel_rfl) (ble_ rfl) (cs' := #[(.slice A108 ((xs17 ++ [t93]).length) c109), sn]) (by kernel_rfl) (fun w107 HS => ?_)
 dsimp only [List.set] at HS
 refine dd_ (via_ hK83 (rg_ (mv_ ?_)))
 refine b_ bin_add64 ?_
 refine as_ ?_
 refine WL.done ?_
 exact wr_ k79 iq ⟨(wrap64 (i16 + 1)), (xs17 ++ [t93]), (.slice A108 ((xs17 ++ [t93]).length) c109), I105, (bl20 ++ (((.slice A100 t93.length c101) : Value).ownBlock.toList ++ bl99)), ⟨_, H, Ho15⟩, rfl, (St.pk HS [2, 3] [] rfl rfl)⟩
def spec_l14CopyCells.b0 (l0 : List S62) (rec_ : (List S62) → Int → Option ((List S62) × Int)) (k24 : Nat) (xs11 : List S62) (i15 : Int) : Option ((List S62) × Int) := (if i15 < (l0.length : Int) then (if 0 ≤ i15 ∧ i15 < (l0.length : Int) then ((spec_l14Copy.g k24 (l0.getD i15.toNat o62)).bind fun t42 => (if (xs11.length) < 4294967296 then (rec_ (xs11 ++ [t42]) (wrap64 (i15 + 1))) else none)) else none) else (some (xs11, i15)))
def spec_l14CopyCells.l0 (l0 : List S62) : Nat → (List S62) → Int → Option ((List S62) × Int)
 | 0, _, _ => none
 | k + 1, xs11, i15 => spec_l14CopyCells.b0 l0 (spec_l14CopyCells.l0 l0 k) k xs11 i15
def spec_l14CopyCells.g (k : Nat) (l0 : List S62) : Option (List S62) := ((spec_l14CopyCells.l0 l0 k ([] : List S62) 0).bind (fun oc22 => (some oc22.1)))
theorem spec_l14CopyCells.runs (k : Nat) (A0 : Option Addr) (c0 : Nat) (l0 : List S62) (r : List S62) (w : World) (hr0 : k62.C w A0 l0.length l0) (hc0 : l0.length ≤ c0) (H : spec_l14CopyCells.g k l0 = some r) :
   Calls prog 113 #[.slice A0 l0.length c0] w fun e w' => ∃ (v0_ : Value) (bl0_ : List Nat), e = .returned (v0_) ∧ Owns w' w.heap.size [valM (Dk.slice 62 dq62) r [v0_] bl0_] ∧ Below w.heap.size w w' := by
 unfold spec_l14CopyCells.g at H
 have HS : St (fun _ => True) w w [] [(cF k62 A0 l0)] [] := St.start (foot_cons (foot_C h62 hr0) foot_nil)
 refine cw_ (n := 21) func113 fun R_ hR_ => ?_
 refine sr_ fun _ hK1 => ?_
 refine ad_ hK1 ?_
 refine sr_ fun _ hK2 => ?_
 refine WL.lit0 HS rfl rfl (by decide) rfl underlying71 (sz := 2) (by kernel_rfl) (fun v3 w4 HS => ?_)
 replace HS := HS.els0 (dq62)
 refine ad_ hK2 ?_
 refine WC.seq fun K5 hK5 => ?_
 refine sr_ fun _ hK6 => ?_
 refine ad_ hK6 ?_
 refine WC.block ?_
 obtain ⟨G7, hG8, oc9, H, Ho10⟩ := open_G H
 let J16 := fun (xs11 : List S62) v12 I13 bl14 (i15 : Int) (E_ : Env) (W_ : World) => E_ = [(0, .slice A0 l0.length c0), (3, v12), (4, vi i15)] ∧ St (fun _ => True) w W_ [elsM dq62 xs11 I13 bl14, rowM w.heap.size 62 2 v12 xs11.length I13] [(cF k62 A0 l0)] []
 have X17 : ∀ E_ W_, (∃ xs11 v12 I13 bl14 i15, G7 (xs11, i15) = some r ∧ J16 xs11 v12 I13 bl14 i15 E_ W_) → ∀ a, Fits a 21 E_ → K5 a W_ := by
   rintro E_ w18 ⟨xs11, v12, I13, bl14, i15, H, rfl, HS⟩
   rw [hG8] at H
   (try dsimp only at H)
   refine hK5 _ _ ?_
   refine sr_ fun _ hK19 => ?_
   refine mv_ ?_
   refine ad_ hK19 ?_
   refine WC.ret ?_
   obtain ⟨A20, c21, rfl⟩ := row_slice (HS.mu 1 rfl)
   replace HS := HS.front 1 rfl
   dsimp only [List.eraseIdx] at HS
   replace HS := HS.seal rfl rfl
   obtain rfl := os H
   exact fin1 Try.f113 rfl rfl hR_ ⟨_, _, rfl, (St.owns HS), HS.b⟩
 clear hK5
 refine WC.loop (fun k_ E_ W_ => ∃ xs11 v12 I13 bl14 i15, (∃ o_, spec_l14CopyCells.l0 l0 k_ xs11 i15 = some o_ ∧ G7 o_ = some r) ∧ J16 xs11 v12 I13 bl14 i15 E_ W_) k ⟨([] : List S62), v3, ([]), ([]), 0, ⟨_, H, Ho10⟩, rfl, HS⟩ (sb rfl) ?_
 rintro k_ E_ w23 ⟨xs11, v12, I13, bl14, i15, ⟨oc9, H, Ho10⟩, rfl, HS⟩
 rcases k_ with _ | k24
 · exact no_ H
 replace H : spec_l14CopyCells.b0 l0 (spec_l14CopyCells.l0 l0 k24) k24 xs11 i15 = some oc9 := H
 unfold spec_l14CopyCells.b0 at H
 refine WC.seq fun _ hK25 => ?_
 refine sr_ fun _ hK26 => ?_
 refine mv_ ?_
 refine mv_ ?_
 refine ln_ underlying71 ?_
 refine b_ bin_lss ?_
 refine dn_ hK26 ?_
 rcases eti_ H with ⟨c27, H⟩ | ⟨c27, H⟩
 · refine wn_ (dF c27) (WC.exit ?_)
   obtain rfl := os H
   exact wv_ iq X17 ⟨xs11, v12, I13, bl14, i15, Ho10, rfl, HS⟩
 refine wy_ (dT c27) (WC.skip (via_ hK25 (WC.seq fun _ hK28 => ?_)))
 refine WC.block (rg_ (mv_ ?_))
 refine mv_ ?_
 refine mv_ ?_
 obtain ⟨⟨q29, q30⟩, H⟩ := if_some H
 obtain ⟨ad31, rfl⟩ := C_open (HS.getO 0 rfl) (by omega)
 refine v_ (ia_ underlying71 2 q29 q30) ?_
 obtain ⟨e32, el33, HS⟩ := HS.elO 0 rfl (by decide) o62 i15 q29 q30
 obtain ⟨A34, c35, hc36, le37, HS⟩ := HS.eO 0 rfl at62_0
 obtain ⟨A38, c39, hc40, le41, HS⟩ := HS.eO 1 rfl at62_1
 refine v_ (Run.loadS (cs := [.slice A34 ((l0.getD i15.toNat o62).f0.length) c35, .slice A38 ((l0.getD i15.toNat o62).f1.length) c39]) rfl rfl underlying62 rfl (by kernel_rfl) (cells_part (HS.getO 2 rfl).2 (part_cons hc36 (part_cons hc40 part_nil)))) ?_
 obtain ⟨t42, ha43, H⟩ := bind_some H
 refine c_ func114 (spec_l14Copy.runs k24 (l0.getD i15.toNat o62) A34 c35 A38 c39 t42 _ (HS.getO 1 rfl) le37 (HS.getO 0 rfl) le41 ha43) ?_
 clear ha43
 rintro _ w44 ⟨v45, bl46, v47, bl48, rfl, hO_, hb⟩
 replace HS := HS.got hb hO_
 dsimp only [List.cons_append, List.nil_append] at HS
 clear hO_
 obtain ⟨I49, bl50, HS⟩ := HS.unseal (sz := 1) rfl
 replace HS := HS.front 2 rfl
 dsimp only [List.eraseIdx] at HS
 obtain ⟨I51, bl52, HS⟩ := HS.unseal (sz := 1) rfl
 refine ⟨_, rfl, ?_⟩
 clear hb
 obtain ⟨A53, c54, rfl⟩ := row_slice (HS.mu 2 rfl)
 obtain ⟨A55, c56, rfl⟩ := row_slice (HS.mu 0 rfl)
 refine WL.val rfl rfl (by decide) (Run.lit1 (z := (.agg #[sn, sn])) (vs := [(.slice A53 t42.f0.length c54), (.slice A55 t42.f1.length c56)]) rfl rfl rfl underlying71 (by kernel_rfl) (ble_ rfl) (ble_ rfl)) ?_
 have HS1 := HS.below (below_alloc (Below.refl _ _) (.cells #[(.slice A53 t42.f0.length c54), (.slice A55 t42.f1.length c56)] 62))
 obtain ⟨q57, H⟩ := if_some H
 refine WL.append HS1 5 rfl rfl rfl (by decide) rfl (.agg #[sn, sn]) 48 underlying71 (by kernel_rfl) rfl (by decide) (by decide) rfl rfl [(.slice A53 t42.f0.length c54), (.slice A55 t42.f1.length c56)] rfl (lit_news _ _ _) (oneL rfl) (by omega) ((xs11 ++ [t42]).length) (by simp) (fun v58 w59 I60 hI61 HS => ?_)
 dsimp only [List.set] at HS
 clear HS1
 replace HS := HS.front 3 rfl
 dsimp only [List.eraseIdx] at HS
 replace HS := HS.front 3 rfl
 dsimp only [List.eraseIdx] at HS
 replace HS := HS.seal rfl rfl
 replace HS := HS.front 2 rfl
 dsimp only [List.eraseIdx] at HS
 replace HS := HS.front 2 rfl
 dsimp only [List.eraseIdx] at HS
 replace HS := HS.seal rfl rfl
 replace HS := HS.front 1 rfl
 dsimp only [List.eraseIdx] at HS
 replace HS := HS.both
 replace HS := HS.put0 (valM dq62 t42 ([(.slice A53 t42.f0.length c54), (.slice A55 t42.f1.length c56)]) ((((.slice A53 t42.f0.length c54) : Value).ownBlock.toList ++ bl50) ++ (((.slice A55 t42.f1.length c56) : Value).ownBlock.toList ++ bl52))) (fun hP_ => foot_val (dq62_mk _ t42 hP_.1 hP_.2)) (fun h_ => h_) (fun _ h_ => h_)
 replace HS := HS.front 1 rfl
 dsimp only [List.eraseIdx] at HS
 replace HS := HS.front 1 rfl
 dsimp only [List.eraseIdx] at HS
 replace HS := HS.elsSnoc hI61
 refine ad_ hK28 ?_
 refine rg_ (mv_ ?_)
 refine b_ bin_add64 ?_
 refine as_ ?_
 refine WL.done ?_
 exact wr_ k24 iq ⟨(xs11 ++ [t42]), v58, I60, (bl14 ++ ((((.slice A53 t42.f0.length c54) : Value).ownBlock.toList ++ bl50) ++ (((.slice A55 t42.f1.length c56) : Value).ownBlock.toList ++ bl52))), (wrap64 (i15 + 1)), ⟨_, H, Ho10⟩, rfl, (St.pk HS [3] [] rfl rfl)⟩
def impl_PoolOk.g (k : Nat) (l0 : List Int) : Option Bool := (if (l0.length : Int) ≤ 16 then ((impl_allIn.f l0 0 20).bind fun t4 => (some t4)) else (some false))
theorem impl_PoolOk.runs (k : Nat) (A0 : Option Addr) (c0 : Nat) (l0 : List Int) (r : Bool) (w : World) (hr0 : kI.C w A0 l0.length l0) (hc0 : l0.length ≤ c0) (H : impl_PoolOk.g k l0 = some r) :
   Calls prog 117 #[.slice A0 l0.length c0] w fun e w' => e = .returned (.bool r) ∧ Below w.heap.size w w' := by
 unfold impl_PoolOk.g at H
 have HS : St (fun _ => True) w w [] [(cF kI A0 l0)] [] := St.start (foot_cons (foot_C (Kd.heap_int _) hr0) foot_nil)
 refine cw_ (n := 10) func117 fun R_ hR_ => ?_
 refine sr_ fun _ hK1 => ?_
 refine ad_ hK1 ?_
 refine sr_ fun _ hK2 => ?_
 refine mv_ ?_
 refine ln_ underlying22 ?_
 refine b_ bin_leq ?_
 refine mv_ ?_
 rcases eti_ H with ⟨c3, H⟩ | ⟨c3, H⟩
 · refine off_ (c' := false) (dF c3) ?_
   refine WL.know 6 (dF c3) ?_
   refine fast_ ?_
   refine via_ hK2 ?_
   obtain rfl := os H
   exact rt1 Try.f117 rfl rfl hR_ ⟨rfl, HS.b⟩
 refine on_ (dT c3) (mv_ ?_)
 refine on_ (dT c3) ?_
 obtain ⟨t4, ha5, H⟩ := bind_some H
 refine cs_ HS func86 (impl_allIn.calls A0 c0 l0 0 20 t4 _ (HS.getO 0 rfl) hc0 ha5) (fun w6 HS => ?_)
 clear ha5
 refine v_ (Run.pickT rfl rfl (dT c3) rfl) ?_
 refine ad_ hK2 ?_
 obtain rfl := os H
 exact rt1 Try.f117 rfl rfl hR_ ⟨rfl, HS.b⟩
def impl_StoreOk.b0 (x0 : S58) (rec_ : Int → Option (Bool ⊕ Int)) (k24 : Nat) (i17 : Int) : Option (Bool ⊕ Int) := (if i17 < (x0.f1.length : Int) then (if 0 ≤ i17 ∧ i17 < (x0.f1.length : Int) then (if ((x0.f1.getD i17.toNat []).length : Int) > 4 then (some (Sum.inl false)) else (if 0 ≤ i17 ∧ i17 < (x0.f0.length : Int) then (if (x0.f0.getD i17.toNat 0) = 0 then (if ((x0.f1.getD i17.toNat []).length : Int) > 0 then (some (Sum.inl false)) else (rec_ (wrap64 (i17 + 1)))) else (rec_ (wrap64 (i17 + 1)))) else none)) else none) else (some (Sum.inr i17)))
def impl_StoreOk.l0 (x0 : S58) : Nat → Int → Option (Bool ⊕ Int)
 | 0, _ => none
 | k + 1, i17 => impl_StoreOk.b0 x0 (impl_StoreOk.l0 x0 k) k i17
def impl_StoreOk.g (k : Nat) (x0 : S58) : Option Bool := ((impl_PoolOk.g k x0.f0).bind fun t6 => (if t6 = true then (if (x0.f1.length : Int) = (x0.f0.length : Int) then ((impl_StoreOk.l0 x0 k 0).bind (fun oc22 => match oc22 with | .inl r_ => some r_ | .inr i17 => (some true))) else (some false)) else (some false)))
theorem impl_StoreOk.runs (k : Nat) (x0 : S58) (A0_0 : Option Addr) (c0_0 : Nat) (A0_1 : Option Addr) (c0_1 : Nat) (r : Bool) (w : World) (hr0_0 : kI.C w A0_0 x0.f0.length x0.f0) (hc0_0 : x0.f0.length ≤ c0_0) (hr0_1 : kS62.C w A0_1 x0.f1.length x0.f1) (hc0_1 : x0.f1.length ≤ c0_1) (H : impl_StoreOk.g k x0 = some r) :
   Calls prog 47 #[.agg #[.slice A0_0 x0.f0.length c0_0, .slice A0_1 x0.f1.length c0_1]] w fun e w' => e = .returned (.bool r) ∧ Below w.heap.size w w' := by
 unfold impl_StoreOk.g at H
 have HS : St (fun _ => True) w w [] [(cF kI A0_0 x0.f0), (cF kS62 A0_1 x0.f1)] [] := St.start (foot_cons (foot_C (Kd.heap_int _) hr0_0) (foot_cons (foot_C (Kd.heap_slice _ h62) hr0_1) foot_nil))
 refine cw_ (n := 43) func47 fun R_ hR_ => ?_
 refine sr_ fun _ hK1 => ?_
 refine bo_ HS (fun b2 w3 hb2 HS => ?_)
 refine ad_ hK1 ?_
 refine WC.seq fun _ hK4 => ?_
 refine sr_ fun _ hK5 => ?_
 refine v_ (fa_ underlying58) ?_
 refine v_ (lb_ (HS.mu 0 rfl) underlying22 rfl) ?_
 obtain ⟨t6, ha7, H⟩ := bind_some H
 refine cs_ HS func117 (impl_PoolOk.runs k A0_0 c0_0 x0.f0 t6 _ (HS.getO 0 rfl) hc0_0 ha7) (fun w8 HS => ?_)
 clear ha7
 refine nt_ ?_
 refine mv_ ?_
 rcases eti_ H with ⟨c9, H⟩ | ⟨c9, H⟩
 · refine off_ (c' := true) (nB (bF c9)) ?_
   refine WL.know 9 (nB (bF c9)) ?_
   refine fast_ ?_
   refine via_ hK5 (wy_ rfl ?_)
   refine sr_ fun _ hK46 => ?_
   refine ad_ hK46 ?_
   obtain rfl := os H
   exact rt1 Try.f47 rfl rfl hR_ ⟨rfl, HS.b⟩
 refine on_ (nB c9) (v_ (fa_ underlying58) ?_)
 refine on_ (nB c9) (v_ (lb_ (HS.mu 0 rfl) underlying56 rfl) ?_)
 refine on_ (nB c9) (ln_ underlying56 ?_)
 refine on_ (nB c9) (v_ (fa_ underlying58) ?_)
 refine on_ (nB c9) (v_ (lb_ (HS.mu 0 rfl) underlying22 rfl) ?_)
 refine on_ (nB c9) (ln_ underlying22 ?_)
 refine on_ (nB c9) (b_ bin_neq ?_)
 refine v_ (Run.pickF rfl rfl (nB c9) rfl) ?_
 refine dn_ hK5 ?_
 rcases eti_ H with ⟨c10, H⟩ | ⟨c10, H⟩
 · refine wy_ (qT c10) (sr_ fun _ hK45 => ?_)
   refine ad_ hK45 ?_
   obtain rfl := os H
   exact rt1 Try.f47 rfl rfl hR_ ⟨rfl, HS.b⟩
 refine wn_ (qF c10) (WC.skip (via_ hK4 (WC.seq fun K11 hK11 => ?_)))
 refine sr_ fun _ hK12 => ?_
 refine v_ (fa_ underlying58) ?_
 refine v_ (lb_ (HS.mu 0 rfl) underlying56 rfl) ?_
 refine ln_ underlying56 ?_
 refine mv_ ?_
 refine dn_ hK12 (WC.block ?_)
 obtain ⟨G13, hG14, oc15, H, Ho16⟩ := open_G H
 let J18 := fun (i17 : Int) (E_ : Env) (W_ : World) => E_ = [(1, .pointer (some ⟨b2, 0, none⟩)), (19, .slice A0_1 x0.f1.length c0_1), (20, vi (x0.f1.length : Int)), (21, vi i17)] ∧ St (fun _ => True) w W_ [boxM b2 #[.slice A0_0 x0.f0.length c0_0, .slice A0_1 x0.f1.length c0_1] 58] [(cF kI A0_0 x0.f0), (cF kS62 A0_1 x0.f1)] []
 have X19 : ∀ E_ W_, (∃ i17, G13 (Sum.inr i17) = some r ∧ J18 i17 E_ W_) → ∀ a, Fits a 43 E_ → K11 a W_ := by
   rintro E_ w20 ⟨i17, H, rfl, HS⟩
   rw [hG14] at H
   (try dsimp only at H)
   refine hK11 _ _ ?_
   refine sr_ fun _ hK21 => ?_
   refine ad_ hK21 ?_
   obtain rfl := os H
   exact rt1 Try.f47 rfl rfl hR_ ⟨rfl, HS.b⟩
 clear hK11
 refine WC.loop (fun k_ E_ W_ => ∃ i17, (∃ o_, impl_StoreOk.l0 x0 k_ i17 = some o_ ∧ G13 o_ = some r) ∧ J18 i17 E_ W_) k ⟨0, ⟨_, H, Ho16⟩, rfl, HS⟩ (sb rfl) ?_
 rintro k_ E_ w23 ⟨i17, ⟨oc15, H, Ho16⟩, rfl, HS⟩
 rcases k_ with _ | k24
 · exact no_ H
 replace H : impl_StoreOk.b0 x0 (impl_StoreOk.l0 x0 k24) k24 i17 = some oc15 := H
 unfold impl_StoreOk.b0 at H
 refine sr_ fun _ hK25 => ?_
 refine b_ bin_lss ?_
 refine dn_ hK25 (WC.seq fun _ hK26 => ?_)
 rcases eti_ H with ⟨c27, H⟩ | ⟨c27, H⟩
 · refine wn_ (dF c27) (WC.exit ?_)
   obtain rfl := os H
   exact wv_ iq X19 ⟨i17, Ho16, rfl, HS⟩
 refine wy_ (dT c27) (WC.skip (via_ hK26 (WC.seq fun _ hK28 => ?_)))
 refine WC.block (sr_ fun _ hK29 => ?_)
 refine mv_ ?_
 obtain ⟨⟨q30, q31⟩, H⟩ := if_some H
 obtain ⟨ad32, rfl⟩ := C_open (HS.getO 1 rfl) (by omega)
 refine v_ (ia_ underlying56 1 q30 q31) ?_
 obtain ⟨A33, c34, le35, HS⟩ := HS.slO 1 rfl i17 q30 q31
 refine v_ (Run.load rfl rfl underlying71 rfl (HS.getO 1 rfl)) ?_
 refine as_ ?_
 refine ad_ hK29 ?_
 refine sr_ fun _ hK36 => ?_
 refine mv_ ?_
 refine ln_ underlying71 ?_
 refine b_ bin_gtr ?_
 refine mv_ ?_
 rcases ite_ H with ⟨c37, H⟩ | ⟨c37, H⟩
 · refine off_ (c' := true) (dT c37) ?_
   refine WL.know 29 (dT c37) ?_
   refine fast_ ?_
   refine via_ hK36 (wy_ rfl ?_)
   refine sr_ fun _ hK38 => ?_
   refine ad_ hK38 ?_
   refine WC.ret ?_
   obtain rfl := os H
   rw [hG14] at Ho16
   replace H : some _ = some _ := Ho16
   obtain rfl := os H
   exact fin1 Try.f47 rfl rfl hR_ ⟨rfl, HS.b⟩
 refine on_ (dF c37) (v_ (fa_ underlying58) ?_)
 refine on_ (dF c37) (v_ (lb_ (HS.mu 0 rfl) underlying22 rfl) ?_)
 refine on_ (dF c37) (mv_ ?_)
 refine on_ (dF c37) ?_
 obtain ⟨⟨q39, q40⟩, H⟩ := if_some H
 obtain ⟨ad41, rfl⟩ := C_open (HS.getO 2 rfl) (by omega)
 refine v_ (ia_ underlying22 1 q39 q40) ?_
 refine on_ (dF c37) (v_ (Run.load rfl rfl underlying3 rfl (int_cell (HS.getO 2 rfl) i17 q39 q40)) ?_)
 refine on_ (dF c37) (b_ bin_eql ?_)
 refine on_ (dF c37) (mv_ ?_)
 rcases eti_ H with ⟨c42, H⟩ | ⟨c42, H⟩
 · refine off_ (c' := false) (eF c42) ?_
   refine off_ (c' := false) (eF c42) ?_
   refine off_ (c' := false) (eF c42) ?_
   refine on_ (dF c37) (v_ (Run.pickF rfl rfl (eF c42) rfl) ?_)
   refine v_ (Run.pickF rfl rfl (dF c37) rfl) ?_
   refine dn_ hK36 (wn_ rfl ?_)
   refine WC.skip (via_ hK28 (rg_ (b_ bin_add64 ?_)))
   refine mv_ ?_
   refine WL.done ?_
   exact wr_ k24 iq ⟨(wrap64 (i17 + 1)), ⟨_, H, Ho16⟩, rfl, (St.pk HS [2, 3] [] rfl rfl)⟩
 refine on_ (eT c42) (mv_ ?_)
 refine on_ (eT c42) (ln_ underlying71 ?_)
 refine on_ (eT c42) (b_ bin_gtr ?_)
 refine on_ (dF c37) (v_ (Run.pickT rfl rfl (eT c42) rfl) ?_)
 refine v_ (Run.pickF rfl rfl (dF c37) rfl) ?_
 refine dn_ hK36 ?_
 rcases eti_ H with ⟨c43, H⟩ | ⟨c43, H⟩
 · refine wn_ (dF c43) (WC.skip (via_ hK28 (rg_ (b_ bin_add64 ?_))))
   refine mv_ ?_
   refine WL.done ?_
   exact wr_ k24 iq ⟨(wrap64 (i17 + 1)), ⟨_, H, Ho16⟩, rfl, (St.pk HS [2, 3] [] rfl rfl)⟩
 refine wy_ (dT c43) (sr_ fun _ hK44 => ?_)
 refine ad_ hK44 ?_
 refine WC.ret ?_
 obtain rfl := os H
 rw [hG14] at Ho16
 replace H : some _ = some _ := Ho16
 obtain rfl := os H
 exact fin1 Try.f47 rfl rfl hR_ ⟨rfl, HS.b⟩
end Go.Proofs.Ytlpginalgdbopaa.PFnExactAddCell
