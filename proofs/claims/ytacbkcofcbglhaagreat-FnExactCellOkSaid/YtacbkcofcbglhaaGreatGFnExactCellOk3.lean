/- Functions that the statement reaches, as Lean functions, and the proof that a call of each comes to just its answer; written by this claim's own program. No conditions. -/
import Derived.Test.YtacbkcofcbglhaaGreatGFnExactCellOk2
namespace Go.Proofs.YtacbkcofcbglhaaGreat.PFnExactCellOk
open Go.RowKit Go.Proofs.YtacbkcofcbglhaaGreatW.PrintWords Go.Proofs.YtacbkcofcbglhaaGreatW.PrintLast Go.Proofs.YtacbkcofcbglhaaGreatW.PrintMore Go.Proofs.YtacbkcofcbglhaaGreat.XW Go.Proofs.YtacbkcofcbglhaaGreat.XOp Go.Proofs.YtacbkcofcbglhaaGreat.XSt Go.Proofs.YtacbkcofcbglhaaGreat.XDraw
set_option linter.unusedVariables false
set_option linter.unusedSimpArgs false
set_option maxHeartbeats 4000000
set_option maxRecDepth 20000
def slices_IndexFunc_impl_Part_impl_Part_84.b0 (l0 : List (List S111)) (x1c0 : S47) (rec_ : Int → Option (Int ⊕ Int)) (k14 : Nat) (i8 : Int) : Option (Int ⊕ Int) := (if i8 < (l0.length : Int) then (if 0 ≤ i8 ∧ i8 < (l0.length : Int) then ((impl_layersOk_1.g k14 (l0.getD i8.toNat []) x1c0).bind fun t27 => (if t27 = true then (some (Sum.inl i8)) else (rec_ (wrap64 (i8 + 1))))) else none) else (some (Sum.inr i8)))
def slices_IndexFunc_impl_Part_impl_Part_84.l0 (l0 : List (List S111)) (x1c0 : S47) : Nat → Int → Option (Int ⊕ Int)
  | 0, _ => none
  | k + 1, i8 => slices_IndexFunc_impl_Part_impl_Part_84.b0 l0 x1c0 (slices_IndexFunc_impl_Part_impl_Part_84.l0 l0 x1c0 k) k i8
def slices_IndexFunc_impl_Part_impl_Part_84.g (k : Nat) (l0 : List (List S111)) (x1c0 : S47) : Option Int := ((slices_IndexFunc_impl_Part_impl_Part_84.l0 l0 x1c0 k 0).bind (fun o12 => match o12 with | .inl r_ => some r_ | .inr i8 => (some (-1))))
theorem slices_IndexFunc_impl_Part_impl_Part_84.runs (k : Nat) (A0 : Option Addr) (c0 : Nat) (l0 : List (List S111)) (b1c0 : Nat) (cs1c0 : List Value) (x1c0 : S47) (r : Int) (w : World) (hr0 : (Kd.slice 111 k111).C w A0 l0.length l0) (hc0 : l0.length ≤ c0) (hk1c0 : k47.K w x1c0 cs1c0) (hb1c0 : w.heap[b1c0]? = some (.cells cs1c0.toArray 47 (0, 0))) (H : slices_IndexFunc_impl_Part_impl_Part_84.g k l0 x1c0 = some r) :
    Calls Tryz.prog 96 #[.slice A0 l0.length c0, .func (.func 84) #[] #[.pointer (some ⟨b1c0, 0, none⟩)]] w fun e w' => e = .returned (.int .i64 r) ∧ Below w.heap.size w w' := by
  have el1c0 : cs1c0.length = 14 := k47.K_len hk1c0
  unfold slices_IndexFunc_impl_Part_impl_Part_84.g at H
  have HS : St (fun _ => True) w w [] [(fun W => (Kd.slice 111 k111).C W A0 l0.length l0), (fun W => k47.K W x1c0 cs1c0), (fun W => W.heap[b1c0]? = some (.cells cs1c0.toArray 47 (0, 0)))] [] := St.start (foot_cons (foot_C (Kd.heap_slice _ h111) hr0) (foot_cons (foot_K h47 hk1c0) (foot_cons (foot_rob hb1c0) foot_nil)))
  refine cw_ Tryz.func96 fun R_ hR_ => ?_
  refine sr_ fun _ hK1 => ?_
  refine as_ ?_
  refine dn_ hK1 ?_
  refine WC.seq fun K2 hK2 => ?_
  refine sr_ fun _ hK3 => ?_
  refine mv_ ?_
  refine ln_ Tryz.underlying38 ?_
  refine mv_ ?_
  refine dn_ hK3 ?_
  refine WC.block ?_
  obtain ⟨G4, hG5, o6, H, Ho7⟩ := open_G H
  have X9 : ∀ E_ W_, (∃ (i8 : Int), E_ = [(0, .slice A0 l0.length c0), (1, .func (.func 84) #[] #[.pointer (some ⟨b1c0, 0, none⟩)]), (7, .int .i64 (l0.length : Int)), (8, .int .i64 i8)] ∧ G4 (Sum.inr i8) = some r ∧ St (fun _ => True) w W_ [] [(fun W => (Kd.slice 111 k111).C W A0 l0.length l0), (fun W => k47.K W x1c0 cs1c0), (fun W => W.heap[b1c0]? = some (.cells cs1c0.toArray 47 (0, 0)))] []) → ∀ a, Fits a 19 E_ → K2 a W_ := by
    rintro E_ w10 ⟨i8, rfl, H, HS⟩
    rw [hG5] at H
    (try dsimp only at H)
    refine hK2 _ _ ?_
    refine sr_ fun _ hK11 => ?_
    refine as_ ?_
    refine dn_ hK11 ?_
    cases H
    exact rt1 Tryz.f96 rfl rfl hR_ ⟨rfl, HS.b⟩
  refine WC.loop (fun k_ E_ W_ => ∃ (i8 : Int), E_ = [(0, .slice A0 l0.length c0), (1, .func (.func 84) #[] #[.pointer (some ⟨b1c0, 0, none⟩)]), (7, .int .i64 (l0.length : Int)), (8, .int .i64 i8)] ∧ (∃ o_, slices_IndexFunc_impl_Part_impl_Part_84.l0 l0 x1c0 k_ i8 = some o_ ∧ G4 o_ = some r) ∧ St (fun _ => True) w W_ [] [(fun W => (Kd.slice 111 k111).C W A0 l0.length l0), (fun W => k47.K W x1c0 cs1c0), (fun W => W.heap[b1c0]? = some (.cells cs1c0.toArray 47 (0, 0)))] []) k ⟨0, rfl, ⟨_, H, Ho7⟩, (St.pick HS (fun W_ h_ => ⟨AllF.get 0 rfl h_, AllF.get 1 rfl h_, AllF.get 2 rfl h_, trivial⟩) (fun W_ h_ => trivial))⟩ ⟨rfl, rfl, rfl, rfl, trivial⟩ ?_
  rintro k_ E_ w13 ⟨i8, rfl, ⟨o6, H, Ho7⟩, HS⟩
  rcases k_ with _ | k14
  · exact no_ H
  replace H : slices_IndexFunc_impl_Part_impl_Part_84.b0 l0 x1c0 (slices_IndexFunc_impl_Part_impl_Part_84.l0 l0 x1c0 k14) k14 i8 = some o6 := H
  unfold slices_IndexFunc_impl_Part_impl_Part_84.b0 at H
  refine sr_ fun _ hK15 => ?_
  refine b_ bin_lss ?_
  refine dn_ hK15 ?_
  refine WC.seq fun _ hK16 => ?_
  rcases eti_ H with ⟨c17, H⟩ | ⟨c17, H⟩
  · refine wn_ (dF c17) ?_
    refine WC.exit ?_
    cases H
    exact WQ.via2 (fun _ _ h_ => h_) X9 ⟨i8, rfl, Ho7, (St.pick HS (fun W_ h_ => ⟨AllF.get 0 rfl h_, AllF.get 1 rfl h_, AllF.get 2 rfl h_, trivial⟩) (fun W_ h_ => trivial))⟩ ⟨rfl, rfl, rfl, rfl, trivial⟩
  refine wy_ (dT c17) ?_
  refine WC.skip ?_
  refine via_ hK16 ?_
  refine WC.seq fun _ hK18 => ?_
  refine WC.block ?_
  refine sr_ fun _ hK19 => ?_
  refine mv_ ?_
  refine as_ ?_
  refine dn_ hK19 ?_
  refine sr_ fun _ hK20 => ?_
  refine mv_ ?_
  refine mv_ ?_
  refine mv_ ?_
  obtain ⟨⟨q21, q22⟩, H⟩ := if_some H
  obtain ⟨ad23, rfl⟩ := C_open (HS.getO 0 rfl) (by omega)
  refine v_ (ia_ Tryz.underlying38 1 q21 q22) ?_
  obtain ⟨A24, c25, le26, HS⟩ := HS.slO 0 rfl i8 q21 q22
  refine v_ (Run.load rfl rfl Tryz.underlying91 rfl (HS.getO 1 rfl)) ?_
  obtain ⟨t27, ha28, H⟩ := bind_some H
  refine cv_ (args := [.slice A24 ((l0.getD i8.toNat []).length) c25]) (cap := [.pointer (some ⟨b1c0, 0, none⟩)]) Tryz.func84 (impl_layersOk_1.runs k14 A24 c25 (l0.getD i8.toNat []) b1c0 cs1c0 x1c0 t27 _ (HS.getO 0 rfl) le26 (HS.getO 3 rfl) (HS.getO 4 rfl) ha28) ?_
  rintro _ w29 ⟨rfl, hb⟩
  replace HS := HS.below hb
  refine ⟨_, rfl, ?_⟩
  clear hb
  refine dn_ hK20 ?_
  rcases ite_ H with ⟨c30, H⟩ | ⟨c30, H⟩
  · refine wy_ c30 ?_
    refine sr_ fun _ hK31 => ?_
    refine mv_ ?_
    refine as_ ?_
    refine dn_ hK31 ?_
    refine WC.ret ?_
    cases H
    rw [hG5] at Ho7
    replace H : some _ = some _ := Ho7
    cases H
    exact fin1 Tryz.f96 rfl rfl hR_ ⟨rfl, HS.b⟩
  refine wn_ (bF c30) ?_
  refine WC.skip ?_
  refine via_ hK18 ?_
  refine rg_ ?_
  refine b_ bin_add64 ?_
  refine mv_ ?_
  refine WL.done ?_
  exact WQ.round k14 (fun _ _ h_ => h_) (Nat.lt_succ_self _) ⟨(wrap64 (i8 + 1)), rfl, ⟨_, H, Ho7⟩, (St.pick HS (fun W_ h_ => ⟨AllF.get 2 rfl h_, AllF.get 3 rfl h_, AllF.get 4 rfl h_, trivial⟩) (fun W_ h_ => trivial))⟩ ⟨rfl, rfl, rfl, rfl, trivial⟩
def slices_ContainsFunc_impl_Part_impl_Part_84.g (k : Nat) (l0 : List (List S111)) (x1c0 : S47) : Option Bool := ((slices_IndexFunc_impl_Part_impl_Part_84.g k l0 x1c0).bind fun t3 => (some (decide (t3 ≥ 0))))
theorem slices_ContainsFunc_impl_Part_impl_Part_84.runs (k : Nat) (A0 : Option Addr) (c0 : Nat) (l0 : List (List S111)) (b1c0 : Nat) (cs1c0 : List Value) (x1c0 : S47) (r : Bool) (w : World) (hr0 : (Kd.slice 111 k111).C w A0 l0.length l0) (hc0 : l0.length ≤ c0) (hk1c0 : k47.K w x1c0 cs1c0) (hb1c0 : w.heap[b1c0]? = some (.cells cs1c0.toArray 47 (0, 0))) (H : slices_ContainsFunc_impl_Part_impl_Part_84.g k l0 x1c0 = some r) :
    Calls Tryz.prog 83 #[.slice A0 l0.length c0, .func (.func 84) #[] #[.pointer (some ⟨b1c0, 0, none⟩)]] w fun e w' => e = .returned (.bool r) ∧ Below w.heap.size w w' := by
  have el1c0 : cs1c0.length = 14 := k47.K_len hk1c0
  unfold slices_ContainsFunc_impl_Part_impl_Part_84.g at H
  have HS : St (fun _ => True) w w [] [(fun W => (Kd.slice 111 k111).C W A0 l0.length l0), (fun W => k47.K W x1c0 cs1c0), (fun W => W.heap[b1c0]? = some (.cells cs1c0.toArray 47 (0, 0)))] [] := St.start (foot_cons (foot_C (Kd.heap_slice _ h111) hr0) (foot_cons (foot_K h47 hk1c0) (foot_cons (foot_rob hb1c0) foot_nil)))
  refine cw_ Tryz.func83 fun R_ hR_ => ?_
  refine sr_ fun _ hK1 => ?_
  refine as_ ?_
  refine dn_ hK1 ?_
  refine sr_ fun _ hK2 => ?_
  refine mv_ ?_
  refine mv_ ?_
  obtain ⟨t3, ha4, H⟩ := bind_some H
  refine cs_ HS Tryz.func96 (slices_IndexFunc_impl_Part_impl_Part_84.runs k A0 c0 l0 b1c0 cs1c0 x1c0 t3 _ (HS.getO 0 rfl) hc0 (HS.getO 1 rfl) (HS.getO 2 rfl) ha4) (fun w5 HS => ?_)
  refine b_ bin_geq ?_
  refine as_ ?_
  refine dn_ hK2 ?_
  cases H
  exact rt1 Tryz.f83 rfl rfl hR_ ⟨rfl, HS.b⟩
def impl_layersOk.g (k : Nat) (l0 : List (List S111)) (x1 : S47) : Option Bool := (if (l0.length : Int) = (x1.f5.length : Int) then ((slices_ContainsFunc_impl_Part_impl_Part_84.g k l0 x1).bind fun t10 => (some (!t10))) else (some false))
theorem impl_layersOk.runs (k : Nat) (A0 : Option Addr) (c0 : Nat) (l0 : List (List S111)) (cs1 : List Value) (x1 : S47) (r : Bool) (w : World) (hr0 : (Kd.slice 111 k111).C w A0 l0.length l0) (hc0 : l0.length ≤ c0) (hk1 : k47.K w x1 cs1) (H : impl_layersOk.g k l0 x1 = some r) :
    Calls Tryz.prog 65 #[.slice A0 l0.length c0, .agg cs1.toArray] w fun e w' => e = .returned (.bool r) ∧ Below w.heap.size w w' := by
  have el1 : cs1.length = 14 := k47.K_len hk1
  unfold impl_layersOk.g at H
  have HS : St (fun _ => True) w w [] [(fun W => (Kd.slice 111 k111).C W A0 l0.length l0), (fun W => k47.K W x1 cs1)] [] := St.start (foot_cons (foot_C (Kd.heap_slice _ h111) hr0) (foot_cons (foot_K h47 hk1) foot_nil))
  refine cw_ Tryz.func65 fun R_ hR_ => ?_
  refine sr_ fun _ hK1 => ?_
  refine bo_ HS (fun b2 w3 hb2 HS => ?_)
  refine as_ ?_
  refine dn_ hK1 ?_
  refine sr_ fun _ hK4 => ?_
  refine mv_ ?_
  refine ln_ Tryz.underlying38 ?_
  refine v_ (fa_ Tryz.underlying47) ?_
  obtain ⟨A5, c6, hc7, le8, HS⟩ := HS.sO 1 rfl at47_5
  refine v_ (lb_ (HS.mu 0 rfl) Tryz.underlying43 hc7) ?_
  refine ln_ Tryz.underlying43 ?_
  refine b_ bin_eql ?_
  refine mv_ ?_
  rcases eti_ H with ⟨c9, H⟩ | ⟨c9, H⟩
  · refine off_ (c' := false) (eF c9) ?_
    refine WL.know 11 (eF c9) ?_
    refine fast_ ?_
    refine via_ hK4 ?_
    cases H
    exact rt1 Tryz.f65 rfl rfl hR_ ⟨rfl, HS.b⟩
  refine on_ (eT c9) ?_
  refine mv_ ?_
  refine on_ (eT c9) ?_
  refine v_ (Run.makeFunc (cap := [.pointer (some ⟨b2, 0, none⟩)]) rfl rfl) ?_
  refine on_ (eT c9) ?_
  obtain ⟨t10, ha11, H⟩ := bind_some H
  refine cs_ HS Tryz.func83 (slices_ContainsFunc_impl_Part_impl_Part_84.runs k A0 c0 l0 b2 cs1 x1 t10 _ (HS.getO 1 rfl) hc0 (HS.getO 2 rfl) (HS.mu 0 rfl) ha11) (fun w12 HS => ?_)
  refine on_ (eT c9) ?_
  refine nt_ ?_
  refine v_ (Run.pickT rfl rfl (eT c9) rfl) ?_
  refine as_ ?_
  refine dn_ hK4 ?_
  cases H
  exact rt1 Tryz.f65 rfl rfl hR_ ⟨rfl, HS.b⟩
def impl_cellOk.g (k : Nat) (x0 : S40) (x1 : S47) : Option Bool := ((impl_layersOk.g k x0.f0 x1).bind fun t7 => (if t7 = true then ((impl_layersOk.g k x0.f1 x1).bind fun t11 => (some t11)) else (some false)))
theorem impl_cellOk.runs (k : Nat) (x0 : S40) (A0_0 : Option Addr) (c0_0 : Nat) (A0_1 : Option Addr) (c0_1 : Nat) (cs1 : List Value) (x1 : S47) (r : Bool) (w : World) (hr0_0 : (Kd.slice 111 k111).C w A0_0 x0.f0.length x0.f0) (hc0_0 : x0.f0.length ≤ c0_0) (hr0_1 : (Kd.slice 111 k111).C w A0_1 x0.f1.length x0.f1) (hc0_1 : x0.f1.length ≤ c0_1) (hk1 : k47.K w x1 cs1) (H : impl_cellOk.g k x0 x1 = some r) :
    Calls Tryz.prog 29 #[.agg #[.slice A0_0 x0.f0.length c0_0, .slice A0_1 x0.f1.length c0_1], .agg cs1.toArray] w fun e w' => e = .returned (.bool r) ∧ Below w.heap.size w w' := by
  have el1 : cs1.length = 14 := k47.K_len hk1
  unfold impl_cellOk.g at H
  have HS : St (fun _ => True) w w [] [(fun W => (Kd.slice 111 k111).C W A0_0 x0.f0.length x0.f0), (fun W => (Kd.slice 111 k111).C W A0_1 x0.f1.length x0.f1), (fun W => k47.K W x1 cs1)] [] := St.start (foot_cons (foot_C (Kd.heap_slice _ h111) hr0_0) (foot_cons (foot_C (Kd.heap_slice _ h111) hr0_1) (foot_cons (foot_K h47 hk1) foot_nil)))
  refine cw_ Tryz.func29 fun R_ hR_ => ?_
  refine sr_ fun _ hK1 => ?_
  refine bo_ HS (fun b2 w3 hb2 HS => ?_)
  refine bo_ HS (fun b4 w5 hb4 HS => ?_)
  refine as_ ?_
  refine dn_ hK1 ?_
  refine sr_ fun _ hK6 => ?_
  refine v_ (fa_ Tryz.underlying40) ?_
  refine v_ (lb_ (HS.mu 1 rfl) Tryz.underlying38 rfl) ?_
  refine v_ (Run.loadS (cs := cs1) rfl rfl Tryz.underlying47 rfl (by rw [el1]; kernel_rfl) (box_part (HS.mu 0 rfl) part_all)) ?_
  obtain ⟨t7, ha8, H⟩ := bind_some H
  refine cs_ HS Tryz.func65 (impl_layersOk.runs k A0_0 c0_0 x0.f0 cs1 x1 t7 _ (HS.getO 0 rfl) hc0_0 (HS.getO 2 rfl) ha8) (fun w9 HS => ?_)
  refine mv_ ?_
  rcases eti_ H with ⟨c10, H⟩ | ⟨c10, H⟩
  · refine off_ (c' := false) (bF c10) ?_
    refine WL.know 9 (bF c10) ?_
    refine fast_ ?_
    refine via_ hK6 ?_
    cases H
    exact rt1 Tryz.f29 rfl rfl hR_ ⟨rfl, HS.b⟩
  refine on_ c10 ?_
  refine v_ (fa_ Tryz.underlying40) ?_
  refine on_ c10 ?_
  refine v_ (lb_ (HS.mu 1 rfl) Tryz.underlying38 rfl) ?_
  refine on_ c10 ?_
  refine v_ (Run.loadS (cs := cs1) rfl rfl Tryz.underlying47 rfl (by rw [el1]; kernel_rfl) (box_part (HS.mu 0 rfl) part_all)) ?_
  refine on_ c10 ?_
  obtain ⟨t11, ha12, H⟩ := bind_some H
  refine cs_ HS Tryz.func65 (impl_layersOk.runs k A0_1 c0_1 x0.f1 cs1 x1 t11 _ (HS.getO 1 rfl) hc0_1 (HS.getO 2 rfl) ha12) (fun w13 HS => ?_)
  refine v_ (Run.pickT rfl rfl c10 rfl) ?_
  refine as_ ?_
  refine dn_ hK6 ?_
  cases H
  exact rt1 Tryz.f29 rfl rfl hR_ ⟨rfl, HS.b⟩
def impl_CellOk.g (k : Nat) (x0 : S40) (x1 : S47) : Option Bool := ((impl_ModelOk.g k x1).bind fun t7 => (if t7 = true then ((impl_cellOk.g k (⟨x0.f0, x0.f1⟩ : S40) x1).bind fun t11 => (some t11)) else (some false)))
theorem impl_CellOk.runs (k : Nat) (x0 : S40) (A0_0 : Option Addr) (c0_0 : Nat) (A0_1 : Option Addr) (c0_1 : Nat) (cs1 : List Value) (x1 : S47) (r : Bool) (w : World) (hr0_0 : (Kd.slice 111 k111).C w A0_0 x0.f0.length x0.f0) (hc0_0 : x0.f0.length ≤ c0_0) (hr0_1 : (Kd.slice 111 k111).C w A0_1 x0.f1.length x0.f1) (hc0_1 : x0.f1.length ≤ c0_1) (hk1 : k47.K w x1 cs1) (H : impl_CellOk.g k x0 x1 = some r) :
    Calls Tryz.prog 9 #[.agg #[.slice A0_0 x0.f0.length c0_0, .slice A0_1 x0.f1.length c0_1], .agg cs1.toArray] w fun e w' => e = .returned (.bool r) ∧ Below w.heap.size w w' := by
  have el1 : cs1.length = 14 := k47.K_len hk1
  unfold impl_CellOk.g at H
  have HS : St (fun _ => True) w w [] [(fun W => (Kd.slice 111 k111).C W A0_0 x0.f0.length x0.f0), (fun W => (Kd.slice 111 k111).C W A0_1 x0.f1.length x0.f1), (fun W => k47.K W x1 cs1)] [] := St.start (foot_cons (foot_C (Kd.heap_slice _ h111) hr0_0) (foot_cons (foot_C (Kd.heap_slice _ h111) hr0_1) (foot_cons (foot_K h47 hk1) foot_nil)))
  refine cw_ Tryz.func9 fun R_ hR_ => ?_
  refine sr_ fun _ hK1 => ?_
  refine bo_ HS (fun b2 w3 hb2 HS => ?_)
  refine bo_ HS (fun b4 w5 hb4 HS => ?_)
  refine as_ ?_
  refine dn_ hK1 ?_
  refine sr_ fun _ hK6 => ?_
  refine v_ (Run.loadS (cs := cs1) rfl rfl Tryz.underlying47 rfl (by rw [el1]; kernel_rfl) (box_part (HS.mu 0 rfl) part_all)) ?_
  obtain ⟨t7, ha8, H⟩ := bind_some H
  refine cs_ HS Tryz.func28 (impl_ModelOk.runs k cs1 x1 t7 _ (HS.getO 2 rfl) ha8) (fun w9 HS => ?_)
  refine mv_ ?_
  rcases eti_ H with ⟨c10, H⟩ | ⟨c10, H⟩
  · refine off_ (c' := false) (bF c10) ?_
    refine WL.know 7 (bF c10) ?_
    refine fast_ ?_
    refine via_ hK6 ?_
    cases H
    exact rt1 Tryz.f9 rfl rfl hR_ ⟨rfl, HS.b⟩
  refine on_ c10 ?_
  refine v_ (ls_ (HS.mu 1 rfl) Tryz.underlying40 part_all) ?_
  refine on_ c10 ?_
  refine v_ (Run.loadS (cs := cs1) rfl rfl Tryz.underlying47 rfl (by rw [el1]; kernel_rfl) (box_part (HS.mu 0 rfl) part_all)) ?_
  refine on_ c10 ?_
  obtain ⟨t11, ha12, H⟩ := bind_some H
  refine cs_ HS Tryz.func29 (impl_cellOk.runs k (⟨x0.f0, x0.f1⟩ : S40) A0_0 c0_0 A0_1 c0_1 cs1 x1 t11 _ (HS.getO 0 rfl) hc0_0 (HS.getO 1 rfl) hc0_1 (HS.getO 2 rfl) ha12) (fun w13 HS => ?_)
  refine v_ (Run.pickT rfl rfl c10 rfl) ?_
  refine as_ ?_
  refine dn_ hK6 ?_
  cases H
  exact rt1 Tryz.f9 rfl rfl hR_ ⟨rfl, HS.b⟩
def laws_FnExactCellOk.g (k : Nat) (x0 : S24) (x1 : S34) : Option Bool := ((laws_szCell.f k x0.f0 x0.f1 1048576).bind fun t8 => (if t8 < 0 then (some true) else ((laws_szModel.g k x1 t8).bind fun t16 => (if t16 < 0 then (some true) else ((laws_toCell.f k x0.f0 x0.f1).bind fun t25 => ((laws_toModel.g k x1).bind fun t40 => ((spec_CellOk.g k (⟨t25.1, t25.2⟩ : S40) t40).bind fun t46 => ((laws_toCell.f k x0.f0 x0.f1).bind fun t50 => ((laws_toModel.g k x1).bind fun t69 => ((impl_CellOk.g k (⟨t50.1, t50.2⟩ : S40) t69).bind fun t79 => (if t79 = t46 then ((laws_toCell.f k x0.f0 x0.f1).bind fun t88 => ((laws_eqCell.g k (⟨t50.1, t50.2⟩ : S40) (⟨t88.1, t88.2⟩ : S40)).bind fun t103 => (if t103 = true then ((laws_toModel.g k x1).bind fun t110 => ((laws_eqModel.g k t69 t110).bind fun t116 => (if t116 = true then (some true) else (some false)))) else (some false)))) else (some false))))))))))))
theorem laws_FnExactCellOk.runs (k : Nat) (x0 : S24) (A0_0 : Option Addr) (c0_0 : Nat) (A0_1 : Option Addr) (c0_1 : Nat) (cs1 : List Value) (x1 : S34) (r : Bool) (w : World) (hr0_0 : (Kd.slice 107 k107).C w A0_0 x0.f0.length x0.f0) (hc0_0 : x0.f0.length ≤ c0_0) (hr0_1 : (Kd.slice 107 k107).C w A0_1 x0.f1.length x0.f1) (hc0_1 : x0.f1.length ≤ c0_1) (hk1 : k34.K w x1 cs1) (H : laws_FnExactCellOk.g k x0 x1 = some r) :
    Calls Tryz.prog 3 #[.agg #[.slice A0_0 x0.f0.length c0_0, .slice A0_1 x0.f1.length c0_1], .agg cs1.toArray] w fun e w' => e = .returned (.bool r) ∧ Below w.heap.size w w' := by
  have el1 : cs1.length = 14 := k34.K_len hk1
  unfold laws_FnExactCellOk.g at H
  have HS : St (fun _ => True) w w [] [(fun W => (Kd.slice 107 k107).C W A0_0 x0.f0.length x0.f0), (fun W => (Kd.slice 107 k107).C W A0_1 x0.f1.length x0.f1), (fun W => k34.K W x1 cs1)] [] := St.start (foot_cons (foot_C (Kd.heap_slice _ h107) hr0_0) (foot_cons (foot_C (Kd.heap_slice _ h107) hr0_1) (foot_cons (foot_K h34 hk1) foot_nil)))
  refine cw_ Tryz.func3 fun R_ hR_ => ?_
  refine sr_ fun _ hK1 => ?_
  refine bo_ HS (fun b2 w3 hb2 HS => ?_)
  refine bo_ HS (fun b4 w5 hb4 HS => ?_)
  refine as_ ?_
  refine dn_ hK1 ?_
  refine sr_ fun _ hK6 => ?_
  refine as_ ?_
  refine dn_ hK6 ?_
  refine sr_ fun _ hK7 => ?_
  refine v_ (ls_ (HS.mu 1 rfl) Tryz.underlying24 part_all) ?_
  refine mv_ ?_
  obtain ⟨t8, ha9, H⟩ := bind_some H
  refine cs_ HS Tryz.func4 (laws_szCell.calls k A0_0 c0_0 x0.f0 A0_1 c0_1 x0.f1 1048576 t8 _ (HS.getO 0 rfl) hc0_0 (HS.getO 1 rfl) hc0_1 ha9) (fun w10 HS => ?_)
  refine as_ ?_
  refine dn_ hK7 ?_
  refine WC.seq fun _ hK11 => ?_
  refine sr_ fun _ hK12 => ?_
  refine mv_ ?_
  refine b_ bin_lss ?_
  refine dn_ hK12 ?_
  rcases ite_ H with ⟨c13, H⟩ | ⟨c13, H⟩
  · refine wy_ (dT c13) ?_
    refine sr_ fun _ hK14 => ?_
    refine as_ ?_
    refine dn_ hK14 ?_
    cases H
    exact rt1 Tryz.f3 rfl rfl hR_ ⟨rfl, HS.b⟩
  refine wn_ (dF c13) ?_
  refine WC.skip ?_
  refine via_ hK11 ?_
  refine sr_ fun _ hK15 => ?_
  refine v_ (Run.loadS (cs := cs1) rfl rfl Tryz.underlying34 rfl (by rw [el1]; kernel_rfl) (box_part (HS.mu 0 rfl) part_all)) ?_
  refine mv_ ?_
  obtain ⟨t16, ha17, H⟩ := bind_some H
  refine cs_ HS Tryz.func5 (laws_szModel.runs k cs1 x1 t8 t16 _ (HS.getO 2 rfl) ha17) (fun w18 HS => ?_)
  refine as_ ?_
  refine dn_ hK15 ?_
  refine WC.seq fun _ hK19 => ?_
  refine sr_ fun _ hK20 => ?_
  refine mv_ ?_
  refine b_ bin_lss ?_
  refine dn_ hK20 ?_
  rcases ite_ H with ⟨c21, H⟩ | ⟨c21, H⟩
  · refine wy_ (dT c21) ?_
    refine sr_ fun _ hK22 => ?_
    refine as_ ?_
    refine dn_ hK22 ?_
    cases H
    exact rt1 Tryz.f3 rfl rfl hR_ ⟨rfl, HS.b⟩
  refine wn_ (dF c21) ?_
  refine WC.skip ?_
  refine via_ hK19 ?_
  refine WC.seq fun _ hK23 => ?_
  refine WC.drawS HS [] rfl rfl (fun w24 HS => ?_)
  have HB := Below.refl w24.heap.size w24
  have HSW := HS
  refine dt_ 0 (Below.refl _ _) (fun w_ hw_ => Run.loadS (cs := [.slice A0_0 x0.f0.length c0_0, .slice A0_1 x0.f1.length c0_1]) rfl rfl Tryz.underlying24 rfl (by kernel_rfl) (box_part ((HS.below hw_).mu 1 rfl) part_all)) ?_
  refine dt_ 2 (Below.refl _ _) (fun w_ hw_ => Run.loadS (cs := cs1) rfl rfl Tryz.underlying34 rfl (by rw [el1]; kernel_rfl) (box_part ((HS.below hw_).mu 0 rfl) part_all)) ?_
  obtain ⟨t25, ha26, H⟩ := bind_some H
  refine dc_ 1 (w_none rfl) Tryz.func7 (laws_toCell.calls k A0_0 c0_0 x0.f0 A0_1 c0_1 x0.f1 t25.1 t25.2 _ (HS.getO 0 rfl) hc0_0 (HS.getO 1 rfl) hc0_1 ha26) ?_
  rintro _ w27 ⟨v28, v34, rfl, h29, h35, hb⟩
  obtain ⟨A30, c31, rfl, le32, hf33⟩ := res_R h29
  obtain ⟨A36, c37, rfl, le38, hf39⟩ := res_R h35
  replace HB := HB.trans (hb.mono HB.size)
  replace HS := HS.newNs hb (foot_cons hf33 (foot_cons hf39 foot_nil))
  refine ⟨HB, _, rfl, ?_⟩
  clear hb
  obtain ⟨t40, ha41, H⟩ := bind_some H
  refine dc_ 3 (w_none rfl) Tryz.func8 (laws_toModel.runs k cs1 x1 t40 _ (HS.getO 2 rfl) ha41) ?_
  rintro _ w42 ⟨cs43, rfl, hf44, hb⟩
  replace HB := HB.trans (hb.mono HB.size)
  replace HS := HS.newNs hb (foot_cons hf44 foot_nil)
  have el45 : cs43.length = 14 := k47.K_len (Foot.now hf44)
  refine ⟨HB, _, rfl, ?_⟩
  clear hb
  obtain ⟨t46, ha47, H⟩ := bind_some H
  refine dcs_ HS HB 4 (w_none rfl) Tryz.func6 (spec_CellOk.runs k (⟨t25.1, t25.2⟩ : S40) A30 c31 A36 c37 cs43 t40 t46 _ (HS.getN 1 rfl) le32 (HS.getN 2 rfl) le38 (HS.getN 0 rfl) ha47) (fun w48 HS HB => ?_)
  refine dp_ 5 (fun _ => Run.assign rfl rfl) ?_
  refine dd_ ?_
  clear HB HSW
  refine via_ hK23 ?_
  refine sr_ fun _ hK49 => ?_
  refine v_ (ls_ (HS.mu 1 rfl) Tryz.underlying24 part_all) ?_
  obtain ⟨t50, ha51, H⟩ := bind_some H
  refine c_ Tryz.func7 (laws_toCell.calls k A0_0 c0_0 x0.f0 A0_1 c0_1 x0.f1 t50.1 t50.2 _ (HS.getO 0 rfl) hc0_0 (HS.getO 1 rfl) hc0_1 ha51) ?_
  rintro _ w52 ⟨v53, v59, rfl, h54, h60, hb⟩
  obtain ⟨A55, c56, rfl, le57, hf58⟩ := res_R h54
  obtain ⟨A61, c62, rfl, le63, hf64⟩ := res_R h60
  replace HS := HS.newNs hb (foot_cons hf58 (foot_cons hf64 foot_nil))
  refine ⟨_, rfl, ?_⟩
  clear hb
  refine WL.alloc HS (v := .agg #[.slice none 0 0, .slice none 0 0]) (cs := #[.slice none 0 0, .slice none 0 0]) rfl rfl (by decide) rfl (by kernel_rfl) rfl (fun b65 w66 hb65 HS => ?_)
  refine WL.storeS HS 0 (vs := [.slice A55 t50.1.length c56, .slice A61 t50.2.length c62]) rfl rfl rfl rfl rfl rfl (one_cons rfl (one_cons rfl one_nil)) (by kernel_rfl) (Nat.le_of_ble_eq_true rfl) (cs' := #[.slice A55 t50.1.length c56, .slice A61 t50.2.length c62]) (by kernel_rfl) (fun w67 HS => ?_)
  refine dn_ hK49 ?_
  refine sr_ fun _ hK68 => ?_
  refine v_ (Run.loadS (cs := cs1) rfl rfl Tryz.underlying34 rfl (by rw [el1]; kernel_rfl) (box_part (HS.mu 1 rfl) part_all)) ?_
  obtain ⟨t69, ha70, H⟩ := bind_some H
  refine c_ Tryz.func8 (laws_toModel.runs k cs1 x1 t69 _ (HS.getO 2 rfl) ha70) ?_
  rintro _ w71 ⟨cs72, rfl, hf73, hb⟩
  replace HS := HS.newNs hb (foot_cons hf73 foot_nil)
  have el74 : cs72.length = 14 := k47.K_len (Foot.now hf73)
  refine ⟨_, rfl, ?_⟩
  clear hb
  refine WL.alloc HS (v := .agg #[.int .i64 0, .int .i64 0, .int .i64 0, .slice none 0 0, .slice none 0 0, .slice none 0 0, .slice none 0 0, .int .i64 0, .slice none 0 0, .slice none 0 0, .int .i64 0, .int .i64 0, .slice none 0 0, .slice none 0 0]) (cs := #[.int .i64 0, .int .i64 0, .int .i64 0, .slice none 0 0, .slice none 0 0, .slice none 0 0, .slice none 0 0, .int .i64 0, .slice none 0 0, .slice none 0 0, .int .i64 0, .int .i64 0, .slice none 0 0, .slice none 0 0]) rfl rfl (by decide) rfl (by kernel_rfl) rfl (fun b75 w76 hb75 HS => ?_)
  refine WL.storeS HS 0 rfl rfl rfl rfl rfl rfl (Kd.K_one _ (HS.getN 0 rfl)) (by rw [el74]; kernel_rfl) (by rw [el74]; decide) (splice_all (by rw [el74]; rfl)) (fun w77 HS => ?_)
  refine dn_ hK68 ?_
  refine sr_ fun _ hK78 => ?_
  refine v_ (ls_ (HS.mu 1 rfl) Tryz.underlying40 part_all) ?_
  refine v_ (Run.loadS (cs := cs72) rfl rfl Tryz.underlying47 rfl (by rw [el74]; kernel_rfl) (box_part (HS.mu 0 rfl) part_all)) ?_
  obtain ⟨t79, ha80, H⟩ := bind_some H
  refine cs_ HS Tryz.func9 (impl_CellOk.runs k (⟨t50.1, t50.2⟩ : S40) A55 c56 A61 c62 cs72 t69 t79 _ (HS.getN 1 rfl) le57 (HS.getN 2 rfl) le63 (HS.getN 0 rfl) ha80) (fun w81 HS => ?_)
  refine as_ ?_
  refine dn_ hK78 ?_
  refine WC.seq fun _ hK82 => ?_
  refine sr_ fun _ hK83 => ?_
  refine mv_ ?_
  refine mv_ ?_
  refine v_ (Run.binB rfl rfl rfl (bin_neqB Tryz.underlying4)) ?_
  refine dn_ hK83 ?_
  rcases eti_ H with ⟨c84, H⟩ | ⟨c84, H⟩
  · refine wy_ (qT c84) ?_
    refine sr_ fun _ hK123 => ?_
    refine as_ ?_
    refine dn_ hK123 ?_
    cases H
    exact rt1 Tryz.f3 rfl rfl hR_ ⟨rfl, HS.b⟩
  refine wn_ (qF c84) ?_
  refine WC.skip ?_
  refine via_ hK82 ?_
  refine WC.seq fun _ hK85 => ?_
  refine WC.seq fun _ hK86 => ?_
  refine WC.drawS HS [] rfl rfl (fun w87 HS => ?_)
  have HB := Below.refl w87.heap.size w87
  have HSW := HS
  refine dt_ 0 (Below.refl _ _) (fun w_ hw_ => Run.loadS (cs := [.slice A55 t50.1.length c56, .slice A61 t50.2.length c62]) rfl rfl Tryz.underlying40 rfl (by kernel_rfl) (box_part ((HS.below hw_).mu 1 rfl) part_all)) ?_
  refine dt_ 1 (Below.refl _ _) (fun w_ hw_ => Run.loadS (cs := [.slice A0_0 x0.f0.length c0_0, .slice A0_1 x0.f1.length c0_1]) rfl rfl Tryz.underlying24 rfl (by kernel_rfl) (box_part ((HS.below hw_).mu 3 rfl) part_all)) ?_
  obtain ⟨t88, ha89, H⟩ := bind_some H
  refine dc_ 2 (w_none rfl) Tryz.func7 (laws_toCell.calls k A0_0 c0_0 x0.f0 A0_1 c0_1 x0.f1 t88.1 t88.2 _ (HS.getO 0 rfl) hc0_0 (HS.getO 1 rfl) hc0_1 ha89) ?_
  rintro _ w90 ⟨v91, v97, rfl, h92, h98, hb⟩
  obtain ⟨A93, c94, rfl, le95, hf96⟩ := res_R h92
  obtain ⟨A99, c100, rfl, le101, hf102⟩ := res_R h98
  replace HB := HB.trans (hb.mono HB.size)
  replace HS := HS.newNs hb (foot_cons hf96 (foot_cons hf102 foot_nil))
  refine ⟨HB, _, rfl, ?_⟩
  clear hb
  obtain ⟨t103, ha104, H⟩ := bind_some H
  refine dcs_ HS HB 3 (w_none rfl) Tryz.func10 (laws_eqCell.runs k (⟨t50.1, t50.2⟩ : S40) A55 c56 A61 c62 (⟨t88.1, t88.2⟩ : S40) A93 c94 A99 c100 t103 _ (HS.getN 3 rfl) le57 (HS.getN 4 rfl) le63 (HS.getN 0 rfl) le95 (HS.getN 1 rfl) le101 ha104) (fun w105 HS HB => ?_)
  refine dp_ 4 (fun _ => Run.not rfl rfl) ?_
  refine dd_ ?_
  clear HB HSW
  refine via_ hK86 ?_
  rcases eti_ H with ⟨c106, H⟩ | ⟨c106, H⟩
  · refine wy_ (nB (bF c106)) ?_
    refine sr_ fun _ hK122 => ?_
    refine as_ ?_
    refine dn_ hK122 ?_
    cases H
    exact rt1 Tryz.f3 rfl rfl hR_ ⟨rfl, HS.b⟩
  refine wn_ (nB c106) ?_
  refine WC.skip ?_
  refine via_ hK85 ?_
  refine WC.seq fun _ hK107 => ?_
  refine WC.seq fun _ hK108 => ?_
  refine WC.drawS HS [] rfl rfl (fun w109 HS => ?_)
  have HB := Below.refl w109.heap.size w109
  have HSW := HS
  refine dt_ 0 (Below.refl _ _) (fun w_ hw_ => Run.loadS (cs := cs72) rfl rfl Tryz.underlying47 rfl (by rw [el74]; kernel_rfl) (box_part ((HS.below hw_).mu 0 rfl) part_all)) ?_
  refine dt_ 1 (Below.refl _ _) (fun w_ hw_ => Run.loadS (cs := cs1) rfl rfl Tryz.underlying34 rfl (by rw [el1]; kernel_rfl) (box_part ((HS.below hw_).mu 2 rfl) part_all)) ?_
  obtain ⟨t110, ha111, H⟩ := bind_some H
  refine dc_ 2 (w_none rfl) Tryz.func8 (laws_toModel.runs k cs1 x1 t110 _ (HS.getO 2 rfl) ha111) ?_
  rintro _ w112 ⟨cs113, rfl, hf114, hb⟩
  replace HB := HB.trans (hb.mono HB.size)
  replace HS := HS.newNs hb (foot_cons hf114 foot_nil)
  have el115 : cs113.length = 14 := k47.K_len (Foot.now hf114)
  refine ⟨HB, _, rfl, ?_⟩
  clear hb
  obtain ⟨t116, ha117, H⟩ := bind_some H
  refine dcs_ HS HB 3 (w_none rfl) Tryz.func11 (laws_eqModel.runs k cs72 t69 cs113 t110 t116 _ (HS.getN 3 rfl) (HS.getN 0 rfl) ha117) (fun w118 HS HB => ?_)
  refine dp_ 4 (fun _ => Run.not rfl rfl) ?_
  refine dd_ ?_
  clear HB HSW
  refine via_ hK108 ?_
  rcases eti_ H with ⟨c119, H⟩ | ⟨c119, H⟩
  · refine wy_ (nB (bF c119)) ?_
    refine sr_ fun _ hK121 => ?_
    refine as_ ?_
    refine dn_ hK121 ?_
    cases H
    exact rt1 Tryz.f3 rfl rfl hR_ ⟨rfl, HS.b⟩
  refine wn_ (nB c119) ?_
  refine WC.skip ?_
  refine via_ hK107 ?_
  refine sr_ fun _ hK120 => ?_
  refine as_ ?_
  refine dn_ hK120 ?_
  cases H
  exact rt1 Tryz.f3 rfl rfl hR_ ⟨rfl, HS.b⟩
def okT3 (x : Int) : Prop := (Lit.int .i64 x).wf = true
theorem opensT3 : XOpen.Opens Tryz.prog 3 (Kd.int .i64) okT3 := XOpen.opens_int Tryz.underlying3
def okT28 (xs : List Int) : Prop := xs.length ≤ 9223372036854775807 ∧ ∀ x ∈ xs, okT3 x
theorem opensT28 : XOpen.Opens Tryz.prog 28 (Kd.slice 3 (Kd.int .i64)) okT28 := XOpen.opens_slice Tryz.underlying28 (by kernel_rfl) opensT3
def okT107 (x : S107) : Prop := okT3 x.f0 ∧ okT28 x.f1
theorem opensT107 : XOpen.Opens Tryz.prog 107 k107 okT107 := by
  intro H enc w base held fuel cs x h
  obtain ⟨xs, n, _, _, hl, hlen, hf⟩ := DataW.trod_struct Tryz.underlying107 h
  obtain ⟨a0, p0⟩ := XOpen.part_field hlen hf 0 rfl (by kernel_rfl) opensT3
  obtain ⟨a1, p1⟩ := XOpen.part_field hlen hf 1 rfl (by kernel_rfl) opensT28
  obtain ⟨hk, hg⟩ := XOpen.part_all (XOpen.part_pair p0 p1 rfl) (hl.trans (by kernel_rfl))
  exact ⟨⟨a0, a1⟩, hk, hg⟩
def okT75 (xs : List S107) : Prop := xs.length ≤ 9223372036854775807 ∧ ∀ x ∈ xs, okT107 x
theorem opensT75 : XOpen.Opens Tryz.prog 75 (Kd.slice 107 k107) okT75 := XOpen.opens_slice Tryz.underlying75 (by kernel_rfl) opensT107
def okT22 (xs : List (List S107)) : Prop := xs.length ≤ 9223372036854775807 ∧ ∀ x ∈ xs, okT75 x
theorem opensT22 : XOpen.Opens Tryz.prog 22 (Kd.slice 75 (Kd.slice 107 k107)) okT22 := XOpen.opens_slice Tryz.underlying22 (by kernel_rfl) opensT75
def okT24 (x : S24) : Prop := okT22 x.f0 ∧ okT22 x.f1
theorem opensT24 : XOpen.Opens Tryz.prog 24 k24 okT24 := by
  intro H enc w base held fuel cs x h
  obtain ⟨xs, n, _, _, hl, hlen, hf⟩ := DataW.trod_struct Tryz.underlying24 h
  obtain ⟨a0, p0⟩ := XOpen.part_field hlen hf 0 rfl (by kernel_rfl) opensT22
  obtain ⟨a1, p1⟩ := XOpen.part_field hlen hf 1 rfl (by kernel_rfl) opensT22
  obtain ⟨hk, hg⟩ := XOpen.part_all (XOpen.part_pair p0 p1 rfl) (hl.trans (by kernel_rfl))
  exact ⟨⟨a0, a1⟩, hk, hg⟩
def okT96 (x : S96) : Prop := okT3 x.f0 ∧ okT3 x.f1
theorem opensT96 : XOpen.Opens Tryz.prog 96 k96 okT96 := by
  intro H enc w base held fuel cs x h
  obtain ⟨xs, n, _, _, hl, hlen, hf⟩ := DataW.trod_struct Tryz.underlying96 h
  obtain ⟨a0, p0⟩ := XOpen.part_field hlen hf 0 rfl (by kernel_rfl) opensT3
  obtain ⟨a1, p1⟩ := XOpen.part_field hlen hf 1 rfl (by kernel_rfl) opensT3
  obtain ⟨hk, hg⟩ := XOpen.part_all (XOpen.part_pair p0 p1 rfl) (hl.trans (by kernel_rfl))
  exact ⟨⟨a0, a1⟩, hk, hg⟩
def okT25 (xs : List S96) : Prop := xs.length ≤ 9223372036854775807 ∧ ∀ x ∈ xs, okT96 x
theorem opensT25 : XOpen.Opens Tryz.prog 25 (Kd.slice 96 k96) okT25 := XOpen.opens_slice Tryz.underlying25 (by kernel_rfl) opensT96
def okT26 (xs : List (List Int)) : Prop := xs.length ≤ 9223372036854775807 ∧ ∀ x ∈ xs, okT28 x
theorem opensT26 : XOpen.Opens Tryz.prog 26 (Kd.slice 28 (Kd.slice 3 (Kd.int .i64))) okT26 := XOpen.opens_slice Tryz.underlying26 (by kernel_rfl) opensT28
def okT30 (x : S30) : Prop := okT3 x.f0 ∧ okT26 x.f1 ∧ okT26 x.f2 ∧ okT3 x.f3 ∧ okT3 x.f4
theorem opensT30 : XOpen.Opens Tryz.prog 30 k30 okT30 := by
  intro H enc w base held fuel cs x h
  obtain ⟨xs, n, _, _, hl, hlen, hf⟩ := DataW.trod_struct Tryz.underlying30 h
  obtain ⟨a0, p0⟩ := XOpen.part_field hlen hf 0 rfl (by kernel_rfl) opensT3
  obtain ⟨a1, p1⟩ := XOpen.part_field hlen hf 1 rfl (by kernel_rfl) opensT26
  obtain ⟨a2, p2⟩ := XOpen.part_field hlen hf 2 rfl (by kernel_rfl) opensT26
  obtain ⟨a3, p3⟩ := XOpen.part_field hlen hf 3 rfl (by kernel_rfl) opensT3
  obtain ⟨a4, p4⟩ := XOpen.part_field hlen hf 4 rfl (by kernel_rfl) opensT3
  obtain ⟨hk, hg⟩ := XOpen.part_all (XOpen.part_pair p0 (XOpen.part_pair p1 (XOpen.part_pair p2 (XOpen.part_pair p3 p4 rfl) rfl) rfl) rfl) (hl.trans (by kernel_rfl))
  exact ⟨⟨a0, a1, a2, a3, a4⟩, hk, hg⟩
def okT78 (x : S78) : Prop := okT28 x.f0 ∧ okT30 x.f1 ∧ okT30 x.f2 ∧ okT30 x.f3 ∧ okT30 x.f4 ∧ okT28 x.f5 ∧ okT30 x.f6 ∧ okT30 x.f7
theorem opensT78 : XOpen.Opens Tryz.prog 78 k78 okT78 := by
  intro H enc w base held fuel cs x h
  obtain ⟨xs, n, _, _, hl, hlen, hf⟩ := DataW.trod_struct Tryz.underlying78 h
  obtain ⟨a0, p0⟩ := XOpen.part_field hlen hf 0 rfl (by kernel_rfl) opensT28
  obtain ⟨a1, p1⟩ := XOpen.part_field hlen hf 1 rfl (by kernel_rfl) opensT30
  obtain ⟨a2, p2⟩ := XOpen.part_field hlen hf 2 rfl (by kernel_rfl) opensT30
  obtain ⟨a3, p3⟩ := XOpen.part_field hlen hf 3 rfl (by kernel_rfl) opensT30
  obtain ⟨a4, p4⟩ := XOpen.part_field hlen hf 4 rfl (by kernel_rfl) opensT30
  obtain ⟨a5, p5⟩ := XOpen.part_field hlen hf 5 rfl (by kernel_rfl) opensT28
  obtain ⟨a6, p6⟩ := XOpen.part_field hlen hf 6 rfl (by kernel_rfl) opensT30
  obtain ⟨a7, p7⟩ := XOpen.part_field hlen hf 7 rfl (by kernel_rfl) opensT30
  obtain ⟨hk, hg⟩ := XOpen.part_all (XOpen.part_pair p0 (XOpen.part_pair p1 (XOpen.part_pair p2 (XOpen.part_pair p3 (XOpen.part_pair p4 (XOpen.part_pair p5 (XOpen.part_pair p6 p7 rfl) rfl) rfl) rfl) rfl) rfl) rfl) (hl.trans (by kernel_rfl))
  exact ⟨⟨a0, a1, a2, a3, a4, a5, a6, a7⟩, hk, hg⟩
def okT27 (xs : List S78) : Prop := xs.length ≤ 9223372036854775807 ∧ ∀ x ∈ xs, okT78 x
theorem opensT27 : XOpen.Opens Tryz.prog 27 (Kd.slice 78 k78) okT27 := XOpen.opens_slice Tryz.underlying27 (by kernel_rfl) opensT78
def okT32 (x : S32) : Prop := okT26 x.f0 ∧ okT26 x.f1
theorem opensT32 : XOpen.Opens Tryz.prog 32 k32 okT32 := by
  intro H enc w base held fuel cs x h
  obtain ⟨xs, n, _, _, hl, hlen, hf⟩ := DataW.trod_struct Tryz.underlying32 h
  obtain ⟨a0, p0⟩ := XOpen.part_field hlen hf 0 rfl (by kernel_rfl) opensT26
  obtain ⟨a1, p1⟩ := XOpen.part_field hlen hf 1 rfl (by kernel_rfl) opensT26
  obtain ⟨hk, hg⟩ := XOpen.part_all (XOpen.part_pair p0 p1 rfl) (hl.trans (by kernel_rfl))
  exact ⟨⟨a0, a1⟩, hk, hg⟩
def okT34 (x : S34) : Prop := okT3 x.f0 ∧ okT3 x.f1 ∧ okT3 x.f2 ∧ okT25 x.f3 ∧ okT26 x.f4 ∧ okT27 x.f5 ∧ okT28 x.f6 ∧ okT30 x.f7 ∧ okT32 x.f8
theorem opensT34 : XOpen.Opens Tryz.prog 34 k34 okT34 := by
  intro H enc w base held fuel cs x h
  obtain ⟨xs, n, _, _, hl, hlen, hf⟩ := DataW.trod_struct Tryz.underlying34 h
  obtain ⟨a0, p0⟩ := XOpen.part_field hlen hf 0 rfl (by kernel_rfl) opensT3
  obtain ⟨a1, p1⟩ := XOpen.part_field hlen hf 1 rfl (by kernel_rfl) opensT3
  obtain ⟨a2, p2⟩ := XOpen.part_field hlen hf 2 rfl (by kernel_rfl) opensT3
  obtain ⟨a3, p3⟩ := XOpen.part_field hlen hf 3 rfl (by kernel_rfl) opensT25
  obtain ⟨a4, p4⟩ := XOpen.part_field hlen hf 4 rfl (by kernel_rfl) opensT26
  obtain ⟨a5, p5⟩ := XOpen.part_field hlen hf 5 rfl (by kernel_rfl) opensT27
  obtain ⟨a6, p6⟩ := XOpen.part_field hlen hf 6 rfl (by kernel_rfl) opensT28
  obtain ⟨a7, p7⟩ := XOpen.part_field hlen hf 7 rfl (by kernel_rfl) opensT30
  obtain ⟨a8, p8⟩ := XOpen.part_field hlen hf 8 rfl (by kernel_rfl) opensT32
  obtain ⟨hk, hg⟩ := XOpen.part_all (XOpen.part_pair p0 (XOpen.part_pair p1 (XOpen.part_pair p2 (XOpen.part_pair p3 (XOpen.part_pair p4 (XOpen.part_pair p5 (XOpen.part_pair p6 (XOpen.part_pair p7 p8 rfl) rfl) rfl) rfl) rfl) rfl) rfl) rfl) (hl.trans (by kernel_rfl))
  exact ⟨⟨a0, a1, a2, a3, a4, a5, a6, a7, a8⟩, hk, hg⟩
/-- THE ONE PURE STATEMENT of laws_FnExactCellOk. -/
def laws_FnExactCellOk.Pure : Prop := ∀ (x0 : S24) (x1 : S34), okT24 x0 → okT34 x1 → ∃ k, laws_FnExactCellOk.g k x0 x1 = some true
end Go.Proofs.YtacbkcofcbglhaaGreat.PFnExactCellOk
