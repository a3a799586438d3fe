/- Functions that the statement reaches, as Lean functions, and the proof that a call of each comes to just its answer; written by this claim's own program. No conditions. -/
import Derived.Test.YtacbkcofcbglhaaGFnExactModelOk1
namespace Go.Proofs.Ytacbkcofcbglhaa.PFnExactModelOk
open Go.RowKit Go.Proofs.YtacbkcofcbglhaaW.PrintWords Go.Proofs.YtacbkcofcbglhaaW.PrintLast Go.Proofs.YtacbkcofcbglhaaW.PrintMore Go.Proofs.Ytacbkcofcbglhaa.XW Go.Proofs.Ytacbkcofcbglhaa.XOp Go.Proofs.Ytacbkcofcbglhaa.XSt Go.Proofs.Ytacbkcofcbglhaa.XDraw
set_option linter.unusedVariables false
set_option linter.unusedSimpArgs false
def slices_ContainsFunc_int_int_73.g (k : Nat) (l0 : List (List Int)) (x1c0 : S39) : Option Bool := ((slices_IndexFunc_int_int_73.g k l0 x1c0).bind fun t3 => (some (decide (t3 ≥ 0))))
set_option maxHeartbeats 4000000 in
set_option maxRecDepth 20000 in
theorem slices_ContainsFunc_int_int_73.runs (k : Nat) (A0 : Option Addr) (c0 : Nat) (l0 : List (List Int)) (b1c0 : Nat) (cs1c0 : List Value) (x1c0 : S39) (r : Bool) (w : World) (hr0 : (Kd.slice 3 (Kd.int .i64)).C w A0 l0.length l0) (hc0 : l0.length ≤ c0) (hk1c0 : k39.K w x1c0 cs1c0) (hb1c0 : w.heap[b1c0]? = some (.cells cs1c0.toArray 39 (0, 0))) (H : slices_ContainsFunc_int_int_73.g k l0 x1c0 = some r) :
    Calls Try.prog 72 #[.slice A0 l0.length c0, .func (.func 73) #[] #[.pointer (some ⟨b1c0, 0, none⟩)]] w fun e w' => e = .returned (.bool r) ∧ Below w.heap.size w w' := by
  have el1c0 : cs1c0.length = 14 := k39.K_len hk1c0
  unfold slices_ContainsFunc_int_int_73.g at H
  have HS : St (fun _ => True) w w [] [(fun W => (Kd.slice 3 (Kd.int .i64)).C W A0 l0.length l0), (fun W => k39.K W x1c0 cs1c0), (fun W => W.heap[b1c0]? = some (.cells cs1c0.toArray 39 (0, 0)))] [] := St.start (foot_cons (foot_C (Kd.heap_slice _ (Kd.heap_int _)) hr0) (foot_cons (foot_K h39 hk1c0) (foot_cons (foot_rob hb1c0) foot_nil)))
  refine calls_W Try.func72 rfl rfl (Nat.le_of_ble_eq_true rfl) (fun R_ hR_ => ?_)
  refine WC.seq (fun K1 hK1 => ?_)
  refine WC.region ?_
  refine as_ ?_
  refine WL.done ?_
  refine WQ.via (fun _ _ h_ => h_) hK1 ?_
  refine WC.seq (fun K2 hK2 => ?_)
  refine WC.region ?_
  refine mv_ ?_
  refine mv_ ?_
  obtain ⟨t3, ha4, H⟩ := bind_some H
  refine c_ Try.func124 (slices_IndexFunc_int_int_73.runs k A0 c0 l0 b1c0 cs1c0 x1c0 t3 _ (HS.getO 0 rfl) hc0 (HS.getO 1 rfl) (HS.getO 2 rfl) ha4) ?_
  rintro _ w5 ⟨rfl, hb⟩
  replace HS := HS.below hb
  refine ⟨_, rfl, ?_⟩
  clear hb
  refine v_ (Run.bin rfl rfl rfl bin_geq) ?_
  refine as_ ?_
  refine WL.done ?_
  refine WQ.via (fun _ _ h_ => h_) hK2 ?_
  refine WC.ret ?_
  obtain rfl := Option.some.inj H
  refine WQ.fin (e' := .ret) (fn := Try.f72) (fun _ _ h_ => h_) (WQ.ret1 rfl rfl ?_)
  exact hR_ _ _ ⟨rfl, HS.b⟩
def impl_ModelOk_2.g (k : Nat) (x0 : S48) (x1 : S39) : Option Bool := ((impl_LayerOk.g k x0 x1.f0).bind fun t5 => (some (!t5)))
set_option maxHeartbeats 4000000 in
set_option maxRecDepth 20000 in
theorem impl_ModelOk_2.runs (k : Nat) (cs0 : List Value) (x0 : S48) (b1 : Nat) (cs1 : List Value) (x1 : S39) (r : Bool) (w : World) (hk0 : k48.K w x0 cs0) (hk1 : k39.K w x1 cs1) (hb1 : w.heap[b1]? = some (.cells cs1.toArray 39 (0, 0))) (H : impl_ModelOk_2.g k x0 x1 = some r) :
    Calls Try.prog 76 #[.agg cs0.toArray, .pointer (some ⟨b1, 0, none⟩)] w fun e w' => e = .returned (.bool r) ∧ Below w.heap.size w w' := by
  have el0 : cs0.length = 32 := k48.K_len hk0
  have el1 : cs1.length = 14 := k39.K_len hk1
  unfold impl_ModelOk_2.g at H
  have HS : St (fun _ => True) w w [] [(fun W => k48.K W x0 cs0), (fun W => k39.K W x1 cs1), (fun W => W.heap[b1]? = some (.cells cs1.toArray 39 (0, 0)))] [] := St.start (foot_cons (foot_K h48 hk0) (foot_cons (foot_K h39 hk1) (foot_cons (foot_rob hb1) foot_nil)))
  refine calls_W Try.func76 rfl rfl (Nat.le_of_ble_eq_true rfl) (fun R_ hR_ => ?_)
  refine WC.seq (fun K1 hK1 => ?_)
  refine WC.region ?_
  refine WL.box HS rfl rfl (by decide) rfl rfl rfl (fun b2 w3 hb2 HS => ?_)
  refine as_ ?_
  refine WL.done ?_
  refine WQ.via (fun _ _ h_ => h_) hK1 ?_
  refine WC.seq (fun K4 hK4 => ?_)
  refine WC.region ?_
  refine v_ (Run.loadS (cs := cs0) rfl rfl Try.underlying48 rfl (by rw [el0]; kernel_rfl) (box_part (HS.mu 0 rfl) part_all)) ?_
  refine v_ (Run.fieldAddr rfl rfl Try.underlying39 rfl (by kernel_rfl) rfl) ?_
  refine v_ (Run.load rfl rfl Try.underlying3 rfl (box_cell (HS.getO 2 rfl) (at39_0 (AtK.whole (HS.getO 1 rfl))).int)) ?_
  obtain ⟨t5, ha6, H⟩ := bind_some H
  refine c_ Try.func22 (impl_LayerOk.runs k cs0 x0 x1.f0 t5 _ (HS.getO 0 rfl) ha6) ?_
  rintro _ w7 ⟨rfl, hb⟩
  replace HS := HS.below hb
  refine ⟨_, rfl, ?_⟩
  clear hb
  refine v_ (Run.not rfl rfl) ?_
  refine as_ ?_
  refine WL.done ?_
  refine WQ.via (fun _ _ h_ => h_) hK4 ?_
  refine WC.ret ?_
  obtain rfl := Option.some.inj H
  refine WQ.fin (e' := .ret) (fn := Try.f76) (fun _ _ h_ => h_) (WQ.ret1 rfl rfl ?_)
  exact hR_ _ _ ⟨rfl, HS.b⟩
def slices_IndexFunc_impl_Layer_impl_Layer_76.b0 (l0 : List S48) (x1c0 : S39) (rec_ : Int → Option (Int ⊕ Int)) (k14 : Nat) (i8 : Int) : Option (Int ⊕ Int) := (if i8 < (l0.length : Int) then (if 0 ≤ i8 ∧ i8 < (l0.length : Int) then ((impl_ModelOk_2.g k14 (l0.getD i8.toNat o48) x1c0).bind fun t26 => (if t26 = true then (some (Sum.inl i8)) else (rec_ (wrap64 (i8 + 1))))) else none) else (some (Sum.inr i8)))
def slices_IndexFunc_impl_Layer_impl_Layer_76.l0 (l0 : List S48) (x1c0 : S39) : Nat → Int → Option (Int ⊕ Int)
  | 0, _ => none
  | k + 1, i8 => slices_IndexFunc_impl_Layer_impl_Layer_76.b0 l0 x1c0 (slices_IndexFunc_impl_Layer_impl_Layer_76.l0 l0 x1c0 k) k i8
def slices_IndexFunc_impl_Layer_impl_Layer_76.g (k : Nat) (l0 : List S48) (x1c0 : S39) : Option Int := ((slices_IndexFunc_impl_Layer_impl_Layer_76.l0 l0 x1c0 k 0).bind (fun o12 => match o12 with | .inl r_ => some r_ | .inr i8 => (some (-1))))
set_option maxHeartbeats 4000000 in
set_option maxRecDepth 20000 in
theorem slices_IndexFunc_impl_Layer_impl_Layer_76.runs (k : Nat) (A0 : Option Addr) (c0 : Nat) (l0 : List S48) (b1c0 : Nat) (cs1c0 : List Value) (x1c0 : S39) (r : Int) (w : World) (hr0 : k48.C w A0 l0.length l0) (hc0 : l0.length ≤ c0) (hk1c0 : k39.K w x1c0 cs1c0) (hb1c0 : w.heap[b1c0]? = some (.cells cs1c0.toArray 39 (0, 0))) (H : slices_IndexFunc_impl_Layer_impl_Layer_76.g k l0 x1c0 = some r) :
    Calls Try.prog 127 #[.slice A0 l0.length c0, .func (.func 76) #[] #[.pointer (some ⟨b1c0, 0, none⟩)]] w fun e w' => e = .returned (.int .i64 r) ∧ Below w.heap.size w w' := by
  have el1c0 : cs1c0.length = 14 := k39.K_len hk1c0
  unfold slices_IndexFunc_impl_Layer_impl_Layer_76.g at H
  have HS : St (fun _ => True) w w [] [(fun W => k48.C W A0 l0.length l0), (fun W => k39.K W x1c0 cs1c0), (fun W => W.heap[b1c0]? = some (.cells cs1c0.toArray 39 (0, 0)))] [] := St.start (foot_cons (foot_C h48 hr0) (foot_cons (foot_K h39 hk1c0) (foot_cons (foot_rob hb1c0) foot_nil)))
  refine calls_W Try.func127 rfl rfl (Nat.le_of_ble_eq_true rfl) (fun R_ hR_ => ?_)
  refine WC.seq (fun K1 hK1 => ?_)
  refine WC.region ?_
  refine as_ ?_
  refine WL.done ?_
  refine WQ.via (fun _ _ h_ => h_) hK1 ?_
  refine WC.seq (fun K2 hK2 => ?_)
  refine WC.seq (fun K3 hK3 => ?_)
  refine WC.region ?_
  refine mv_ ?_
  refine v_ (Run.len (ts := #[]) rfl Try.underlying35 rfl) ?_
  refine mv_ ?_
  refine WL.done ?_
  refine WQ.via (fun _ _ h_ => h_) hK3 ?_
  refine WC.block ?_
  obtain ⟨G4, hG5, o6, H, Ho7⟩ := open_G H
  have X9 : ∀ E_ W_, (∃ (i8 : Int), E_ = [(0, .slice A0 l0.length c0), (1, .func (.func 76) #[] #[.pointer (some ⟨b1c0, 0, none⟩)]), (7, .int .i64 (l0.length : Int)), (8, .int .i64 i8)] ∧ G4 (Sum.inr i8) = some r ∧ St (fun _ => True) w W_ [] [(fun W => k48.C W A0 l0.length l0), (fun W => k39.K W x1c0 cs1c0), (fun W => W.heap[b1c0]? = some (.cells cs1c0.toArray 39 (0, 0)))] []) → ∀ a, Fits a 19 E_ → K2 a W_ := by
    rintro E_ w10 ⟨i8, rfl, H, HS⟩
    rw [hG5] at H
    (try dsimp only at H)
    refine hK2 _ _ ?_
    refine WC.seq (fun K11 hK11 => ?_)
    refine WC.region ?_
    refine as_ ?_
    refine WL.done ?_
    refine WQ.via (fun _ _ h_ => h_) hK11 ?_
    refine WC.ret ?_
    obtain rfl := Option.some.inj H
    refine WQ.fin (e' := .ret) (fn := Try.f127) (fun _ _ h_ => h_) (WQ.ret1 rfl rfl ?_)
    exact hR_ _ _ ⟨rfl, HS.b⟩
  refine WC.loop (fun k_ E_ W_ => ∃ (i8 : Int), E_ = [(0, .slice A0 l0.length c0), (1, .func (.func 76) #[] #[.pointer (some ⟨b1c0, 0, none⟩)]), (7, .int .i64 (l0.length : Int)), (8, .int .i64 i8)] ∧ (∃ o_, slices_IndexFunc_impl_Layer_impl_Layer_76.l0 l0 x1c0 k_ i8 = some o_ ∧ G4 o_ = some r) ∧ St (fun _ => True) w W_ [] [(fun W => k48.C W A0 l0.length l0), (fun W => k39.K W x1c0 cs1c0), (fun W => W.heap[b1c0]? = some (.cells cs1c0.toArray 39 (0, 0)))] []) k ⟨0, rfl, ⟨_, H, Ho7⟩, (St.pick HS (fun W_ h_ => ⟨AllF.get 0 rfl h_, AllF.get 1 rfl h_, AllF.get 2 rfl h_, trivial⟩) (fun W_ h_ => trivial))⟩ ⟨rfl, rfl, rfl, rfl, trivial⟩ ?_
  rintro k_ E_ w13 ⟨i8, rfl, ⟨o6, H, Ho7⟩, HS⟩
  rcases k_ with _ | k14
  · exact (Option.some_ne_none _ (show none = some _ from H).symm).elim
  replace H : slices_IndexFunc_impl_Layer_impl_Layer_76.b0 l0 x1c0 (slices_IndexFunc_impl_Layer_impl_Layer_76.l0 l0 x1c0 k14) k14 i8 = some o6 := H
  unfold slices_IndexFunc_impl_Layer_impl_Layer_76.b0 at H
  refine WC.seq (fun K15 hK15 => ?_)
  refine WC.region ?_
  refine v_ (Run.bin rfl rfl rfl bin_lss) ?_
  refine WL.done ?_
  refine WQ.via (fun _ _ h_ => h_) hK15 ?_
  refine WC.seq (fun K16 hK16 => ?_)
  by_cases c17 : i8 < (l0.length : Int)
  · rw [if_pos c17] at H
    refine WC.yes rfl (decide_eq_true c17) ?_
    refine WC.skip ?_
    refine WQ.via (fun _ _ h_ => h_) hK16 ?_
    refine WC.seq (fun K18 hK18 => ?_)
    refine WC.block ?_
    refine WC.seq (fun K19 hK19 => ?_)
    refine WC.region ?_
    refine mv_ ?_
    refine as_ ?_
    refine WL.done ?_
    refine WQ.via (fun _ _ h_ => h_) hK19 ?_
    refine WC.seq (fun K20 hK20 => ?_)
    refine WC.region ?_
    refine mv_ ?_
    refine mv_ ?_
    refine mv_ ?_
    obtain ⟨⟨q21, q22⟩, H⟩ := if_some H
    obtain ⟨ad23, rfl⟩ := C_open (HS.getO 0 rfl) (by omega)
    refine v_ (Run.indexAddr rfl rfl rfl Try.underlying35 (sz := 32) (by kernel_rfl) q21 q22) ?_
    obtain ⟨e24, el25, HS⟩ := HS.elO 0 rfl (by decide) o48 i8 q21 q22
    replace HS := HS.deriveO (p := (fun W => k48.K W (l0.getD i8.toNat o48) e24)) (fun W_ hO_ hN_ => (AllF.get 0 rfl hO_).1)
    refine v_ (Run.loadS (cs := e24) rfl rfl Try.underlying48 rfl (by rw [el25]; kernel_rfl) (HS.getO 1 rfl).2) ?_
    obtain ⟨t26, ha27, H⟩ := bind_some H
    refine cv_ (args := [.agg e24.toArray]) (cap := [.pointer (some ⟨b1c0, 0, none⟩)]) Try.func76 (impl_ModelOk_2.runs k14 e24 (l0.getD i8.toNat o48) b1c0 cs1c0 x1c0 t26 _ (HS.getO 0 rfl) (HS.getO 3 rfl) (HS.getO 4 rfl) ha27) ?_
    rintro _ w28 ⟨rfl, hb⟩
    replace HS := HS.below hb
    refine ⟨_, rfl, ?_⟩
    clear hb
    refine WL.done ?_
    refine WQ.via (fun _ _ h_ => h_) hK20 ?_
    by_cases c29 : t26 = true
    · rw [if_pos c29] at H
      refine WC.yes rfl c29 ?_
      refine WC.seq (fun K30 hK30 => ?_)
      refine WC.region ?_
      refine mv_ ?_
      refine as_ ?_
      refine WL.done ?_
      refine WQ.via (fun _ _ h_ => h_) hK30 ?_
      refine WC.ret ?_
      obtain rfl := Option.some.inj H
      rw [hG5] at Ho7
      replace H : some _ = some _ := Ho7
      obtain rfl := Option.some.inj H
      refine WQ.fin (e' := .ret) (fn := Try.f127) (fun _ _ h_ => h_) (WQ.ret1 rfl rfl ?_)
      exact hR_ _ _ ⟨rfl, HS.b⟩
    · rw [if_neg c29] at H
      refine WC.no rfl (Bool.eq_false_iff.mpr c29) ?_
      refine WC.skip ?_
      refine WQ.via (fun _ _ h_ => h_) hK18 ?_
      refine WC.region ?_
      refine v_ (Run.bin rfl rfl rfl bin_add64) ?_
      refine mv_ ?_
      refine WL.done ?_
      exact WQ.round k14 (fun _ _ h_ => h_) (Nat.lt_succ_self _) ⟨(wrap64 (i8 + 1)), rfl, ⟨_, H, Ho7⟩, (St.pick HS (fun W_ h_ => ⟨AllF.get 2 rfl h_, AllF.get 3 rfl h_, AllF.get 4 rfl h_, trivial⟩) (fun W_ h_ => trivial))⟩ ⟨rfl, rfl, rfl, rfl, trivial⟩
  · rw [if_neg c17] at H
    refine WC.no rfl (decide_eq_false c17) ?_
    refine WC.exit ?_
    obtain rfl := Option.some.inj H
    exact WQ.via2 (fun _ _ h_ => h_) X9 ⟨i8, rfl, Ho7, (St.pick HS (fun W_ h_ => ⟨AllF.get 0 rfl h_, AllF.get 1 rfl h_, AllF.get 2 rfl h_, trivial⟩) (fun W_ h_ => trivial))⟩ ⟨rfl, rfl, rfl, rfl, trivial⟩
def slices_ContainsFunc_impl_Layer_impl_Layer_76.g (k : Nat) (l0 : List S48) (x1c0 : S39) : Option Bool := ((slices_IndexFunc_impl_Layer_impl_Layer_76.g k l0 x1c0).bind fun t3 => (some (decide (t3 ≥ 0))))
set_option maxHeartbeats 4000000 in
set_option maxRecDepth 20000 in
theorem slices_ContainsFunc_impl_Layer_impl_Layer_76.runs (k : Nat) (A0 : Option Addr) (c0 : Nat) (l0 : List S48) (b1c0 : Nat) (cs1c0 : List Value) (x1c0 : S39) (r : Bool) (w : World) (hr0 : k48.C w A0 l0.length l0) (hc0 : l0.length ≤ c0) (hk1c0 : k39.K w x1c0 cs1c0) (hb1c0 : w.heap[b1c0]? = some (.cells cs1c0.toArray 39 (0, 0))) (H : slices_ContainsFunc_impl_Layer_impl_Layer_76.g k l0 x1c0 = some r) :
    Calls Try.prog 75 #[.slice A0 l0.length c0, .func (.func 76) #[] #[.pointer (some ⟨b1c0, 0, none⟩)]] w fun e w' => e = .returned (.bool r) ∧ Below w.heap.size w w' := by
  have el1c0 : cs1c0.length = 14 := k39.K_len hk1c0
  unfold slices_ContainsFunc_impl_Layer_impl_Layer_76.g at H
  have HS : St (fun _ => True) w w [] [(fun W => k48.C W A0 l0.length l0), (fun W => k39.K W x1c0 cs1c0), (fun W => W.heap[b1c0]? = some (.cells cs1c0.toArray 39 (0, 0)))] [] := St.start (foot_cons (foot_C h48 hr0) (foot_cons (foot_K h39 hk1c0) (foot_cons (foot_rob hb1c0) foot_nil)))
  refine calls_W Try.func75 rfl rfl (Nat.le_of_ble_eq_true rfl) (fun R_ hR_ => ?_)
  refine WC.seq (fun K1 hK1 => ?_)
  refine WC.region ?_
  refine as_ ?_
  refine WL.done ?_
  refine WQ.via (fun _ _ h_ => h_) hK1 ?_
  refine WC.seq (fun K2 hK2 => ?_)
  refine WC.region ?_
  refine mv_ ?_
  refine mv_ ?_
  obtain ⟨t3, ha4, H⟩ := bind_some H
  refine c_ Try.func127 (slices_IndexFunc_impl_Layer_impl_Layer_76.runs k A0 c0 l0 b1c0 cs1c0 x1c0 t3 _ (HS.getO 0 rfl) hc0 (HS.getO 1 rfl) (HS.getO 2 rfl) ha4) ?_
  rintro _ w5 ⟨rfl, hb⟩
  replace HS := HS.below hb
  refine ⟨_, rfl, ?_⟩
  clear hb
  refine v_ (Run.bin rfl rfl rfl bin_geq) ?_
  refine as_ ?_
  refine WL.done ?_
  refine WQ.via (fun _ _ h_ => h_) hK2 ?_
  refine WC.ret ?_
  obtain rfl := Option.some.inj H
  refine WQ.fin (e' := .ret) (fn := Try.f75) (fun _ _ h_ => h_) (WQ.ret1 rfl rfl ?_)
  exact hR_ _ _ ⟨rfl, HS.b⟩
def impl_ModelOk.g (k : Nat) (x0 : S39) : Option Bool := ((impl_isWidth.f x0.f0).bind fun t7 => (if t7 = true then ((impl_in.f x0.f1 1 2).bind fun t11 => (if t11 = true then ((impl_MergesOk.g k x0.f3).bind fun t19 => (if t19 = true then ((impl_Vocab.g k x0).bind fun t27 => (if (x0.f4.length : Int) = t27 then ((impl_in.f (x0.f5.length : Int) 1 2).bind fun t35 => (if t35 = true then ((slices_ContainsFunc_int_int_73.g k x0.f4 x0).bind fun t41 => (if t41 = true then (some false) else ((slices_ContainsFunc_impl_Layer_impl_Layer_76.g k x0.f5 x0).bind fun t48 => (if t48 = true then (some false) else ((impl_GainOk.f x0.f6 x0.f0).bind fun t59 => (if t59 = true then ((impl_Vocab.g k x0).bind fun t71 => ((impl_withinBudget.f k x0.f7.f0 x0.f7.f1 x0.f7.f2 x0.f7.f3 x0.f7.f4 x0.f0 t71).bind fun t74 => (if t74 = true then (if x0.f1 ≠ 0 then ((impl_TurnsOk.f x0.f8.f0 x0.f8.f1 x0.f2 (wrap64 (Int.tdiv (wrap64 (Int.tdiv x0.f0 x0.f1)) 2))).bind fun t87 => (some t87)) else none) else (some false)))) else (some false))))))) else (some false))) else (some false))) else (some false))) else (some false))) else (some false)))
set_option maxHeartbeats 4000000 in
set_option maxRecDepth 20000 in
theorem impl_ModelOk.runs (k : Nat) (cs0 : List Value) (x0 : S39) (r : Bool) (w : World) (hk0 : k39.K w x0 cs0) (H : impl_ModelOk.g k x0 = some r) :
    Calls Try.prog 25 #[.agg cs0.toArray] w fun e w' => e = .returned (.bool r) ∧ Below w.heap.size w w' := by
  have el0 : cs0.length = 14 := k39.K_len hk0
  unfold impl_ModelOk.g at H
  have HS : St (fun _ => True) w w [] [(fun W => k39.K W x0 cs0)] [] := St.start (foot_cons (foot_K h39 hk0) foot_nil)
  refine calls_W Try.func25 rfl rfl (Nat.le_of_ble_eq_true rfl) (fun R_ hR_ => ?_)
  refine WC.seq (fun K1 hK1 => ?_)
  refine WC.region ?_
  refine WL.box HS rfl rfl (by decide) rfl rfl rfl (fun b2 w3 hb2 HS => ?_)
  refine as_ ?_
  refine WL.done ?_
  refine WQ.via (fun _ _ h_ => h_) hK1 ?_
  refine WC.seq (fun K4 hK4 => ?_)
  refine WC.seq (fun K5 hK5 => ?_)
  refine WC.drawS HS [] rfl rfl (fun w6 HS => ?_)
  have HB := Below.refl w6.heap.size w6
  have HSW := HS
  refine dp_ 0 (fun _ => Run.fieldAddr rfl rfl Try.underlying39 rfl (by kernel_rfl) rfl) ?_
  refine dt_ 1 (Below.refl _ _) (fun w_ hw_ => Run.load rfl rfl Try.underlying3 rfl (box_cell ((HS.below hw_).mu 0 rfl) (at39_0 (AtK.whole ((HS.below hw_).getO 0 rfl))).int)) ?_
  obtain ⟨t7, ha8, H⟩ := bind_some H
  refine dc_ 2 (w_none rfl) Try.func64 (impl_isWidth.calls x0.f0 t7 _ ha8) ?_
  rintro _ w9 ⟨rfl, hb⟩
  have hb := hb.below
  replace HB := HB.trans (hb.mono HB.size)
  replace HS := HS.below hb
  refine ⟨HB, _, rfl, ?_⟩
  clear hb
  refine dp_ 3 (fun _ => Run.not rfl rfl) ?_
  refine dp_ 4 (fun _ => Run.move rfl rfl) ?_
  by_cases c10 : t7 = true
  · rw [if_pos c10] at H
    refine dg_ 5 (congrArg (fun b_ => !b_) c10) (fun _ => Run.fieldAddr rfl rfl Try.underlying39 rfl (by kernel_rfl) rfl) ?_
    refine dh_ 6 (congrArg (fun b_ => !b_) c10) HB (fun w_ hw_ => Run.load rfl rfl Try.underlying3 rfl (box_cell ((HSW.below hw_).mu 0 rfl) (at39_1 (AtK.whole ((HSW.below hw_).getO 0 rfl))).int)) ?_
    obtain ⟨t11, ha12, H⟩ := bind_some H
    refine dc_ 7 (w_on rfl rfl rfl (congrArg (fun b_ => !b_) c10)) Try.func70 (impl_in.calls x0.f1 1 2 t11 _ ha12) ?_
    rintro _ w13 ⟨rfl, hb⟩
    have hb := hb.below
    replace HB := HB.trans (hb.mono HB.size)
    replace HS := HS.below hb
    refine ⟨HB, _, rfl, ?_⟩
    clear hb
    refine dg_ 8 (congrArg (fun b_ => !b_) c10) (fun _ => Run.not rfl rfl) ?_
    refine dp_ 9 (fun _ => Run.pickF rfl rfl (congrArg (fun b_ => !b_) c10) rfl) ?_
    refine dp_ 10 (fun _ => Run.move rfl rfl) ?_
    by_cases c14 : t11 = true
    · rw [if_pos c14] at H
      refine dg_ 11 (congrArg (fun b_ => !b_) c14) (fun _ => Run.fieldAddr rfl rfl Try.underlying39 rfl (by kernel_rfl) rfl) ?_
      obtain ⟨A15, c16, hc17, le18⟩ := (at39_3 (AtK.whole (HS.getO 0 rfl))).slice
      replace HS := HS.deriveO (p := (fun W => k112.C W A15 x0.f3.length x0.f3)) (fun W_ hO_ hN_ => (at39_3 (AtK.whole (AllF.get 0 rfl hO_))).C hc17)
      refine dh_ 12 (congrArg (fun b_ => !b_) c14) HB (fun w_ hw_ => Run.load rfl rfl Try.underlying34 rfl (box_cell ((HSW.below hw_).mu 0 rfl) hc17)) ?_
      obtain ⟨t19, ha20, H⟩ := bind_some H
      refine dc_ 13 (w_on rfl rfl rfl (congrArg (fun b_ => !b_) c14)) Try.func71 (impl_MergesOk.runs k A15 c16 x0.f3 t19 _ (HS.getO 0 rfl) le18 ha20) ?_
      rintro _ w21 ⟨rfl, hb⟩
      replace HB := HB.trans (hb.mono HB.size)
      replace HS := HS.below hb
      refine ⟨HB, _, rfl, ?_⟩
      clear hb
      refine dg_ 14 (congrArg (fun b_ => !b_) c14) (fun _ => Run.not rfl rfl) ?_
      refine dp_ 15 (fun _ => Run.pickF rfl rfl (congrArg (fun b_ => !b_) c14) rfl) ?_
      refine dp_ 16 (fun _ => Run.move rfl rfl) ?_
      by_cases c22 : t19 = true
      · rw [if_pos c22] at H
        refine dg_ 17 (congrArg (fun b_ => !b_) c22) (fun _ => Run.fieldAddr rfl rfl Try.underlying39 rfl (by kernel_rfl) rfl) ?_
        obtain ⟨A23, c24, hc25, le26⟩ := (at39_4 (AtK.whole (HS.getO 1 rfl))).slice
        replace HS := HS.deriveO (p := (fun W => (Kd.slice 3 (Kd.int .i64)).C W A23 x0.f4.length x0.f4)) (fun W_ hO_ hN_ => (at39_4 (AtK.whole (AllF.get 1 rfl hO_))).C hc25)
        refine dh_ 18 (congrArg (fun b_ => !b_) c22) HB (fun w_ hw_ => Run.load rfl rfl Try.underlying23 rfl (box_cell ((HSW.below hw_).mu 0 rfl) hc25)) ?_
        refine dg_ 19 (congrArg (fun b_ => !b_) c22) (fun _ => Run.len (ts := #[]) rfl Try.underlying23 rfl) ?_
        refine dh_ 20 (congrArg (fun b_ => !b_) c22) HB (fun w_ hw_ => Run.loadS (cs := cs0) rfl rfl Try.underlying39 rfl (by rw [el0]; kernel_rfl) (box_part ((HSW.below hw_).mu 0 rfl) part_all)) ?_
        obtain ⟨t27, ha28, H⟩ := bind_some H
        refine dc_ 21 (w_on rfl rfl rfl (congrArg (fun b_ => !b_) c22)) Try.func17 (impl_Vocab.runs k cs0 x0 t27 _ (HS.getO 2 rfl) ha28) ?_
        rintro _ w29 ⟨rfl, hb⟩
        replace HB := HB.trans (hb.mono HB.size)
        replace HS := HS.below hb
        refine ⟨HB, _, rfl, ?_⟩
        clear hb
        refine dg_ 22 (congrArg (fun b_ => !b_) c22) (fun _ => Run.bin rfl rfl rfl bin_neq) ?_
        refine dp_ 23 (fun _ => Run.pickF rfl rfl (congrArg (fun b_ => !b_) c22) rfl) ?_
        refine dp_ 24 (fun _ => Run.move rfl rfl) ?_
        by_cases c30 : (x0.f4.length : Int) = t27
        · rw [if_pos c30] at H
          refine dg_ 25 (bne_eq_false_iff_eq.mpr c30) (fun _ => Run.fieldAddr rfl rfl Try.underlying39 rfl (by kernel_rfl) rfl) ?_
          obtain ⟨A31, c32, hc33, le34⟩ := (at39_5 (AtK.whole (HS.getO 2 rfl))).slice
          replace HS := HS.deriveO (p := (fun W => k48.C W A31 x0.f5.length x0.f5)) (fun W_ hO_ hN_ => (at39_5 (AtK.whole (AllF.get 2 rfl hO_))).C hc33)
          refine dh_ 26 (bne_eq_false_iff_eq.mpr c30) HB (fun w_ hw_ => Run.load rfl rfl Try.underlying35 rfl (box_cell ((HSW.below hw_).mu 0 rfl) hc33)) ?_
          refine dg_ 27 (bne_eq_false_iff_eq.mpr c30) (fun _ => Run.len (ts := #[]) rfl Try.underlying35 rfl) ?_
          obtain ⟨t35, ha36, H⟩ := bind_some H
          refine dc_ 28 (w_on rfl rfl rfl (bne_eq_false_iff_eq.mpr c30)) Try.func70 (impl_in.calls (x0.f5.length : Int) 1 2 t35 _ ha36) ?_
          rintro _ w37 ⟨rfl, hb⟩
          have hb := hb.below
          replace HB := HB.trans (hb.mono HB.size)
          replace HS := HS.below hb
          refine ⟨HB, _, rfl, ?_⟩
          clear hb
          refine dg_ 29 (bne_eq_false_iff_eq.mpr c30) (fun _ => Run.not rfl rfl) ?_
          refine dp_ 30 (fun _ => Run.pickF rfl rfl (bne_eq_false_iff_eq.mpr c30) rfl) ?_
          refine WD.done (by kernel_rfl) ?_
          clear HB HSW
          refine WQ.via (fun _ _ h_ => h_) hK5 ?_
          by_cases c38 : t35 = true
          · rw [if_pos c38] at H
            refine WC.no rfl (congrArg (fun b_ => !b_) c38) ?_
            refine WC.skip ?_
            refine WQ.via (fun _ _ h_ => h_) hK4 ?_
            refine WC.seq (fun K39 hK39 => ?_)
            refine WC.seq (fun K40 hK40 => ?_)
            refine WC.region ?_
            refine v_ (Run.fieldAddr rfl rfl Try.underlying39 rfl (by kernel_rfl) rfl) ?_
            refine v_ (Run.load rfl rfl Try.underlying23 rfl (box_cell (HS.mu 0 rfl) hc25)) ?_
            refine v_ (Run.makeFunc (cap := [.pointer (some ⟨b2, 0, none⟩)]) rfl rfl) ?_
            obtain ⟨t41, ha42, H⟩ := bind_some H
            refine c_ Try.func72 (slices_ContainsFunc_int_int_73.runs k A23 c24 x0.f4 b2 cs0 x0 t41 _ (HS.getO 1 rfl) le26 (HS.getO 3 rfl) (HS.mu 0 rfl) ha42) ?_
            rintro _ w43 ⟨rfl, hb⟩
            replace HS := HS.below hb
            refine ⟨_, rfl, ?_⟩
            clear hb
            refine WL.done ?_
            refine WQ.via (fun _ _ h_ => h_) hK40 ?_
            by_cases c44 : t41 = true
            · rw [if_pos c44] at H
              refine WC.yes rfl c44 ?_
              refine WC.seq (fun K45 hK45 => ?_)
              refine WC.region ?_
              refine as_ ?_
              refine WL.done ?_
              refine WQ.via (fun _ _ h_ => h_) hK45 ?_
              refine WC.ret ?_
              obtain rfl := Option.some.inj H
              refine WQ.fin (e' := .ret) (fn := Try.f25) (fun _ _ h_ => h_) (WQ.ret1 rfl rfl ?_)
              exact hR_ _ _ ⟨rfl, HS.b⟩
            · rw [if_neg c44] at H
              refine WC.no rfl (Bool.eq_false_iff.mpr c44) ?_
              refine WC.skip ?_
              refine WQ.via (fun _ _ h_ => h_) hK39 ?_
              refine WC.seq (fun K46 hK46 => ?_)
              refine WC.seq (fun K47 hK47 => ?_)
              refine WC.region ?_
              refine v_ (Run.fieldAddr rfl rfl Try.underlying39 rfl (by kernel_rfl) rfl) ?_
              refine v_ (Run.load rfl rfl Try.underlying35 rfl (box_cell (HS.mu 0 rfl) hc33)) ?_
              refine v_ (Run.makeFunc (cap := [.pointer (some ⟨b2, 0, none⟩)]) rfl rfl) ?_
              obtain ⟨t48, ha49, H⟩ := bind_some H
              refine c_ Try.func75 (slices_ContainsFunc_impl_Layer_impl_Layer_76.runs k A31 c32 x0.f5 b2 cs0 x0 t48 _ (HS.getO 0 rfl) le34 (HS.getO 3 rfl) (HS.mu 0 rfl) ha49) ?_
              rintro _ w50 ⟨rfl, hb⟩
              replace HS := HS.below hb
              refine ⟨_, rfl, ?_⟩
              clear hb
              refine WL.done ?_
              refine WQ.via (fun _ _ h_ => h_) hK47 ?_
              by_cases c51 : t48 = true
              · rw [if_pos c51] at H
                refine WC.yes rfl c51 ?_
                refine WC.seq (fun K52 hK52 => ?_)
                refine WC.region ?_
                refine as_ ?_
                refine WL.done ?_
                refine WQ.via (fun _ _ h_ => h_) hK52 ?_
                refine WC.ret ?_
                obtain rfl := Option.some.inj H
                refine WQ.fin (e' := .ret) (fn := Try.f25) (fun _ _ h_ => h_) (WQ.ret1 rfl rfl ?_)
                exact hR_ _ _ ⟨rfl, HS.b⟩
              · rw [if_neg c51] at H
                refine WC.no rfl (Bool.eq_false_iff.mpr c51) ?_
                refine WC.skip ?_
                refine WQ.via (fun _ _ h_ => h_) hK46 ?_
                refine WC.seq (fun K53 hK53 => ?_)
                refine WC.drawS HS [] rfl rfl (fun w54 HS => ?_)
                have HB := Below.refl w54.heap.size w54
                have HSW := HS
                refine dp_ 0 (fun _ => Run.fieldAddr rfl rfl Try.underlying39 rfl (by kernel_rfl) rfl) ?_
                refine dp_ 2 (fun _ => Run.fieldAddr rfl rfl Try.underlying39 rfl (by kernel_rfl) rfl) ?_
                obtain ⟨A55, c56, hc57, le58⟩ := (at39_6 (AtK.whole (HS.getO 3 rfl))).slice
                replace HS := HS.deriveO (p := (fun W => (Kd.int .i64).C W A55 x0.f6.length x0.f6)) (fun W_ hO_ hN_ => (at39_6 (AtK.whole (AllF.get 3 rfl hO_))).C hc57)
                refine dt_ 1 (Below.refl _ _) (fun w_ hw_ => Run.load rfl rfl Try.underlying25 rfl (box_cell ((HS.below hw_).mu 0 rfl) hc57)) ?_
                refine dt_ 3 (Below.refl _ _) (fun w_ hw_ => Run.load rfl rfl Try.underlying3 rfl (box_cell ((HS.below hw_).mu 0 rfl) (at39_0 (AtK.whole ((HS.below hw_).getO 4 rfl))).int)) ?_
                obtain ⟨t59, ha60, H⟩ := bind_some H
                refine dc_ 4 (w_none rfl) Try.func28 (impl_GainOk.calls A55 c56 x0.f6 x0.f0 t59 _ (HS.getO 0 rfl) le58 ha60) ?_
                rintro _ w61 ⟨rfl, hb⟩
                replace HB := HB.trans (hb.mono HB.size)
                replace HS := HS.below hb
                refine ⟨HB, _, rfl, ?_⟩
                clear hb
                refine dp_ 5 (fun _ => Run.move rfl rfl) ?_
                by_cases c62 : t59 = true
                · rw [if_pos c62] at H
                  refine dg_ 6 c62 (fun _ => Run.fieldAddr rfl rfl Try.underlying39 rfl (by kernel_rfl) rfl) ?_
                  refine dg_ 8 c62 (fun _ => Run.fieldAddr rfl rfl Try.underlying39 rfl (by kernel_rfl) rfl) ?_
                  obtain ⟨A63, c64, hc65, le66⟩ := (at39_8 (AtK.whole (HS.getO 4 rfl))).slice
                  replace HS := HS.deriveO (p := (fun W => (Kd.slice 3 (Kd.int .i64)).C W A63 x0.f7.f1.length x0.f7.f1)) (fun W_ hO_ hN_ => (at39_8 (AtK.whole (AllF.get 4 rfl hO_))).C hc65)
                  obtain ⟨A67, c68, hc69, le70⟩ := (at39_9 (AtK.whole (HS.getO 5 rfl))).slice
                  replace HS := HS.deriveO (p := (fun W => (Kd.slice 3 (Kd.int .i64)).C W A67 x0.f7.f2.length x0.f7.f2)) (fun W_ hO_ hN_ => (at39_9 (AtK.whole (AllF.get 5 rfl hO_))).C hc69)
                  refine dh_ 7 c62 HB (fun w_ hw_ => Run.loadS (cs := [.int .i64 x0.f7.f0, .slice A63 x0.f7.f1.length c64, .slice A67 x0.f7.f2.length c68, .int .i64 x0.f7.f3, .int .i64 x0.f7.f4]) rfl rfl Try.underlying36 rfl (by kernel_rfl) (box_part ((HSW.below hw_).mu 0 rfl) (part_cons (at39_7 (AtK.whole ((HSW.below hw_).getO 3 rfl))).int (part_cons hc65 (part_cons hc69 (part_cons (at39_10 (AtK.whole ((HSW.below hw_).getO 3 rfl))).int (part_cons (at39_11 (AtK.whole ((HSW.below hw_).getO 3 rfl))).int part_nil))))))) ?_
                  refine dh_ 9 c62 HB (fun w_ hw_ => Run.load rfl rfl Try.underlying3 rfl (box_cell ((HSW.below hw_).mu 0 rfl) (at39_0 (AtK.whole ((HSW.below hw_).getO 3 rfl))).int)) ?_
                  refine dh_ 10 c62 HB (fun w_ hw_ => Run.loadS (cs := cs0) rfl rfl Try.underlying39 rfl (by rw [el0]; kernel_rfl) (box_part ((HSW.below hw_).mu 0 rfl) part_all)) ?_
                  obtain ⟨t71, ha72, H⟩ := bind_some H
                  refine dc_ 11 (w_on rfl rfl rfl c62) Try.func17 (impl_Vocab.runs k cs0 x0 t71 _ (HS.getO 6 rfl) ha72) ?_
                  rintro _ w73 ⟨rfl, hb⟩
                  replace HB := HB.trans (hb.mono HB.size)
                  replace HS := HS.below hb
                  refine ⟨HB, _, rfl, ?_⟩
                  clear hb
                  obtain ⟨t74, ha75, H⟩ := bind_some H
                  refine dc_ 12 (w_on rfl rfl rfl c62) Try.func65 (impl_withinBudget.calls k x0.f7.f0 A63 c64 x0.f7.f1 A67 c68 x0.f7.f2 x0.f7.f3 x0.f7.f4 x0.f0 t71 t74 _ (HS.getO 1 rfl) le66 (HS.getO 0 rfl) le70 ha75) ?_
                  rintro _ w76 ⟨rfl, hb⟩
                  replace HB := HB.trans (hb.mono HB.size)
                  replace HS := HS.below hb
                  refine ⟨HB, _, rfl, ?_⟩
                  clear hb
                  refine dp_ 13 (fun _ => Run.pickT rfl rfl c62 rfl) ?_
                  refine dp_ 14 (fun _ => Run.move rfl rfl) ?_
                  by_cases c77 : t74 = true
                  · rw [if_pos c77] at H
                    refine dg_ 15 c77 (fun _ => Run.fieldAddr rfl rfl Try.underlying39 rfl (by kernel_rfl) rfl) ?_
                    refine dg_ 17 c77 (fun _ => Run.fieldAddr rfl rfl Try.underlying39 rfl (by kernel_rfl) rfl) ?_
                    refine dg_ 19 c77 (fun _ => Run.fieldAddr rfl rfl Try.underlying39 rfl (by kernel_rfl) rfl) ?_
                    refine dg_ 21 c77 (fun _ => Run.fieldAddr rfl rfl Try.underlying39 rfl (by kernel_rfl) rfl) ?_
                    obtain ⟨A78, c79, hc80, le81⟩ := (at39_12 (AtK.whole (HS.getO 6 rfl))).slice
                    replace HS := HS.deriveO (p := (fun W => (Kd.slice 3 (Kd.int .i64)).C W A78 x0.f8.f0.length x0.f8.f0)) (fun W_ hO_ hN_ => (at39_12 (AtK.whole (AllF.get 6 rfl hO_))).C hc80)
                    obtain ⟨A82, c83, hc84, le85⟩ := (at39_13 (AtK.whole (HS.getO 7 rfl))).slice
                    replace HS := HS.deriveO (p := (fun W => (Kd.slice 3 (Kd.int .i64)).C W A82 x0.f8.f1.length x0.f8.f1)) (fun W_ hO_ hN_ => (at39_13 (AtK.whole (AllF.get 7 rfl hO_))).C hc84)
                    refine dh_ 16 c77 HB (fun w_ hw_ => Run.loadS (cs := [.slice A78 x0.f8.f0.length c79, .slice A82 x0.f8.f1.length c83]) rfl rfl Try.underlying37 rfl (by kernel_rfl) (box_part ((HSW.below hw_).mu 0 rfl) (part_cons hc80 (part_cons hc84 part_nil)))) ?_
                    refine dh_ 18 c77 HB (fun w_ hw_ => Run.load rfl rfl Try.underlying3 rfl (box_cell ((HSW.below hw_).mu 0 rfl) (at39_2 (AtK.whole ((HSW.below hw_).getO 3 rfl))).int)) ?_
                    refine dh_ 20 c77 HB (fun w_ hw_ => Run.load rfl rfl Try.underlying3 rfl (box_cell ((HSW.below hw_).mu 0 rfl) (at39_0 (AtK.whole ((HSW.below hw_).getO 3 rfl))).int)) ?_
                    refine dh_ 22 c77 HB (fun w_ hw_ => Run.load rfl rfl Try.underlying3 rfl (box_cell ((HSW.below hw_).mu 0 rfl) (at39_1 (AtK.whole ((HSW.below hw_).getO 3 rfl))).int)) ?_
                    obtain ⟨z86, H⟩ := if_some H
                    refine dg_ 23 c77 (fun _ => Run.bin rfl rfl rfl (bin_quo64 z86)) ?_
                    refine dg_ 24 c77 (fun _ => Run.bin rfl rfl rfl (bin_quo64 (show (2 : Int) ≠ 0 by decide))) ?_
                    obtain ⟨t87, ha88, H⟩ := bind_some H
                    refine dc_ 25 (w_on rfl rfl rfl c77) Try.func77 (impl_TurnsOk.calls A78 c79 x0.f8.f0 A82 c83 x0.f8.f1 x0.f2 (wrap64 (Int.tdiv (wrap64 (Int.tdiv x0.f0 x0.f1)) 2)) t87 _ (HS.getO 1 rfl) le81 (HS.getO 0 rfl) le85 ha88) ?_
                    rintro _ w89 ⟨rfl, hb⟩
                    replace HB := HB.trans (hb.mono HB.size)
                    replace HS := HS.below hb
                    refine ⟨HB, _, rfl, ?_⟩
                    clear hb
                    refine dp_ 26 (fun _ => Run.pickT rfl rfl c77 rfl) ?_
                    refine dp_ 27 (fun _ => Run.assign rfl rfl) ?_
                    refine WD.done (by kernel_rfl) ?_
                    clear HB HSW
                    refine WQ.via (fun _ _ h_ => h_) hK53 ?_
                    refine WC.ret ?_
                    obtain rfl := Option.some.inj H
                    refine WQ.fin (e' := .ret) (fn := Try.f25) (fun _ _ h_ => h_) (WQ.ret1 rfl rfl ?_)
                    exact hR_ _ _ ⟨rfl, HS.b⟩
                  · rw [if_neg c77] at H
                    refine do_ (c' := false) 15 (Bool.eq_false_iff.mpr c77) ?_
                    refine do_ (c' := false) 16 (Bool.eq_false_iff.mpr c77) ?_
                    refine do_ (c' := false) 17 (Bool.eq_false_iff.mpr c77) ?_
                    refine do_ (c' := false) 18 (Bool.eq_false_iff.mpr c77) ?_
                    refine do_ (c' := false) 19 (Bool.eq_false_iff.mpr c77) ?_
                    refine do_ (c' := false) 20 (Bool.eq_false_iff.mpr c77) ?_
                    refine do_ (c' := false) 21 (Bool.eq_false_iff.mpr c77) ?_
                    refine do_ (c' := false) 22 (Bool.eq_false_iff.mpr c77) ?_
                    refine do_ (c' := false) 23 (Bool.eq_false_iff.mpr c77) ?_
                    refine do_ (c' := false) 24 (Bool.eq_false_iff.mpr c77) ?_
                    refine do_ (c' := false) 25 (Bool.eq_false_iff.mpr c77) ?_
                    refine dp_ 26 (fun _ => Run.pickF rfl rfl (Bool.eq_false_iff.mpr c77) rfl) ?_
                    refine dp_ 27 (fun _ => Run.assign rfl rfl) ?_
                    refine WD.done (by kernel_rfl) ?_
                    clear HB HSW
                    refine WQ.via (fun _ _ h_ => h_) hK53 ?_
                    refine WC.ret ?_
                    obtain rfl := Option.some.inj H
                    refine WQ.fin (e' := .ret) (fn := Try.f25) (fun _ _ h_ => h_) (WQ.ret1 rfl rfl ?_)
                    exact hR_ _ _ ⟨rfl, HS.b⟩
                · rw [if_neg c62] at H
                  refine do_ (c' := false) 6 (Bool.eq_false_iff.mpr c62) ?_
                  refine do_ (c' := false) 7 (Bool.eq_false_iff.mpr c62) ?_
                  refine do_ (c' := false) 8 (Bool.eq_false_iff.mpr c62) ?_
                  refine do_ (c' := false) 9 (Bool.eq_false_iff.mpr c62) ?_
                  refine do_ (c' := false) 10 (Bool.eq_false_iff.mpr c62) ?_
                  refine do_ (c' := false) 11 (Bool.eq_false_iff.mpr c62) ?_
                  refine do_ (c' := false) 12 (Bool.eq_false_iff.mpr c62) ?_
                  refine dp_ 13 (fun _ => Run.pickF rfl rfl (Bool.eq_false_iff.mpr c62) rfl) ?_
                  refine dp_ 14 (fun _ => Run.move rfl rfl) ?_
                  refine do_ (c' := false) 15 rfl ?_
                  refine do_ (c' := false) 16 rfl ?_
                  refine do_ (c' := false) 17 rfl ?_
                  refine do_ (c' := false) 18 rfl ?_
                  refine do_ (c' := false) 19 rfl ?_
                  refine do_ (c' := false) 20 rfl ?_
                  refine do_ (c' := false) 21 rfl ?_
                  refine do_ (c' := false) 22 rfl ?_
                  refine do_ (c' := false) 23 rfl ?_
                  refine do_ (c' := false) 24 rfl ?_
                  refine do_ (c' := false) 25 rfl ?_
                  refine dp_ 26 (fun _ => Run.pickF rfl rfl rfl rfl) ?_
                  refine dp_ 27 (fun _ => Run.assign rfl rfl) ?_
                  refine WD.done (by kernel_rfl) ?_
                  clear HB HSW
                  refine WQ.via (fun _ _ h_ => h_) hK53 ?_
                  refine WC.ret ?_
                  obtain rfl := Option.some.inj H
                  refine WQ.fin (e' := .ret) (fn := Try.f25) (fun _ _ h_ => h_) (WQ.ret1 rfl rfl ?_)
                  exact hR_ _ _ ⟨rfl, HS.b⟩
          · rw [if_neg c38] at H
            refine WC.yes rfl (congrArg (fun b_ => !b_) (Bool.eq_false_iff.mpr c38)) ?_
            refine WC.seq (fun K90 hK90 => ?_)
            refine WC.region ?_
            refine as_ ?_
            refine WL.done ?_
            refine WQ.via (fun _ _ h_ => h_) hK90 ?_
            refine WC.ret ?_
            obtain rfl := Option.some.inj H
            refine WQ.fin (e' := .ret) (fn := Try.f25) (fun _ _ h_ => h_) (WQ.ret1 rfl rfl ?_)
            exact hR_ _ _ ⟨rfl, HS.b⟩
        · rw [if_neg c30] at H
          refine do_ (c' := true) 25 (bne_iff_ne.mpr c30) ?_
          refine do_ (c' := true) 26 (bne_iff_ne.mpr c30) ?_
          refine do_ (c' := true) 27 (bne_iff_ne.mpr c30) ?_
          refine do_ (c' := true) 28 (bne_iff_ne.mpr c30) ?_
          refine do_ (c' := true) 29 (bne_iff_ne.mpr c30) ?_
          refine dp_ 30 (fun _ => Run.pickT rfl rfl (bne_iff_ne.mpr c30) rfl) ?_
          refine WD.done (by kernel_rfl) ?_
          clear HB HSW
          refine WQ.via (fun _ _ h_ => h_) hK5 ?_
          refine WC.yes rfl rfl ?_
          refine WC.seq (fun K91 hK91 => ?_)
          refine WC.region ?_
          refine as_ ?_
          refine WL.done ?_
          refine WQ.via (fun _ _ h_ => h_) hK91 ?_
          refine WC.ret ?_
          obtain rfl := Option.some.inj H
          refine WQ.fin (e' := .ret) (fn := Try.f25) (fun _ _ h_ => h_) (WQ.ret1 rfl rfl ?_)
          exact hR_ _ _ ⟨rfl, HS.b⟩
      · rw [if_neg c22] at H
        refine do_ (c' := true) 17 (congrArg (fun b_ => !b_) (Bool.eq_false_iff.mpr c22)) ?_
        refine do_ (c' := true) 18 (congrArg (fun b_ => !b_) (Bool.eq_false_iff.mpr c22)) ?_
        refine do_ (c' := true) 19 (congrArg (fun b_ => !b_) (Bool.eq_false_iff.mpr c22)) ?_
        refine do_ (c' := true) 20 (congrArg (fun b_ => !b_) (Bool.eq_false_iff.mpr c22)) ?_
        refine do_ (c' := true) 21 (congrArg (fun b_ => !b_) (Bool.eq_false_iff.mpr c22)) ?_
        refine do_ (c' := true) 22 (congrArg (fun b_ => !b_) (Bool.eq_false_iff.mpr c22)) ?_
        refine dp_ 23 (fun _ => Run.pickT rfl rfl (congrArg (fun b_ => !b_) (Bool.eq_false_iff.mpr c22)) rfl) ?_
        refine dp_ 24 (fun _ => Run.move rfl rfl) ?_
        refine do_ (c' := true) 25 rfl ?_
        refine do_ (c' := true) 26 rfl ?_
        refine do_ (c' := true) 27 rfl ?_
        refine do_ (c' := true) 28 rfl ?_
        refine do_ (c' := true) 29 rfl ?_
        refine dp_ 30 (fun _ => Run.pickT rfl rfl rfl rfl) ?_
        refine WD.done (by kernel_rfl) ?_
        clear HB HSW
        refine WQ.via (fun _ _ h_ => h_) hK5 ?_
        refine WC.yes rfl rfl ?_
        refine WC.seq (fun K92 hK92 => ?_)
        refine WC.region ?_
        refine as_ ?_
        refine WL.done ?_
        refine WQ.via (fun _ _ h_ => h_) hK92 ?_
        refine WC.ret ?_
        obtain rfl := Option.some.inj H
        refine WQ.fin (e' := .ret) (fn := Try.f25) (fun _ _ h_ => h_) (WQ.ret1 rfl rfl ?_)
        exact hR_ _ _ ⟨rfl, HS.b⟩
    · rw [if_neg c14] at H
      refine do_ (c' := true) 11 (congrArg (fun b_ => !b_) (Bool.eq_false_iff.mpr c14)) ?_
      refine do_ (c' := true) 12 (congrArg (fun b_ => !b_) (Bool.eq_false_iff.mpr c14)) ?_
      refine do_ (c' := true) 13 (congrArg (fun b_ => !b_) (Bool.eq_false_iff.mpr c14)) ?_
      refine do_ (c' := true) 14 (congrArg (fun b_ => !b_) (Bool.eq_false_iff.mpr c14)) ?_
      refine dp_ 15 (fun _ => Run.pickT rfl rfl (congrArg (fun b_ => !b_) (Bool.eq_false_iff.mpr c14)) rfl) ?_
      refine dp_ 16 (fun _ => Run.move rfl rfl) ?_
      refine do_ (c' := true) 17 rfl ?_
      refine do_ (c' := true) 18 rfl ?_
      refine do_ (c' := true) 19 rfl ?_
      refine do_ (c' := true) 20 rfl ?_
      refine do_ (c' := true) 21 rfl ?_
      refine do_ (c' := true) 22 rfl ?_
      refine dp_ 23 (fun _ => Run.pickT rfl rfl rfl rfl) ?_
      refine dp_ 24 (fun _ => Run.move rfl rfl) ?_
      refine do_ (c' := true) 25 rfl ?_
      refine do_ (c' := true) 26 rfl ?_
      refine do_ (c' := true) 27 rfl ?_
      refine do_ (c' := true) 28 rfl ?_
      refine do_ (c' := true) 29 rfl ?_
      refine dp_ 30 (fun _ => Run.pickT rfl rfl rfl rfl) ?_
      refine WD.done (by kernel_rfl) ?_
      clear HB HSW
      refine WQ.via (fun _ _ h_ => h_) hK5 ?_
      refine WC.yes rfl rfl ?_
      refine WC.seq (fun K93 hK93 => ?_)
      refine WC.region ?_
      refine as_ ?_
      refine WL.done ?_
      refine WQ.via (fun _ _ h_ => h_) hK93 ?_
      refine WC.ret ?_
      obtain rfl := Option.some.inj H
      refine WQ.fin (e' := .ret) (fn := Try.f25) (fun _ _ h_ => h_) (WQ.ret1 rfl rfl ?_)
      exact hR_ _ _ ⟨rfl, HS.b⟩
  · rw [if_neg c10] at H
    refine do_ (c' := true) 5 (congrArg (fun b_ => !b_) (Bool.eq_false_iff.mpr c10)) ?_
    refine do_ (c' := true) 6 (congrArg (fun b_ => !b_) (Bool.eq_false_iff.mpr c10)) ?_
    refine do_ (c' := true) 7 (congrArg (fun b_ => !b_) (Bool.eq_false_iff.mpr c10)) ?_
    refine do_ (c' := true) 8 (congrArg (fun b_ => !b_) (Bool.eq_false_iff.mpr c10)) ?_
    refine dp_ 9 (fun _ => Run.pickT rfl rfl (congrArg (fun b_ => !b_) (Bool.eq_false_iff.mpr c10)) rfl) ?_
    refine dp_ 10 (fun _ => Run.move rfl rfl) ?_
    refine do_ (c' := true) 11 rfl ?_
    refine do_ (c' := true) 12 rfl ?_
    refine do_ (c' := true) 13 rfl ?_
    refine do_ (c' := true) 14 rfl ?_
    refine dp_ 15 (fun _ => Run.pickT rfl rfl rfl rfl) ?_
    refine dp_ 16 (fun _ => Run.move rfl rfl) ?_
    refine do_ (c' := true) 17 rfl ?_
    refine do_ (c' := true) 18 rfl ?_
    refine do_ (c' := true) 19 rfl ?_
    refine do_ (c' := true) 20 rfl ?_
    refine do_ (c' := true) 21 rfl ?_
    refine do_ (c' := true) 22 rfl ?_
    refine dp_ 23 (fun _ => Run.pickT rfl rfl rfl rfl) ?_
    refine dp_ 24 (fun _ => Run.move rfl rfl) ?_
    refine do_ (c' := true) 25 rfl ?_
    refine do_ (c' := true) 26 rfl ?_
    refine do_ (c' := true) 27 rfl ?_
    refine do_ (c' := true) 28 rfl ?_
    refine do_ (c' := true) 29 rfl ?_
    refine dp_ 30 (fun _ => Run.pickT rfl rfl rfl rfl) ?_
    refine WD.done (by kernel_rfl) ?_
    clear HB HSW
    refine WQ.via (fun _ _ h_ => h_) hK5 ?_
    refine WC.yes rfl rfl ?_
    refine WC.seq (fun K94 hK94 => ?_)
    refine WC.region ?_
    refine as_ ?_
    refine WL.done ?_
    refine WQ.via (fun _ _ h_ => h_) hK94 ?_
    refine WC.ret ?_
    obtain rfl := Option.some.inj H
    refine WQ.fin (e' := .ret) (fn := Try.f25) (fun _ _ h_ => h_) (WQ.ret1 rfl rfl ?_)
    exact hR_ _ _ ⟨rfl, HS.b⟩
def laws_szLayer.g (k : Nat) (x0 : S44) (a1 : Int) : Option Int := ((laws_szIntS.f x0.f0 a1).bind fun t9 => (if t9 < 0 then (some (-1)) else ((laws_szMatrix.g k x0.f1 t9).bind fun t25 => (if t25 < 0 then (some (-1)) else ((laws_szMatrix.g k x0.f2 t25).bind fun t41 => (if t41 < 0 then (some (-1)) else ((laws_szMatrix.g k x0.f3 t41).bind fun t57 => (if t57 < 0 then (some (-1)) else ((laws_szMatrix.g k x0.f4 t57).bind fun t73 => (if t73 < 0 then (some (-1)) else ((laws_szIntS.f x0.f5 t73).bind fun t85 => (if t85 < 0 then (some (-1)) else ((laws_szMatrix.g k x0.f6 t85).bind fun t101 => (if t101 < 0 then (some (-1)) else ((laws_szMatrix.g k x0.f7 t101).bind fun t117 => (if t117 < 0 then (some (-1)) else (some t117)))))))))))))))))
set_option maxHeartbeats 4000000 in
set_option maxRecDepth 20000 in
theorem laws_szLayer.runs (k : Nat) (cs0 : List Value) (x0 : S44) (a1 : Int) (r : Int) (w : World) (hk0 : k44.K w x0 cs0) (H : laws_szLayer.g k x0 a1 = some r) :
    Calls Try.prog 19 #[.agg cs0.toArray, .int .i64 a1] w fun e w' => e = .returned (.int .i64 r) ∧ Below w.heap.size w w' := by
  have el0 : cs0.length = 32 := k44.K_len hk0
  unfold laws_szLayer.g at H
  have HS : St (fun _ => True) w w [] [(fun W => k44.K W x0 cs0)] [] := St.start (foot_cons (foot_K h44 hk0) foot_nil)
  refine calls_W Try.func19 rfl rfl (Nat.le_of_ble_eq_true rfl) (fun R_ hR_ => ?_)
  refine WC.seq (fun K1 hK1 => ?_)
  refine WC.region ?_
  refine WL.box HS rfl rfl (by decide) rfl rfl rfl (fun b2 w3 hb2 HS => ?_)
  refine as_ ?_
  refine WL.done ?_
  refine WQ.via (fun _ _ h_ => h_) hK1 ?_
  refine WC.seq (fun K4 hK4 => ?_)
  refine WC.region ?_
  refine v_ (Run.fieldAddr rfl rfl Try.underlying44 rfl (by kernel_rfl) rfl) ?_
  obtain ⟨A5, c6, hc7, le8⟩ := (at44_0 (AtK.whole (HS.getO 0 rfl))).slice
  replace HS := HS.deriveO (p := (fun W => (Kd.int .i64).C W A5 x0.f0.length x0.f0)) (fun W_ hO_ hN_ => (at44_0 (AtK.whole (AllF.get 0 rfl hO_))).C hc7)
  refine v_ (Run.load rfl rfl Try.underlying25 rfl (box_cell (HS.mu 0 rfl) hc7)) ?_
  refine mv_ ?_
  obtain ⟨t9, ha10, H⟩ := bind_some H
  refine c_ Try.func46 (laws_szIntS.calls A5 c6 x0.f0 a1 t9 _ (HS.getO 0 rfl) le8 ha10) ?_
  rintro _ w11 ⟨rfl, hb⟩
  have hb := hb.below
  replace HS := HS.below hb
  refine ⟨_, rfl, ?_⟩
  clear hb
  refine as_ ?_
  refine WL.done ?_
  refine WQ.via (fun _ _ h_ => h_) hK4 ?_
  refine WC.seq (fun K12 hK12 => ?_)
  refine WC.seq (fun K13 hK13 => ?_)
  refine WC.region ?_
  refine mv_ ?_
  refine v_ (Run.bin rfl rfl rfl bin_lss) ?_
  refine WL.done ?_
  refine WQ.via (fun _ _ h_ => h_) hK13 ?_
  by_cases c14 : t9 < 0
  · rw [if_pos c14] at H
    refine WC.yes rfl (decide_eq_true c14) ?_
    refine WC.seq (fun K15 hK15 => ?_)
    refine WC.region ?_
    refine as_ ?_
    refine WL.done ?_
    refine WQ.via (fun _ _ h_ => h_) hK15 ?_
    refine WC.ret ?_
    obtain rfl := Option.some.inj H
    refine WQ.fin (e' := .ret) (fn := Try.f19) (fun _ _ h_ => h_) (WQ.ret1 rfl rfl ?_)
    exact hR_ _ _ ⟨rfl, HS.b⟩
  · rw [if_neg c14] at H
    refine WC.no rfl (decide_eq_false c14) ?_
    refine WC.skip ?_
    refine WQ.via (fun _ _ h_ => h_) hK12 ?_
    refine WC.seq (fun K16 hK16 => ?_)
    refine WC.region ?_
    refine v_ (Run.fieldAddr rfl rfl Try.underlying44 rfl (by kernel_rfl) rfl) ?_
    obtain ⟨A17, c18, hc19, le20⟩ := (at44_2 (AtK.whole (HS.getO 1 rfl))).slice
    replace HS := HS.deriveO (p := (fun W => (Kd.slice 3 (Kd.int .i64)).C W A17 x0.f1.f1.length x0.f1.f1)) (fun W_ hO_ hN_ => (at44_2 (AtK.whole (AllF.get 1 rfl hO_))).C hc19)
    obtain ⟨A21, c22, hc23, le24⟩ := (at44_3 (AtK.whole (HS.getO 2 rfl))).slice
    replace HS := HS.deriveO (p := (fun W => (Kd.slice 3 (Kd.int .i64)).C W A21 x0.f1.f2.length x0.f1.f2)) (fun W_ hO_ hN_ => (at44_3 (AtK.whole (AllF.get 2 rfl hO_))).C hc23)
    refine v_ (Run.loadS (cs := [.int .i64 x0.f1.f0, .slice A17 x0.f1.f1.length c18, .slice A21 x0.f1.f2.length c22, .int .i64 x0.f1.f3, .int .i64 x0.f1.f4]) rfl rfl Try.underlying27 rfl (by kernel_rfl) (box_part (HS.mu 0 rfl) (part_cons (at44_1 (AtK.whole (HS.getO 3 rfl))).int (part_cons hc19 (part_cons hc23 (part_cons (at44_4 (AtK.whole (HS.getO 3 rfl))).int (part_cons (at44_5 (AtK.whole (HS.getO 3 rfl))).int part_nil))))))) ?_
    refine mv_ ?_
    obtain ⟨t25, ha26, H⟩ := bind_some H
    refine c_ Try.func47 (laws_szMatrix.runs k x0.f1 A17 c18 A21 c22 t9 t25 _ (HS.getO 1 rfl) le20 (HS.getO 0 rfl) le24 ha26) ?_
    rintro _ w27 ⟨rfl, hb⟩
    replace HS := HS.below hb
    refine ⟨_, rfl, ?_⟩
    clear hb
    refine as_ ?_
    refine WL.done ?_
    refine WQ.via (fun _ _ h_ => h_) hK16 ?_
    refine WC.seq (fun K28 hK28 => ?_)
    refine WC.seq (fun K29 hK29 => ?_)
    refine WC.region ?_
    refine mv_ ?_
    refine v_ (Run.bin rfl rfl rfl bin_lss) ?_
    refine WL.done ?_
    refine WQ.via (fun _ _ h_ => h_) hK29 ?_
    by_cases c30 : t25 < 0
    · rw [if_pos c30] at H
      refine WC.yes rfl (decide_eq_true c30) ?_
      refine WC.seq (fun K31 hK31 => ?_)
      refine WC.region ?_
      refine as_ ?_
      refine WL.done ?_
      refine WQ.via (fun _ _ h_ => h_) hK31 ?_
      refine WC.ret ?_
      obtain rfl := Option.some.inj H
      refine WQ.fin (e' := .ret) (fn := Try.f19) (fun _ _ h_ => h_) (WQ.ret1 rfl rfl ?_)
      exact hR_ _ _ ⟨rfl, HS.b⟩
    · rw [if_neg c30] at H
      refine WC.no rfl (decide_eq_false c30) ?_
      refine WC.skip ?_
      refine WQ.via (fun _ _ h_ => h_) hK28 ?_
      refine WC.seq (fun K32 hK32 => ?_)
      refine WC.region ?_
      refine v_ (Run.fieldAddr rfl rfl Try.underlying44 rfl (by kernel_rfl) rfl) ?_
      obtain ⟨A33, c34, hc35, le36⟩ := (at44_7 (AtK.whole (HS.getO 3 rfl))).slice
      replace HS := HS.deriveO (p := (fun W => (Kd.slice 3 (Kd.int .i64)).C W A33 x0.f2.f1.length x0.f2.f1)) (fun W_ hO_ hN_ => (at44_7 (AtK.whole (AllF.get 3 rfl hO_))).C hc35)
      obtain ⟨A37, c38, hc39, le40⟩ := (at44_8 (AtK.whole (HS.getO 4 rfl))).slice
      replace HS := HS.deriveO (p := (fun W => (Kd.slice 3 (Kd.int .i64)).C W A37 x0.f2.f2.length x0.f2.f2)) (fun W_ hO_ hN_ => (at44_8 (AtK.whole (AllF.get 4 rfl hO_))).C hc39)
      refine v_ (Run.loadS (cs := [.int .i64 x0.f2.f0, .slice A33 x0.f2.f1.length c34, .slice A37 x0.f2.f2.length c38, .int .i64 x0.f2.f3, .int .i64 x0.f2.f4]) rfl rfl Try.underlying27 rfl (by kernel_rfl) (box_part (HS.mu 0 rfl) (part_cons (at44_6 (AtK.whole (HS.getO 5 rfl))).int (part_cons hc35 (part_cons hc39 (part_cons (at44_9 (AtK.whole (HS.getO 5 rfl))).int (part_cons (at44_10 (AtK.whole (HS.getO 5 rfl))).int part_nil))))))) ?_
      refine mv_ ?_
      obtain ⟨t41, ha42, H⟩ := bind_some H
      refine c_ Try.func47 (laws_szMatrix.runs k x0.f2 A33 c34 A37 c38 t25 t41 _ (HS.getO 1 rfl) le36 (HS.getO 0 rfl) le40 ha42) ?_
      rintro _ w43 ⟨rfl, hb⟩
      replace HS := HS.below hb
      refine ⟨_, rfl, ?_⟩
      clear hb
      refine as_ ?_
      refine WL.done ?_
      refine WQ.via (fun _ _ h_ => h_) hK32 ?_
      refine WC.seq (fun K44 hK44 => ?_)
      refine WC.seq (fun K45 hK45 => ?_)
      refine WC.region ?_
      refine mv_ ?_
      refine v_ (Run.bin rfl rfl rfl bin_lss) ?_
      refine WL.done ?_
      refine WQ.via (fun _ _ h_ => h_) hK45 ?_
      by_cases c46 : t41 < 0
      · rw [if_pos c46] at H
        refine WC.yes rfl (decide_eq_true c46) ?_
        refine WC.seq (fun K47 hK47 => ?_)
        refine WC.region ?_
        refine as_ ?_
        refine WL.done ?_
        refine WQ.via (fun _ _ h_ => h_) hK47 ?_
        refine WC.ret ?_
        obtain rfl := Option.some.inj H
        refine WQ.fin (e' := .ret) (fn := Try.f19) (fun _ _ h_ => h_) (WQ.ret1 rfl rfl ?_)
        exact hR_ _ _ ⟨rfl, HS.b⟩
      · rw [if_neg c46] at H
        refine WC.no rfl (decide_eq_false c46) ?_
        refine WC.skip ?_
        refine WQ.via (fun _ _ h_ => h_) hK44 ?_
        refine WC.seq (fun K48 hK48 => ?_)
        refine WC.region ?_
        refine v_ (Run.fieldAddr rfl rfl Try.underlying44 rfl (by kernel_rfl) rfl) ?_
        obtain ⟨A49, c50, hc51, le52⟩ := (at44_12 (AtK.whole (HS.getO 5 rfl))).slice
        replace HS := HS.deriveO (p := (fun W => (Kd.slice 3 (Kd.int .i64)).C W A49 x0.f3.f1.length x0.f3.f1)) (fun W_ hO_ hN_ => (at44_12 (AtK.whole (AllF.get 5 rfl hO_))).C hc51)
        obtain ⟨A53, c54, hc55, le56⟩ := (at44_13 (AtK.whole (HS.getO 6 rfl))).slice
        replace HS := HS.deriveO (p := (fun W => (Kd.slice 3 (Kd.int .i64)).C W A53 x0.f3.f2.length x0.f3.f2)) (fun W_ hO_ hN_ => (at44_13 (AtK.whole (AllF.get 6 rfl hO_))).C hc55)
        refine v_ (Run.loadS (cs := [.int .i64 x0.f3.f0, .slice A49 x0.f3.f1.length c50, .slice A53 x0.f3.f2.length c54, .int .i64 x0.f3.f3, .int .i64 x0.f3.f4]) rfl rfl Try.underlying27 rfl (by kernel_rfl) (box_part (HS.mu 0 rfl) (part_cons (at44_11 (AtK.whole (HS.getO 7 rfl))).int (part_cons hc51 (part_cons hc55 (part_cons (at44_14 (AtK.whole (HS.getO 7 rfl))).int (part_cons (at44_15 (AtK.whole (HS.getO 7 rfl))).int part_nil))))))) ?_
        refine mv_ ?_
        obtain ⟨t57, ha58, H⟩ := bind_some H
        refine c_ Try.func47 (laws_szMatrix.runs k x0.f3 A49 c50 A53 c54 t41 t57 _ (HS.getO 1 rfl) le52 (HS.getO 0 rfl) le56 ha58) ?_
        rintro _ w59 ⟨rfl, hb⟩
        replace HS := HS.below hb
        refine ⟨_, rfl, ?_⟩
        clear hb
        refine as_ ?_
        refine WL.done ?_
        refine WQ.via (fun _ _ h_ => h_) hK48 ?_
        refine WC.seq (fun K60 hK60 => ?_)
        refine WC.seq (fun K61 hK61 => ?_)
        refine WC.region ?_
        refine mv_ ?_
        refine v_ (Run.bin rfl rfl rfl bin_lss) ?_
        refine WL.done ?_
        refine WQ.via (fun _ _ h_ => h_) hK61 ?_
        by_cases c62 : t57 < 0
        · rw [if_pos c62] at H
          refine WC.yes rfl (decide_eq_true c62) ?_
          refine WC.seq (fun K63 hK63 => ?_)
          refine WC.region ?_
          refine as_ ?_
          refine WL.done ?_
          refine WQ.via (fun _ _ h_ => h_) hK63 ?_
          refine WC.ret ?_
          obtain rfl := Option.some.inj H
          refine WQ.fin (e' := .ret) (fn := Try.f19) (fun _ _ h_ => h_) (WQ.ret1 rfl rfl ?_)
          exact hR_ _ _ ⟨rfl, HS.b⟩
        · rw [if_neg c62] at H
          refine WC.no rfl (decide_eq_false c62) ?_
          refine WC.skip ?_
          refine WQ.via (fun _ _ h_ => h_) hK60 ?_
          refine WC.seq (fun K64 hK64 => ?_)
          refine WC.region ?_
          refine v_ (Run.fieldAddr rfl rfl Try.underlying44 rfl (by kernel_rfl) rfl) ?_
          obtain ⟨A65, c66, hc67, le68⟩ := (at44_17 (AtK.whole (HS.getO 7 rfl))).slice
          replace HS := HS.deriveO (p := (fun W => (Kd.slice 3 (Kd.int .i64)).C W A65 x0.f4.f1.length x0.f4.f1)) (fun W_ hO_ hN_ => (at44_17 (AtK.whole (AllF.get 7 rfl hO_))).C hc67)
          obtain ⟨A69, c70, hc71, le72⟩ := (at44_18 (AtK.whole (HS.getO 8 rfl))).slice
          replace HS := HS.deriveO (p := (fun W => (Kd.slice 3 (Kd.int .i64)).C W A69 x0.f4.f2.length x0.f4.f2)) (fun W_ hO_ hN_ => (at44_18 (AtK.whole (AllF.get 8 rfl hO_))).C hc71)
          refine v_ (Run.loadS (cs := [.int .i64 x0.f4.f0, .slice A65 x0.f4.f1.length c66, .slice A69 x0.f4.f2.length c70, .int .i64 x0.f4.f3, .int .i64 x0.f4.f4]) rfl rfl Try.underlying27 rfl (by kernel_rfl) (box_part (HS.mu 0 rfl) (part_cons (at44_16 (AtK.whole (HS.getO 9 rfl))).int (part_cons hc67 (part_cons hc71 (part_cons (at44_19 (AtK.whole (HS.getO 9 rfl))).int (part_cons (at44_20 (AtK.whole (HS.getO 9 rfl))).int part_nil))))))) ?_
          refine mv_ ?_
          obtain ⟨t73, ha74, H⟩ := bind_some H
          refine c_ Try.func47 (laws_szMatrix.runs k x0.f4 A65 c66 A69 c70 t57 t73 _ (HS.getO 1 rfl) le68 (HS.getO 0 rfl) le72 ha74) ?_
          rintro _ w75 ⟨rfl, hb⟩
          replace HS := HS.below hb
          refine ⟨_, rfl, ?_⟩
          clear hb
          refine as_ ?_
          refine WL.done ?_
          refine WQ.via (fun _ _ h_ => h_) hK64 ?_
          refine WC.seq (fun K76 hK76 => ?_)
          refine WC.seq (fun K77 hK77 => ?_)
          refine WC.region ?_
          refine mv_ ?_
          refine v_ (Run.bin rfl rfl rfl bin_lss) ?_
          refine WL.done ?_
          refine WQ.via (fun _ _ h_ => h_) hK77 ?_
          by_cases c78 : t73 < 0
          · rw [if_pos c78] at H
            refine WC.yes rfl (decide_eq_true c78) ?_
            refine WC.seq (fun K79 hK79 => ?_)
            refine WC.region ?_
            refine as_ ?_
            refine WL.done ?_
            refine WQ.via (fun _ _ h_ => h_) hK79 ?_
            refine WC.ret ?_
            obtain rfl := Option.some.inj H
            refine WQ.fin (e' := .ret) (fn := Try.f19) (fun _ _ h_ => h_) (WQ.ret1 rfl rfl ?_)
            exact hR_ _ _ ⟨rfl, HS.b⟩
          · rw [if_neg c78] at H
            refine WC.no rfl (decide_eq_false c78) ?_
            refine WC.skip ?_
            refine WQ.via (fun _ _ h_ => h_) hK76 ?_
            refine WC.seq (fun K80 hK80 => ?_)
            refine WC.region ?_
            refine v_ (Run.fieldAddr rfl rfl Try.underlying44 rfl (by kernel_rfl) rfl) ?_
            obtain ⟨A81, c82, hc83, le84⟩ := (at44_21 (AtK.whole (HS.getO 9 rfl))).slice
            replace HS := HS.deriveO (p := (fun W => (Kd.int .i64).C W A81 x0.f5.length x0.f5)) (fun W_ hO_ hN_ => (at44_21 (AtK.whole (AllF.get 9 rfl hO_))).C hc83)
            refine v_ (Run.load rfl rfl Try.underlying25 rfl (box_cell (HS.mu 0 rfl) hc83)) ?_
            refine mv_ ?_
            obtain ⟨t85, ha86, H⟩ := bind_some H
            refine c_ Try.func46 (laws_szIntS.calls A81 c82 x0.f5 t73 t85 _ (HS.getO 0 rfl) le84 ha86) ?_
            rintro _ w87 ⟨rfl, hb⟩
            have hb := hb.below
            replace HS := HS.below hb
            refine ⟨_, rfl, ?_⟩
            clear hb
            refine as_ ?_
            refine WL.done ?_
            refine WQ.via (fun _ _ h_ => h_) hK80 ?_
            refine WC.seq (fun K88 hK88 => ?_)
            refine WC.seq (fun K89 hK89 => ?_)
            refine WC.region ?_
            refine mv_ ?_
            refine v_ (Run.bin rfl rfl rfl bin_lss) ?_
            refine WL.done ?_
            refine WQ.via (fun _ _ h_ => h_) hK89 ?_
            by_cases c90 : t85 < 0
            · rw [if_pos c90] at H
              refine WC.yes rfl (decide_eq_true c90) ?_
              refine WC.seq (fun K91 hK91 => ?_)
              refine WC.region ?_
              refine as_ ?_
              refine WL.done ?_
              refine WQ.via (fun _ _ h_ => h_) hK91 ?_
              refine WC.ret ?_
              obtain rfl := Option.some.inj H
              refine WQ.fin (e' := .ret) (fn := Try.f19) (fun _ _ h_ => h_) (WQ.ret1 rfl rfl ?_)
              exact hR_ _ _ ⟨rfl, HS.b⟩
            · rw [if_neg c90] at H
              refine WC.no rfl (decide_eq_false c90) ?_
              refine WC.skip ?_
              refine WQ.via (fun _ _ h_ => h_) hK88 ?_
              refine WC.seq (fun K92 hK92 => ?_)
              refine WC.region ?_
              refine v_ (Run.fieldAddr rfl rfl Try.underlying44 rfl (by kernel_rfl) rfl) ?_
              obtain ⟨A93, c94, hc95, le96⟩ := (at44_23 (AtK.whole (HS.getO 10 rfl))).slice
              replace HS := HS.deriveO (p := (fun W => (Kd.slice 3 (Kd.int .i64)).C W A93 x0.f6.f1.length x0.f6.f1)) (fun W_ hO_ hN_ => (at44_23 (AtK.whole (AllF.get 10 rfl hO_))).C hc95)
              obtain ⟨A97, c98, hc99, le100⟩ := (at44_24 (AtK.whole (HS.getO 11 rfl))).slice
              replace HS := HS.deriveO (p := (fun W => (Kd.slice 3 (Kd.int .i64)).C W A97 x0.f6.f2.length x0.f6.f2)) (fun W_ hO_ hN_ => (at44_24 (AtK.whole (AllF.get 11 rfl hO_))).C hc99)
              refine v_ (Run.loadS (cs := [.int .i64 x0.f6.f0, .slice A93 x0.f6.f1.length c94, .slice A97 x0.f6.f2.length c98, .int .i64 x0.f6.f3, .int .i64 x0.f6.f4]) rfl rfl Try.underlying27 rfl (by kernel_rfl) (box_part (HS.mu 0 rfl) (part_cons (at44_22 (AtK.whole (HS.getO 12 rfl))).int (part_cons hc95 (part_cons hc99 (part_cons (at44_25 (AtK.whole (HS.getO 12 rfl))).int (part_cons (at44_26 (AtK.whole (HS.getO 12 rfl))).int part_nil))))))) ?_
              refine mv_ ?_
              obtain ⟨t101, ha102, H⟩ := bind_some H
              refine c_ Try.func47 (laws_szMatrix.runs k x0.f6 A93 c94 A97 c98 t85 t101 _ (HS.getO 1 rfl) le96 (HS.getO 0 rfl) le100 ha102) ?_
              rintro _ w103 ⟨rfl, hb⟩
              replace HS := HS.below hb
              refine ⟨_, rfl, ?_⟩
              clear hb
              refine as_ ?_
              refine WL.done ?_
              refine WQ.via (fun _ _ h_ => h_) hK92 ?_
              refine WC.seq (fun K104 hK104 => ?_)
              refine WC.seq (fun K105 hK105 => ?_)
              refine WC.region ?_
              refine mv_ ?_
              refine v_ (Run.bin rfl rfl rfl bin_lss) ?_
              refine WL.done ?_
              refine WQ.via (fun _ _ h_ => h_) hK105 ?_
              by_cases c106 : t101 < 0
              · rw [if_pos c106] at H
                refine WC.yes rfl (decide_eq_true c106) ?_
                refine WC.seq (fun K107 hK107 => ?_)
                refine WC.region ?_
                refine as_ ?_
                refine WL.done ?_
                refine WQ.via (fun _ _ h_ => h_) hK107 ?_
                refine WC.ret ?_
                obtain rfl := Option.some.inj H
                refine WQ.fin (e' := .ret) (fn := Try.f19) (fun _ _ h_ => h_) (WQ.ret1 rfl rfl ?_)
                exact hR_ _ _ ⟨rfl, HS.b⟩
              · rw [if_neg c106] at H
                refine WC.no rfl (decide_eq_false c106) ?_
                refine WC.skip ?_
                refine WQ.via (fun _ _ h_ => h_) hK104 ?_
                refine WC.seq (fun K108 hK108 => ?_)
                refine WC.region ?_
                refine v_ (Run.fieldAddr rfl rfl Try.underlying44 rfl (by kernel_rfl) rfl) ?_
                obtain ⟨A109, c110, hc111, le112⟩ := (at44_28 (AtK.whole (HS.getO 12 rfl))).slice
                replace HS := HS.deriveO (p := (fun W => (Kd.slice 3 (Kd.int .i64)).C W A109 x0.f7.f1.length x0.f7.f1)) (fun W_ hO_ hN_ => (at44_28 (AtK.whole (AllF.get 12 rfl hO_))).C hc111)
                obtain ⟨A113, c114, hc115, le116⟩ := (at44_29 (AtK.whole (HS.getO 13 rfl))).slice
                replace HS := HS.deriveO (p := (fun W => (Kd.slice 3 (Kd.int .i64)).C W A113 x0.f7.f2.length x0.f7.f2)) (fun W_ hO_ hN_ => (at44_29 (AtK.whole (AllF.get 13 rfl hO_))).C hc115)
                refine v_ (Run.loadS (cs := [.int .i64 x0.f7.f0, .slice A109 x0.f7.f1.length c110, .slice A113 x0.f7.f2.length c114, .int .i64 x0.f7.f3, .int .i64 x0.f7.f4]) rfl rfl Try.underlying27 rfl (by kernel_rfl) (box_part (HS.mu 0 rfl) (part_cons (at44_27 (AtK.whole (HS.getO 14 rfl))).int (part_cons hc111 (part_cons hc115 (part_cons (at44_30 (AtK.whole (HS.getO 14 rfl))).int (part_cons (at44_31 (AtK.whole (HS.getO 14 rfl))).int part_nil))))))) ?_
                refine mv_ ?_
                obtain ⟨t117, ha118, H⟩ := bind_some H
                refine c_ Try.func47 (laws_szMatrix.runs k x0.f7 A109 c110 A113 c114 t101 t117 _ (HS.getO 1 rfl) le112 (HS.getO 0 rfl) le116 ha118) ?_
                rintro _ w119 ⟨rfl, hb⟩
                replace HS := HS.below hb
                refine ⟨_, rfl, ?_⟩
                clear hb
                refine as_ ?_
                refine WL.done ?_
                refine WQ.via (fun _ _ h_ => h_) hK108 ?_
                refine WC.seq (fun K120 hK120 => ?_)
                refine WC.seq (fun K121 hK121 => ?_)
                refine WC.region ?_
                refine mv_ ?_
                refine v_ (Run.bin rfl rfl rfl bin_lss) ?_
                refine WL.done ?_
                refine WQ.via (fun _ _ h_ => h_) hK121 ?_
                by_cases c122 : t117 < 0
                · rw [if_pos c122] at H
                  refine WC.yes rfl (decide_eq_true c122) ?_
                  refine WC.seq (fun K123 hK123 => ?_)
                  refine WC.region ?_
                  refine as_ ?_
                  refine WL.done ?_
                  refine WQ.via (fun _ _ h_ => h_) hK123 ?_
                  refine WC.ret ?_
                  obtain rfl := Option.some.inj H
                  refine WQ.fin (e' := .ret) (fn := Try.f19) (fun _ _ h_ => h_) (WQ.ret1 rfl rfl ?_)
                  exact hR_ _ _ ⟨rfl, HS.b⟩
                · rw [if_neg c122] at H
                  refine WC.no rfl (decide_eq_false c122) ?_
                  refine WC.skip ?_
                  refine WQ.via (fun _ _ h_ => h_) hK120 ?_
                  refine WC.seq (fun K124 hK124 => ?_)
                  refine WC.region ?_
                  refine mv_ ?_
                  refine as_ ?_
                  refine WL.done ?_
                  refine WQ.via (fun _ _ h_ => h_) hK124 ?_
                  refine WC.ret ?_
                  obtain rfl := Option.some.inj H
                  refine WQ.fin (e' := .ret) (fn := Try.f19) (fun _ _ h_ => h_) (WQ.ret1 rfl rfl ?_)
                  exact hR_ _ _ ⟨rfl, HS.b⟩
def laws_szLayerS.b0 (l0 : List S44) (rec_ : Int → Int → Option (Int ⊕ (Int × Int))) (k20 : Nat) (i13 : Int) (i14 : Int) : Option (Int ⊕ (Int × Int)) := (if i14 < (l0.length : Int) then (if 0 ≤ i14 ∧ i14 < (l0.length : Int) then ((laws_szLayer.g k20 (l0.getD i14.toNat o44) i13).bind fun t31 => (if t31 < 0 then (some (Sum.inl (-1))) else (rec_ t31 (wrap64 (i14 + 1))))) else none) else (some (Sum.inr (i13, i14))))
def laws_szLayerS.l0 (l0 : List S44) : Nat → Int → Int → Option (Int ⊕ (Int × Int))
  | 0, _, _ => none
  | k + 1, i13, i14 => laws_szLayerS.b0 l0 (laws_szLayerS.l0 l0 k) k i13 i14
def laws_szLayerS.g (k : Nat) (l0 : List S44) (a1 : Int) : Option Int := (if (wrap64 (a1 - (l0.length : Int))) < 0 then (some (-1)) else ((laws_szLayerS.l0 l0 k (wrap64 (a1 - (l0.length : Int))) 0).bind (fun o18 => match o18 with | .inl r_ => some r_ | .inr ⟨i13, i14⟩ => (some i13))))
set_option maxHeartbeats 4000000 in
set_option maxRecDepth 20000 in
theorem laws_szLayerS.runs (k : Nat) (A0 : Option Addr) (c0 : Nat) (l0 : List S44) (a1 : Int) (r : Int) (w : World) (hr0 : k44.C w A0 l0.length l0) (hc0 : l0.length ≤ c0) (H : laws_szLayerS.g k l0 a1 = some r) :
    Calls Try.prog 45 #[.slice A0 l0.length c0, .int .i64 a1] w fun e w' => e = .returned (.int .i64 r) ∧ Below w.heap.size w w' := by
  unfold laws_szLayerS.g at H
  have HS : St (fun _ => True) w w [] [(fun W => k44.C W A0 l0.length l0)] [] := St.start (foot_cons (foot_C h44 hr0) foot_nil)
  refine calls_W Try.func45 rfl rfl (Nat.le_of_ble_eq_true rfl) (fun R_ hR_ => ?_)
  refine WC.seq (fun K1 hK1 => ?_)
  refine WC.region ?_
  refine as_ ?_
  refine WL.done ?_
  refine WQ.via (fun _ _ h_ => h_) hK1 ?_
  refine WC.seq (fun K2 hK2 => ?_)
  refine WC.region ?_
  refine mv_ ?_
  refine mv_ ?_
  refine v_ (Run.len (ts := #[]) rfl Try.underlying24 rfl) ?_
  refine v_ (Run.bin rfl rfl rfl bin_sub64) ?_
  refine as_ ?_
  refine WL.done ?_
  refine WQ.via (fun _ _ h_ => h_) hK2 ?_
  refine WC.seq (fun K3 hK3 => ?_)
  refine WC.seq (fun K4 hK4 => ?_)
  refine WC.region ?_
  refine mv_ ?_
  refine v_ (Run.bin rfl rfl rfl bin_lss) ?_
  refine WL.done ?_
  refine WQ.via (fun _ _ h_ => h_) hK4 ?_
  by_cases c5 : (wrap64 (a1 - (l0.length : Int))) < 0
  · rw [if_pos c5] at H
    refine WC.yes rfl (decide_eq_true c5) ?_
    refine WC.seq (fun K6 hK6 => ?_)
    refine WC.region ?_
    refine as_ ?_
    refine WL.done ?_
    refine WQ.via (fun _ _ h_ => h_) hK6 ?_
    refine WC.ret ?_
    obtain rfl := Option.some.inj H
    refine WQ.fin (e' := .ret) (fn := Try.f45) (fun _ _ h_ => h_) (WQ.ret1 rfl rfl ?_)
    exact hR_ _ _ ⟨rfl, HS.b⟩
  · rw [if_neg c5] at H
    refine WC.no rfl (decide_eq_false c5) ?_
    refine WC.skip ?_
    refine WQ.via (fun _ _ h_ => h_) hK3 ?_
    refine WC.seq (fun K7 hK7 => ?_)
    refine WC.seq (fun K8 hK8 => ?_)
    refine WC.region ?_
    refine as_ ?_
    refine WL.done ?_
    refine WQ.via (fun _ _ h_ => h_) hK8 ?_
    refine WC.block ?_
    obtain ⟨G9, hG10, o11, H, Ho12⟩ := open_G H
    have X15 : ∀ E_ W_, (∃ (i13 : Int) (i14 : Int), E_ = [(0, .slice A0 l0.length c0), (1, .int .i64 i13), (5, .int .i64 i14)] ∧ G9 (Sum.inr (i13, i14)) = some r ∧ St (fun _ => True) w W_ [] [(fun W => k44.C W A0 l0.length l0)] []) → ∀ a, Fits a 27 E_ → K7 a W_ := by
      rintro E_ w16 ⟨i13, i14, rfl, H, HS⟩
      rw [hG10] at H
      (try dsimp only at H)
      refine hK7 _ _ ?_
      refine WC.seq (fun K17 hK17 => ?_)
      refine WC.region ?_
      refine mv_ ?_
      refine as_ ?_
      refine WL.done ?_
      refine WQ.via (fun _ _ h_ => h_) hK17 ?_
      refine WC.ret ?_
      obtain rfl := Option.some.inj H
      refine WQ.fin (e' := .ret) (fn := Try.f45) (fun _ _ h_ => h_) (WQ.ret1 rfl rfl ?_)
      exact hR_ _ _ ⟨rfl, HS.b⟩
    refine WC.loop (fun k_ E_ W_ => ∃ (i13 : Int) (i14 : Int), E_ = [(0, .slice A0 l0.length c0), (1, .int .i64 i13), (5, .int .i64 i14)] ∧ (∃ o_, laws_szLayerS.l0 l0 k_ i13 i14 = some o_ ∧ G9 o_ = some r) ∧ St (fun _ => True) w W_ [] [(fun W => k44.C W A0 l0.length l0)] []) k ⟨(wrap64 (a1 - (l0.length : Int))), 0, rfl, ⟨_, H, Ho12⟩, (St.pick HS (fun W_ h_ => ⟨AllF.get 0 rfl h_, trivial⟩) (fun W_ h_ => trivial))⟩ ⟨rfl, rfl, rfl, trivial⟩ ?_
    rintro k_ E_ w19 ⟨i13, i14, rfl, ⟨o11, H, Ho12⟩, HS⟩
    rcases k_ with _ | k20
    · exact (Option.some_ne_none _ (show none = some _ from H).symm).elim
    replace H : laws_szLayerS.b0 l0 (laws_szLayerS.l0 l0 k20) k20 i13 i14 = some o11 := H
    unfold laws_szLayerS.b0 at H
    refine WC.seq (fun K21 hK21 => ?_)
    refine WC.seq (fun K22 hK22 => ?_)
    refine WC.region ?_
    refine mv_ ?_
    refine mv_ ?_
    refine v_ (Run.len (ts := #[]) rfl Try.underlying24 rfl) ?_
    refine v_ (Run.bin rfl rfl rfl bin_lss) ?_
    refine WL.done ?_
    refine WQ.via (fun _ _ h_ => h_) hK22 ?_
    by_cases c23 : i14 < (l0.length : Int)
    · rw [if_pos c23] at H
      refine WC.yes rfl (decide_eq_true c23) ?_
      refine WC.skip ?_
      refine WQ.via (fun _ _ h_ => h_) hK21 ?_
      refine WC.seq (fun K24 hK24 => ?_)
      refine WC.block ?_
      refine WC.seq (fun K25 hK25 => ?_)
      refine WC.region ?_
      refine mv_ ?_
      refine mv_ ?_
      obtain ⟨⟨q26, q27⟩, H⟩ := if_some H
      obtain ⟨ad28, rfl⟩ := C_open (HS.getO 0 rfl) (by omega)
      refine v_ (Run.indexAddr rfl rfl rfl Try.underlying24 (sz := 32) (by kernel_rfl) q26 q27) ?_
      obtain ⟨e29, el30, HS⟩ := HS.elO 0 rfl (by decide) o44 i14 q26 q27
      replace HS := HS.deriveO (p := (fun W => k44.K W (l0.getD i14.toNat o44) e29)) (fun W_ hO_ hN_ => (AllF.get 0 rfl hO_).1)
      refine v_ (Run.loadS (cs := e29) rfl rfl Try.underlying44 rfl (by rw [el30]; kernel_rfl) (HS.getO 1 rfl).2) ?_
      refine mv_ ?_
      obtain ⟨t31, ha32, H⟩ := bind_some H
      refine c_ Try.func19 (laws_szLayer.runs k20 e29 (l0.getD i14.toNat o44) i13 t31 _ (HS.getO 0 rfl) ha32) ?_
      rintro _ w33 ⟨rfl, hb⟩
      replace HS := HS.below hb
      refine ⟨_, rfl, ?_⟩
      clear hb
      refine as_ ?_
      refine WL.done ?_
      refine WQ.via (fun _ _ h_ => h_) hK25 ?_
      refine WC.seq (fun K34 hK34 => ?_)
      refine WC.region ?_
      refine mv_ ?_
      refine v_ (Run.bin rfl rfl rfl bin_lss) ?_
      refine WL.done ?_
      refine WQ.via (fun _ _ h_ => h_) hK34 ?_
      by_cases c35 : t31 < 0
      · rw [if_pos c35] at H
        refine WC.yes rfl (decide_eq_true c35) ?_
        refine WC.seq (fun K36 hK36 => ?_)
        refine WC.region ?_
        refine as_ ?_
        refine WL.done ?_
        refine WQ.via (fun _ _ h_ => h_) hK36 ?_
        refine WC.ret ?_
        obtain rfl := Option.some.inj H
        rw [hG10] at Ho12
        replace H : some _ = some _ := Ho12
        obtain rfl := Option.some.inj H
        refine WQ.fin (e' := .ret) (fn := Try.f45) (fun _ _ h_ => h_) (WQ.ret1 rfl rfl ?_)
        exact hR_ _ _ ⟨rfl, HS.b⟩
      · rw [if_neg c35] at H
        refine WC.no rfl (decide_eq_false c35) ?_
        refine WC.skip ?_
        refine WQ.via (fun _ _ h_ => h_) hK24 ?_
        refine WC.region ?_
        refine mv_ ?_
        refine v_ (Run.bin rfl rfl rfl bin_add64) ?_
        refine as_ ?_
        refine WL.done ?_
        exact WQ.round k20 (fun _ _ h_ => h_) (Nat.lt_succ_self _) ⟨t31, (wrap64 (i14 + 1)), rfl, ⟨_, H, Ho12⟩, (St.pick HS (fun W_ h_ => ⟨AllF.get 2 rfl h_, trivial⟩) (fun W_ h_ => trivial))⟩ ⟨rfl, rfl, rfl, trivial⟩
    · rw [if_neg c23] at H
      refine WC.no rfl (decide_eq_false c23) ?_
      refine WC.exit ?_
      obtain rfl := Option.some.inj H
      exact WQ.via2 (fun _ _ h_ => h_) X15 ⟨i13, i14, rfl, Ho12, (St.pick HS (fun W_ h_ => ⟨AllF.get 0 rfl h_, trivial⟩) (fun W_ h_ => trivial))⟩ ⟨rfl, rfl, rfl, trivial⟩
def laws_szModel.g (k : Nat) (x0 : S31) (a1 : Int) : Option Int := ((laws_szMergeS.f x0.f3 a1).bind fun t9 => (if t9 < 0 then (some (-1)) else ((laws_szIntSS.f k x0.f4 t9).bind fun t21 => (if t21 < 0 then (some (-1)) else ((laws_szLayerS.g k x0.f5 t21).bind fun t33 => (if t33 < 0 then (some (-1)) else ((laws_szIntS.f x0.f6 t33).bind fun t45 => (if t45 < 0 then (some (-1)) else ((laws_szMatrix.g k x0.f7 t45).bind fun t61 => (if t61 < 0 then (some (-1)) else ((laws_szTurns.g k x0.f8 t61).bind fun t77 => (if t77 < 0 then (some (-1)) else (some t77)))))))))))))
set_option maxHeartbeats 4000000 in
set_option maxRecDepth 20000 in
theorem laws_szModel.runs (k : Nat) (cs0 : List Value) (x0 : S31) (a1 : Int) (r : Int) (w : World) (hk0 : k31.K w x0 cs0) (H : laws_szModel.g k x0 a1 = some r) :
    Calls Try.prog 14 #[.agg cs0.toArray, .int .i64 a1] w fun e w' => e = .returned (.int .i64 r) ∧ Below w.heap.size w w' := by
  have el0 : cs0.length = 14 := k31.K_len hk0
  unfold laws_szModel.g at H
  have HS : St (fun _ => True) w w [] [(fun W => k31.K W x0 cs0)] [] := St.start (foot_cons (foot_K h31 hk0) foot_nil)
  refine calls_W Try.func14 rfl rfl (Nat.le_of_ble_eq_true rfl) (fun R_ hR_ => ?_)
  refine WC.seq (fun K1 hK1 => ?_)
  refine WC.region ?_
  refine WL.box HS rfl rfl (by decide) rfl rfl rfl (fun b2 w3 hb2 HS => ?_)
  refine as_ ?_
  refine WL.done ?_
  refine WQ.via (fun _ _ h_ => h_) hK1 ?_
  refine WC.seq (fun K4 hK4 => ?_)
  refine WC.region ?_
  refine v_ (Run.fieldAddr rfl rfl Try.underlying31 rfl (by kernel_rfl) rfl) ?_
  obtain ⟨A5, c6, hc7, le8⟩ := (at31_3 (AtK.whole (HS.getO 0 rfl))).slice
  replace HS := HS.deriveO (p := (fun W => k129.C W A5 x0.f3.length x0.f3)) (fun W_ hO_ hN_ => (at31_3 (AtK.whole (AllF.get 0 rfl hO_))).C hc7)
  refine v_ (Run.load rfl rfl Try.underlying22 rfl (box_cell (HS.mu 0 rfl) hc7)) ?_
  refine mv_ ?_
  obtain ⟨t9, ha10, H⟩ := bind_some H
  refine c_ Try.func43 (laws_szMergeS.calls A5 c6 x0.f3 a1 t9 _ (HS.getO 0 rfl) le8 ha10) ?_
  rintro _ w11 ⟨rfl, hb⟩
  have hb := hb.below
  replace HS := HS.below hb
  refine ⟨_, rfl, ?_⟩
  clear hb
  refine as_ ?_
  refine WL.done ?_
  refine WQ.via (fun _ _ h_ => h_) hK4 ?_
  refine WC.seq (fun K12 hK12 => ?_)
  refine WC.seq (fun K13 hK13 => ?_)
  refine WC.region ?_
  refine mv_ ?_
  refine v_ (Run.bin rfl rfl rfl bin_lss) ?_
  refine WL.done ?_
  refine WQ.via (fun _ _ h_ => h_) hK13 ?_
  by_cases c14 : t9 < 0
  · rw [if_pos c14] at H
    refine WC.yes rfl (decide_eq_true c14) ?_
    refine WC.seq (fun K15 hK15 => ?_)
    refine WC.region ?_
    refine as_ ?_
    refine WL.done ?_
    refine WQ.via (fun _ _ h_ => h_) hK15 ?_
    refine WC.ret ?_
    obtain rfl := Option.some.inj H
    refine WQ.fin (e' := .ret) (fn := Try.f14) (fun _ _ h_ => h_) (WQ.ret1 rfl rfl ?_)
    exact hR_ _ _ ⟨rfl, HS.b⟩
  · rw [if_neg c14] at H
    refine WC.no rfl (decide_eq_false c14) ?_
    refine WC.skip ?_
    refine WQ.via (fun _ _ h_ => h_) hK12 ?_
    refine WC.seq (fun K16 hK16 => ?_)
    refine WC.region ?_
    refine v_ (Run.fieldAddr rfl rfl Try.underlying31 rfl (by kernel_rfl) rfl) ?_
    obtain ⟨A17, c18, hc19, le20⟩ := (at31_4 (AtK.whole (HS.getO 1 rfl))).slice
    replace HS := HS.deriveO (p := (fun W => (Kd.slice 3 (Kd.int .i64)).C W A17 x0.f4.length x0.f4)) (fun W_ hO_ hN_ => (at31_4 (AtK.whole (AllF.get 1 rfl hO_))).C hc19)
    refine v_ (Run.load rfl rfl Try.underlying23 rfl (box_cell (HS.mu 0 rfl) hc19)) ?_
    refine mv_ ?_
    obtain ⟨t21, ha22, H⟩ := bind_some H
    refine c_ Try.func44 (laws_szIntSS.calls k A17 c18 x0.f4 t9 t21 _ (HS.getO 0 rfl) le20 ha22) ?_
    rintro _ w23 ⟨rfl, hb⟩
    have hb := hb.below
    replace HS := HS.below hb
    refine ⟨_, rfl, ?_⟩
    clear hb
    refine as_ ?_
    refine WL.done ?_
    refine WQ.via (fun _ _ h_ => h_) hK16 ?_
    refine WC.seq (fun K24 hK24 => ?_)
    refine WC.seq (fun K25 hK25 => ?_)
    refine WC.region ?_
    refine mv_ ?_
    refine v_ (Run.bin rfl rfl rfl bin_lss) ?_
    refine WL.done ?_
    refine WQ.via (fun _ _ h_ => h_) hK25 ?_
    by_cases c26 : t21 < 0
    · rw [if_pos c26] at H
      refine WC.yes rfl (decide_eq_true c26) ?_
      refine WC.seq (fun K27 hK27 => ?_)
      refine WC.region ?_
      refine as_ ?_
      refine WL.done ?_
      refine WQ.via (fun _ _ h_ => h_) hK27 ?_
      refine WC.ret ?_
      obtain rfl := Option.some.inj H
      refine WQ.fin (e' := .ret) (fn := Try.f14) (fun _ _ h_ => h_) (WQ.ret1 rfl rfl ?_)
      exact hR_ _ _ ⟨rfl, HS.b⟩
    · rw [if_neg c26] at H
      refine WC.no rfl (decide_eq_false c26) ?_
      refine WC.skip ?_
      refine WQ.via (fun _ _ h_ => h_) hK24 ?_
      refine WC.seq (fun K28 hK28 => ?_)
      refine WC.region ?_
      refine v_ (Run.fieldAddr rfl rfl Try.underlying31 rfl (by kernel_rfl) rfl) ?_
      obtain ⟨A29, c30, hc31, le32⟩ := (at31_5 (AtK.whole (HS.getO 2 rfl))).slice
      replace HS := HS.deriveO (p := (fun W => k44.C W A29 x0.f5.length x0.f5)) (fun W_ hO_ hN_ => (at31_5 (AtK.whole (AllF.get 2 rfl hO_))).C hc31)
      refine v_ (Run.load rfl rfl Try.underlying24 rfl (box_cell (HS.mu 0 rfl) hc31)) ?_
      refine mv_ ?_
      obtain ⟨t33, ha34, H⟩ := bind_some H
      refine c_ Try.func45 (laws_szLayerS.runs k A29 c30 x0.f5 t21 t33 _ (HS.getO 0 rfl) le32 ha34) ?_
      rintro _ w35 ⟨rfl, hb⟩
      replace HS := HS.below hb
      refine ⟨_, rfl, ?_⟩
      clear hb
      refine as_ ?_
      refine WL.done ?_
      refine WQ.via (fun _ _ h_ => h_) hK28 ?_
      refine WC.seq (fun K36 hK36 => ?_)
      refine WC.seq (fun K37 hK37 => ?_)
      refine WC.region ?_
      refine mv_ ?_
      refine v_ (Run.bin rfl rfl rfl bin_lss) ?_
      refine WL.done ?_
      refine WQ.via (fun _ _ h_ => h_) hK37 ?_
      by_cases c38 : t33 < 0
      · rw [if_pos c38] at H
        refine WC.yes rfl (decide_eq_true c38) ?_
        refine WC.seq (fun K39 hK39 => ?_)
        refine WC.region ?_
        refine as_ ?_
        refine WL.done ?_
        refine WQ.via (fun _ _ h_ => h_) hK39 ?_
        refine WC.ret ?_
        obtain rfl := Option.some.inj H
        refine WQ.fin (e' := .ret) (fn := Try.f14) (fun _ _ h_ => h_) (WQ.ret1 rfl rfl ?_)
        exact hR_ _ _ ⟨rfl, HS.b⟩
      · rw [if_neg c38] at H
        refine WC.no rfl (decide_eq_false c38) ?_
        refine WC.skip ?_
        refine WQ.via (fun _ _ h_ => h_) hK36 ?_
        refine WC.seq (fun K40 hK40 => ?_)
        refine WC.region ?_
        refine v_ (Run.fieldAddr rfl rfl Try.underlying31 rfl (by kernel_rfl) rfl) ?_
        obtain ⟨A41, c42, hc43, le44⟩ := (at31_6 (AtK.whole (HS.getO 3 rfl))).slice
        replace HS := HS.deriveO (p := (fun W => (Kd.int .i64).C W A41 x0.f6.length x0.f6)) (fun W_ hO_ hN_ => (at31_6 (AtK.whole (AllF.get 3 rfl hO_))).C hc43)
        refine v_ (Run.load rfl rfl Try.underlying25 rfl (box_cell (HS.mu 0 rfl) hc43)) ?_
        refine mv_ ?_
        obtain ⟨t45, ha46, H⟩ := bind_some H
        refine c_ Try.func46 (laws_szIntS.calls A41 c42 x0.f6 t33 t45 _ (HS.getO 0 rfl) le44 ha46) ?_
        rintro _ w47 ⟨rfl, hb⟩
        have hb := hb.below
        replace HS := HS.below hb
        refine ⟨_, rfl, ?_⟩
        clear hb
        refine as_ ?_
        refine WL.done ?_
        refine WQ.via (fun _ _ h_ => h_) hK40 ?_
        refine WC.seq (fun K48 hK48 => ?_)
        refine WC.seq (fun K49 hK49 => ?_)
        refine WC.region ?_
        refine mv_ ?_
        refine v_ (Run.bin rfl rfl rfl bin_lss) ?_
        refine WL.done ?_
        refine WQ.via (fun _ _ h_ => h_) hK49 ?_
        by_cases c50 : t45 < 0
        · rw [if_pos c50] at H
          refine WC.yes rfl (decide_eq_true c50) ?_
          refine WC.seq (fun K51 hK51 => ?_)
          refine WC.region ?_
          refine as_ ?_
          refine WL.done ?_
          refine WQ.via (fun _ _ h_ => h_) hK51 ?_
          refine WC.ret ?_
          obtain rfl := Option.some.inj H
          refine WQ.fin (e' := .ret) (fn := Try.f14) (fun _ _ h_ => h_) (WQ.ret1 rfl rfl ?_)
          exact hR_ _ _ ⟨rfl, HS.b⟩
        · rw [if_neg c50] at H
          refine WC.no rfl (decide_eq_false c50) ?_
          refine WC.skip ?_
          refine WQ.via (fun _ _ h_ => h_) hK48 ?_
          refine WC.seq (fun K52 hK52 => ?_)
          refine WC.region ?_
          refine v_ (Run.fieldAddr rfl rfl Try.underlying31 rfl (by kernel_rfl) rfl) ?_
          obtain ⟨A53, c54, hc55, le56⟩ := (at31_8 (AtK.whole (HS.getO 4 rfl))).slice
          replace HS := HS.deriveO (p := (fun W => (Kd.slice 3 (Kd.int .i64)).C W A53 x0.f7.f1.length x0.f7.f1)) (fun W_ hO_ hN_ => (at31_8 (AtK.whole (AllF.get 4 rfl hO_))).C hc55)
          obtain ⟨A57, c58, hc59, le60⟩ := (at31_9 (AtK.whole (HS.getO 5 rfl))).slice
          replace HS := HS.deriveO (p := (fun W => (Kd.slice 3 (Kd.int .i64)).C W A57 x0.f7.f2.length x0.f7.f2)) (fun W_ hO_ hN_ => (at31_9 (AtK.whole (AllF.get 5 rfl hO_))).C hc59)
          refine v_ (Run.loadS (cs := [.int .i64 x0.f7.f0, .slice A53 x0.f7.f1.length c54, .slice A57 x0.f7.f2.length c58, .int .i64 x0.f7.f3, .int .i64 x0.f7.f4]) rfl rfl Try.underlying27 rfl (by kernel_rfl) (box_part (HS.mu 0 rfl) (part_cons (at31_7 (AtK.whole (HS.getO 6 rfl))).int (part_cons hc55 (part_cons hc59 (part_cons (at31_10 (AtK.whole (HS.getO 6 rfl))).int (part_cons (at31_11 (AtK.whole (HS.getO 6 rfl))).int part_nil))))))) ?_
          refine mv_ ?_
          obtain ⟨t61, ha62, H⟩ := bind_some H
          refine c_ Try.func47 (laws_szMatrix.runs k x0.f7 A53 c54 A57 c58 t45 t61 _ (HS.getO 1 rfl) le56 (HS.getO 0 rfl) le60 ha62) ?_
          rintro _ w63 ⟨rfl, hb⟩
          replace HS := HS.below hb
          refine ⟨_, rfl, ?_⟩
          clear hb
          refine as_ ?_
          refine WL.done ?_
          refine WQ.via (fun _ _ h_ => h_) hK52 ?_
          refine WC.seq (fun K64 hK64 => ?_)
          refine WC.seq (fun K65 hK65 => ?_)
          refine WC.region ?_
          refine mv_ ?_
          refine v_ (Run.bin rfl rfl rfl bin_lss) ?_
          refine WL.done ?_
          refine WQ.via (fun _ _ h_ => h_) hK65 ?_
          by_cases c66 : t61 < 0
          · rw [if_pos c66] at H
            refine WC.yes rfl (decide_eq_true c66) ?_
            refine WC.seq (fun K67 hK67 => ?_)
            refine WC.region ?_
            refine as_ ?_
            refine WL.done ?_
            refine WQ.via (fun _ _ h_ => h_) hK67 ?_
            refine WC.ret ?_
            obtain rfl := Option.some.inj H
            refine WQ.fin (e' := .ret) (fn := Try.f14) (fun _ _ h_ => h_) (WQ.ret1 rfl rfl ?_)
            exact hR_ _ _ ⟨rfl, HS.b⟩
          · rw [if_neg c66] at H
            refine WC.no rfl (decide_eq_false c66) ?_
            refine WC.skip ?_
            refine WQ.via (fun _ _ h_ => h_) hK64 ?_
            refine WC.seq (fun K68 hK68 => ?_)
            refine WC.region ?_
            refine v_ (Run.fieldAddr rfl rfl Try.underlying31 rfl (by kernel_rfl) rfl) ?_
            obtain ⟨A69, c70, hc71, le72⟩ := (at31_12 (AtK.whole (HS.getO 6 rfl))).slice
            replace HS := HS.deriveO (p := (fun W => (Kd.slice 3 (Kd.int .i64)).C W A69 x0.f8.f0.length x0.f8.f0)) (fun W_ hO_ hN_ => (at31_12 (AtK.whole (AllF.get 6 rfl hO_))).C hc71)
            obtain ⟨A73, c74, hc75, le76⟩ := (at31_13 (AtK.whole (HS.getO 7 rfl))).slice
            replace HS := HS.deriveO (p := (fun W => (Kd.slice 3 (Kd.int .i64)).C W A73 x0.f8.f1.length x0.f8.f1)) (fun W_ hO_ hN_ => (at31_13 (AtK.whole (AllF.get 7 rfl hO_))).C hc75)
            refine v_ (Run.loadS (cs := [.slice A69 x0.f8.f0.length c70, .slice A73 x0.f8.f1.length c74]) rfl rfl Try.underlying29 rfl (by kernel_rfl) (box_part (HS.mu 0 rfl) (part_cons hc71 (part_cons hc75 part_nil)))) ?_
            refine mv_ ?_
            obtain ⟨t77, ha78, H⟩ := bind_some H
            refine c_ Try.func48 (laws_szTurns.runs k x0.f8 A69 c70 A73 c74 t61 t77 _ (HS.getO 1 rfl) le72 (HS.getO 0 rfl) le76 ha78) ?_
            rintro _ w79 ⟨rfl, hb⟩
            replace HS := HS.below hb
            refine ⟨_, rfl, ?_⟩
            clear hb
            refine as_ ?_
            refine WL.done ?_
            refine WQ.via (fun _ _ h_ => h_) hK68 ?_
            refine WC.seq (fun K80 hK80 => ?_)
            refine WC.seq (fun K81 hK81 => ?_)
            refine WC.region ?_
            refine mv_ ?_
            refine v_ (Run.bin rfl rfl rfl bin_lss) ?_
            refine WL.done ?_
            refine WQ.via (fun _ _ h_ => h_) hK81 ?_
            by_cases c82 : t77 < 0
            · rw [if_pos c82] at H
              refine WC.yes rfl (decide_eq_true c82) ?_
              refine WC.seq (fun K83 hK83 => ?_)
              refine WC.region ?_
              refine as_ ?_
              refine WL.done ?_
              refine WQ.via (fun _ _ h_ => h_) hK83 ?_
              refine WC.ret ?_
              obtain rfl := Option.some.inj H
              refine WQ.fin (e' := .ret) (fn := Try.f14) (fun _ _ h_ => h_) (WQ.ret1 rfl rfl ?_)
              exact hR_ _ _ ⟨rfl, HS.b⟩
            · rw [if_neg c82] at H
              refine WC.no rfl (decide_eq_false c82) ?_
              refine WC.skip ?_
              refine WQ.via (fun _ _ h_ => h_) hK80 ?_
              refine WC.seq (fun K84 hK84 => ?_)
              refine WC.region ?_
              refine mv_ ?_
              refine as_ ?_
              refine WL.done ?_
              refine WQ.via (fun _ _ h_ => h_) hK84 ?_
              refine WC.ret ?_
              obtain rfl := Option.some.inj H
              refine WQ.fin (e' := .ret) (fn := Try.f14) (fun _ _ h_ => h_) (WQ.ret1 rfl rfl ?_)
              exact hR_ _ _ ⟨rfl, HS.b⟩
def laws_toLayer.g (k : Nat) (x0 : S44) : Option S48 := ((laws_toIntS.f k x0.f0).bind fun t14 => ((laws_toMatrix.g k x0.f1).bind fun t33 => ((laws_toMatrix.g k x0.f2).bind fun t54 => ((laws_toMatrix.g k x0.f3).bind fun t75 => ((laws_toMatrix.g k x0.f4).bind fun t96 => ((laws_toIntS.f k x0.f5).bind fun t113 => ((laws_toMatrix.g k x0.f6).bind fun t132 => ((laws_toMatrix.g k x0.f7).bind fun t153 => (some (⟨t14, (⟨t33.f0, t33.f1, t33.f2, t33.f3, t33.f4⟩ : S36), (⟨t54.f0, t54.f1, t54.f2, t54.f3, t54.f4⟩ : S36), (⟨t75.f0, t75.f1, t75.f2, t75.f3, t75.f4⟩ : S36), (⟨t96.f0, t96.f1, t96.f2, t96.f3, t96.f4⟩ : S36), t113, (⟨t132.f0, t132.f1, t132.f2, t132.f3, t132.f4⟩ : S36), (⟨t153.f0, t153.f1, t153.f2, t153.f3, t153.f4⟩ : S36)⟩ : S48))))))))))
set_option maxHeartbeats 4000000 in
set_option maxRecDepth 20000 in
theorem laws_toLayer.runs (k : Nat) (cs0 : List Value) (x0 : S44) (r : S48) (w : World) (hk0 : k44.K w x0 cs0) (H : laws_toLayer.g k x0 = some r) :
    Calls Try.prog 21 #[.agg cs0.toArray] w fun e w' => ∃ (cs0_ : List Value), e = .returned (.agg cs0_.toArray) ∧ Foot (fun W => k48.K W r cs0_) w' (fun k_ => w.heap.size ≤ k_) ∧ Below w.heap.size w w' := by
  have el0 : cs0.length = 32 := k44.K_len hk0
  unfold laws_toLayer.g at H
  have HS : St (fun _ => True) w w [] [(fun W => k44.K W x0 cs0)] [] := St.start (foot_cons (foot_K h44 hk0) foot_nil)
  refine calls_W Try.func21 rfl rfl (Nat.le_of_ble_eq_true rfl) (fun R_ hR_ => ?_)
  refine WC.seq (fun K1 hK1 => ?_)
  refine WC.region ?_
  refine WL.box HS rfl rfl (by decide) rfl rfl rfl (fun b2 w3 hb2 HS => ?_)
  refine WL.alloc HS (v := .agg #[.slice none 0 0, .int .i64 0, .slice none 0 0, .slice none 0 0, .int .i64 0, .int .i64 0, .int .i64 0, .slice none 0 0, .slice none 0 0, .int .i64 0, .int .i64 0, .int .i64 0, .slice none 0 0, .slice none 0 0, .int .i64 0, .int .i64 0, .int .i64 0, .slice none 0 0, .slice none 0 0, .int .i64 0, .int .i64 0, .slice none 0 0, .int .i64 0, .slice none 0 0, .slice none 0 0, .int .i64 0, .int .i64 0, .int .i64 0, .slice none 0 0, .slice none 0 0, .int .i64 0, .int .i64 0]) (cs := #[.slice none 0 0, .int .i64 0, .slice none 0 0, .slice none 0 0, .int .i64 0, .int .i64 0, .int .i64 0, .slice none 0 0, .slice none 0 0, .int .i64 0, .int .i64 0, .int .i64 0, .slice none 0 0, .slice none 0 0, .int .i64 0, .int .i64 0, .int .i64 0, .slice none 0 0, .slice none 0 0, .int .i64 0, .int .i64 0, .slice none 0 0, .int .i64 0, .slice none 0 0, .slice none 0 0, .int .i64 0, .int .i64 0, .int .i64 0, .slice none 0 0, .slice none 0 0, .int .i64 0, .int .i64 0]) rfl rfl (by decide) rfl (by kernel_rfl) rfl (fun b4 w5 hb4 HS => ?_)
  refine WL.done ?_
  refine WQ.via (fun _ _ h_ => h_) hK1 ?_
  refine WC.seq (fun K6 hK6 => ?_)
  refine WC.region ?_
  refine WL.alloc HS (v := .agg #[.slice none 0 0, .int .i64 0, .slice none 0 0, .slice none 0 0, .int .i64 0, .int .i64 0, .int .i64 0, .slice none 0 0, .slice none 0 0, .int .i64 0, .int .i64 0, .int .i64 0, .slice none 0 0, .slice none 0 0, .int .i64 0, .int .i64 0, .int .i64 0, .slice none 0 0, .slice none 0 0, .int .i64 0, .int .i64 0, .slice none 0 0, .int .i64 0, .slice none 0 0, .slice none 0 0, .int .i64 0, .int .i64 0, .int .i64 0, .slice none 0 0, .slice none 0 0, .int .i64 0, .int .i64 0]) (cs := #[.slice none 0 0, .int .i64 0, .slice none 0 0, .slice none 0 0, .int .i64 0, .int .i64 0, .int .i64 0, .slice none 0 0, .slice none 0 0, .int .i64 0, .int .i64 0, .int .i64 0, .slice none 0 0, .slice none 0 0, .int .i64 0, .int .i64 0, .int .i64 0, .slice none 0 0, .slice none 0 0, .int .i64 0, .int .i64 0, .slice none 0 0, .int .i64 0, .slice none 0 0, .slice none 0 0, .int .i64 0, .int .i64 0, .int .i64 0, .slice none 0 0, .slice none 0 0, .int .i64 0, .int .i64 0]) rfl rfl (by decide) rfl (by kernel_rfl) rfl (fun b7 w8 hb7 HS => ?_)
  refine WL.done ?_
  refine WQ.via (fun _ _ h_ => h_) hK6 ?_
  refine WC.seq (fun K9 hK9 => ?_)
  refine WC.region ?_
  refine v_ (Run.fieldAddr rfl rfl Try.underlying44 rfl (by kernel_rfl) rfl) ?_
  obtain ⟨A10, c11, hc12, le13⟩ := (at44_0 (AtK.whole (HS.getO 0 rfl))).slice
  replace HS := HS.deriveO (p := (fun W => (Kd.int .i64).C W A10 x0.f0.length x0.f0)) (fun W_ hO_ hN_ => (at44_0 (AtK.whole (AllF.get 0 rfl hO_))).C hc12)
  refine v_ (Run.load rfl rfl Try.underlying25 rfl (box_cell (HS.mu 2 rfl) hc12)) ?_
  obtain ⟨t14, ha15, H⟩ := bind_some H
  refine c_ Try.func52 (laws_toIntS.calls k A10 c11 x0.f0 t14 _ (HS.getO 0 rfl) le13 ha15) ?_
  rintro _ w16 ⟨v17, rfl, h18, hb⟩
  obtain ⟨A19, c20, rfl, le21, hf22⟩ := res_R h18
  replace HS := HS.newNs hb (ps := [(fun W => (Kd.int .i64).C W A19 t14.length t14)]) (foot_cons hf22 foot_nil)
  refine ⟨_, rfl, ?_⟩
  clear hb
  refine v_ (Run.fieldAddr rfl rfl Try.underlying48 rfl (by kernel_rfl) rfl) ?_
  refine WL.store HS 0 rfl rfl rfl rfl rfl rfl rfl (by kernel_rfl) (Nat.le_of_ble_eq_true rfl) (cs' := #[.slice A19 t14.length c20, .int .i64 0, .slice none 0 0, .slice none 0 0, .int .i64 0, .int .i64 0, .int .i64 0, .slice none 0 0, .slice none 0 0, .int .i64 0, .int .i64 0, .int .i64 0, .slice none 0 0, .slice none 0 0, .int .i64 0, .int .i64 0, .int .i64 0, .slice none 0 0, .slice none 0 0, .int .i64 0, .int .i64 0, .slice none 0 0, .int .i64 0, .slice none 0 0, .slice none 0 0, .int .i64 0, .int .i64 0, .int .i64 0, .slice none 0 0, .slice none 0 0, .int .i64 0, .int .i64 0]) (by kernel_rfl) (fun w23 HS => ?_)
  refine WL.done ?_
  refine WQ.via (fun _ _ h_ => h_) hK9 ?_
  refine WC.seq (fun K24 hK24 => ?_)
  refine WC.region ?_
  refine v_ (Run.fieldAddr rfl rfl Try.underlying44 rfl (by kernel_rfl) rfl) ?_
  obtain ⟨A25, c26, hc27, le28⟩ := (at44_2 (AtK.whole (HS.getO 1 rfl))).slice
  replace HS := HS.deriveO (p := (fun W => (Kd.slice 3 (Kd.int .i64)).C W A25 x0.f1.f1.length x0.f1.f1)) (fun W_ hO_ hN_ => (at44_2 (AtK.whole (AllF.get 1 rfl hO_))).C hc27)
  obtain ⟨A29, c30, hc31, le32⟩ := (at44_3 (AtK.whole (HS.getO 2 rfl))).slice
  replace HS := HS.deriveO (p := (fun W => (Kd.slice 3 (Kd.int .i64)).C W A29 x0.f1.f2.length x0.f1.f2)) (fun W_ hO_ hN_ => (at44_3 (AtK.whole (AllF.get 2 rfl hO_))).C hc31)
  refine v_ (Run.loadS (cs := [.int .i64 x0.f1.f0, .slice A25 x0.f1.f1.length c26, .slice A29 x0.f1.f2.length c30, .int .i64 x0.f1.f3, .int .i64 x0.f1.f4]) rfl rfl Try.underlying27 rfl (by kernel_rfl) (box_part (HS.mu 2 rfl) (part_cons (at44_1 (AtK.whole (HS.getO 3 rfl))).int (part_cons hc27 (part_cons hc31 (part_cons (at44_4 (AtK.whole (HS.getO 3 rfl))).int (part_cons (at44_5 (AtK.whole (HS.getO 3 rfl))).int part_nil))))))) ?_
  obtain ⟨t33, ha34, H⟩ := bind_some H
  refine c_ Try.func53 (laws_toMatrix.runs k x0.f1 A25 c26 A29 c30 t33 _ (HS.getO 1 rfl) le28 (HS.getO 0 rfl) le32 ha34) ?_
  rintro _ w35 ⟨A36, c37, A40, c41, rfl, le38, hf39, le42, hf43, hb⟩
  replace HS := HS.newNs hb (ps := [(fun W => (Kd.slice 3 (Kd.int .i64)).C W A36 t33.f1.length t33.f1), (fun W => (Kd.slice 3 (Kd.int .i64)).C W A40 t33.f2.length t33.f2)]) (foot_cons hf39 (foot_cons hf43 foot_nil))
  refine ⟨_, rfl, ?_⟩
  clear hb
  refine v_ (Run.fieldAddr rfl rfl Try.underlying48 rfl (by kernel_rfl) rfl) ?_
  refine WL.storeS HS 0 (vs := [.int .i64 t33.f0, .slice A36 t33.f1.length c37, .slice A40 t33.f2.length c41, .int .i64 t33.f3, .int .i64 t33.f4]) rfl rfl rfl rfl rfl rfl (one_cons rfl (one_cons rfl (one_cons rfl (one_cons rfl (one_cons rfl one_nil))))) (by kernel_rfl) (Nat.le_of_ble_eq_true rfl) (cs' := #[.slice A19 t14.length c20, .int .i64 t33.f0, .slice A36 t33.f1.length c37, .slice A40 t33.f2.length c41, .int .i64 t33.f3, .int .i64 t33.f4, .int .i64 0, .slice none 0 0, .slice none 0 0, .int .i64 0, .int .i64 0, .int .i64 0, .slice none 0 0, .slice none 0 0, .int .i64 0, .int .i64 0, .int .i64 0, .slice none 0 0, .slice none 0 0, .int .i64 0, .int .i64 0, .slice none 0 0, .int .i64 0, .slice none 0 0, .slice none 0 0, .int .i64 0, .int .i64 0, .int .i64 0, .slice none 0 0, .slice none 0 0, .int .i64 0, .int .i64 0]) (by kernel_rfl) (fun w44 HS => ?_)
  refine WL.done ?_
  refine WQ.via (fun _ _ h_ => h_) hK24 ?_
  refine WC.seq (fun K45 hK45 => ?_)
  refine WC.region ?_
  refine v_ (Run.fieldAddr rfl rfl Try.underlying44 rfl (by kernel_rfl) rfl) ?_
  obtain ⟨A46, c47, hc48, le49⟩ := (at44_7 (AtK.whole (HS.getO 3 rfl))).slice
  replace HS := HS.deriveO (p := (fun W => (Kd.slice 3 (Kd.int .i64)).C W A46 x0.f2.f1.length x0.f2.f1)) (fun W_ hO_ hN_ => (at44_7 (AtK.whole (AllF.get 3 rfl hO_))).C hc48)
  obtain ⟨A50, c51, hc52, le53⟩ := (at44_8 (AtK.whole (HS.getO 4 rfl))).slice
  replace HS := HS.deriveO (p := (fun W => (Kd.slice 3 (Kd.int .i64)).C W A50 x0.f2.f2.length x0.f2.f2)) (fun W_ hO_ hN_ => (at44_8 (AtK.whole (AllF.get 4 rfl hO_))).C hc52)
  refine v_ (Run.loadS (cs := [.int .i64 x0.f2.f0, .slice A46 x0.f2.f1.length c47, .slice A50 x0.f2.f2.length c51, .int .i64 x0.f2.f3, .int .i64 x0.f2.f4]) rfl rfl Try.underlying27 rfl (by kernel_rfl) (box_part (HS.mu 2 rfl) (part_cons (at44_6 (AtK.whole (HS.getO 5 rfl))).int (part_cons hc48 (part_cons hc52 (part_cons (at44_9 (AtK.whole (HS.getO 5 rfl))).int (part_cons (at44_10 (AtK.whole (HS.getO 5 rfl))).int part_nil))))))) ?_
  obtain ⟨t54, ha55, H⟩ := bind_some H
  refine c_ Try.func53 (laws_toMatrix.runs k x0.f2 A46 c47 A50 c51 t54 _ (HS.getO 1 rfl) le49 (HS.getO 0 rfl) le53 ha55) ?_
  rintro _ w56 ⟨A57, c58, A61, c62, rfl, le59, hf60, le63, hf64, hb⟩
  replace HS := HS.newNs hb (ps := [(fun W => (Kd.slice 3 (Kd.int .i64)).C W A57 t54.f1.length t54.f1), (fun W => (Kd.slice 3 (Kd.int .i64)).C W A61 t54.f2.length t54.f2)]) (foot_cons hf60 (foot_cons hf64 foot_nil))
  refine ⟨_, rfl, ?_⟩
  clear hb
  refine v_ (Run.fieldAddr rfl rfl Try.underlying48 rfl (by kernel_rfl) rfl) ?_
  refine WL.storeS HS 0 (vs := [.int .i64 t54.f0, .slice A57 t54.f1.length c58, .slice A61 t54.f2.length c62, .int .i64 t54.f3, .int .i64 t54.f4]) rfl rfl rfl rfl rfl rfl (one_cons rfl (one_cons rfl (one_cons rfl (one_cons rfl (one_cons rfl one_nil))))) (by kernel_rfl) (Nat.le_of_ble_eq_true rfl) (cs' := #[.slice A19 t14.length c20, .int .i64 t33.f0, .slice A36 t33.f1.length c37, .slice A40 t33.f2.length c41, .int .i64 t33.f3, .int .i64 t33.f4, .int .i64 t54.f0, .slice A57 t54.f1.length c58, .slice A61 t54.f2.length c62, .int .i64 t54.f3, .int .i64 t54.f4, .int .i64 0, .slice none 0 0, .slice none 0 0, .int .i64 0, .int .i64 0, .int .i64 0, .slice none 0 0, .slice none 0 0, .int .i64 0, .int .i64 0, .slice none 0 0, .int .i64 0, .slice none 0 0, .slice none 0 0, .int .i64 0, .int .i64 0, .int .i64 0, .slice none 0 0, .slice none 0 0, .int .i64 0, .int .i64 0]) (by kernel_rfl) (fun w65 HS => ?_)
  refine WL.done ?_
  refine WQ.via (fun _ _ h_ => h_) hK45 ?_
  refine WC.seq (fun K66 hK66 => ?_)
  refine WC.region ?_
  refine v_ (Run.fieldAddr rfl rfl Try.underlying44 rfl (by kernel_rfl) rfl) ?_
  obtain ⟨A67, c68, hc69, le70⟩ := (at44_12 (AtK.whole (HS.getO 5 rfl))).slice
  replace HS := HS.deriveO (p := (fun W => (Kd.slice 3 (Kd.int .i64)).C W A67 x0.f3.f1.length x0.f3.f1)) (fun W_ hO_ hN_ => (at44_12 (AtK.whole (AllF.get 5 rfl hO_))).C hc69)
  obtain ⟨A71, c72, hc73, le74⟩ := (at44_13 (AtK.whole (HS.getO 6 rfl))).slice
  replace HS := HS.deriveO (p := (fun W => (Kd.slice 3 (Kd.int .i64)).C W A71 x0.f3.f2.length x0.f3.f2)) (fun W_ hO_ hN_ => (at44_13 (AtK.whole (AllF.get 6 rfl hO_))).C hc73)
  refine v_ (Run.loadS (cs := [.int .i64 x0.f3.f0, .slice A67 x0.f3.f1.length c68, .slice A71 x0.f3.f2.length c72, .int .i64 x0.f3.f3, .int .i64 x0.f3.f4]) rfl rfl Try.underlying27 rfl (by kernel_rfl) (box_part (HS.mu 2 rfl) (part_cons (at44_11 (AtK.whole (HS.getO 7 rfl))).int (part_cons hc69 (part_cons hc73 (part_cons (at44_14 (AtK.whole (HS.getO 7 rfl))).int (part_cons (at44_15 (AtK.whole (HS.getO 7 rfl))).int part_nil))))))) ?_
  obtain ⟨t75, ha76, H⟩ := bind_some H
  refine c_ Try.func53 (laws_toMatrix.runs k x0.f3 A67 c68 A71 c72 t75 _ (HS.getO 1 rfl) le70 (HS.getO 0 rfl) le74 ha76) ?_
  rintro _ w77 ⟨A78, c79, A82, c83, rfl, le80, hf81, le84, hf85, hb⟩
  replace HS := HS.newNs hb (ps := [(fun W => (Kd.slice 3 (Kd.int .i64)).C W A78 t75.f1.length t75.f1), (fun W => (Kd.slice 3 (Kd.int .i64)).C W A82 t75.f2.length t75.f2)]) (foot_cons hf81 (foot_cons hf85 foot_nil))
  refine ⟨_, rfl, ?_⟩
  clear hb
  refine v_ (Run.fieldAddr rfl rfl Try.underlying48 rfl (by kernel_rfl) rfl) ?_
  refine WL.storeS HS 0 (vs := [.int .i64 t75.f0, .slice A78 t75.f1.length c79, .slice A82 t75.f2.length c83, .int .i64 t75.f3, .int .i64 t75.f4]) rfl rfl rfl rfl rfl rfl (one_cons rfl (one_cons rfl (one_cons rfl (one_cons rfl (one_cons rfl one_nil))))) (by kernel_rfl) (Nat.le_of_ble_eq_true rfl) (cs' := #[.slice A19 t14.length c20, .int .i64 t33.f0, .slice A36 t33.f1.length c37, .slice A40 t33.f2.length c41, .int .i64 t33.f3, .int .i64 t33.f4, .int .i64 t54.f0, .slice A57 t54.f1.length c58, .slice A61 t54.f2.length c62, .int .i64 t54.f3, .int .i64 t54.f4, .int .i64 t75.f0, .slice A78 t75.f1.length c79, .slice A82 t75.f2.length c83, .int .i64 t75.f3, .int .i64 t75.f4, .int .i64 0, .slice none 0 0, .slice none 0 0, .int .i64 0, .int .i64 0, .slice none 0 0, .int .i64 0, .slice none 0 0, .slice none 0 0, .int .i64 0, .int .i64 0, .int .i64 0, .slice none 0 0, .slice none 0 0, .int .i64 0, .int .i64 0]) (by kernel_rfl) (fun w86 HS => ?_)
  refine WL.done ?_
  refine WQ.via (fun _ _ h_ => h_) hK66 ?_
  refine WC.seq (fun K87 hK87 => ?_)
  refine WC.region ?_
  refine v_ (Run.fieldAddr rfl rfl Try.underlying44 rfl (by kernel_rfl) rfl) ?_
  obtain ⟨A88, c89, hc90, le91⟩ := (at44_17 (AtK.whole (HS.getO 7 rfl))).slice
  replace HS := HS.deriveO (p := (fun W => (Kd.slice 3 (Kd.int .i64)).C W A88 x0.f4.f1.length x0.f4.f1)) (fun W_ hO_ hN_ => (at44_17 (AtK.whole (AllF.get 7 rfl hO_))).C hc90)
  obtain ⟨A92, c93, hc94, le95⟩ := (at44_18 (AtK.whole (HS.getO 8 rfl))).slice
  replace HS := HS.deriveO (p := (fun W => (Kd.slice 3 (Kd.int .i64)).C W A92 x0.f4.f2.length x0.f4.f2)) (fun W_ hO_ hN_ => (at44_18 (AtK.whole (AllF.get 8 rfl hO_))).C hc94)
  refine v_ (Run.loadS (cs := [.int .i64 x0.f4.f0, .slice A88 x0.f4.f1.length c89, .slice A92 x0.f4.f2.length c93, .int .i64 x0.f4.f3, .int .i64 x0.f4.f4]) rfl rfl Try.underlying27 rfl (by kernel_rfl) (box_part (HS.mu 2 rfl) (part_cons (at44_16 (AtK.whole (HS.getO 9 rfl))).int (part_cons hc90 (part_cons hc94 (part_cons (at44_19 (AtK.whole (HS.getO 9 rfl))).int (part_cons (at44_20 (AtK.whole (HS.getO 9 rfl))).int part_nil))))))) ?_
  obtain ⟨t96, ha97, H⟩ := bind_some H
  refine c_ Try.func53 (laws_toMatrix.runs k x0.f4 A88 c89 A92 c93 t96 _ (HS.getO 1 rfl) le91 (HS.getO 0 rfl) le95 ha97) ?_
  rintro _ w98 ⟨A99, c100, A103, c104, rfl, le101, hf102, le105, hf106, hb⟩
  replace HS := HS.newNs hb (ps := [(fun W => (Kd.slice 3 (Kd.int .i64)).C W A99 t96.f1.length t96.f1), (fun W => (Kd.slice 3 (Kd.int .i64)).C W A103 t96.f2.length t96.f2)]) (foot_cons hf102 (foot_cons hf106 foot_nil))
  refine ⟨_, rfl, ?_⟩
  clear hb
  refine v_ (Run.fieldAddr rfl rfl Try.underlying48 rfl (by kernel_rfl) rfl) ?_
  refine WL.storeS HS 0 (vs := [.int .i64 t96.f0, .slice A99 t96.f1.length c100, .slice A103 t96.f2.length c104, .int .i64 t96.f3, .int .i64 t96.f4]) rfl rfl rfl rfl rfl rfl (one_cons rfl (one_cons rfl (one_cons rfl (one_cons rfl (one_cons rfl one_nil))))) (by kernel_rfl) (Nat.le_of_ble_eq_true rfl) (cs' := #[.slice A19 t14.length c20, .int .i64 t33.f0, .slice A36 t33.f1.length c37, .slice A40 t33.f2.length c41, .int .i64 t33.f3, .int .i64 t33.f4, .int .i64 t54.f0, .slice A57 t54.f1.length c58, .slice A61 t54.f2.length c62, .int .i64 t54.f3, .int .i64 t54.f4, .int .i64 t75.f0, .slice A78 t75.f1.length c79, .slice A82 t75.f2.length c83, .int .i64 t75.f3, .int .i64 t75.f4, .int .i64 t96.f0, .slice A99 t96.f1.length c100, .slice A103 t96.f2.length c104, .int .i64 t96.f3, .int .i64 t96.f4, .slice none 0 0, .int .i64 0, .slice none 0 0, .slice none 0 0, .int .i64 0, .int .i64 0, .int .i64 0, .slice none 0 0, .slice none 0 0, .int .i64 0, .int .i64 0]) (by kernel_rfl) (fun w107 HS => ?_)
  refine WL.done ?_
  refine WQ.via (fun _ _ h_ => h_) hK87 ?_
  refine WC.seq (fun K108 hK108 => ?_)
  refine WC.region ?_
  refine v_ (Run.fieldAddr rfl rfl Try.underlying44 rfl (by kernel_rfl) rfl) ?_
  obtain ⟨A109, c110, hc111, le112⟩ := (at44_21 (AtK.whole (HS.getO 9 rfl))).slice
  replace HS := HS.deriveO (p := (fun W => (Kd.int .i64).C W A109 x0.f5.length x0.f5)) (fun W_ hO_ hN_ => (at44_21 (AtK.whole (AllF.get 9 rfl hO_))).C hc111)
  refine v_ (Run.load rfl rfl Try.underlying25 rfl (box_cell (HS.mu 2 rfl) hc111)) ?_
  obtain ⟨t113, ha114, H⟩ := bind_some H
  refine c_ Try.func52 (laws_toIntS.calls k A109 c110 x0.f5 t113 _ (HS.getO 0 rfl) le112 ha114) ?_
  rintro _ w115 ⟨v116, rfl, h117, hb⟩
  obtain ⟨A118, c119, rfl, le120, hf121⟩ := res_R h117
  replace HS := HS.newNs hb (ps := [(fun W => (Kd.int .i64).C W A118 t113.length t113)]) (foot_cons hf121 foot_nil)
  refine ⟨_, rfl, ?_⟩
  clear hb
  refine v_ (Run.fieldAddr rfl rfl Try.underlying48 rfl (by kernel_rfl) rfl) ?_
  refine WL.store HS 0 rfl rfl rfl rfl rfl rfl rfl (by kernel_rfl) (Nat.le_of_ble_eq_true rfl) (cs' := #[.slice A19 t14.length c20, .int .i64 t33.f0, .slice A36 t33.f1.length c37, .slice A40 t33.f2.length c41, .int .i64 t33.f3, .int .i64 t33.f4, .int .i64 t54.f0, .slice A57 t54.f1.length c58, .slice A61 t54.f2.length c62, .int .i64 t54.f3, .int .i64 t54.f4, .int .i64 t75.f0, .slice A78 t75.f1.length c79, .slice A82 t75.f2.length c83, .int .i64 t75.f3, .int .i64 t75.f4, .int .i64 t96.f0, .slice A99 t96.f1.length c100, .slice A103 t96.f2.length c104, .int .i64 t96.f3, .int .i64 t96.f4, .slice A118 t113.length c119, .int .i64 0, .slice none 0 0, .slice none 0 0, .int .i64 0, .int .i64 0, .int .i64 0, .slice none 0 0, .slice none 0 0, .int .i64 0, .int .i64 0]) (by kernel_rfl) (fun w122 HS => ?_)
  refine WL.done ?_
  refine WQ.via (fun _ _ h_ => h_) hK108 ?_
  refine WC.seq (fun K123 hK123 => ?_)
  refine WC.region ?_
  refine v_ (Run.fieldAddr rfl rfl Try.underlying44 rfl (by kernel_rfl) rfl) ?_
  obtain ⟨A124, c125, hc126, le127⟩ := (at44_23 (AtK.whole (HS.getO 10 rfl))).slice
  replace HS := HS.deriveO (p := (fun W => (Kd.slice 3 (Kd.int .i64)).C W A124 x0.f6.f1.length x0.f6.f1)) (fun W_ hO_ hN_ => (at44_23 (AtK.whole (AllF.get 10 rfl hO_))).C hc126)
  obtain ⟨A128, c129, hc130, le131⟩ := (at44_24 (AtK.whole (HS.getO 11 rfl))).slice
  replace HS := HS.deriveO (p := (fun W => (Kd.slice 3 (Kd.int .i64)).C W A128 x0.f6.f2.length x0.f6.f2)) (fun W_ hO_ hN_ => (at44_24 (AtK.whole (AllF.get 11 rfl hO_))).C hc130)
  refine v_ (Run.loadS (cs := [.int .i64 x0.f6.f0, .slice A124 x0.f6.f1.length c125, .slice A128 x0.f6.f2.length c129, .int .i64 x0.f6.f3, .int .i64 x0.f6.f4]) rfl rfl Try.underlying27 rfl (by kernel_rfl) (box_part (HS.mu 2 rfl) (part_cons (at44_22 (AtK.whole (HS.getO 12 rfl))).int (part_cons hc126 (part_cons hc130 (part_cons (at44_25 (AtK.whole (HS.getO 12 rfl))).int (part_cons (at44_26 (AtK.whole (HS.getO 12 rfl))).int part_nil))))))) ?_
  obtain ⟨t132, ha133, H⟩ := bind_some H
  refine c_ Try.func53 (laws_toMatrix.runs k x0.f6 A124 c125 A128 c129 t132 _ (HS.getO 1 rfl) le127 (HS.getO 0 rfl) le131 ha133) ?_
  rintro _ w134 ⟨A135, c136, A139, c140, rfl, le137, hf138, le141, hf142, hb⟩
  replace HS := HS.newNs hb (ps := [(fun W => (Kd.slice 3 (Kd.int .i64)).C W A135 t132.f1.length t132.f1), (fun W => (Kd.slice 3 (Kd.int .i64)).C W A139 t132.f2.length t132.f2)]) (foot_cons hf138 (foot_cons hf142 foot_nil))
  refine ⟨_, rfl, ?_⟩
  clear hb
  refine v_ (Run.fieldAddr rfl rfl Try.underlying48 rfl (by kernel_rfl) rfl) ?_
  refine WL.storeS HS 0 (vs := [.int .i64 t132.f0, .slice A135 t132.f1.length c136, .slice A139 t132.f2.length c140, .int .i64 t132.f3, .int .i64 t132.f4]) rfl rfl rfl rfl rfl rfl (one_cons rfl (one_cons rfl (one_cons rfl (one_cons rfl (one_cons rfl one_nil))))) (by kernel_rfl) (Nat.le_of_ble_eq_true rfl) (cs' := #[.slice A19 t14.length c20, .int .i64 t33.f0, .slice A36 t33.f1.length c37, .slice A40 t33.f2.length c41, .int .i64 t33.f3, .int .i64 t33.f4, .int .i64 t54.f0, .slice A57 t54.f1.length c58, .slice A61 t54.f2.length c62, .int .i64 t54.f3, .int .i64 t54.f4, .int .i64 t75.f0, .slice A78 t75.f1.length c79, .slice A82 t75.f2.length c83, .int .i64 t75.f3, .int .i64 t75.f4, .int .i64 t96.f0, .slice A99 t96.f1.length c100, .slice A103 t96.f2.length c104, .int .i64 t96.f3, .int .i64 t96.f4, .slice A118 t113.length c119, .int .i64 t132.f0, .slice A135 t132.f1.length c136, .slice A139 t132.f2.length c140, .int .i64 t132.f3, .int .i64 t132.f4, .int .i64 0, .slice none 0 0, .slice none 0 0, .int .i64 0, .int .i64 0]) (by kernel_rfl) (fun w143 HS => ?_)
  refine WL.done ?_
  refine WQ.via (fun _ _ h_ => h_) hK123 ?_
  refine WC.seq (fun K144 hK144 => ?_)
  refine WC.region ?_
  refine v_ (Run.fieldAddr rfl rfl Try.underlying44 rfl (by kernel_rfl) rfl) ?_
  obtain ⟨A145, c146, hc147, le148⟩ := (at44_28 (AtK.whole (HS.getO 12 rfl))).slice
  replace HS := HS.deriveO (p := (fun W => (Kd.slice 3 (Kd.int .i64)).C W A145 x0.f7.f1.length x0.f7.f1)) (fun W_ hO_ hN_ => (at44_28 (AtK.whole (AllF.get 12 rfl hO_))).C hc147)
  obtain ⟨A149, c150, hc151, le152⟩ := (at44_29 (AtK.whole (HS.getO 13 rfl))).slice
  replace HS := HS.deriveO (p := (fun W => (Kd.slice 3 (Kd.int .i64)).C W A149 x0.f7.f2.length x0.f7.f2)) (fun W_ hO_ hN_ => (at44_29 (AtK.whole (AllF.get 13 rfl hO_))).C hc151)
  refine v_ (Run.loadS (cs := [.int .i64 x0.f7.f0, .slice A145 x0.f7.f1.length c146, .slice A149 x0.f7.f2.length c150, .int .i64 x0.f7.f3, .int .i64 x0.f7.f4]) rfl rfl Try.underlying27 rfl (by kernel_rfl) (box_part (HS.mu 2 rfl) (part_cons (at44_27 (AtK.whole (HS.getO 14 rfl))).int (part_cons hc147 (part_cons hc151 (part_cons (at44_30 (AtK.whole (HS.getO 14 rfl))).int (part_cons (at44_31 (AtK.whole (HS.getO 14 rfl))).int part_nil))))))) ?_
  obtain ⟨t153, ha154, H⟩ := bind_some H
  refine c_ Try.func53 (laws_toMatrix.runs k x0.f7 A145 c146 A149 c150 t153 _ (HS.getO 1 rfl) le148 (HS.getO 0 rfl) le152 ha154) ?_
  rintro _ w155 ⟨A156, c157, A160, c161, rfl, le158, hf159, le162, hf163, hb⟩
  replace HS := HS.newNs hb (ps := [(fun W => (Kd.slice 3 (Kd.int .i64)).C W A156 t153.f1.length t153.f1), (fun W => (Kd.slice 3 (Kd.int .i64)).C W A160 t153.f2.length t153.f2)]) (foot_cons hf159 (foot_cons hf163 foot_nil))
  refine ⟨_, rfl, ?_⟩
  clear hb
  refine v_ (Run.fieldAddr rfl rfl Try.underlying48 rfl (by kernel_rfl) rfl) ?_
  refine WL.storeS HS 0 (vs := [.int .i64 t153.f0, .slice A156 t153.f1.length c157, .slice A160 t153.f2.length c161, .int .i64 t153.f3, .int .i64 t153.f4]) rfl rfl rfl rfl rfl rfl (one_cons rfl (one_cons rfl (one_cons rfl (one_cons rfl (one_cons rfl one_nil))))) (by kernel_rfl) (Nat.le_of_ble_eq_true rfl) (cs' := #[.slice A19 t14.length c20, .int .i64 t33.f0, .slice A36 t33.f1.length c37, .slice A40 t33.f2.length c41, .int .i64 t33.f3, .int .i64 t33.f4, .int .i64 t54.f0, .slice A57 t54.f1.length c58, .slice A61 t54.f2.length c62, .int .i64 t54.f3, .int .i64 t54.f4, .int .i64 t75.f0, .slice A78 t75.f1.length c79, .slice A82 t75.f2.length c83, .int .i64 t75.f3, .int .i64 t75.f4, .int .i64 t96.f0, .slice A99 t96.f1.length c100, .slice A103 t96.f2.length c104, .int .i64 t96.f3, .int .i64 t96.f4, .slice A118 t113.length c119, .int .i64 t132.f0, .slice A135 t132.f1.length c136, .slice A139 t132.f2.length c140, .int .i64 t132.f3, .int .i64 t132.f4, .int .i64 t153.f0, .slice A156 t153.f1.length c157, .slice A160 t153.f2.length c161, .int .i64 t153.f3, .int .i64 t153.f4]) (by kernel_rfl) (fun w164 HS => ?_)
  refine WL.done ?_
  refine WQ.via (fun _ _ h_ => h_) hK144 ?_
  refine WC.seq (fun K165 hK165 => ?_)
  refine WC.region ?_
  refine v_ (Run.loadS (cs := [.slice A19 t14.length c20, .int .i64 t33.f0, .slice A36 t33.f1.length c37, .slice A40 t33.f2.length c41, .int .i64 t33.f3, .int .i64 t33.f4, .int .i64 t54.f0, .slice A57 t54.f1.length c58, .slice A61 t54.f2.length c62, .int .i64 t54.f3, .int .i64 t54.f4, .int .i64 t75.f0, .slice A78 t75.f1.length c79, .slice A82 t75.f2.length c83, .int .i64 t75.f3, .int .i64 t75.f4, .int .i64 t96.f0, .slice A99 t96.f1.length c100, .slice A103 t96.f2.length c104, .int .i64 t96.f3, .int .i64 t96.f4, .slice A118 t113.length c119, .int .i64 t132.f0, .slice A135 t132.f1.length c136, .slice A139 t132.f2.length c140, .int .i64 t132.f3, .int .i64 t132.f4, .int .i64 t153.f0, .slice A156 t153.f1.length c157, .slice A160 t153.f2.length c161, .int .i64 t153.f3, .int .i64 t153.f4]) rfl rfl Try.underlying48 rfl (by kernel_rfl) (box_part (HS.mu 0 rfl) part_all)) ?_
  refine WL.storeS HS 1 (vs := [.slice A19 t14.length c20, .int .i64 t33.f0, .slice A36 t33.f1.length c37, .slice A40 t33.f2.length c41, .int .i64 t33.f3, .int .i64 t33.f4, .int .i64 t54.f0, .slice A57 t54.f1.length c58, .slice A61 t54.f2.length c62, .int .i64 t54.f3, .int .i64 t54.f4, .int .i64 t75.f0, .slice A78 t75.f1.length c79, .slice A82 t75.f2.length c83, .int .i64 t75.f3, .int .i64 t75.f4, .int .i64 t96.f0, .slice A99 t96.f1.length c100, .slice A103 t96.f2.length c104, .int .i64 t96.f3, .int .i64 t96.f4, .slice A118 t113.length c119, .int .i64 t132.f0, .slice A135 t132.f1.length c136, .slice A139 t132.f2.length c140, .int .i64 t132.f3, .int .i64 t132.f4, .int .i64 t153.f0, .slice A156 t153.f1.length c157, .slice A160 t153.f2.length c161, .int .i64 t153.f3, .int .i64 t153.f4]) rfl rfl rfl rfl rfl rfl (one_cons rfl (one_cons rfl (one_cons rfl (one_cons rfl (one_cons rfl (one_cons rfl (one_cons rfl (one_cons rfl (one_cons rfl (one_cons rfl (one_cons rfl (one_cons rfl (one_cons rfl (one_cons rfl (one_cons rfl (one_cons rfl (one_cons rfl (one_cons rfl (one_cons rfl (one_cons rfl (one_cons rfl (one_cons rfl (one_cons rfl (one_cons rfl (one_cons rfl (one_cons rfl (one_cons rfl (one_cons rfl (one_cons rfl (one_cons rfl (one_cons rfl (one_cons rfl one_nil)))))))))))))))))))))))))))))))) (by kernel_rfl) (Nat.le_of_ble_eq_true rfl) (cs' := #[.slice A19 t14.length c20, .int .i64 t33.f0, .slice A36 t33.f1.length c37, .slice A40 t33.f2.length c41, .int .i64 t33.f3, .int .i64 t33.f4, .int .i64 t54.f0, .slice A57 t54.f1.length c58, .slice A61 t54.f2.length c62, .int .i64 t54.f3, .int .i64 t54.f4, .int .i64 t75.f0, .slice A78 t75.f1.length c79, .slice A82 t75.f2.length c83, .int .i64 t75.f3, .int .i64 t75.f4, .int .i64 t96.f0, .slice A99 t96.f1.length c100, .slice A103 t96.f2.length c104, .int .i64 t96.f3, .int .i64 t96.f4, .slice A118 t113.length c119, .int .i64 t132.f0, .slice A135 t132.f1.length c136, .slice A139 t132.f2.length c140, .int .i64 t132.f3, .int .i64 t132.f4, .int .i64 t153.f0, .slice A156 t153.f1.length c157, .slice A160 t153.f2.length c161, .int .i64 t153.f3, .int .i64 t153.f4]) (by kernel_rfl) (fun w166 HS => ?_)
  refine WL.done ?_
  refine WQ.via (fun _ _ h_ => h_) hK165 ?_
  refine WC.ret ?_
  replace HS := HS.deriveN (p := (fun W => k48.K W (⟨t14, (⟨t33.f0, t33.f1, t33.f2, t33.f3, t33.f4⟩ : S36), (⟨t54.f0, t54.f1, t54.f2, t54.f3, t54.f4⟩ : S36), (⟨t75.f0, t75.f1, t75.f2, t75.f3, t75.f4⟩ : S36), (⟨t96.f0, t96.f1, t96.f2, t96.f3, t96.f4⟩ : S36), t113, (⟨t132.f0, t132.f1, t132.f2, t132.f3, t132.f4⟩ : S36), (⟨t153.f0, t153.f1, t153.f2, t153.f3, t153.f4⟩ : S36)⟩ : S48) [.slice A19 t14.length c20, .int .i64 t33.f0, .slice A36 t33.f1.length c37, .slice A40 t33.f2.length c41, .int .i64 t33.f3, .int .i64 t33.f4, .int .i64 t54.f0, .slice A57 t54.f1.length c58, .slice A61 t54.f2.length c62, .int .i64 t54.f3, .int .i64 t54.f4, .int .i64 t75.f0, .slice A78 t75.f1.length c79, .slice A82 t75.f2.length c83, .int .i64 t75.f3, .int .i64 t75.f4, .int .i64 t96.f0, .slice A99 t96.f1.length c100, .slice A103 t96.f2.length c104, .int .i64 t96.f3, .int .i64 t96.f4, .slice A118 t113.length c119, .int .i64 t132.f0, .slice A135 t132.f1.length c136, .slice A139 t132.f2.length c140, .int .i64 t132.f3, .int .i64 t132.f4, .int .i64 t153.f0, .slice A156 t153.f1.length c157, .slice A160 t153.f2.length c161, .int .i64 t153.f3, .int .i64 t153.f4])) (fun W_ hN_ => (k48_mk _ (⟨t14, (⟨t33.f0, t33.f1, t33.f2, t33.f3, t33.f4⟩ : S36), (⟨t54.f0, t54.f1, t54.f2, t54.f3, t54.f4⟩ : S36), (⟨t75.f0, t75.f1, t75.f2, t75.f3, t75.f4⟩ : S36), (⟨t96.f0, t96.f1, t96.f2, t96.f3, t96.f4⟩ : S36), t113, (⟨t132.f0, t132.f1, t132.f2, t132.f3, t132.f4⟩ : S36), (⟨t153.f0, t153.f1, t153.f2, t153.f3, t153.f4⟩ : S36)⟩ : S48) (le21) (AllF.get 13 rfl hN_) (le38) (AllF.get 11 rfl hN_) (le42) (AllF.get 12 rfl hN_) (le59) (AllF.get 9 rfl hN_) (le63) (AllF.get 10 rfl hN_) (le80) (AllF.get 7 rfl hN_) (le84) (AllF.get 8 rfl hN_) (le101) (AllF.get 5 rfl hN_) (le105) (AllF.get 6 rfl hN_) (le120) (AllF.get 4 rfl hN_) (le137) (AllF.get 2 rfl hN_) (le141) (AllF.get 3 rfl hN_) (le158) (AllF.get 0 rfl hN_) (le162) (AllF.get 1 rfl hN_)))
  obtain rfl := Option.some.inj H
  refine WQ.fin (e' := .ret) (fn := Try.f21) (fun _ _ h_ => h_) (WQ.ret1 rfl ⟨_, rfl, resv_box (HS.mu 1 rfl) Try.underlying48 rfl (by kernel_rfl)⟩ ?_)
  exact hR_ _ _ ⟨_, rfl, (foot_fresh (HS.footN 0 rfl)), HS.b⟩
def laws_toLayerS.b0 (l0 : List S44) (rec_ : Int → (List S48) → Option (Int × (List S48))) (k27 : Nat) (i15 : Int) (xs16 : List S48) : Option (Int × (List S48)) := (if i15 < (l0.length : Int) then (if 0 ≤ i15 ∧ i15 < (l0.length : Int) then ((laws_toLayer.g k27 (l0.getD i15.toNat o44)).bind fun t37 => (if 0 ≤ i15 ∧ i15 < ((xs16.length : Nat) : Int) then (rec_ (wrap64 (i15 + 1)) (xs16.set i15.toNat t37)) else none)) else none) else (some (i15, xs16)))
def laws_toLayerS.l0 (l0 : List S44) : Nat → Int → (List S48) → Option (Int × (List S48))
  | 0, _, _ => none
  | k + 1, i15, xs16 => laws_toLayerS.b0 l0 (laws_toLayerS.l0 l0 k) k i15 xs16
def laws_toLayerS.g (k : Nat) (l0 : List S44) : Option (List S48) := (if 0 ≤ (l0.length : Int) ∧ (l0.length : Int) < 4294967296 then ((laws_toLayerS.l0 l0 k 0 (List.replicate (l0.length : Int).toNat o48)).bind (fun o25 => (some o25.2))) else none)
set_option maxHeartbeats 4000000 in
set_option maxRecDepth 20000 in
theorem laws_toLayerS.runs (k : Nat) (A0 : Option Addr) (c0 : Nat) (l0 : List S44) (r : List S48) (w : World) (hr0 : k44.C w A0 l0.length l0) (hc0 : l0.length ≤ c0) (H : laws_toLayerS.g k l0 = some r) :
    Calls Try.prog 51 #[.slice A0 l0.length c0] w fun e w' => ∃ (A0_ : Option Addr) (c0_ : Nat), e = .returned (.slice A0_ r.length c0_) ∧ r.length ≤ c0_ ∧ Foot (fun W => k48.C W A0_ r.length r) w' (fun k_ => w.heap.size ≤ k_) ∧ Below w.heap.size w w' := by
  unfold laws_toLayerS.g at H
  have HS : St (fun _ => True) w w [] [(fun W => k44.C W A0 l0.length l0)] [] := St.start (foot_cons (foot_C h44 hr0) foot_nil)
  refine calls_W Try.func51 rfl rfl (Nat.le_of_ble_eq_true rfl) (fun R_ hR_ => ?_)
  refine WC.seq (fun K1 hK1 => ?_)
  refine WC.region ?_
  refine as_ ?_
  refine WL.done ?_
  refine WQ.via (fun _ _ h_ => h_) hK1 ?_
  refine WC.seq (fun K2 hK2 => ?_)
  refine WC.region ?_
  refine mv_ ?_
  refine v_ (Run.len (ts := #[]) rfl Try.underlying24 rfl) ?_
  obtain ⟨⟨q3, q4⟩, H⟩ := if_some H
  refine WL.make k48 HS rfl rfl (by decide) rfl rfl rfl (.agg #[.slice none 0 0, .int .i64 0, .slice none 0 0, .slice none 0 0, .int .i64 0, .int .i64 0, .int .i64 0, .slice none 0 0, .slice none 0 0, .int .i64 0, .int .i64 0, .int .i64 0, .slice none 0 0, .slice none 0 0, .int .i64 0, .int .i64 0, .int .i64 0, .slice none 0 0, .slice none 0 0, .int .i64 0, .int .i64 0, .slice none 0 0, .int .i64 0, .slice none 0 0, .slice none 0 0, .int .i64 0, .int .i64 0, .int .i64 0, .slice none 0 0, .slice none 0 0, .int .i64 0, .int .i64 0]) 480 o48 Try.underlying35 (by kernel_rfl) rfl (by decide) (by decide) (fun _ => (k48_mk _ o48 (Nat.le_refl _) (Kd.C_nil _ _) (Nat.le_refl _) (Kd.C_nil _ _) (Nat.le_refl _) (Kd.C_nil _ _) (Nat.le_refl _) (Kd.C_nil _ _) (Nat.le_refl _) (Kd.C_nil _ _) (Nat.le_refl _) (Kd.C_nil _ _) (Nat.le_refl _) (Kd.C_nil _ _) (Nat.le_refl _) (Kd.C_nil _ _) (Nat.le_refl _) (Kd.C_nil _ _) (Nat.le_refl _) (Kd.C_nil _ _) (Nat.le_refl _) (Kd.C_nil _ _) (Nat.le_refl _) (Kd.C_nil _ _) (Nat.le_refl _) (Kd.C_nil _ _) (Nat.le_refl _) (Kd.C_nil _ _))) q3 (by omega) (fun v5 w6 I7 hI8 HS => ?_)
  replace HS := HS.deriveN (p := (fun W => Reps (k48.K W) k48.sz (List.replicate (l0.length : Int).toNat o48) I7)) (fun W_ hN_ => hI8 W_)
  refine as_ ?_
  refine WL.done ?_
  refine WQ.via (fun _ _ h_ => h_) hK2 ?_
  refine WC.seq (fun K9 hK9 => ?_)
  refine WC.seq (fun K10 hK10 => ?_)
  refine WC.region ?_
  refine as_ ?_
  refine WL.done ?_
  refine WQ.via (fun _ _ h_ => h_) hK10 ?_
  refine WC.block ?_
  obtain ⟨G11, hG12, o13, H, Ho14⟩ := open_G H
  have X19 : ∀ E_ W_, (∃ (i15 : Int) (xs16 : List S48) (v17 : Value) (I18 : List Value), E_ = [(0, .slice A0 l0.length c0), (3, v17), (4, .int .i64 i15)] ∧ G11 (i15, xs16) = some r ∧ St (fun _ => True) w W_ [rowM w.heap.size 48 32 v17 xs16.length I18] [(fun W => k44.C W A0 l0.length l0)] [(fun W => Reps (k48.K W) k48.sz xs16 I18)]) → ∀ a, Fits a 23 E_ → K9 a W_ := by
    rintro E_ w20 ⟨i15, xs16, v17, I18, rfl, H, HS⟩
    rw [hG12] at H
    (try dsimp only at H)
    refine hK9 _ _ ?_
    refine WC.seq (fun K21 hK21 => ?_)
    refine WC.region ?_
    refine mv_ ?_
    refine as_ ?_
    refine WL.done ?_
    refine WQ.via (fun _ _ h_ => h_) hK21 ?_
    refine WC.ret ?_
    obtain ⟨A22, c23, rfl⟩ := row_slice (HS.mu 0 rfl)
    have le24 := row_le (HS.mu 0 rfl)
    replace HS := HS.freezeN 0 (p := (fun W => k48.C W A22 (xs16).length (xs16))) rfl (fun W_ hm_ h_ => row_C (by rfl) hm_ (AllF.get 0 rfl h_))
    obtain rfl := Option.some.inj H
    refine WQ.fin (e' := .ret) (fn := Try.f51) (fun _ _ h_ => h_) (WQ.ret1 rfl rfl ?_)
    exact hR_ _ _ ⟨_, _, rfl, le24, (foot_fresh (HS.footN 0 rfl)), HS.b⟩
  refine WC.loop (fun k_ E_ W_ => ∃ (i15 : Int) (xs16 : List S48) (v17 : Value) (I18 : List Value), E_ = [(0, .slice A0 l0.length c0), (3, v17), (4, .int .i64 i15)] ∧ (∃ o_, laws_toLayerS.l0 l0 k_ i15 xs16 = some o_ ∧ G11 o_ = some r) ∧ St (fun _ => True) w W_ [rowM w.heap.size 48 32 v17 xs16.length I18] [(fun W => k44.C W A0 l0.length l0)] [(fun W => Reps (k48.K W) k48.sz xs16 I18)]) k ⟨0, (List.replicate (l0.length : Int).toNat o48), v5, I7, rfl, ⟨_, H, Ho14⟩, (St.pick HS (fun W_ h_ => ⟨AllF.get 0 rfl h_, trivial⟩) (fun W_ h_ => ⟨AllF.get 0 rfl h_, trivial⟩))⟩ ⟨rfl, rfl, rfl, trivial⟩ ?_
  rintro k_ E_ w26 ⟨i15, xs16, v17, I18, rfl, ⟨o13, H, Ho14⟩, HS⟩
  rcases k_ with _ | k27
  · exact (Option.some_ne_none _ (show none = some _ from H).symm).elim
  replace H : laws_toLayerS.b0 l0 (laws_toLayerS.l0 l0 k27) k27 i15 xs16 = some o13 := H
  unfold laws_toLayerS.b0 at H
  refine WC.seq (fun K28 hK28 => ?_)
  refine WC.seq (fun K29 hK29 => ?_)
  refine WC.region ?_
  refine mv_ ?_
  refine mv_ ?_
  refine v_ (Run.len (ts := #[]) rfl Try.underlying24 rfl) ?_
  refine v_ (Run.bin rfl rfl rfl bin_lss) ?_
  refine WL.done ?_
  refine WQ.via (fun _ _ h_ => h_) hK29 ?_
  by_cases c30 : i15 < (l0.length : Int)
  · rw [if_pos c30] at H
    refine WC.yes rfl (decide_eq_true c30) ?_
    refine WC.skip ?_
    refine WQ.via (fun _ _ h_ => h_) hK28 ?_
    refine WC.seq (fun K31 hK31 => ?_)
    refine WC.block ?_
    refine WC.region ?_
    refine mv_ ?_
    refine mv_ ?_
    refine mv_ ?_
    refine mv_ ?_
    obtain ⟨⟨q32, q33⟩, H⟩ := if_some H
    obtain ⟨ad34, rfl⟩ := C_open (HS.getO 0 rfl) (by omega)
    refine v_ (Run.indexAddr rfl rfl rfl Try.underlying24 (sz := 32) (by kernel_rfl) q32 q33) ?_
    obtain ⟨e35, el36, HS⟩ := HS.elO 0 rfl (by decide) o44 i15 q32 q33
    replace HS := HS.deriveO (p := (fun W => k44.K W (l0.getD i15.toNat o44) e35)) (fun W_ hO_ hN_ => (AllF.get 0 rfl hO_).1)
    refine v_ (Run.loadS (cs := e35) rfl rfl Try.underlying44 rfl (by rw [el36]; kernel_rfl) (HS.getO 1 rfl).2) ?_
    obtain ⟨t37, ha38, H⟩ := bind_some H
    refine c_ Try.func21 (laws_toLayer.runs k27 e35 (l0.getD i15.toNat o44) t37 _ (HS.getO 0 rfl) ha38) ?_
    rintro _ w39 ⟨cs40, rfl, hf41, hb⟩
    replace HS := HS.newNs hb (ps := [(fun W => k48.K W t37 cs40)]) (foot_cons hf41 foot_nil)
    have el42 : cs40.length = 32 := k48.K_len (Foot.now hf41)
    refine ⟨_, rfl, ?_⟩
    clear hb
    obtain ⟨⟨q43, q44⟩, H⟩ := if_some H
    obtain ⟨A45, c46, rfl⟩ := row_slice (HS.mu 0 rfl)
    obtain ⟨ad47, rfl⟩ := row_open (HS.mu 0 rfl) (by omega)
    refine v_ (Run.indexAddr rfl rfl rfl Try.underlying35 (sz := 32) (by kernel_rfl) q43 q44) ?_
    have hk_ := mul_room q43 q44 32
    refine WL.putEl HS 0 rfl rfl rfl rfl rfl rfl cs40 rfl (Kd.K_one _ (HS.getN 0 rfl)) (by rw [el42]; kernel_rfl) (by first | omega | (rw [el42]; omega) | (simp; omega)) (fun w48 I49 hI50 HS => ?_)
    clear hk_
    replace HS := HS.deriveN (p := (fun W => Reps (k48.K W) k48.sz (xs16.set i15.toNat t37) I49)) (fun W_ hN_ => reps_set hI50 (AllF.get 1 rfl hN_) (AllF.get 0 rfl hN_) (toNat_lt q43 q44))
    replace HS := HS.rowN 0 rfl (show xs16.length = (xs16.set i15.toNat t37).length from (List.length_set ..).symm)
    refine WL.done ?_
    refine WQ.via (fun _ _ h_ => h_) hK31 ?_
    refine WC.region ?_
    refine mv_ ?_
    refine v_ (Run.bin rfl rfl rfl bin_add64) ?_
    refine as_ ?_
    refine WL.done ?_
    exact WQ.round k27 (fun _ _ h_ => h_) (Nat.lt_succ_self _) ⟨(wrap64 (i15 + 1)), (xs16.set i15.toNat t37), (.slice (some ad47) xs16.length c46), I49, rfl, ⟨_, H, Ho14⟩, (St.pick HS (fun W_ h_ => ⟨AllF.get 2 rfl h_, trivial⟩) (fun W_ h_ => ⟨AllF.get 0 rfl h_, trivial⟩))⟩ ⟨rfl, rfl, rfl, trivial⟩
  · rw [if_neg c30] at H
    refine WC.no rfl (decide_eq_false c30) ?_
    refine WC.exit ?_
    obtain rfl := Option.some.inj H
    exact WQ.via2 (fun _ _ h_ => h_) X19 ⟨i15, xs16, v17, I18, rfl, Ho14, (St.pick HS (fun W_ h_ => ⟨AllF.get 0 rfl h_, trivial⟩) (fun W_ h_ => ⟨AllF.get 0 rfl h_, trivial⟩))⟩ ⟨rfl, rfl, rfl, trivial⟩
def laws_toModel.g (k : Nat) (x0 : S31) : Option S39 := ((laws_toMergeS.g k x0.f3).bind fun t20 => ((laws_toIntSS.f k x0.f4).bind fun t33 => ((laws_toLayerS.g k x0.f5).bind fun t48 => ((laws_toIntS.f k x0.f6).bind fun t61 => ((laws_toMatrix.g k x0.f7).bind fun t80 => ((laws_toTurns.g k x0.f8).bind fun t101 => (some (⟨x0.f0, x0.f1, x0.f2, t20, t33, t48, t61, (⟨t80.f0, t80.f1, t80.f2, t80.f3, t80.f4⟩ : S36), (⟨t101.f0, t101.f1⟩ : S37)⟩ : S39))))))))
set_option maxHeartbeats 4000000 in
set_option maxRecDepth 20000 in
theorem laws_toModel.runs (k : Nat) (cs0 : List Value) (x0 : S31) (r : S39) (w : World) (hk0 : k31.K w x0 cs0) (H : laws_toModel.g k x0 = some r) :
    Calls Try.prog 16 #[.agg cs0.toArray] w fun e w' => ∃ (cs0_ : List Value), e = .returned (.agg cs0_.toArray) ∧ Foot (fun W => k39.K W r cs0_) w' (fun k_ => w.heap.size ≤ k_) ∧ Below w.heap.size w w' := by
  have el0 : cs0.length = 14 := k31.K_len hk0
  unfold laws_toModel.g at H
  have HS : St (fun _ => True) w w [] [(fun W => k31.K W x0 cs0)] [] := St.start (foot_cons (foot_K h31 hk0) foot_nil)
  refine calls_W Try.func16 rfl rfl (Nat.le_of_ble_eq_true rfl) (fun R_ hR_ => ?_)
  refine WC.seq (fun K1 hK1 => ?_)
  refine WC.region ?_
  refine WL.box HS rfl rfl (by decide) rfl rfl rfl (fun b2 w3 hb2 HS => ?_)
  refine WL.alloc HS (v := .agg #[.int .i64 0, .int .i64 0, .int .i64 0, .slice none 0 0, .slice none 0 0, .slice none 0 0, .slice none 0 0, .int .i64 0, .slice none 0 0, .slice none 0 0, .int .i64 0, .int .i64 0, .slice none 0 0, .slice none 0 0]) (cs := #[.int .i64 0, .int .i64 0, .int .i64 0, .slice none 0 0, .slice none 0 0, .slice none 0 0, .slice none 0 0, .int .i64 0, .slice none 0 0, .slice none 0 0, .int .i64 0, .int .i64 0, .slice none 0 0, .slice none 0 0]) rfl rfl (by decide) rfl (by kernel_rfl) rfl (fun b4 w5 hb4 HS => ?_)
  refine WL.done ?_
  refine WQ.via (fun _ _ h_ => h_) hK1 ?_
  refine WC.seq (fun K6 hK6 => ?_)
  refine WC.region ?_
  refine WL.alloc HS (v := .agg #[.int .i64 0, .int .i64 0, .int .i64 0, .slice none 0 0, .slice none 0 0, .slice none 0 0, .slice none 0 0, .int .i64 0, .slice none 0 0, .slice none 0 0, .int .i64 0, .int .i64 0, .slice none 0 0, .slice none 0 0]) (cs := #[.int .i64 0, .int .i64 0, .int .i64 0, .slice none 0 0, .slice none 0 0, .slice none 0 0, .slice none 0 0, .int .i64 0, .slice none 0 0, .slice none 0 0, .int .i64 0, .int .i64 0, .slice none 0 0, .slice none 0 0]) rfl rfl (by decide) rfl (by kernel_rfl) rfl (fun b7 w8 hb7 HS => ?_)
  refine WL.done ?_
  refine WQ.via (fun _ _ h_ => h_) hK6 ?_
  refine WC.seq (fun K9 hK9 => ?_)
  refine WC.region ?_
  refine v_ (Run.fieldAddr rfl rfl Try.underlying31 rfl (by kernel_rfl) rfl) ?_
  refine v_ (Run.load rfl rfl Try.underlying3 rfl (box_cell (HS.mu 2 rfl) (at31_0 (AtK.whole (HS.getO 0 rfl))).int)) ?_
  refine v_ (Run.fieldAddr rfl rfl Try.underlying39 rfl (by kernel_rfl) rfl) ?_
  refine WL.store HS 0 rfl rfl rfl rfl rfl rfl rfl (by kernel_rfl) (Nat.le_of_ble_eq_true rfl) (cs' := #[.int .i64 x0.f0, .int .i64 0, .int .i64 0, .slice none 0 0, .slice none 0 0, .slice none 0 0, .slice none 0 0, .int .i64 0, .slice none 0 0, .slice none 0 0, .int .i64 0, .int .i64 0, .slice none 0 0, .slice none 0 0]) (by kernel_rfl) (fun w10 HS => ?_)
  refine WL.done ?_
  refine WQ.via (fun _ _ h_ => h_) hK9 ?_
  refine WC.seq (fun K11 hK11 => ?_)
  refine WC.region ?_
  refine v_ (Run.fieldAddr rfl rfl Try.underlying31 rfl (by kernel_rfl) rfl) ?_
  refine v_ (Run.load rfl rfl Try.underlying3 rfl (box_cell (HS.mu 2 rfl) (at31_1 (AtK.whole (HS.getO 0 rfl))).int)) ?_
  refine v_ (Run.fieldAddr rfl rfl Try.underlying39 rfl (by kernel_rfl) rfl) ?_
  refine WL.store HS 0 rfl rfl rfl rfl rfl rfl rfl (by kernel_rfl) (Nat.le_of_ble_eq_true rfl) (cs' := #[.int .i64 x0.f0, .int .i64 x0.f1, .int .i64 0, .slice none 0 0, .slice none 0 0, .slice none 0 0, .slice none 0 0, .int .i64 0, .slice none 0 0, .slice none 0 0, .int .i64 0, .int .i64 0, .slice none 0 0, .slice none 0 0]) (by kernel_rfl) (fun w12 HS => ?_)
  refine WL.done ?_
  refine WQ.via (fun _ _ h_ => h_) hK11 ?_
  refine WC.seq (fun K13 hK13 => ?_)
  refine WC.region ?_
  refine v_ (Run.fieldAddr rfl rfl Try.underlying31 rfl (by kernel_rfl) rfl) ?_
  refine v_ (Run.load rfl rfl Try.underlying3 rfl (box_cell (HS.mu 2 rfl) (at31_2 (AtK.whole (HS.getO 0 rfl))).int)) ?_
  refine v_ (Run.fieldAddr rfl rfl Try.underlying39 rfl (by kernel_rfl) rfl) ?_
  refine WL.store HS 0 rfl rfl rfl rfl rfl rfl rfl (by kernel_rfl) (Nat.le_of_ble_eq_true rfl) (cs' := #[.int .i64 x0.f0, .int .i64 x0.f1, .int .i64 x0.f2, .slice none 0 0, .slice none 0 0, .slice none 0 0, .slice none 0 0, .int .i64 0, .slice none 0 0, .slice none 0 0, .int .i64 0, .int .i64 0, .slice none 0 0, .slice none 0 0]) (by kernel_rfl) (fun w14 HS => ?_)
  refine WL.done ?_
  refine WQ.via (fun _ _ h_ => h_) hK13 ?_
  refine WC.seq (fun K15 hK15 => ?_)
  refine WC.region ?_
  refine v_ (Run.fieldAddr rfl rfl Try.underlying31 rfl (by kernel_rfl) rfl) ?_
  obtain ⟨A16, c17, hc18, le19⟩ := (at31_3 (AtK.whole (HS.getO 0 rfl))).slice
  replace HS := HS.deriveO (p := (fun W => k129.C W A16 x0.f3.length x0.f3)) (fun W_ hO_ hN_ => (at31_3 (AtK.whole (AllF.get 0 rfl hO_))).C hc18)
  refine v_ (Run.load rfl rfl Try.underlying22 rfl (box_cell (HS.mu 2 rfl) hc18)) ?_
  obtain ⟨t20, ha21, H⟩ := bind_some H
  refine c_ Try.func49 (laws_toMergeS.runs k A16 c17 x0.f3 t20 _ (HS.getO 0 rfl) le19 ha21) ?_
  rintro _ w22 ⟨A23, c24, rfl, le25, hf26, hb⟩
  replace HS := HS.newNs hb (ps := [(fun W => k112.C W A23 t20.length t20)]) (foot_cons hf26 foot_nil)
  refine ⟨_, rfl, ?_⟩
  clear hb
  refine v_ (Run.fieldAddr rfl rfl Try.underlying39 rfl (by kernel_rfl) rfl) ?_
  refine WL.store HS 0 rfl rfl rfl rfl rfl rfl rfl (by kernel_rfl) (Nat.le_of_ble_eq_true rfl) (cs' := #[.int .i64 x0.f0, .int .i64 x0.f1, .int .i64 x0.f2, .slice A23 t20.length c24, .slice none 0 0, .slice none 0 0, .slice none 0 0, .int .i64 0, .slice none 0 0, .slice none 0 0, .int .i64 0, .int .i64 0, .slice none 0 0, .slice none 0 0]) (by kernel_rfl) (fun w27 HS => ?_)
  refine WL.done ?_
  refine WQ.via (fun _ _ h_ => h_) hK15 ?_
  refine WC.seq (fun K28 hK28 => ?_)
  refine WC.region ?_
  refine v_ (Run.fieldAddr rfl rfl Try.underlying31 rfl (by kernel_rfl) rfl) ?_
  obtain ⟨A29, c30, hc31, le32⟩ := (at31_4 (AtK.whole (HS.getO 1 rfl))).slice
  replace HS := HS.deriveO (p := (fun W => (Kd.slice 3 (Kd.int .i64)).C W A29 x0.f4.length x0.f4)) (fun W_ hO_ hN_ => (at31_4 (AtK.whole (AllF.get 1 rfl hO_))).C hc31)
  refine v_ (Run.load rfl rfl Try.underlying23 rfl (box_cell (HS.mu 2 rfl) hc31)) ?_
  obtain ⟨t33, ha34, H⟩ := bind_some H
  refine c_ Try.func50 (laws_toIntSS.calls k A29 c30 x0.f4 t33 _ (HS.getO 0 rfl) le32 ha34) ?_
  rintro _ w35 ⟨v36, rfl, h37, hb⟩
  obtain ⟨A38, c39, rfl, le40, hf41⟩ := res_S h37
  replace HS := HS.newNs hb (ps := [(fun W => (Kd.slice 3 (Kd.int .i64)).C W A38 t33.length t33)]) (foot_cons hf41 foot_nil)
  refine ⟨_, rfl, ?_⟩
  clear hb
  refine v_ (Run.fieldAddr rfl rfl Try.underlying39 rfl (by kernel_rfl) rfl) ?_
  refine WL.store HS 0 rfl rfl rfl rfl rfl rfl rfl (by kernel_rfl) (Nat.le_of_ble_eq_true rfl) (cs' := #[.int .i64 x0.f0, .int .i64 x0.f1, .int .i64 x0.f2, .slice A23 t20.length c24, .slice A38 t33.length c39, .slice none 0 0, .slice none 0 0, .int .i64 0, .slice none 0 0, .slice none 0 0, .int .i64 0, .int .i64 0, .slice none 0 0, .slice none 0 0]) (by kernel_rfl) (fun w42 HS => ?_)
  refine WL.done ?_
  refine WQ.via (fun _ _ h_ => h_) hK28 ?_
  refine WC.seq (fun K43 hK43 => ?_)
  refine WC.region ?_
  refine v_ (Run.fieldAddr rfl rfl Try.underlying31 rfl (by kernel_rfl) rfl) ?_
  obtain ⟨A44, c45, hc46, le47⟩ := (at31_5 (AtK.whole (HS.getO 2 rfl))).slice
  replace HS := HS.deriveO (p := (fun W => k44.C W A44 x0.f5.length x0.f5)) (fun W_ hO_ hN_ => (at31_5 (AtK.whole (AllF.get 2 rfl hO_))).C hc46)
  refine v_ (Run.load rfl rfl Try.underlying24 rfl (box_cell (HS.mu 2 rfl) hc46)) ?_
  obtain ⟨t48, ha49, H⟩ := bind_some H
  refine c_ Try.func51 (laws_toLayerS.runs k A44 c45 x0.f5 t48 _ (HS.getO 0 rfl) le47 ha49) ?_
  rintro _ w50 ⟨A51, c52, rfl, le53, hf54, hb⟩
  replace HS := HS.newNs hb (ps := [(fun W => k48.C W A51 t48.length t48)]) (foot_cons hf54 foot_nil)
  refine ⟨_, rfl, ?_⟩
  clear hb
  refine v_ (Run.fieldAddr rfl rfl Try.underlying39 rfl (by kernel_rfl) rfl) ?_
  refine WL.store HS 0 rfl rfl rfl rfl rfl rfl rfl (by kernel_rfl) (Nat.le_of_ble_eq_true rfl) (cs' := #[.int .i64 x0.f0, .int .i64 x0.f1, .int .i64 x0.f2, .slice A23 t20.length c24, .slice A38 t33.length c39, .slice A51 t48.length c52, .slice none 0 0, .int .i64 0, .slice none 0 0, .slice none 0 0, .int .i64 0, .int .i64 0, .slice none 0 0, .slice none 0 0]) (by kernel_rfl) (fun w55 HS => ?_)
  refine WL.done ?_
  refine WQ.via (fun _ _ h_ => h_) hK43 ?_
  refine WC.seq (fun K56 hK56 => ?_)
  refine WC.region ?_
  refine v_ (Run.fieldAddr rfl rfl Try.underlying31 rfl (by kernel_rfl) rfl) ?_
  obtain ⟨A57, c58, hc59, le60⟩ := (at31_6 (AtK.whole (HS.getO 3 rfl))).slice
  replace HS := HS.deriveO (p := (fun W => (Kd.int .i64).C W A57 x0.f6.length x0.f6)) (fun W_ hO_ hN_ => (at31_6 (AtK.whole (AllF.get 3 rfl hO_))).C hc59)
  refine v_ (Run.load rfl rfl Try.underlying25 rfl (box_cell (HS.mu 2 rfl) hc59)) ?_
  obtain ⟨t61, ha62, H⟩ := bind_some H
  refine c_ Try.func52 (laws_toIntS.calls k A57 c58 x0.f6 t61 _ (HS.getO 0 rfl) le60 ha62) ?_
  rintro _ w63 ⟨v64, rfl, h65, hb⟩
  obtain ⟨A66, c67, rfl, le68, hf69⟩ := res_R h65
  replace HS := HS.newNs hb (ps := [(fun W => (Kd.int .i64).C W A66 t61.length t61)]) (foot_cons hf69 foot_nil)
  refine ⟨_, rfl, ?_⟩
  clear hb
  refine v_ (Run.fieldAddr rfl rfl Try.underlying39 rfl (by kernel_rfl) rfl) ?_
  refine WL.store HS 0 rfl rfl rfl rfl rfl rfl rfl (by kernel_rfl) (Nat.le_of_ble_eq_true rfl) (cs' := #[.int .i64 x0.f0, .int .i64 x0.f1, .int .i64 x0.f2, .slice A23 t20.length c24, .slice A38 t33.length c39, .slice A51 t48.length c52, .slice A66 t61.length c67, .int .i64 0, .slice none 0 0, .slice none 0 0, .int .i64 0, .int .i64 0, .slice none 0 0, .slice none 0 0]) (by kernel_rfl) (fun w70 HS => ?_)
  refine WL.done ?_
  refine WQ.via (fun _ _ h_ => h_) hK56 ?_
  refine WC.seq (fun K71 hK71 => ?_)
  refine WC.region ?_
  refine v_ (Run.fieldAddr rfl rfl Try.underlying31 rfl (by kernel_rfl) rfl) ?_
  obtain ⟨A72, c73, hc74, le75⟩ := (at31_8 (AtK.whole (HS.getO 4 rfl))).slice
  replace HS := HS.deriveO (p := (fun W => (Kd.slice 3 (Kd.int .i64)).C W A72 x0.f7.f1.length x0.f7.f1)) (fun W_ hO_ hN_ => (at31_8 (AtK.whole (AllF.get 4 rfl hO_))).C hc74)
  obtain ⟨A76, c77, hc78, le79⟩ := (at31_9 (AtK.whole (HS.getO 5 rfl))).slice
  replace HS := HS.deriveO (p := (fun W => (Kd.slice 3 (Kd.int .i64)).C W A76 x0.f7.f2.length x0.f7.f2)) (fun W_ hO_ hN_ => (at31_9 (AtK.whole (AllF.get 5 rfl hO_))).C hc78)
  refine v_ (Run.loadS (cs := [.int .i64 x0.f7.f0, .slice A72 x0.f7.f1.length c73, .slice A76 x0.f7.f2.length c77, .int .i64 x0.f7.f3, .int .i64 x0.f7.f4]) rfl rfl Try.underlying27 rfl (by kernel_rfl) (box_part (HS.mu 2 rfl) (part_cons (at31_7 (AtK.whole (HS.getO 6 rfl))).int (part_cons hc74 (part_cons hc78 (part_cons (at31_10 (AtK.whole (HS.getO 6 rfl))).int (part_cons (at31_11 (AtK.whole (HS.getO 6 rfl))).int part_nil))))))) ?_
  obtain ⟨t80, ha81, H⟩ := bind_some H
  refine c_ Try.func53 (laws_toMatrix.runs k x0.f7 A72 c73 A76 c77 t80 _ (HS.getO 1 rfl) le75 (HS.getO 0 rfl) le79 ha81) ?_
  rintro _ w82 ⟨A83, c84, A87, c88, rfl, le85, hf86, le89, hf90, hb⟩
  replace HS := HS.newNs hb (ps := [(fun W => (Kd.slice 3 (Kd.int .i64)).C W A83 t80.f1.length t80.f1), (fun W => (Kd.slice 3 (Kd.int .i64)).C W A87 t80.f2.length t80.f2)]) (foot_cons hf86 (foot_cons hf90 foot_nil))
  refine ⟨_, rfl, ?_⟩
  clear hb
  refine v_ (Run.fieldAddr rfl rfl Try.underlying39 rfl (by kernel_rfl) rfl) ?_
  refine WL.storeS HS 0 (vs := [.int .i64 t80.f0, .slice A83 t80.f1.length c84, .slice A87 t80.f2.length c88, .int .i64 t80.f3, .int .i64 t80.f4]) rfl rfl rfl rfl rfl rfl (one_cons rfl (one_cons rfl (one_cons rfl (one_cons rfl (one_cons rfl one_nil))))) (by kernel_rfl) (Nat.le_of_ble_eq_true rfl) (cs' := #[.int .i64 x0.f0, .int .i64 x0.f1, .int .i64 x0.f2, .slice A23 t20.length c24, .slice A38 t33.length c39, .slice A51 t48.length c52, .slice A66 t61.length c67, .int .i64 t80.f0, .slice A83 t80.f1.length c84, .slice A87 t80.f2.length c88, .int .i64 t80.f3, .int .i64 t80.f4, .slice none 0 0, .slice none 0 0]) (by kernel_rfl) (fun w91 HS => ?_)
  refine WL.done ?_
  refine WQ.via (fun _ _ h_ => h_) hK71 ?_
  refine WC.seq (fun K92 hK92 => ?_)
  refine WC.region ?_
  refine v_ (Run.fieldAddr rfl rfl Try.underlying31 rfl (by kernel_rfl) rfl) ?_
  obtain ⟨A93, c94, hc95, le96⟩ := (at31_12 (AtK.whole (HS.getO 6 rfl))).slice
  replace HS := HS.deriveO (p := (fun W => (Kd.slice 3 (Kd.int .i64)).C W A93 x0.f8.f0.length x0.f8.f0)) (fun W_ hO_ hN_ => (at31_12 (AtK.whole (AllF.get 6 rfl hO_))).C hc95)
  obtain ⟨A97, c98, hc99, le100⟩ := (at31_13 (AtK.whole (HS.getO 7 rfl))).slice
  replace HS := HS.deriveO (p := (fun W => (Kd.slice 3 (Kd.int .i64)).C W A97 x0.f8.f1.length x0.f8.f1)) (fun W_ hO_ hN_ => (at31_13 (AtK.whole (AllF.get 7 rfl hO_))).C hc99)
  refine v_ (Run.loadS (cs := [.slice A93 x0.f8.f0.length c94, .slice A97 x0.f8.f1.length c98]) rfl rfl Try.underlying29 rfl (by kernel_rfl) (box_part (HS.mu 2 rfl) (part_cons hc95 (part_cons hc99 part_nil)))) ?_
  obtain ⟨t101, ha102, H⟩ := bind_some H
  refine c_ Try.func54 (laws_toTurns.runs k x0.f8 A93 c94 A97 c98 t101 _ (HS.getO 1 rfl) le96 (HS.getO 0 rfl) le100 ha102) ?_
  rintro _ w103 ⟨A104, c105, A108, c109, rfl, le106, hf107, le110, hf111, hb⟩
  replace HS := HS.newNs hb (ps := [(fun W => (Kd.slice 3 (Kd.int .i64)).C W A104 t101.f0.length t101.f0), (fun W => (Kd.slice 3 (Kd.int .i64)).C W A108 t101.f1.length t101.f1)]) (foot_cons hf107 (foot_cons hf111 foot_nil))
  refine ⟨_, rfl, ?_⟩
  clear hb
  refine v_ (Run.fieldAddr rfl rfl Try.underlying39 rfl (by kernel_rfl) rfl) ?_
  refine WL.storeS HS 0 (vs := [.slice A104 t101.f0.length c105, .slice A108 t101.f1.length c109]) rfl rfl rfl rfl rfl rfl (one_cons rfl (one_cons rfl one_nil)) (by kernel_rfl) (Nat.le_of_ble_eq_true rfl) (cs' := #[.int .i64 x0.f0, .int .i64 x0.f1, .int .i64 x0.f2, .slice A23 t20.length c24, .slice A38 t33.length c39, .slice A51 t48.length c52, .slice A66 t61.length c67, .int .i64 t80.f0, .slice A83 t80.f1.length c84, .slice A87 t80.f2.length c88, .int .i64 t80.f3, .int .i64 t80.f4, .slice A104 t101.f0.length c105, .slice A108 t101.f1.length c109]) (by kernel_rfl) (fun w112 HS => ?_)
  refine WL.done ?_
  refine WQ.via (fun _ _ h_ => h_) hK92 ?_
  refine WC.seq (fun K113 hK113 => ?_)
  refine WC.region ?_
  refine v_ (Run.loadS (cs := [.int .i64 x0.f0, .int .i64 x0.f1, .int .i64 x0.f2, .slice A23 t20.length c24, .slice A38 t33.length c39, .slice A51 t48.length c52, .slice A66 t61.length c67, .int .i64 t80.f0, .slice A83 t80.f1.length c84, .slice A87 t80.f2.length c88, .int .i64 t80.f3, .int .i64 t80.f4, .slice A104 t101.f0.length c105, .slice A108 t101.f1.length c109]) rfl rfl Try.underlying39 rfl (by kernel_rfl) (box_part (HS.mu 0 rfl) part_all)) ?_
  refine WL.storeS HS 1 (vs := [.int .i64 x0.f0, .int .i64 x0.f1, .int .i64 x0.f2, .slice A23 t20.length c24, .slice A38 t33.length c39, .slice A51 t48.length c52, .slice A66 t61.length c67, .int .i64 t80.f0, .slice A83 t80.f1.length c84, .slice A87 t80.f2.length c88, .int .i64 t80.f3, .int .i64 t80.f4, .slice A104 t101.f0.length c105, .slice A108 t101.f1.length c109]) rfl rfl rfl rfl rfl rfl (one_cons rfl (one_cons rfl (one_cons rfl (one_cons rfl (one_cons rfl (one_cons rfl (one_cons rfl (one_cons rfl (one_cons rfl (one_cons rfl (one_cons rfl (one_cons rfl (one_cons rfl (one_cons rfl one_nil)))))))))))))) (by kernel_rfl) (Nat.le_of_ble_eq_true rfl) (cs' := #[.int .i64 x0.f0, .int .i64 x0.f1, .int .i64 x0.f2, .slice A23 t20.length c24, .slice A38 t33.length c39, .slice A51 t48.length c52, .slice A66 t61.length c67, .int .i64 t80.f0, .slice A83 t80.f1.length c84, .slice A87 t80.f2.length c88, .int .i64 t80.f3, .int .i64 t80.f4, .slice A104 t101.f0.length c105, .slice A108 t101.f1.length c109]) (by kernel_rfl) (fun w114 HS => ?_)
  refine WL.done ?_
  refine WQ.via (fun _ _ h_ => h_) hK113 ?_
  refine WC.ret ?_
  replace HS := HS.deriveN (p := (fun W => k39.K W (⟨x0.f0, x0.f1, x0.f2, t20, t33, t48, t61, (⟨t80.f0, t80.f1, t80.f2, t80.f3, t80.f4⟩ : S36), (⟨t101.f0, t101.f1⟩ : S37)⟩ : S39) [.int .i64 x0.f0, .int .i64 x0.f1, .int .i64 x0.f2, .slice A23 t20.length c24, .slice A38 t33.length c39, .slice A51 t48.length c52, .slice A66 t61.length c67, .int .i64 t80.f0, .slice A83 t80.f1.length c84, .slice A87 t80.f2.length c88, .int .i64 t80.f3, .int .i64 t80.f4, .slice A104 t101.f0.length c105, .slice A108 t101.f1.length c109])) (fun W_ hN_ => (k39_mk _ (⟨x0.f0, x0.f1, x0.f2, t20, t33, t48, t61, (⟨t80.f0, t80.f1, t80.f2, t80.f3, t80.f4⟩ : S36), (⟨t101.f0, t101.f1⟩ : S37)⟩ : S39) (le25) (AllF.get 7 rfl hN_) (le40) (AllF.get 6 rfl hN_) (le53) (AllF.get 5 rfl hN_) (le68) (AllF.get 4 rfl hN_) (le85) (AllF.get 2 rfl hN_) (le89) (AllF.get 3 rfl hN_) (le106) (AllF.get 0 rfl hN_) (le110) (AllF.get 1 rfl hN_)))
  obtain rfl := Option.some.inj H
  refine WQ.fin (e' := .ret) (fn := Try.f16) (fun _ _ h_ => h_) (WQ.ret1 rfl ⟨_, rfl, resv_box (HS.mu 1 rfl) Try.underlying39 rfl (by kernel_rfl)⟩ ?_)
  exact hR_ _ _ ⟨_, rfl, (foot_fresh (HS.footN 0 rfl)), HS.b⟩
end Go.Proofs.Ytacbkcofcbglhaa.PFnExactModelOk
