/- The words that the printed texts of this claim use. No conditions. -/
import Derived.Below
import Derived.Deep.Draws
import Derived.Deep.AppendLies
import Derived.Maps.AppendAt
import Derived.OwnWalk
import Derived.Laws.BytesArg
import Derived.Laws.MakeOwn
import Derived.Laws.OwnMore
import Derived.Deep.OwnRows
import Derived.Tactics
import Derived.Lib.ConvBytes
import Derived.Laws.Slices
import Derived.WalkKit
import Derived.KernelRfl
import Derived.RowKit3
import Derived.Deep.LoopGhost
import Derived.Deep.QuietTactic
import Derived.BigQuiet
import Derived.WideLaws
import Derived.Deep.DeepCutAuto
import Derived.Deep.CutBlock
import Derived.Deep.RegionHeld3
import Derived.Laws.Rows
import Derived.Lib.AppendStr
import Derived.ArgAppend
import Derived.Laws.IdiomCopy
import Derived.RowKit
import Derived.OrdersHeld
import Derived.Laws.BitsLemmas
import Derived.Deep.MidRow
import Derived.Laws.CopyOwn
import Derived.Lib.SlBytesConst
import Derived.Laws.DeepStrings4
import Derived.Laws.Strings3
import Derived.Lib.SliceRun
import Derived.Deep.Slices
import Derived.WideShapes
import Derived.DataReads
import Derived.Laws.StructEq
set_option linter.unusedVariables false
set_option linter.unusedSimpArgs false
namespace Go.Proofs.YtoccifnjhbibcaaGreatW.PrintWords
open Go.RowKit
structure Aside0 (p : Prop) : Prop where mk :: (out : p)
structure Drawn0 (w w' : World) : Prop where mk :: (out : ∃ n, w' = w.drewN n)
theorem Drawn0.refl (w : World) : Drawn0 w w := ⟨⟨0, rfl⟩⟩
theorem Drawn0.step {w w' : World} (h : Drawn0 w w') (n : Nat) : Drawn0 w (w'.drewN n) := by
 obtain ⟨m, rfl⟩ := h
 exact ⟨⟨m + n, World.drewN_drewN ..⟩⟩
theorem Drawn0.below {w w' : World} (h : Drawn0 w w') : Below w.heap.size w w' := by
 obtain ⟨n, rfl⟩ := h
 induction n with
 | zero => exact Below.refl _ _
 | succ n ih => rw [← World.drew_drewN]; exact ih.drew
def rd (xs : List Int) (i : Int) : Int := xs.getD i.toNat 0
def nums (k : IntKind) (xs : List Int) : List Value := xs.map fun x => .int k x
theorem below_alloc {w W : World} (h : Below w.heap.size w W) (o : Obj) : Below w.heap.size w (W.alloc o) := h.alloc h.size o
theorem below_drew {B : Nat} {w W : World} (h : Below B w W) : Below B w W.drew := ⟨h.os, h.tape, h.output, h.size, h.block⟩
theorem pw_below_drewN {B : Nat} {w W : World} (h : Below B w W) (n : Nat) : Below B w (W.drewN n) := ⟨h.os, h.tape, h.output, h.size, h.block⟩
theorem below_then {B : Nat} {w w1 w2 : World} (h : Below B w w1) (hB : B ≤ w1.heap.size) (k : Below w1.heap.size w1 w2) : Below B w w2 :=
 h.trans ⟨k.os, k.tape, k.output, k.size, fun i hi => k.block i (Nat.lt_of_lt_of_le hi hB)⟩
theorem pw_cell_below {w w1 : World} (h : Below w.heap.size w w1) {a : Addr} {v : Value} (hc : w.cell? a = some v) : w1.cell? a = some v := (h.cell (World.block_lt_of_cell? w a hc)).trans hc
theorem add_plain (g j : Nat) : (⟨g, 0, none⟩ : Addr).add j = ⟨g, j, none⟩ := by unfold Addr.add; split <;> simp_all
def ReadsInt (w : World) (k : IntKind) (A : Option Addr) (n : Nat) (xs : List Int) : Prop :=
 xs.length = n ∧ n ≤ 9223372036854775807 ∧ (0 < n → ∃ ad, A = some ad ∧ ∀ j, j < n → w.cell? (ad.add j) = some (.int k (xs.getD j 0)))
theorem ReadsInt.at_ {w : World} {k : IntKind} {A : Option Addr} {n : Nat} {xs : List Int} (h : ReadsInt w k A n xs) (i : Int) (h0 : 0 ≤ i) (h1 : i < n) : ∃ ad, A = some ad ∧ w.cell? (ad.add i.toNat) = some (.int k (rd xs i)) := by
 obtain ⟨ad, e, hc⟩ := h.2.2 (by omega)
 exact ⟨ad, e, hc _ (by omega)⟩
theorem own_nil (W : World) (base : Nat) (e : TypeId) (size : Nat) : W.ownsRow base e size (.slice none 0 0) 0 [] := ⟨by simp, .inl ⟨rfl, rfl⟩⟩
theorem own_base {w : World} {base : Nat} {e : TypeId} {size n : Nat} {v : Value} {xs : List Value} (h : w.ownsRow base e size v n xs) (k : Nat) (hk : v.ownBlock = some k) : base ≤ k := by
 rcases h.2 with ⟨rfl, _⟩ | ⟨g, cap, cur, rfl, hb, _⟩
 · simp [Value.ownBlock] at hk
 · have : g = k := by simpa [Value.ownBlock] using hk
   omega
theorem own_lt {w : World} {base : Nat} {e : TypeId} {size n : Nat} {v : Value} {xs : List Value} (h : w.ownsRow base e size v n xs) (k : Nat) (hk : v.ownBlock = some k) : k < w.heap.size := by
 rcases h.2 with ⟨rfl, _⟩ | ⟨g, cap, cur, rfl, hb, hh, _⟩
 · simp [Value.ownBlock] at hk
 · have : g = k := by simpa [Value.ownBlock] using hk
   subst this
   exact (Array.getElem?_eq_some_iff.1 hh).1
theorem own_at {W : World} {base g n cap : Nat} {e : TypeId} {k : IntKind} {xs : List Int} (h : W.ownsRow base e 1 (.slice (some ⟨g, 0, none⟩) n cap) n (nums k xs)) (i : Int) (h0 : 0 ≤ i) (h1 : i < n) :
   W.cell? ⟨g, i.toNat, none⟩ = some (.int k (rd xs i)) ∧ W.frozen? ⟨g, i.toNat, none⟩ = false := by
 have hl : xs.length = n := by have := h.1; simp [nums] at this; exact this
 constructor
 · have hc := h.cells (g := g) rfl i.toNat (.int k (rd xs i)) (by simp [nums, rd, List.getElem?_eq_getElem (show i.toNat < xs.length by omega), List.getD_eq_getElem?_getD])
   rwa [add_plain] at hc
 · rcases h.2 with ⟨h', _⟩ | ⟨g', cap', cur, h', _, hh, _⟩
   · cases h'
   · have : g = g' := by injection h' with h'; injection h' with h'; injection h' with h'
     subst this
     simp [World.frozen?, hh]
def Reps {α : Type} (R : α → List Value → Prop) (size : Nat) (ps : List α) (cs : List Value) : Prop :=
 cs.length = ps.length * size ∧ ∀ j p, ps[j]? = some p → R p ((cs.drop (j * size)).take size)
theorem Reps.none {α : Type} (R : α → List Value → Prop) (size : Nat) : Reps R size [] [] := ⟨by simp, fun j p h => by simp at h⟩
theorem Reps.snoc {α : Type} {R : α → List Value → Prop} {size : Nat} {ps : List α} {cs c : List Value} {p : α} (h : Reps R size ps cs) (hp : R p c) (hc : c.length = size) : Reps R size (ps ++ [p]) (cs ++ c) := by
 refine ⟨by rw [List.length_append, h.1, hc, List.length_append, List.length_singleton, Nat.add_mul, Nat.one_mul], fun j q hq => ?_⟩
 rcases Nat.lt_or_ge j ps.length with hj | hj
 · rw [List.getElem?_append_left hj] at hq
   have h1 : j * size + size ≤ cs.length := by rw [h.1, ← Nat.succ_mul]; exact Nat.mul_le_mul_right _ hj
   have h2 := h.2 j q hq
   rw [List.drop_append_of_le_length (by omega), List.take_append_of_le_length (by rw [List.length_drop]; omega)]
   exact h2
 · have hj' : j = ps.length := by
     have := (List.getElem?_eq_some_iff.1 hq).1
     rw [List.length_append, List.length_singleton] at this
     omega
   subst hj'
   have hq' : p = q := by simpa using hq
   subst hq'
   rw [← h.1, List.drop_left, ← hc, List.take_length]
   exact hp
theorem Reps.imp_ {α : Type} {R R' : α → List Value → Prop} {size : Nat} {ps : List α} {cs : List Value} (h : Reps R size ps cs) (hR : ∀ p c, R p c → R' p c) : Reps R' size ps cs := ⟨h.1, fun j p hj => hR _ _ (h.2 j p hj)⟩
def ReadsRow {α : Type} (R : α → List Value → Prop) (size : Nat) (w : World) (A : Option Addr) (n : Nat) (ps : List α) : Prop :=
 ps.length = n ∧ n ≤ 9223372036854775807 ∧ (0 < n → ∃ ad, A = some ad ∧ ∀ j p, ps[j]? = some p → ∃ c, c.length = size ∧ R p c ∧ ∀ i u, c[i]? = some u → w.cell? (ad.add (j * size + i)) = some u)
theorem ReadsRow.get_ {α : Type} {R : α → List Value → Prop} {size : Nat} {w : World} {A : Option Addr} {n : Nat} {ps : List α} (h : ReadsRow R size w A n ps) (d : α) (i : Int) (h0 : 0 ≤ i) (h1 : i < n) :
   ∃ ad c, A = some ad ∧ c.length = size ∧ R (ps.getD i.toNat d) c ∧ ∀ j u, c[j]? = some u → w.cell? (ad.add (i.toNat * size + j)) = some u := by
 obtain ⟨ad, e, hc⟩ := h.2.2 (by omega)
 have hl : i.toNat < ps.length := by have := h.1; omega
 obtain ⟨c, hs, hr, hcell⟩ := hc i.toNat _ (List.getElem?_eq_getElem hl)
 refine ⟨ad, c, e, hs, ?_, hcell⟩
 rw [List.getD_eq_getElem?_getD, List.getElem?_eq_getElem hl]
 exact hr
theorem ReadsRow.imp_ {α : Type} {R R' : α → List Value → Prop} {size : Nat} {w w1 : World} {A : Option Addr} {n : Nat} {ps : List α} (h : ReadsRow R size w A n ps) (hb : Below w.heap.size w w1) (hR : ∀ p c, R p c → R' p c) : ReadsRow R' size w1 A n ps :=
 ⟨h.1, h.2.1, fun hn => by
   obtain ⟨ad, e, hc⟩ := h.2.2 hn
   refine ⟨ad, e, fun j p hj => ?_⟩
   obtain ⟨c, hs, hr, hcell⟩ := hc j p hj
   exact ⟨c, hs, hR _ _ hr, fun i u hu => pw_cell_below hb (hcell i u hu)⟩⟩
theorem own_reads_row {α : Type} {R : α → List Value → Prop} {w : World} {base n size : Nat} {e : TypeId} {v : Value} {ps : List α} {cs : List Value} (h : w.ownsRow base e size v n cs) (hR : Reps R size ps cs) (hn : ps.length = n) :
   ∃ A c, v = .slice A n c ∧ ReadsRow R size w A n ps := by
 rcases Nat.eq_zero_or_pos n with h0 | h0
 · rcases h.2 with ⟨rfl, rfl⟩ | ⟨g, cap, cur, rfl, _⟩
   · exact ⟨none, 0, rfl, hn, by omega, fun hp => absurd hp (by omega)⟩
   · exact ⟨_, cap, rfl, hn, by omega, fun hp => absurd hp (by omega)⟩
 · obtain ⟨g, cap, rfl, _, _⟩ := h.form h0
   have hm : n ≤ 9223372036854775807 := by
     rcases h.2 with ⟨_, h1⟩ | ⟨g', cap', cur, he, _, _, h1, h2, _⟩
     · omega
     · simp only [maxLen] at h2
       omega
   refine ⟨_, cap, rfl, hn, hm, fun _ => ⟨_, rfl, fun j p hj => ⟨(cs.drop (j * size)).take size, ?_, hR.2 j p hj, fun i u hu => ?_⟩⟩⟩
   · have hjl := (List.getElem?_eq_some_iff.1 hj).1
     have h1 : j * size + size ≤ cs.length := by rw [hR.1, ← Nat.succ_mul]; exact Nat.mul_le_mul_right _ hjl
     rw [List.length_take, List.length_drop]
     omega
   · refine h.cells (g := g) rfl _ u ?_
     rw [List.getElem?_take] at hu
     split at hu
     · rw [List.getElem?_drop] at hu
       exact hu
     · cases hu
theorem blk_set {w : World} {g : Nat} {t : TypeId} {cs : Array Value} (h : w.heap[g]? = some (.cells cs t (0, 0))) (i : Nat) (u : Value) : (w.setCell ⟨g, i, none⟩ u).heap[g]? = some (.cells (cs.setIfInBounds i u) t (0, 0)) := by
 simp [World.setCell, Array.getElem?_modify, h]
theorem blk_lt {w : World} {g : Nat} {o : Obj} (h : w.heap[g]? = some o) : g < w.heap.size := (Array.getElem?_eq_some_iff.1 h).1
theorem blk_cell {w : World} {g : Nat} {t : TypeId} {cs : Array Value} (h : w.heap[g]? = some (.cells cs t (0, 0))) (i : Nat) : w.cell? ⟨g, i, none⟩ = cs[i]? := cell_of_row w g i cs t (0, 0) h
theorem blk_frozen {w : World} {g : Nat} {t : TypeId} {cs : Array Value} (h : w.heap[g]? = some (.cells cs t (0, 0))) (i : Nat) : w.frozen? ⟨g, i, none⟩ = false := by simp [World.frozen?, h]
theorem own_weaken {w : World} {base base' : Nat} {e : TypeId} {size n : Nat} {v : Value} {xs : List Value} (h : w.ownsRow base e size v n xs) (hb : base' ≤ base) : w.ownsRow base' e size v n xs := by
 obtain ⟨h1, h2⟩ := h
 refine ⟨h1, ?_⟩
 rcases h2 with h2 | ⟨g, cap, cur, rfl, hg, r⟩
 · exact .inl h2
 · exact .inr ⟨g, cap, cur, rfl, Nat.le_trans hb hg, r⟩
section
variable {α : Type} {enc : α → Value} {d : α}
def rdOf (d : α) (xs : List α) (i : Int) : α := xs.getD i.toNat d
def ReadsOf (enc : α → Value) (d : α) (w : World) (A : Option Addr) (n : Nat) (xs : List α) : Prop :=
 xs.length = n ∧ n ≤ 9223372036854775807 ∧ (0 < n → ∃ ad, A = some ad ∧ ∀ j, j < n → w.cell? (ad.add j) = some (enc (xs.getD j d)))
theorem ReadsOf.at_ {w : World} {A : Option Addr} {n : Nat} {xs : List α} (h : ReadsOf enc d w A n xs) (i : Int) (h0 : 0 ≤ i) (h1 : i < n) : ∃ ad, A = some ad ∧ w.cell? (ad.add i.toNat) = some (enc (rdOf d xs i)) := by
 obtain ⟨ad, e, hc⟩ := h.2.2 (by omega)
 exact ⟨ad, e, hc _ (by omega)⟩
end
theorem own_le {w : World} {base n m c size : Nat} {e : TypeId} {A : Option Addr} {xs : List Value} (h : w.ownsRow base e size (.slice A m c) n xs) : m ≤ c := by
 rcases h.2 with ⟨he, _⟩ | ⟨g, cap, cur, he, _, _, hnc, _⟩
 · injection he with _ h2 h3
   omega
 · injection he with _ h2 h3
   omega
def OwnRow {α : Type} (R : α → List Value → Prop) (e : TypeId) (size : Nat) (w : World) (base : Nat) (v : Value) (ps : List α) : Prop :=
 ∃ inner, w.ownsRow base e size v ps.length inner ∧ Reps R size ps inner
section
variable {α : Type} {R R' : α → List Value → Prop} {e : TypeId} {size : Nat} {w w1 : World} {base : Nat} {v : Value} {ps : List α}
theorem OwnRow.imp_ (h : OwnRow R e size w base v ps) (hR : ∀ p c, R p c → R' p c) : OwnRow R' e size w base v ps := by
 obtain ⟨inner, ho, hr⟩ := h
 exact ⟨inner, ho, hr.imp_ hR⟩
theorem OwnRow.reads (h : OwnRow R e size w base v ps) : ∃ A c, v = .slice A ps.length c ∧ ps.length ≤ c ∧ ReadsRow R size w A ps.length ps := by
 obtain ⟨inner, ho, hr⟩ := h
 obtain ⟨A, c, rfl, hrow⟩ := own_reads_row ho hr rfl
 exact ⟨A, c, rfl, own_le ho, hrow⟩
end
structure Kd (α : Type) where
 sz : Nat
 E : List Nat
 K : World → α → List Value → Prop
 M : World → Nat → (Nat → Prop) → α → List Value → Prop
 K_len : ∀ {w x cs}, K w x cs → cs.length = sz
 K_one : ∀ {w x cs}, K w x cs → ∀ u ∈ cs, u.oneCell' = true
 K_below : ∀ {w w1 : World} {x cs}, Below w.heap.size w w1 → K w x cs → K w1 x cs
 K_of_M : ∀ {w base ok x cs}, M w base ok x cs → K w x cs
 M_mono : ∀ {w base ok ok' x cs}, (∀ k, ok k → ok' k) → M w base ok x cs → M w base ok' x cs
 M_bound : ∀ {w : World} {base ok x cs}, M w base ok x cs → M w base (fun k => ok k ∧ base ≤ k ∧ k < w.heap.size ∧ ∃ q, q ∈ E ∧ ∃ cells, w.heap[k]? = some (.cells cells q (0, 0))) x cs
 M_move : ∀ {w w1 : World} {base ok x cs}, (∀ k, ok k → w1.heap[k]? = w.heap[k]?) → M w base ok x cs → M w1 base ok x cs
 M_lower : ∀ {w base base' ok x cs}, base' ≤ base → M w base ok x cs → M w base' ok x cs
theorem own_move {w w1 : World} {base : Nat} {e : TypeId} {size n : Nat} {v : Value} {xs : List Value} (h : w.ownsRow base e size v n xs) (hm : ∀ k, v.ownBlock = some k → w1.heap[k]? = w.heap[k]?) : w1.ownsRow base e size v n xs := by
 obtain ⟨h1, h2⟩ := h
 refine ⟨h1, ?_⟩
 rcases h2 with h2 | ⟨g, cap, cur, rfl, hg, hh, r⟩
 · exact .inl h2
 · exact .inr ⟨g, cap, cur, rfl, hg, (hm g (by simp [Value.ownBlock])).trans hh, r⟩
theorem own_typed {w : World} {base : Nat} {e : TypeId} {size n : Nat} {v : Value} {xs : List Value} (h : w.ownsRow base e size v n xs) (k : Nat) (hk : v.ownBlock = some k) : ∃ cells, w.heap[k]? = some (.cells cells e (0, 0)) := by
 rcases h.2 with ⟨rfl, _⟩ | ⟨g, cap, cur, rfl, hg, hh, r⟩
 · simp [Value.ownBlock] at hk
 · have : g = k := by simpa [Value.ownBlock] using hk
   subst this
   exact ⟨cur, hh⟩
namespace Kd
def C {α : Type} (d : Kd α) (w : World) (A : Option Addr) (n : Nat) (xs : List α) : Prop := ReadsRow (d.K w) d.sz w A n xs
def R {α : Type} (d : Kd α) (e : Nat) (w : World) (base : Nat) (ok : Nat → Prop) (v : Value) (xs : List α) : Prop :=
 (∀ k, v.ownBlock = some k → ok k) ∧ OwnRow (d.M w base (fun k => ok k ∧ some k ≠ v.ownBlock)) e d.sz w base v xs
section
variable {α : Type} {d : Kd α} {e : Nat} {w w1 : World} {base : Nat} {ok ok' : Nat → Prop} {v : Value} {xs : List α}
theorem C_below {A : Option Addr} {n : Nat} (h : d.C w A n xs) (hb : Below w.heap.size w w1) : d.C w1 A n xs := ReadsRow.imp_ h hb (fun _ _ hp => d.K_below hb hp)
theorem R_mono (h : d.R e w base ok v xs) (hok : ∀ k, ok k → ok' k) : d.R e w base ok' v xs := ⟨fun k hk => hok k (h.1 k hk), h.2.imp_ (fun _ _ hp => d.M_mono (fun k hk => ⟨hok k hk.1, hk.2⟩) hp)⟩
theorem R_bound (h : d.R e w base ok v xs) : d.R e w base (fun k => ok k ∧ base ≤ k ∧ k < w.heap.size ∧ ∃ q, q ∈ e :: d.E ∧ ∃ cells, w.heap[k]? = some (.cells cells q (0, 0))) v xs := by
 obtain ⟨h0, inner, ho, hr⟩ := h
 refine ⟨fun k hk => ?_, inner, ho, hr.imp_ (fun _ _ hp => d.M_mono (fun k hk => ?_) (d.M_bound hp))⟩
 · obtain ⟨cells, hc⟩ := own_typed ho k hk
   exact ⟨h0 k hk, own_base ho k hk, own_lt ho k hk, e, List.mem_cons_self, cells, hc⟩
 · obtain ⟨⟨h1, h2⟩, h3, h4, q, hq, hc⟩ := hk
   exact ⟨⟨h1, h3, h4, q, List.mem_cons_of_mem _ hq, hc⟩, h2⟩
theorem R_move (h : d.R e w base ok v xs) (hm : ∀ k, ok k → w1.heap[k]? = w.heap[k]?) : d.R e w1 base ok v xs := by
 obtain ⟨h0, inner, ho, hr⟩ := h
 exact ⟨h0, inner, own_move ho (fun k hk => hm k (h0 k hk)), hr.imp_ (fun _ _ hp => d.M_move (fun k hk => hm k hk.1) hp)⟩
theorem R_lower {base' : Nat} (h : d.R e w base ok v xs) (hb : base' ≤ base) : d.R e w base' ok v xs := by
 obtain ⟨h0, inner, ho, hr⟩ := h
 exact ⟨h0, inner, own_weaken ho hb, hr.imp_ (fun _ _ hp => d.M_lower hb hp)⟩
theorem R_reads (h : d.R e w base ok v xs) : ∃ A c, v = .slice A xs.length c ∧ xs.length ≤ c ∧ d.C w A xs.length xs := by
 obtain ⟨A, c, he, hl, hr⟩ := OwnRow.reads h.2
 exact ⟨A, c, he, hl, hr.imp_ (Below.refl _ _) (fun _ _ hp => d.K_of_M hp)⟩
end
def scalar {α : Type} (enc : α → Value) (h1 : ∀ x, (enc x).oneCell' = true) : Kd α where
 sz := 1
 E := []
 K := fun _ x cs => cs = [enc x]
 M := fun _ _ _ x cs => cs = [enc x]
 K_len := fun h => by rw [h]; rfl
 K_one := fun h u hu => by
   rw [h] at hu
   rw [List.mem_singleton.1 hu]
   exact h1 _
 K_below := fun _ h => h
 K_of_M := fun h => h
 M_mono := fun _ h => h
 M_bound := fun h => h
 M_move := fun _ h => h
 M_lower := fun _ h => h
def int (k : IntKind) : Kd Int := scalar (Value.int k) (fun _ => rfl)
def bool : Kd Bool := scalar Value.bool (fun _ => rfl)
def slice {α : Type} (e : Nat) (d : Kd α) : Kd (List α) where
 sz := 1
 E := e :: d.E
 K := fun w xs cs => ∃ A c, cs = [.slice A xs.length c] ∧ xs.length ≤ c ∧ d.C w A xs.length xs
 M := fun w base ok xs cs => ∃ v, cs = [v] ∧ d.R e w base ok v xs
 K_len := by
   rintro w x cs ⟨A, c, rfl, _⟩
   rfl
 K_one := by
   rintro w x cs ⟨A, c, rfl, _⟩ u hu
   rw [List.mem_singleton.1 hu]
   rfl
 K_below := by
   rintro w w1 x cs hb ⟨A, c, rfl, hl, hr⟩
   exact ⟨A, c, rfl, hl, C_below hr hb⟩
 K_of_M := by
   rintro w base ok x cs ⟨v, rfl, h⟩
   obtain ⟨A, c, rfl, hl, hr⟩ := R_reads h
   exact ⟨A, c, rfl, hl, hr⟩
 M_mono := by
   rintro w base ok ok' x cs hok ⟨v, rfl, h⟩
   exact ⟨v, rfl, R_mono h hok⟩
 M_bound := by
   rintro w base ok x cs ⟨v, rfl, h⟩
   exact ⟨v, rfl, R_bound h⟩
 M_move := by
   rintro w w1 base ok x cs hm ⟨v, rfl, h⟩
   exact ⟨v, rfl, R_move h hm⟩
 M_lower := by
   rintro w base base' ok x cs hb ⟨v, rfl, h⟩
   exact ⟨v, rfl, R_lower h hb⟩
def pair {α β : Type} (a : Kd α) (b : Kd β) : Kd (α × β) where
 sz := a.sz + b.sz
 E := a.E ++ b.E
 K := fun w x cs => ∃ c0 c1, cs = c0 ++ c1 ∧ a.K w x.1 c0 ∧ b.K w x.2 c1
 M := fun w base ok x cs => ∃ c0 c1, cs = c0 ++ c1 ∧ a.M w base ok x.1 c0 ∧ b.M w base ok x.2 c1
 K_len := by
   rintro w x cs ⟨c0, c1, rfl, h0, h1⟩
   rw [List.length_append, a.K_len h0, b.K_len h1]
 K_one := by
   rintro w x cs ⟨c0, c1, rfl, h0, h1⟩ u hu
   rcases List.mem_append.1 hu with hu | hu
   · exact a.K_one h0 u hu
   · exact b.K_one h1 u hu
 K_below := by
   rintro w w1 x cs hb ⟨c0, c1, rfl, h0, h1⟩
   exact ⟨c0, c1, rfl, a.K_below hb h0, b.K_below hb h1⟩
 K_of_M := by
   rintro w base ok x cs ⟨c0, c1, rfl, h0, h1⟩
   exact ⟨c0, c1, rfl, a.K_of_M h0, b.K_of_M h1⟩
 M_mono := by
   rintro w base ok ok' x cs hok ⟨c0, c1, rfl, h0, h1⟩
   exact ⟨c0, c1, rfl, a.M_mono hok h0, b.M_mono hok h1⟩
 M_bound := by
   rintro w base ok x cs ⟨c0, c1, rfl, h0, h1⟩
   refine ⟨c0, c1, rfl, a.M_mono ?_ (a.M_bound h0), b.M_mono ?_ (b.M_bound h1)⟩
   · rintro k ⟨h2, h3, h4, q, hq, hc⟩
     exact ⟨h2, h3, h4, q, List.mem_append_left _ hq, hc⟩
   · rintro k ⟨h2, h3, h4, q, hq, hc⟩
     exact ⟨h2, h3, h4, q, List.mem_append_right _ hq, hc⟩
 M_move := by
   rintro w w1 base ok x cs hm ⟨c0, c1, rfl, h0, h1⟩
   exact ⟨c0, c1, rfl, a.M_move hm h0, b.M_move hm h1⟩
 M_lower := by
   rintro w base base' ok x cs hb ⟨c0, c1, rfl, h0, h1⟩
   exact ⟨c0, c1, rfl, a.M_lower hb h0, b.M_lower hb h1⟩
def iso {α β : Type} (d : Kd α) (f : β → α) : Kd β where
 sz := d.sz
 E := d.E
 K := fun w x cs => d.K w (f x) cs
 M := fun w base ok x cs => d.M w base ok (f x) cs
 K_len := d.K_len
 K_one := d.K_one
 K_below := d.K_below
 K_of_M := d.K_of_M
 M_mono := d.M_mono
 M_bound := d.M_bound
 M_move := d.M_move
 M_lower := d.M_lower
def bot {α : Type} (sz : Nat) (E : List Nat) : Kd α where
 sz := sz
 E := E
 K := fun _ _ _ => False
 M := fun _ _ _ _ _ => False
 K_len := fun h => h.elim
 K_one := fun h => h.elim
 K_below := fun _ h => h
 K_of_M := fun h => h
 M_mono := fun _ h => h
 M_bound := fun h => h
 M_move := fun _ h => h
 M_lower := fun _ h => h
def upto {α : Type} (F : Kd α → Kd α) (sz : Nat) (E : List Nat) : Nat → Kd α
 | 0 => bot sz E
 | n + 1 => F (upto F sz E n)
theorem C_get {α : Type} {d : Kd α} {w : World} {A : Option Addr} {n : Nat} {xs : List α} (h : d.C w A n xs) (z : α) (i : Int) (h0 : 0 ≤ i) (h1 : i < n) :
   ∃ ad c, A = some ad ∧ c.length = d.sz ∧ d.K w (xs.getD i.toNat z) c ∧ ∀ j u, c[j]? = some u → w.cell? (ad.add (i.toNat * d.sz + j)) = some u := ReadsRow.get_ h z i h0 h1
theorem reads_of_C {α : Type} {enc : α → Value} {d : α} {h1 : ∀ x, (enc x).oneCell' = true} {w : World} {A : Option Addr} {n : Nat} {xs : List α} (h : (scalar enc h1).C w A n xs) : ReadsOf enc d w A n xs := by
 refine ⟨h.1, h.2.1, fun hn => ?_⟩
 obtain ⟨ad, e, hc⟩ := h.2.2 hn
 refine ⟨ad, e, fun j hj => ?_⟩
 have hl : j < xs.length := by have := h.1; omega
 obtain ⟨c, _, hK, hcell⟩ := hc j _ (List.getElem?_eq_getElem hl)
 have hK' : c = [enc xs[j]] := hK
 subst hK'
 have := hcell 0 _ rfl
 simpa [scalar, List.getD_eq_getElem?_getD, List.getElem?_eq_getElem hl] using this
end Kd
namespace Kd
def Sub {α β : Type} (F : Kd α → Kd β) (E : List Nat) : Prop := ∀ d : Kd α, (∀ q, q ∈ d.E → q ∈ E) → ∀ q, q ∈ (F d).E → q ∈ E
end Kd
namespace Kd
section
variable {α β : Type} {d : Kd α} {d' : Kd β} {e e' : Nat} {w w1 W : World} {base b b' : Nat} {ok ok' okv oku : Nat → Prop} {v u : Value} {xs : List α} {ys : List β}
theorem C_alloc {A : Option Addr} {n : Nat} (h : d.C w A n xs) (o : Obj) : d.C (w.alloc o) A n xs := C_below h (below_alloc (Below.refl _ _) o)
theorem C_nil (d : Kd α) (w : World) : d.C w none ([] : List α).length [] := ⟨rfl, by simp, fun h => absurd h (Nat.lt_irrefl 0)⟩
theorem C_max {A : Option Addr} {n : Nat} (h : d.C w A n xs) : n ≤ 9223372036854775807 := h.2.1
end
section
variable {w W : World} {A : Option Addr} {n : Nat}
theorem at_int {k : IntKind} {xs : List Int} (h : (Kd.int k).C w A n xs) (i : Int) (h0 : 0 ≤ i) (h1 : i < n) : ∃ ad, A = some ad ∧ w.cell? (ad.add i.toNat) = some (.int k (rd xs i)) :=
 ReadsOf.at_ (reads_of_C (enc := Value.int k) (d := (0 : Int)) (h1 := fun _ => rfl) h) i h0 h1
variable {α : Type} {enc : α → Value} {h1 : ∀ x, (enc x).oneCell' = true} {e base g cap : Nat} {ok : Nat → Prop} {xs : List α}
end
section
variable {P : Program} {ops : Array Oper} {rest : List Oper} {o : Oper} {a : Act} {Q : Exit → Act → World → Prop}
variable {α : Type}
theorem reps_made {α : Type} {R : α → List Value → Prop} {z : Value} {size : Nat} {z0 : α} (hz : z.cells.size = size) (hs : 0 < size) (h0 : R z0 z.cells.toList) (m : Nat) : Reps R size (List.replicate m z0) (madeCells z.cells (m * size)).toList := by
 refine ⟨by simp [size_madeCells], fun j p hj => ?_⟩
 obtain ⟨hjl, hp⟩ := List.getElem?_eq_some_iff.1 hj
 have hjm : j < m := by simpa using hjl
 have hp' : z0 = p := by simpa using hp
 subst hp'
 have hle : j * size + size ≤ m * size := by rw [← Nat.succ_mul]; exact Nat.mul_le_mul_right _ hjm
 have : ((madeCells z.cells (m * size)).toList.drop (j * size)).take size = z.cells.toList := by
   apply List.ext_getElem
   · simp [size_madeCells, hz]
     omega
   · intro i h1 h2
     have hi : i < size := by rw [Array.length_toList, hz] at h2; exact h2
     have hmod : (j * size + i) % size = i := by
       rw [Nat.mul_comm, Nat.mul_add_mod]
       exact Nat.mod_eq_of_lt hi
     simp [madeCells, hz, hmod]
     rw [getElem!_pos z.cells i (by omega)]
 rw [this]
 exact h0
end
end Kd
def QRow (w : World) (base : Nat) (e : TypeId) (size : Nat) (v : Value) (n : Nat) (xs : List Value) : Prop :=
 xs.length = n * size ∧
 ((n = 0 ∧ ∃ A, v = .slice A 0 0 ∧ ∀ a, A = some a → base ≤ a.block ∧ ∃ cur, w.heap[a.block]? = some (.cells cur e (0, 0))) ∨
  ∃ g off cap cur, v = .slice (some ⟨g, off * size, none⟩) n cap ∧ base ≤ g ∧ w.heap[g]? = some (.cells cur e (0, 0)) ∧ n ≤ cap ∧ off + cap ≤ maxLen ∧ cur.size = (off + cap) * size ∧ (cur.toList.drop (off * size)).take (n * size) = xs)
namespace Kd
def Q {α : Type} (d : Kd α) (e : Nat) (w : World) (base : Nat) (ok : Nat → Prop) (v : Value) (xs : List α) : Prop :=
 (∀ k, v.ownBlock = some k → ok k) ∧ ∃ inner, QRow w base e d.sz v xs.length inner ∧ Reps (d.M w base (fun k => ok k ∧ some k ≠ v.ownBlock)) d.sz xs inner
end Kd
theorem seg_get {α : Type} (a seg : List α) (o : Nat) (h : o + seg.length ≤ a.length) (q : Nat) :
   (a.take o ++ seg ++ a.drop (o + seg.length))[q]? = if q < o then a[q]? else if q < o + seg.length then seg[q - o]? else a[q]? := by
 have hl : (a.take o).length = o := by rw [List.length_take]; omega
 rw [List.append_assoc]
 by_cases h1 : q < o
 · rw [if_pos h1, List.getElem?_append_left (by omega), List.getElem?_take, if_pos h1]
 · rw [if_neg h1, List.getElem?_append_right (by omega), hl]
   by_cases h2 : q < o + seg.length
   · rw [if_pos h2, List.getElem?_append_left (by omega)]
   · rw [if_neg h2, List.getElem?_append_right (by omega), List.getElem?_drop]
     congr 1
     omega
theorem add_add (a : Addr) (i j : Nat) : (a.add i).add j = a.add (i + j) := by
 unfold Addr.add
 by_cases h1 : i = 0 <;> by_cases h2 : j = 0 <;> simp [h1, h2, Nat.add_assoc]
namespace Kd
section
variable {α : Type} {k : Kd α} {w : World} {A : Option Addr} {xs : List α} {m c : Nat}
theorem C_take (h : k.C w A xs.length xs) (hm : m ≤ xs.length) : k.C w A (xs.take m).length (xs.take m) := by
 have hl : (xs.take m).length = m := by rw [List.length_take]; omega
 refine ⟨rfl, by rw [hl]; have := h.2.1; omega, fun hp => ?_⟩
 obtain ⟨ad, e, hc⟩ := h.2.2 (by omega)
 refine ⟨ad, e, fun j p hj => hc j p ?_⟩
 rw [List.getElem?_take] at hj
 split at hj
 · exact hj
 · cases hj
theorem C_drop (h : k.C w A xs.length xs) (hm : m ≤ xs.length) (hc : xs.length ≤ c) : k.C w (if c = m then A else A.map (·.add (m * k.sz))) (xs.drop m).length (xs.drop m) := by
 have hl : (xs.drop m).length = xs.length - m := List.length_drop
 refine ⟨rfl, by rw [hl]; have := h.2.1; omega, fun hp => ?_⟩
 rw [hl] at hp
 obtain ⟨ad, rfl, hcell⟩ := h.2.2 (by omega)
 rw [if_neg (by omega)]
 refine ⟨ad.add (m * k.sz), rfl, fun j p hj => ?_⟩
 rw [List.getElem?_drop] at hj
 obtain ⟨cs, h1, h2, h3⟩ := hcell (m + j) p hj
 refine ⟨cs, h1, h2, fun i u hu => ?_⟩
 rw [add_add, show m * k.sz + (j * k.sz + i) = (m + j) * k.sz + i by rw [Nat.add_mul]; omega]
 exact h3 i u hu
theorem C_mid {lo hi : Nat} (h : k.C w A xs.length xs) (h1 : lo ≤ hi) (h2 : hi ≤ xs.length) (hc : xs.length ≤ c) : k.C w (if c = lo then A else A.map (·.add (lo * k.sz))) ((xs.take hi).drop lo).length ((xs.take hi).drop lo) := by
 have hl : (xs.take hi).length = hi := by rw [List.length_take]; omega
 exact C_drop (C_take h h2) (by omega) (by omega)
end
end Kd
theorem below_step {w W w2 : World} (h : Below w.heap.size w W) (k : Below W.heap.size W w2) : Below w.heap.size w w2 := below_then h h.size k
theorem below_set {w W : World} {g j : Nat} {v : Value} (h : Below w.heap.size w W) (hg : w.heap.size ≤ g) : Below w.heap.size w (W.setCell ⟨g, j, none⟩ v) := h.setCell hg _
theorem below_drew1 {base : Nat} {w W : World} (h : Below base w W) : Below base w W.drew := h.drew
namespace Kd
section
variable {α : Type} {d : Kd α} {e base g : Nat} {ok : Nat → Prop} {w w1 : World} {v : Value} {xs : List α} {o : Obj}
theorem freshB (hb : w.heap[g]? = some o) : ∀ k, w.heap.size ≤ k → k ≠ g := fun k hk => by have := blk_lt hb; omega
end
end Kd
end Go.Proofs.YtoccifnjhbibcaaGreatW.PrintWords
namespace Go.Proofs.YtoccifnjhbibcaaGreatW.PrintLast
section
variable {P : Program} {ops : Array Oper} {Q : Exit → Act → World → Prop} {md : Region.Mode} {S : World → Prop} {ds : List Nat}
def Region.reachB (md : Region.Mode) (ops : Array Oper) (i : Nat) : Nat → Nat → Bool
 | 0, _ => false
 | fuel + 1, d => match ops[d]? with
   | some o => o.after.any fun e => Region.binds md e && (e.on == i || Region.reachB md ops i fuel e.on)
   | none => false
def Region.closedB (md : Region.Mode) (ops : Array Oper) (listed : Array Bool) : Bool :=
 (List.range ops.size).all fun j => !listed.getD j false || match ops[j]? with
   | some o => o.after.all fun e => !Region.binds md e || listed.getD e.on false
   | none => true
def Region.lastB (md : Region.Mode) (ops : Array Oper) (listed : Array Bool) (ds : List Nat) (i : Nat) : Bool :=
 ds.all fun d => listed.getD d true || Region.reachB md ops i ops.size d
def ListedClosed (md : Region.Mode) (ops : Array Oper) (listed : Array Bool) : Prop :=
 ∀ j oj, ops[j]? = some oj → listed.getD j false = true → ∀ e ∈ oj.after, Region.binds md e = true → listed.getD e.on false = true
theorem Region.closedB_spec {listed : Array Bool} (h : Region.closedB md ops listed = true) : ListedClosed md ops listed := by
 intro j oj hj hl e he hb
 have hlt : j < ops.size := (Array.getElem?_eq_some_iff.1 hj).1
 have h1 := List.all_eq_true.1 h j (List.mem_range.2 hlt)
 simp only [hl, hj, Bool.not_true, Bool.false_or] at h1
 have h2 := Array.all_eq_true_iff_forall_mem.1 h1 e he
 simpa [hb] using h2
theorem ListedClosed.set {listed : Array Bool} {i : Nat} (h : ListedClosed md ops listed) (hi : i ∈ Region.ready md ops listed) : ListedClosed md ops (listed.setIfInBounds i true) := by
 obtain ⟨_, oi, hoi, hall⟩ := mem_ready.1 hi
 intro j oj hj hl e he hb
 by_cases hij : i = j
 · subst hij
   have : oj = oi := Option.some.inj (hj.symm.trans hoi)
   subst this
   exact getD_set_true (hall e he hb)
 · rw [getD_set_ne false hij] at hl
   exact getD_set_true (h j oj hj hl e he hb)
theorem Region.reach_listed {listed : Array Bool} {i : Nat} (hc : ListedClosed md ops listed) : ∀ (fuel d : Nat), Region.reachB md ops i fuel d = true → listed.getD d false = true → listed.getD i false = true
 | 0, _, h, _ => by simp [Region.reachB] at h
 | fuel + 1, d, h, hl => by
   unfold Region.reachB at h
   cases ho : ops[d]? with
   | none => rw [ho] at h; simp at h
   | some o =>
     rw [ho] at h
     obtain ⟨e, he, h1⟩ := Array.any_eq_true'.1 h
     simp only [Bool.and_eq_true, Bool.or_eq_true, beq_iff_eq] at h1
     have hle := hc d o ho hl e he h1.1
     rcases h1.2 with h2 | h2
     · rw [← h2]; exact hle
     · exact Region.reach_listed hc fuel e.on h2 hle
theorem Region.reach_not_ready {listed : Array Bool} {i d fuel : Nat} (hc : ListedClosed md ops listed) (hr : Region.reachB md ops i fuel d = true) (hun : listed.getD i true = false) : d ∉ Region.ready md ops listed := by
 intro hd
 obtain ⟨_, o, ho, hall⟩ := mem_ready.1 hd
 have hi : listed.getD i false = true := by
   cases fuel with
   | zero => simp [Region.reachB] at hr
   | succ n =>
     unfold Region.reachB at hr
     rw [ho] at hr
     obtain ⟨e, he, h1⟩ := Array.any_eq_true'.1 hr
     simp only [Bool.and_eq_true, Bool.or_eq_true, beq_iff_eq] at h1
     have hle := hall e he h1.1
     rcases h1.2 with h2 | h2
     · rw [← h2]; exact hle
     · exact Region.reach_listed hc n e.on h2 hle
 rcases Nat.lt_or_ge i listed.size with h' | h'
 · simp [h'] at hun hi
   rw [hun] at hi
   cases hi
 · simp [Array.getElem?_eq_none h'] at hun
def wpAnyLast (P : Program) (md : Region.Mode) (ops : Array Oper) (Q : Exit → Act → World → Prop) (S : World → Prop) (ds : List Nat) : Nat → Array Bool → Act → World → Prop
 | 0, listed, a, w => Region.ready md ops listed = [] ∧ Q .normal a w
 | fuel + 1, listed, a, w =>
   (Region.ready md ops listed = [] → Q .normal a w) ∧
   ∀ i ∈ Region.ready md ops listed, wpOp P ops Q i (fun a' w' => (i ∉ ds → S w → S w') ∧ wpAnyLast P md ops Q S ds fuel (listed.setIfInBounds i true) a' w') a w
theorem wpAny_of_last : ∀ (fuel : Nat) (listed : Array Bool) (a : Act) (w : World), wpAnyLast P md ops Q S ds fuel listed a w → wpAny P md ops Q fuel listed a w
 | 0, _, _, _, h => h
 | fuel + 1, _, _, _, h => ⟨h.1, fun i hi => wpOp_mono (fun a' w' h' => wpAny_of_last fuel _ a' w' h'.2) (h.2 i hi)⟩
theorem wpAnyLast_first {i : Nat} {oi : Oper} {v : Value} (hi : ops[i]? = some oi) (hsel : ∀ (j : Nat) (o : Oper) cs b, ops[j]? = some o → o.op ≠ .select cs b)
   (hQ : ∀ c a w, Q (.panic c) (a.put oi.dst v) w → Q (.panic c) a w) (n : Nat) :
   ∀ (fuel : Nat) (listed : Array Bool) (a : Act) (w : World),
     (∀ j oj, ops[j]? = some oj → j ≠ i → listed.getD j true = false → (∀ e ∈ oj.after, Region.binds md e = true → e.on ≠ i) → oi.apart ops oj = true) →
     ListedClosed md ops listed → (∀ d ∈ ds, listed.getD d true = false → Region.reachB md ops i n d = true) →
     i ∈ Region.ready md ops listed → YieldsIf P ops S oi v a → S w →
     wpAnyLast P md ops Q S ds fuel (listed.setIfInBounds i true) (a.put oi.dst v) w → wpAnyLast P md ops Q S ds (fuel + 1) listed a w := by
 intro fuel
 induction fuel with
 | zero =>
   intro listed a w _ _ _ hr hy hS H
   refine ⟨fun h => (by rw [h] at hr; cases hr), fun j hj => ?_⟩
   by_cases hji : j = i
   · subst hji; exact hy.wpOp hi hS ⟨fun _ h => h, H⟩
   · have := ready_mono hj hji
     rw [H.1] at this
     cases this
 | succ fuel ih =>
   intro listed a w hfree hc hd hr hy hS H
   refine ⟨fun h => (by rw [h] at hr; cases hr), fun j hj => ?_⟩
   by_cases hji : j = i
   · subst hji; exact hy.wpOp hi hS ⟨fun _ h => h, H⟩
   · have h1 := H.2 j (ready_mono hj hji)
     obtain ⟨hjun, oj, hoj, hall⟩ := mem_ready.1 hj
     have hiun := (mem_ready.1 hr).1
     have hnot : ∀ e ∈ oj.after, Region.binds md e = true → e.on ≠ i := fun e he hb heq => by
       have h1 := hall e he hb
       rw [heq] at h1
       rcases Nat.lt_or_ge i listed.size with h' | h'
       · simp [h'] at hiun h1; rw [hiun] at h1; cases h1
       · simp [Array.getElem?_eq_none h'] at h1
     have hjd : j ∉ ds := fun hm => Region.reach_not_ready hc (hd j hm hjun) hiun hj
     have h2 := wpOp_putIf hoj (hfree j oj hoj hji hjun hnot) (fun cs b => hsel i oi cs b hi) (fun cs b => hsel j oj cs b hoj) hQ hy h1
     have hfree' : ∀ k ok, ops[k]? = some ok → k ≠ i → (listed.setIfInBounds j true).getD k true = false →
         (∀ e ∈ ok.after, Region.binds md e = true → e.on ≠ i) → oi.apart ops ok = true := fun k ok hk hki hun hno => by
       refine hfree k ok hk hki ?_ hno
       by_cases hjk : j = k
       · subst hjk; exact hjun
       · rw [getD_set_ne true hjk] at hun; exact hun
     have hd' : ∀ d ∈ ds, (listed.setIfInBounds j true).getD d true = false → Region.reachB md ops i n d = true := fun d hm hun => by
       refine hd d hm ?_
       by_cases hjk : j = d
       · subst hjk; exact hjun
       · rw [getD_set_ne true hjk] at hun; exact hun
     refine wpOp_mono (fun a' w' h3 => ⟨h3.2.1, ih (listed.setIfInBounds j true) a' w' hfree' (hc.set hj) hd' (ready_mono hr (Ne.symm hji)) h3.1 (h3.2.1 hjd hS) ?_⟩) h2
     rw [Array.setIfInBounds_comm _ _ hji]
     exact h3.2.2
theorem wpAnyLast_any {i : Nat} {oi : Oper} {v : Value} (hi : ops[i]? = some oi) (hsel : ∀ (j : Nat) (o : Oper) cs b, ops[j]? = some o → o.op ≠ .select cs b)
   (hQ : ∀ c a w, Q (.panic c) (a.put oi.dst v) w → Q (.panic c) a w) :
   ∀ (fuel : Nat) (listed : Array Bool) (a : Act) (w : World),
     (∀ j oj, ops[j]? = some oj → j ≠ i → listed.getD j true = false → (∀ e ∈ oj.after, Region.binds md e = true → e.on ≠ i) → oi.apart ops oj = true) →
     i ∈ Region.ready md ops listed → Yields P ops oi v a →
     wpAnyLast P md ops Q S ds fuel (listed.setIfInBounds i true) (a.put oi.dst v) w → wpAnyLast P md ops Q S ds (fuel + 1) listed a w := by
 intro fuel
 induction fuel with
 | zero =>
   intro listed a w _ hr hy H
   refine ⟨fun h => (by rw [h] at hr; cases hr), fun j hj => ?_⟩
   by_cases hji : j = i
   · subst hji; exact (hy.yieldsIf (S := fun _ => True)).wpOp hi trivial ⟨fun _ h => h, H⟩
   · have := ready_mono hj hji
     rw [H.1] at this
     cases this
 | succ fuel ih =>
   intro listed a w hfree hr hy H
   refine ⟨fun h => (by rw [h] at hr; cases hr), fun j hj => ?_⟩
   by_cases hji : j = i
   · subst hji; exact (hy.yieldsIf (S := fun _ => True)).wpOp hi trivial ⟨fun _ h => h, H⟩
   · have h1 := H.2 j (ready_mono hj hji)
     obtain ⟨hjun, oj, hoj, hall⟩ := mem_ready.1 hj
     have hiun := (mem_ready.1 hr).1
     have hnot : ∀ e ∈ oj.after, Region.binds md e = true → e.on ≠ i := fun e he hb heq => by
       have h1 := hall e he hb
       rw [heq] at h1
       rcases Nat.lt_or_ge i listed.size with h' | h'
       · simp [h'] at hiun h1; rw [hiun] at h1; cases h1
       · simp [Array.getElem?_eq_none h'] at h1
     have h2 := wpOp_put hoj (hfree j oj hoj hji hjun hnot) (fun cs b => hsel i oi cs b hi) (fun cs b => hsel j oj cs b hoj) hQ hy h1
     have hfree' : ∀ k ok, ops[k]? = some ok → k ≠ i → (listed.setIfInBounds j true).getD k true = false →
         (∀ e ∈ ok.after, Region.binds md e = true → e.on ≠ i) → oi.apart ops ok = true := fun k ok hk hki hun hno => by
       refine hfree k ok hk hki ?_ hno
       by_cases hjk : j = k
       · subst hjk; exact hjun
       · rw [getD_set_ne true hjk] at hun; exact hun
     refine wpOp_mono (fun a' w' h3 => ⟨h3.2.1, ih (listed.setIfInBounds j true) a' w' hfree' (ready_mono hr (Ne.symm hji)) h3.1 ?_⟩) h2
     rw [Array.setIfInBounds_comm _ _ hji]
     exact h3.2.2
theorem wpAnyLast_take {i : Nat} {oi : Oper} {v : Value} {fuel : Nat} {listed : Array Bool} {a : Act} {w : World} (hi : ops[i]? = some oi)
   (hs : Region.noSelect ops = true) (hf : Region.free md ops listed i = true) (hr : (Region.ready md ops listed).contains i = true)
   (hc : Region.closedB md ops listed = true) (hl : Region.lastB md ops listed ds i = true)
   (hQ : ∀ c a w, Q (.panic c) (a.put oi.dst v) w → Q (.panic c) a w) (hy : YieldsIf P ops S oi v a) (hS : S w)
   (h : wpAnyLast P md ops Q S ds fuel (listed.setIfInBounds i true) (a.put oi.dst v) w) : wpAnyLast P md ops Q S ds (fuel + 1) listed a w :=
 wpAnyLast_first hi (Region.noSelect_spec hs) hQ ops.size fuel listed a w (Region.free_spec hi hf) (Region.closedB_spec hc)
   (fun d hm hun => by have := List.all_eq_true.1 hl d hm; rw [hun] at this; simpa using this) (by simpa using hr) hy hS h
theorem wpAnyLast_all {rs : List Nat} {fuel : Nat} {listed : Array Bool} {a : Act} {w : World} (hr : Region.ready md ops listed = rs) (hne : rs ≠ [])
   (h : ∀ i ∈ rs, wpOp P ops Q i (fun a' w' => (i ∉ ds → S w → S w') ∧ wpAnyLast P md ops Q S ds fuel (listed.setIfInBounds i true) a' w') a w) : wpAnyLast P md ops Q S ds (fuel + 1) listed a w :=
 ⟨fun h0 => absurd (hr ▸ h0) hne, hr ▸ h⟩
theorem wpAnyLast_done {listed : Array Bool} {a : Act} {w : World} (hr : Region.ready md ops listed = []) (h : Q .normal a w) :
   ∀ fuel, wpAnyLast P md ops Q S ds fuel listed a w
 | 0 => ⟨hr, h⟩
 | _ + 1 => ⟨fun _ => h, by rw [hr]; simp⟩
theorem wp_region_last {id : Nat} {a : Act} {w : World} (hm : P.follows .mixedOrders = true)
   (h : wpAnyLast P .any ops Q S ds ops.size (Array.replicate ops.size false) a { w with drawn := w.drawn + 1 }) : (Code.region id ops true).wp P Q a w :=
 wp_region_any hm (wpAny_of_last _ _ _ _ h)
end
section
variable {P : Program} {ops : Array Oper} {Q : Exit → Act → World → Prop} {md : Region.Mode} {S : World → Prop} {ds : List Nat}
def AllReadyL (P : Program) (md : Region.Mode) (ops : Array Oper) (Q : Exit → Act → World → Prop) (S : World → Prop) (ds : List Nat) (fuel : Nat) (listed : Array Bool) (a : Act) (w : World) (rs : List Nat) : Prop :=
 ∀ i ∈ rs, wpOp P ops Q i (fun a' w' => (i ∉ ds → S w → S w') ∧ wpAnyLast P md ops Q S ds fuel (listed.setIfInBounds i true) a' w') a w
theorem AllReadyL.nil {fuel : Nat} {listed : Array Bool} {a : Act} {w : World} : AllReadyL P md ops Q S ds fuel listed a w [] := fun _ h => by cases h
theorem AllReadyL.cons {fuel : Nat} {listed : Array Bool} {a : Act} {w : World} {i : Nat} {o : Oper} {rs : List Nat} (ho : ops[i]? = some o) (hd : i ∉ ds)
   (h : ∀ K' : Act → World → Prop, Shut (∀ a w, S w → (S w → wpAnyLast P md ops Q S ds fuel (listed.setIfInBounds i true) a w) → K' a w) → if Region.wanted o (yielded ops a.tmps) = true then Oper.wp P o a w K' Q else K' (a.put o.dst undef) w)
   (hs : AllReadyL P md ops Q S ds fuel listed a w rs) : AllReadyL P md ops Q S ds fuel listed a w (i :: rs) := fun j hj => by
 rcases List.mem_cons.1 hj with rfl | hj
 · exact wpOp_step ho (fun K' hK => h K' (fun a w hS hW => hK a w ⟨fun _ _ => hS, hW hS⟩))
 · exact hs j hj
theorem AllReadyL.cons_last {fuel : Nat} {listed : Array Bool} {a : Act} {w : World} {i : Nat} {o : Oper} {rs : List Nat} (ho : ops[i]? = some o) (hd : i ∈ ds)
   (h : ∀ K' : Act → World → Prop, Shut (∀ a w, wpAnyLast P md ops Q S ds fuel (listed.setIfInBounds i true) a w → K' a w) → if Region.wanted o (yielded ops a.tmps) = true then Oper.wp P o a w K' Q else K' (a.put o.dst undef) w)
   (hs : AllReadyL P md ops Q S ds fuel listed a w rs) : AllReadyL P md ops Q S ds fuel listed a w (i :: rs) := fun j hj => by
 rcases List.mem_cons.1 hj with rfl | hj
 · exact wpOp_step ho (fun K' hK => h K' (fun a w hW => hK a w ⟨fun hn => absurd hd hn, hW⟩))
 · exact hs j hj
theorem wpAnyLast_ready {rs : List Nat} {fuel : Nat} {listed : Array Bool} {a : Act} {w : World} (hr : Region.ready md ops listed = rs) (hne : rs ≠ [])
   (h : AllReadyL P md ops Q S ds fuel listed a w rs) : wpAnyLast P md ops Q S ds (fuel + 1) listed a w := wpAnyLast_all hr hne h
theorem start_ {id n : Nat} {a : Act} {w : World} (l : Array Bool) (hm : P.follows .mixedOrders = true) (hn : ops.size = n) (hl : Array.replicate n false = l) (hS : S w.drew)
   (h : S w.drew → wpAnyLast P .any ops Q S ds n l a w.drew) : (Code.region id ops true).wp P Q a w := by
 subst hn
 subst hl
 exact wp_region_last hm (h hS)
def takeB (md : Region.Mode) (ops : Array Oper) (ds : List Nat) (l l' : Array Bool) (i : Nat) : Bool :=
 Region.noSelect ops && Region.free md ops l i && (Region.ready md ops l).contains i && Region.closedB md ops l && Region.lastB md ops l ds i && (l.setIfInBounds i true == l')
theorem take_ {i : Nat} {N : Option Tmp} {oi : Oper} {v : Value} {fuel : Nat} {l : Array Bool} {a : Act} {w : World} (l' : Array Bool) (hi : ops[i]? = some oi) (hN : oi.dst = N) (hc : takeB md ops ds l l' i = true)
   (hQ : ∀ c a w, Q (.panic c) (a.put oi.dst v) w → Q (.panic c) a w) (hy : YieldsIf P ops S oi v a) (hS : S w) {a' : Act} (ha : a.put N v = a')
   (h : wpAnyLast P md ops Q S ds fuel l' a' w) : wpAnyLast P md ops Q S ds (fuel + 1) l a w := by
 subst ha
 subst hN
 simp only [takeB, Bool.and_eq_true, beq_iff_eq] at hc
 obtain ⟨⟨⟨⟨⟨h1, h2⟩, h3⟩, h4⟩, h5⟩, h6⟩ := hc
 subst h6
 exact wpAnyLast_take hi h1 h2 h3 h4 h5 hQ hy hS h
def anyB (md : Region.Mode) (ops : Array Oper) (l l' : Array Bool) (i : Nat) : Bool :=
 Region.noSelect ops && Region.free md ops l i && (Region.ready md ops l).contains i && (l.setIfInBounds i true == l')
theorem pure_ {i : Nat} {N : Option Tmp} {oi : Oper} {v : Value} {fuel : Nat} {l : Array Bool} {a : Act} {w : World} (l' : Array Bool) (hi : ops[i]? = some oi) (hN : oi.dst = N) (hc : anyB md ops l l' i = true)
   (hQ : ∀ c a w, Q (.panic c) (a.put oi.dst v) w → Q (.panic c) a w) (hy : Yields P ops oi v a) {a' : Act} (ha : a.put N v = a')
   (h : wpAnyLast P md ops Q S ds fuel l' a' w) : wpAnyLast P md ops Q S ds (fuel + 1) l a w := by
 subst ha
 subst hN
 simp only [anyB, Bool.and_eq_true, beq_iff_eq] at hc
 obtain ⟨⟨⟨h1, h2⟩, h3⟩, h6⟩ := hc
 subst h6
 exact wpAnyLast_any hi (Region.noSelect_spec h1) hQ fuel l a w (Region.free_spec hi h2) (by simpa using h3) hy h
def readyB (md : Region.Mode) (ops : Array Oper) (l l' : Array Bool) (i : Nat) : Bool := (Region.ready md ops l == [i]) && (l.setIfInBounds i true == l')
theorem one_ {i : Nat} {N : Option Tmp} {oi : Oper} {fuel : Nat} {l : Array Bool} {a : Act} {w : World} (l' : Array Bool) (hi : ops[i]? = some oi) (hN : oi.dst = N) (hc : readyB md ops l l' i = true) (hd : i ∉ ds)
   (h : ∀ K : Act → World → Prop, Shut (∀ a' w', S w' → (S w' → wpAnyLast P md ops Q S ds fuel l' a' w') → K a' w') → if Region.wanted oi (yielded ops a.tmps) = true then Oper.wp P oi a w K Q else K (a.put N undef) w) :
   wpAnyLast P md ops Q S ds (fuel + 1) l a w := by
 subst hN
 simp only [readyB, Bool.and_eq_true, beq_iff_eq] at hc
 obtain ⟨h1, h2⟩ := hc
 subst h2
 exact wpAnyLast_ready h1 (by simp) (AllReadyL.cons hi hd (fun K hK => h K hK) AllReadyL.nil)
theorem last_ {i : Nat} {N : Option Tmp} {oi : Oper} {fuel : Nat} {l : Array Bool} {a : Act} {w : World} (l' : Array Bool) (hi : ops[i]? = some oi) (hN : oi.dst = N) (hc : readyB md ops l l' i = true) (hd : i ∈ ds)
   (h : ∀ K : Act → World → Prop, Shut (∀ a' w', wpAnyLast P md ops Q S ds fuel l' a' w' → K a' w') → if Region.wanted oi (yielded ops a.tmps) = true then Oper.wp P oi a w K Q else K (a.put N undef) w) :
   wpAnyLast P md ops Q S ds (fuel + 1) l a w := by
 subst hN
 simp only [readyB, Bool.and_eq_true, beq_iff_eq] at hc
 obtain ⟨h1, h2⟩ := hc
 subst h2
 exact wpAnyLast_ready h1 (by simp) (AllReadyL.cons_last hi hd (fun K hK => h K hK) AllReadyL.nil)
theorem done_ {l : Array Bool} {a : Act} {w : World} {n : Nat} (hr : (Region.ready md ops l == []) = true) (h : Q .normal a w) : wpAnyLast P md ops Q S ds n l a w := wpAnyLast_done (by simpa using hr) h n
theorem call_ {oi : Oper} {N : Option Tmp} {a : Act} {w : World} {K : Act → World → Prop} (f : FuncId) (args : Array Value) (hw : Region.wanted oi (yielded ops a.tmps) = true) (hN : oi.dst = N) (hrun : (execOp a.eval oi).run P w = .ok (.enter f args) w)
   (h : Calls P f args w fun e w' => ∃ v, e = .returned v ∧ K (a.put N v) w') : if Region.wanted oi (yielded ops a.tmps) = true then Oper.wp P oi a w K Q else K (a.put N undef) w := by
 rw [if_pos hw]
 subst hN
 unfold Oper.wp
 rw [hrun, Oper.upon_enter]
 refine h.mono fun e w'' hh => ?_
 obtain ⟨v, rfl, hk⟩ := hh
 exact hk
theorem enters_ {f : FuncId} {fn : Func} (hf : P.funcs[f]? = some fn) (hname : (fn.name == "runtime.NumGoroutine") = false) (hb : fn.body.isSome = true) (args : Array Value) (w : World) : (callFunc f args).run P w = .ok (.enter f args) w := by
 have h1 : fn.name ≠ "runtime.NumGoroutine" := by simpa using hname
 obtain ⟨c, hc⟩ := Option.isSome_iff_exists.1 hb
 simp [callFunc, hf, h1, hc]
theorem goes_ {oi : Oper} {N : Option Tmp} {a : Act} {w : World} {K : Act → World → Prop} {f : FuncId} {fn : Func} {as : Array Operand} {ts : Array TypeId} (hf : P.funcs[f]? = some fn) (hname : (fn.name == "runtime.NumGoroutine") = false) (hb : fn.body.isSome = true) (args : Array Value)
   (hw : Region.wanted oi (yielded ops a.tmps) = true) (hN : oi.dst = N) (hop : oi.op = .call { callee := .value (.func f), args := as, argTypes := ts }) (hargs : as.map a.eval = args)
   (h : Calls P f args w fun e w' => ∃ v, e = .returned v ∧ K (a.put N v) w') : if Region.wanted oi (yielded ops a.tmps) = true then Oper.wp P oi a w K Q else K (a.put N undef) w := by
 refine call_ f args hw hN ?_ h
 have he := enters_ hf hname hb args w
 unfold execOp
 simp [hop, resolve, Deferred.ofValue, invoke, Act.eval, hargs, he]
theorem goesL_ {rest : List Oper} {oi : Oper} {a : Act} {w : World} (N : Option Tmp) (hd : oi.dst = N) (hg : oi.guard = none) {f : FuncId} {fn : Func} {as : Array Operand} {ts : Array TypeId} (hf : P.funcs[f]? = some fn) (hname : (fn.name == "runtime.NumGoroutine") = false) (hb : fn.body.isSome = true) (args : Array Value)
   (hop : oi.op = .call { callee := .value (.func f), args := as, argTypes := ts }) (hargs : as.map a.eval = args)
   (h : Calls P f args w fun e w' => ∃ v, e = .returned v ∧ wpList P ops Q rest (a.put N v) w') : wpList P ops Q (oi :: rest) a w := by
 refine wpList_plain hg fun K hK => ?_
 have he := enters_ hf hname hb args w
 have hrun : (execOp a.eval oi).run P w = .ok (.enter f args) w := by
   unfold execOp
   simp [hop, resolve, Deferred.ofValue, invoke, Act.eval, hargs, he]
 unfold Oper.wp
 rw [hrun, Oper.upon_enter]
 refine h.mono fun e w'' hh => ?_
 obtain ⟨v, rfl, hk⟩ := hh
 subst hd
 exact hK _ _ hk
theorem value_ {oi : Oper} {N : Option Tmp} {a : Act} {w w1 : World} {v : Value} {K : Act → World → Prop} (hw : Region.wanted oi (yielded ops a.tmps) = true) (hN : oi.dst = N) (hrun : (execOp a.eval oi).run P w = .ok (.value v) w1)
   (h : K (a.put N v) w1) : if Region.wanted oi (yielded ops a.tmps) = true then Oper.wp P oi a w K Q else K (a.put N undef) w := by
 rw [if_pos hw]
 subst hN
 unfold Oper.wp
 rw [hrun]
 exact h
theorem off_ {oi : Oper} {N : Option Tmp} {a : Act} {w : World} {K : Act → World → Prop} (hw : Region.wanted oi (yielded ops a.tmps) = false) (h : K (a.put N undef) w) : if Region.wanted oi (yielded ops a.tmps) = true then Oper.wp P oi a w K Q else K (a.put N undef) w := by
 rw [hw, if_neg (by simp)]
 exact h
theorem i64_w (n : Int) : IntKind.i64.wrap n = Go.RowKit.wrap64 n := by unfold Go.RowKit.wrap64; exact IntKind.wrap_i64 n
theorem i32_w (n : Int) : IntKind.i32.wrap n = Go.RowKit.wrap32 n := by unfold Go.RowKit.wrap32; exact IntKind.wrap_i32 n
end
end Go.Proofs.YtoccifnjhbibcaaGreatW.PrintLast
namespace Go.Proofs.YtoccifnjhbibcaaGreatW.PrintWords
open Go.RowKit
namespace Kd
def tag {α : Type} (f : Nat → Nat) (d : Kd α) : Kd (α × Nat) where
 sz := d.sz
 E := d.E
 K := fun w x cs => d.K w x.1 cs
 M := fun w base ok x cs => d.M w base (fun k => ok k ∧ f k = x.2) x.1 cs
 K_len := fun h => d.K_len h
 K_one := fun h => d.K_one h
 K_below := fun hb h => d.K_below hb h
 K_of_M := fun h => d.K_of_M h
 M_mono := fun hok h => d.M_mono (fun k hk => ⟨hok k hk.1, hk.2⟩) h
 M_bound := fun h => d.M_mono (fun _ hk => ⟨⟨hk.1.1, hk.2⟩, hk.1.2⟩) (d.M_bound h)
 M_move := fun hm h => d.M_move (fun k hk => hm k hk.1) h
 M_lower := fun hb h => d.M_lower hb h
def bare {α : Type} (d : Kd α) : Kd α where
 sz := d.sz
 E := d.E
 K := d.K
 M := fun w base _ x cs => d.M w base (fun _ => False) x cs
 K_len := fun h => d.K_len h
 K_one := fun h => d.K_one h
 K_below := fun hb h => d.K_below hb h
 K_of_M := fun h => d.K_of_M h
 M_mono := fun _ h => h
 M_bound := fun h => h
 M_move := fun _ h => d.M_move (fun _ hk => hk.elim) h
 M_lower := fun hb h => d.M_lower hb h
def raw (sz : Nat) : Kd (List Value) where
 sz := sz
 E := []
 K := fun _ x cs => cs = x ∧ cs.length = sz ∧ ∀ u ∈ cs, u.oneCell' = true
 M := fun _ _ _ x cs => cs = x ∧ cs.length = sz ∧ ∀ u ∈ cs, u.oneCell' = true
 K_len := fun h => h.2.1
 K_one := fun h => h.2.2
 K_below := fun _ h => h
 K_of_M := fun h => h
 M_mono := fun _ h => h
 M_bound := fun h => h
 M_move := fun _ h => h
 M_lower := fun _ h => h
def S {α : Type} (d : Kd α) (e : Nat) (w : World) (base : Nat) (ok : Nat → Prop) (v : Value) (xs : List α) : Prop := ∃ f, (tag f d).R e w base ok v xs.zipIdx
def gap {α : Type} (f : Nat → Nat) (d : Kd α) (i : Nat) (c : List Value) : Kd (α × Nat) where
 sz := d.sz
 E := d.E
 K := fun w x cs => (x.2 = i → cs = c ∧ cs.length = d.sz ∧ ∀ u ∈ cs, u.oneCell' = true) ∧ (x.2 ≠ i → d.K w x.1 cs)
 M := fun w base ok x cs => (x.2 = i → cs = c ∧ cs.length = d.sz ∧ ∀ u ∈ cs, u.oneCell' = true) ∧ (x.2 ≠ i → d.M w base (fun k => ok k ∧ f k = x.2) x.1 cs)
 K_len := fun {w x cs} h => by
   by_cases hx : x.2 = i
   · exact (h.1 hx).2.1
   · exact d.K_len (h.2 hx)
 K_one := fun {w x cs} h => by
   by_cases hx : x.2 = i
   · exact (h.1 hx).2.2
   · exact d.K_one (h.2 hx)
 K_below := fun hb h => ⟨h.1, fun hx => d.K_below hb (h.2 hx)⟩
 K_of_M := fun h => ⟨h.1, fun hx => d.K_of_M (h.2 hx)⟩
 M_mono := fun hok h => ⟨h.1, fun hx => d.M_mono (fun k hk => ⟨hok k hk.1, hk.2⟩) (h.2 hx)⟩
 M_bound := fun h => ⟨h.1, fun hx => d.M_mono (fun _ hk => ⟨⟨hk.1.1, hk.2⟩, hk.1.2⟩) (d.M_bound (h.2 hx))⟩
 M_move := fun hm h => ⟨h.1, fun hx => d.M_move (fun k hk => hm k hk.1) (h.2 hx)⟩
 M_lower := fun hb h => ⟨h.1, fun hx => d.M_lower hb (h.2 hx)⟩
def H {α : Type} (d : Kd α) (e : Nat) (w : World) (base : Nat) (ok : Nat → Prop) (v : Value) (xs : List α) (i : Int) (oki : Nat → Prop) (c : List Value) : Prop :=
 (∀ k, oki k → ok k) ∧ ∃ f, (gap f d i.toNat c).R e w base (fun k => ok k ∧ ¬ oki k) v xs.zipIdx
end Kd
end Go.Proofs.YtoccifnjhbibcaaGreatW.PrintWords
namespace Go.Proofs.YtoccifnjhbibcaaGreatW.PrintWords
open Go.RowKit
namespace Kd
theorem reps_set {α : Type} {R : α → List Value → Prop} {size : Nat} {ps : List α} {cs : List Value} (h : Reps R size ps cs) {i : Nat} (hi : i < ps.length) {x : α} {seg : List Value} (hx : R x seg) (hl : seg.length = size) : Reps R size (ps.set i x) (cs.take (i * size) ++ seg ++ cs.drop (i * size + seg.length)) := by
 have hfit : i * size + size ≤ cs.length := by rw [h.1, ← Nat.succ_mul]; exact Nat.mul_le_mul_right _ hi
 refine ⟨?_, fun m p hm => ?_⟩
 · rw [List.length_set, ← h.1]
   simp only [List.length_append, List.length_take, List.length_drop]
   omega
 · have hml : m < ps.length := by
     have := (List.getElem?_eq_some_iff.1 hm).1
     rwa [List.length_set] at this
   by_cases hmi : m = i
   · subst hmi
     rw [List.getElem?_set_self hml] at hm
     injection hm with hm
     subst hm
     rw [show ((cs.take (m * size) ++ seg ++ cs.drop (m * size + seg.length)).drop (m * size)).take size = seg by
       rw [List.append_assoc, List.drop_left' (by rw [List.length_take]; omega), List.take_left' hl]]
     exact hx
   · rw [List.getElem?_set_ne (Ne.symm hmi)] at hm
     have hmf : m * size + size ≤ cs.length := by rw [h.1, ← Nat.succ_mul]; exact Nat.mul_le_mul_right _ hml
     rw [show ((cs.take (i * size) ++ seg ++ cs.drop (i * size + seg.length)).drop (m * size)).take size = (cs.drop (m * size)).take size from by
       apply List.ext_getElem?
       intro q
       rw [List.getElem?_take, List.getElem?_take, List.getElem?_drop, List.getElem?_drop, seg_get cs seg _ (by omega)]
       by_cases hq : q < size
       · rw [if_pos hq, if_pos hq]
         rcases Nat.lt_or_gt_of_ne hmi with hlt | hgt
         · have : m * size + size ≤ i * size := by rw [← Nat.succ_mul]; exact Nat.mul_le_mul_right _ hlt
           rw [if_pos (by omega)]
         · have : i * size + size ≤ m * size := by rw [← Nat.succ_mul]; exact Nat.mul_le_mul_right _ hgt
           rw [if_neg (by omega), if_neg (by omega)]
       · rw [if_neg hq, if_neg hq]]
     exact h.2 m p hm
end Kd
end Go.Proofs.YtoccifnjhbibcaaGreatW.PrintWords
namespace Go.Proofs.YtoccifnjhbibcaaGreatW.PrintWords
open Go.RowKit
namespace Kd
structure Heap {α : Type} (d : Kd α) : Prop where
 K : ∀ {w w1 : World} {x : α} {cs : List Value}, (∀ k, k < w.heap.size → w1.heap[k]? = w.heap[k]?) → d.K w x cs → d.K w1 x cs
theorem cell_heap {w w1 : World} (hb : ∀ k, k < w.heap.size → w1.heap[k]? = w.heap[k]?) {a : Addr} {v : Value} (h : w.cell? a = some v) : w1.cell? a = some v := by
 have := hb a.block (World.block_lt_of_cell? w a h)
 simpa [World.cell?, this] using h
theorem Heap.C {α : Type} {d : Kd α} (hd : Heap d) {w w1 : World} {A : Option Addr} {n : Nat} {xs : List α} (hb : ∀ k, k < w.heap.size → w1.heap[k]? = w.heap[k]?) (h : d.C w A n xs) : d.C w1 A n xs :=
 ⟨h.1, h.2.1, fun hn => by
   obtain ⟨ad, e, hc⟩ := h.2.2 hn
   refine ⟨ad, e, fun j p hj => ?_⟩
   obtain ⟨c, hs, hr, hcell⟩ := hc j p hj
   exact ⟨c, hs, hd.K hb hr, fun i u hu => cell_heap hb (hcell i u hu)⟩⟩
theorem heap_int (k : IntKind) : Heap (Kd.int k) := ⟨fun _ h => h⟩
theorem heap_slice {α : Type} {d : Kd α} (e : Nat) (hd : Heap d) : Heap (slice e d) := ⟨by
 rintro w w1 x cs hb ⟨A, c, rfl, hl, hr⟩
 exact ⟨A, c, rfl, hl, hd.C hb hr⟩⟩
theorem heap_pair {α β : Type} {a : Kd α} {b : Kd β} (ha : Heap a) (hb' : Heap b) : Heap (pair a b) := ⟨by
 rintro w w1 x cs hb ⟨c0, c1, rfl, h0, h1⟩
 exact ⟨c0, c1, rfl, ha.K hb h0, hb'.K hb h1⟩⟩
theorem heap_iso {α β : Type} {d : Kd α} (f : β → α) (hd : Heap d) : Heap (iso d f) := ⟨fun hb h => hd.K hb h⟩
end Kd
end Go.Proofs.YtoccifnjhbibcaaGreatW.PrintWords
namespace Go.Proofs.YtoccifnjhbibcaaGreatW.PrintWords
open Go.RowKit
def Foot (P : World → Prop) (W : World) (ok : Nat → Prop) : Prop := ∀ W' : World, (∀ k, ok k → k < W.heap.size → W'.heap[k]? = W.heap[k]?) → P W'
theorem heap_lt {W W1 : World} {k : Nat} (h : W1.heap[k]? = W.heap[k]?) (hlt : k < W.heap.size) : k < W1.heap.size := by
 rw [Array.getElem?_eq_getElem hlt] at h
 exact (Array.getElem?_eq_some_iff.1 h).1
namespace Foot
variable {P Q : World → Prop} {W W1 : World} {ok ok' : Nat → Prop}
theorem now (h : Foot P W ok) : P W := h W (fun _ _ _ => rfl)
theorem mono (h : Foot P W ok) (hok : ∀ k, ok k → ok' k) : Foot P W ok' := fun W' hW => h W' (fun k hk hlt => hW k (hok k hk) hlt)
theorem bound (h : Foot P W ok) : Foot P W (fun k => ok k ∧ k < W.heap.size) := fun W' hW => h W' (fun k hk hlt => hW k ⟨hk, hlt⟩ hlt)
theorem step (h : Foot P W ok) (hm : ∀ k, ok k → k < W.heap.size → W1.heap[k]? = W.heap[k]?) : Foot P W1 ok := fun W' hW => h W' (fun k hk hlt => (hW k hk (heap_lt (hm k hk hlt) hlt)).trans (hm k hk hlt))
theorem imp (h : Foot P W ok) (hi : ∀ W', P W' → Q W') : Foot Q W ok := fun W' hW => hi W' (h W' hW)
end Foot
namespace Kd
def F {α : Type} (d : Kd α) (W : World) (ok : Nat → Prop) (A : Option Addr) (n : Nat) (xs : List α) : Prop := Foot (fun W => d.C W A n xs) W ok
def FK {α : Type} (d : Kd α) (W : World) (ok : Nat → Prop) (x : α) (c : List Value) : Prop := Foot (fun W => d.K W x c) W ok
section
variable {α β : Type} {d : Kd α} {e base n n' cc g N : Nat} {ok ok' okp S : Nat → Prop} {w w0 w1 W W1 : World} {A A' : Option Addr} {u v v1 : Value} {xs : List α} {xs' : List β} {d' : Kd β} {x : α} {c : List Value}
theorem emptied (W : World) (g : Nat) : ∃ W' : World, (∀ k, k ≠ g → W'.heap[k]? = W.heap[k]?) ∧ ∀ a : Addr, a.block = g → W'.cell? a = none := by
 refine ⟨{ W with heap := W.heap.setIfInBounds g (.cells #[] 0) }, fun k hk => by simp [Ne.symm hk], fun a ha => ?_⟩
 subst ha
 by_cases hlt : a.block < W.heap.size
 · simp [World.cell?, hlt]
 · simp [World.cell?, hlt]
end
end Kd
end Go.Proofs.YtoccifnjhbibcaaGreatW.PrintWords
namespace Go.Proofs.YtoccifnjhbibcaaGreatW.PrintWords
open Go.RowKit
namespace Kd
section
variable {α : Type} {d : Kd α} {e base n cc g : Nat} {ok ok' okp S : Nat → Prop} {w w1 W W1 : World} {A : Option Addr} {u v v1 : Value} {xs : List α} {x : α} {c : List Value}
def N {α : Type} (d : Kd α) (e : Nat) (w : World) (base : Nat) (ok : Nat → Prop) (v : Value) (xs : List α) : Prop :=
 (∀ k, v.ownBlock = some k → ok k) ∧ ∃ rows : List (List Value), rows.length = xs.length ∧ (raw d.sz).R e w base (fun k => some k = v.ownBlock) v rows ∧ ∀ (j : Nat) (x : α) (c : List Value), xs[j]? = some x → rows[j]? = some c → FK d w (fun k => ok k ∧ some k ≠ v.ownBlock) x c
end
end Kd
end Go.Proofs.YtoccifnjhbibcaaGreatW.PrintWords
namespace Go.Proofs.YtoccifnjhbibcaaGreatW.PrintMore
open Go.RowKit Go.Proofs.YtoccifnjhbibcaaGreatW.PrintWords
theorem max2_int (k k' : IntKind) (x y : Int) : Builtin.max2 (.int k x) (.int k' y) = pure (.int k (if x < y then y else x)) := by simp only [Builtin.max2, gt_iff_lt]
theorem min2_int (k k' : IntKind) (x y : Int) : Builtin.min2 (.int k x) (.int k' y) = pure (.int k (if y < x then y else x)) := by simp only [Builtin.min2]
theorem max_two (ats : Array TypeId) (ty : TypeId) (a b : Value) : Builtin.max_ ats ty #[a, b] = (Builtin.max2 a b >>= fun s => pure s) := by simp only [Builtin.max_, List.foldlM_cons, List.foldlM_nil]
theorem min_two (ats : Array TypeId) (ty : TypeId) (a b : Value) : Builtin.min_ ats ty #[a, b] = (Builtin.min2 a b >>= fun s => pure s) := by simp only [Builtin.min_, List.foldlM_cons, List.foldlM_nil]
theorem max_three (ats : Array TypeId) (ty : TypeId) (a b c : Value) : Builtin.max_ ats ty #[a, b, c] = (Builtin.max2 a b >>= fun s => Builtin.max2 s c >>= fun s => pure s) := by simp only [Builtin.max_, List.foldlM_cons, List.foldlM_nil]
theorem min_three (ats : Array TypeId) (ty : TypeId) (a b c : Value) : Builtin.min_ ats ty #[a, b, c] = (Builtin.min2 a b >>= fun s => Builtin.min2 s c >>= fun s => pure s) := by simp only [Builtin.min_, List.foldlM_cons, List.foldlM_nil]
theorem max_four (ats : Array TypeId) (ty : TypeId) (a b c d : Value) : Builtin.max_ ats ty #[a, b, c, d] = (Builtin.max2 a b >>= fun s => Builtin.max2 s c >>= fun s => Builtin.max2 s d >>= fun s => pure s) := by simp only [Builtin.max_, List.foldlM_cons, List.foldlM_nil]
theorem min_four (ats : Array TypeId) (ty : TypeId) (a b c d : Value) : Builtin.min_ ats ty #[a, b, c, d] = (Builtin.min2 a b >>= fun s => Builtin.min2 s c >>= fun s => Builtin.min2 s d >>= fun s => pure s) := by simp only [Builtin.min_, List.foldlM_cons, List.foldlM_nil]
end Go.Proofs.YtoccifnjhbibcaaGreatW.PrintMore
namespace Go.Proofs.YtoccifnjhbibcaaGreatW.PrintWords
open Go.RowKit
section
variable {P : Program} {ops : Array Oper} {rest : List Oper} {o : Oper} {a : Act} {Q : Exit → Act → World → Prop} {W : World}
theorem gate_callee {f : FuncId} {as : Array Operand} {ts : Array TypeId} (_ho : o.op = .call { callee := .value (.func f), args := as, argTypes := ts }) (h : wpList P ops Q (o :: rest) a W) : wpList P ops Q (o :: rest) a W := h
end
def mx (a b : Int) : Int := if a < b then b else a
def mn (a b : Int) : Int := if b < a then b else a
def shl (k : IntKind) (x y : Int) : Int := k.wrap (x * 2 ^ min y.toNat k.bits)
theorem shl_small {k : IntKind} {x y j : Int} (h : shl k x y = j) (hy : y ≤ k.bits) : k.wrap (x * 2 ^ y.toNat) = j := by rw [← h]; unfold shl; rw [Nat.min_eq_left (by omega)]
end Go.Proofs.YtoccifnjhbibcaaGreatW.PrintWords
namespace Go.Proofs.YtoccifnjhbibcaaGreat.XW
open Go.RowKit Go.Proofs.YtoccifnjhbibcaaGreatW.PrintWords Go.Proofs.YtoccifnjhbibcaaGreatW.PrintLast Go.Proofs.YtoccifnjhbibcaaGreatW.PrintMore
set_option linter.unusedVariables false
abbrev Env := List (Nat × Value)
def lk : Env → Nat → Option Value
 | [], _ => none
 | (k, v) :: E, t => cond (Nat.beq k t) (some v) (lk E t)
def ev (E : Env) : Operand → Option Value
 | .tmp t => lk E t
 | .const v => some v
 | .global g => some (.pointer (some ⟨g, 0, none⟩))
 | .func f => some (.func (.func f) #[] #[])
structure Fits (a : Act) (n : Nat) (E : Env) : Prop where
 size : a.tmps.size = n
 defers : a.defers = []
 look : ∀ t v, lk E t = some v → a.tmps.getD t undef = v
theorem Fits.ev {a : Act} {n : Nat} {E : Env} (h : Fits a n E) : ∀ (x : Operand) (v : Value), ev E x = some v → a.eval x = v
 | .tmp t, v, hx => h.look t v hx
 | .const _, v, hx => Option.some.inj hx
 | .global _, v, hx => Option.some.inj hx
 | .func _, v, hx => Option.some.inj hx
theorem lk_cons (k : Nat) (v : Value) (E : Env) (t : Nat) : lk ((k, v) :: E) t = if k = t then some v else lk E t := by
 show cond (Nat.beq k t) (some v) (lk E t) = _
 by_cases h : k = t
 · subst h; rw [if_pos rfl, show Nat.beq k k = true from Nat.beq_refl k]; rfl
 · rw [if_neg h, show Nat.beq k t = false from by
     cases e : Nat.beq k t with
     | false => rfl
     | true => exact absurd (Nat.eq_of_beq_eq_true e) h]
   rfl
theorem Fits.put {a : Act} {n : Nat} {E : Env} (h : Fits a n E) {d : Nat} (hd : d < n) (v : Value) : Fits (a.put (some d) v) n ((d, v) :: E) := by
 refine ⟨by show (a.tmps.setIfInBounds d v).size = n; rw [Array.size_setIfInBounds]; exact h.size, h.defers, fun t u ht => ?_⟩
 rw [lk_cons] at ht
 show (a.tmps.setIfInBounds d v).getD t undef = u
 by_cases e : d = t
 · subst e
   rw [if_pos rfl] at ht
   rw [← Option.some.inj ht, Array.getD_eq_getD_getElem?, Array.getElem?_setIfInBounds_self_of_lt (by rw [h.size]; exact hd)]
   rfl
 · rw [if_neg e] at ht
   have := h.look t u ht
   rw [Array.getD_eq_getD_getElem?] at this ⊢
   rw [Array.getElem?_setIfInBounds_ne e]
   exact this
def Sub : Env → Env → Prop
 | [], _ => True
 | (t, v) :: E', E => XW.lk E t = some v ∧ Sub E' E
theorem Sub.look : ∀ {E' E : Env}, Sub E' E → ∀ t v, XW.lk E' t = some v → XW.lk E t = some v
 | [], E, _, t, v, h => by cases h
 | (k, u) :: E', E, ⟨h1, h2⟩, t, v, h => by
   rw [lk_cons] at h
   by_cases e : k = t
   · subst e; rw [if_pos rfl] at h; rw [h1, h]
   · rw [if_neg e] at h; exact Sub.look h2 t v h
theorem Fits.sub {a : Act} {n : Nat} {E E' : Env} (h : Fits a n E) (hs : Sub E' E) : Fits a n E' := ⟨h.size, h.defers, fun t v ht => h.look t v (hs.look t v ht)⟩
def WC (P : Program) (c : Code) (Q : Exit → Act → World → Prop) (n : Nat) (E : Env) (w : World) : Prop := ∀ a, Fits a n E → c.wp P Q a w
def WL (P : Program) (ops : Array Oper) (Q : Exit → Act → World → Prop) (rest : List Oper) (n : Nat) (E : Env) (w : World) : Prop := ∀ a, Fits a n E → wpList P ops Q rest a w
def WQ (Q : Exit → Act → World → Prop) (e : Exit) (n : Nat) (E : Env) (w : World) : Prop := ∀ a, Fits a n E → Q e a w
section
variable {P : Program} {Q : Exit → Act → World → Prop} {n : Nat} {E E' : Env} {w w1 : World} {x y : Code}
theorem WC.seq (h : ∀ K : Act → World → Prop, (∀ E w', WC P y Q n E w' → ∀ a, Fits a n E → K a w') → WC P x (Exit.then K Q) n E w) : WC P (.seq x y) Q n E w :=
 fun a ha => wp_seq (h (fun a w => y.wp P Q a w) (fun _ _ hy a hf => hy a hf) a ha)
theorem WC.skip (h : WQ Q .normal n E w) : WC P .skip Q n E w := fun a ha => wp_skip (h a ha)
theorem WC.exit {id : Nat} (h : WQ Q (.exit id) n E w) : WC P (.exit id) Q n E w := fun a ha => wp_exit (h a ha)
theorem WC.ret (h : WQ Q .ret n E w) : WC P .ret Q n E w := fun a ha => wp_ret (h a ha)
theorem WC.block {id : Nat} (h : WC P x (Exit.inBlock id Q) n E w) : WC P (.block id x) Q n E w := fun a ha => wp_block (h a ha)
theorem WC.yes {c : Operand} {t : Bool} (hc : ev E c = some (.bool t)) (ht : t = true) (h : WC P x Q n E w) : WC P (.cond c x y) Q n E w := fun a ha => wp_cond_true ((ha.ev _ _ hc).trans (by rw [ht])) (h a ha)
theorem WC.no {c : Operand} {t : Bool} (hc : ev E c = some (.bool t)) (ht : t = false) (h : WC P y Q n E w) : WC P (.cond c x y) Q n E w := fun a ha => wp_cond_false ((ha.ev _ _ hc).trans (by rw [ht])) (h a ha)
theorem WC.region {id : Nat} {l : List Oper} (h : WL P l.toArray Q l n E w) : WC P (.region id l.toArray false) Q n E w := fun a ha => wp_region_lit (h a ha)
theorem WL.done {ops : Array Oper} (h : WQ Q .normal n E w) : WL P ops Q [] n E w := fun a ha => wpList_nil (h a ha)
theorem WC.loop (J : Nat → Env → World → Prop) (k0 : Nat) {E0 : Env} (h0 : J k0 E0 w) (hE : Sub E0 E)
   (round : ∀ k E w', J k E w' → WC P x (Exit.then (fun a' w1 => ∃ k' E', k' < k ∧ Fits a' n E' ∧ J k' E' w1) Q) n E w') : WC P (.loop x) Q n E w := by
 intro a ha b kk cs
 have key : ∀ k E a w', Fits a n E → J k E w' → ∃ e a' w1, Q e a' w1 ∧ Arrives P (lone (b.at a (.code x :: .inLoop x :: kk)) cs w') b kk cs e a' w1 := by
   intro k
   induction k using Nat.strongRecOn with
   | _ k ih =>
     intro s a w' hf hJ
     obtain ⟨e, a1, w1, hq, harr⟩ := round k s w' hJ a hf b (.inLoop x :: kk) cs
     cases e with
     | normal =>
       obtain ⟨k', s', hlt, hf', hJ'⟩ := hq
       obtain ⟨e2, a2, w2, hq2, harr2⟩ := ih k' hlt s' a1 w1 hf' hJ'
       exact ⟨e2, a2, w2, hq2, .of_steps (Steps.trans harr (.one step_inLoop)) harr2⟩
     | exit id => exact ⟨_, a1, w1, hq, .pass (x := .inLoop x) rfl (fun _ _ => .inl (by simp)) harr⟩
     | goto l => exact ⟨_, a1, w1, hq, .pass (x := .inLoop x) rfl (fun _ _ => .inl (by simp)) harr⟩
     | ret => exact ⟨_, a1, w1, hq, .pass (x := .inLoop x) rfl (fun _ _ => .inl (by simp)) harr⟩
     | panic ch => exact ⟨_, a1, w1, hq, .pass (x := .inLoop x) rfl (fun _ _ => .inl (by simp)) harr⟩
     | outgrown => exact ⟨_, a1, w1, hq, .pass (x := .inLoop x) rfl (fun _ _ => .inl (by simp)) harr⟩
 obtain ⟨e, a', w', hq, harr⟩ := key k0 E0 a w (ha.sub hE) h0
 exact ⟨e, a', w', hq, .of_steps (.one step_loop) harr⟩
theorem WQ.round {Q' : Exit → Act → World → Prop} {e : Exit} {J : Nat → Env → World → Prop} {k : Nat} (k' : Nat) {E' : Env} (hq : ∀ a w, (∃ k' E', k' < k ∧ Fits a n E' ∧ J k' E' w) → Q' e a w) (hlt : k' < k) (hJ : J k' E' w) (hE : Sub E' E) : WQ Q' e n E w :=
 fun a ha => hq a w ⟨k', E', hlt, ha.sub hE, hJ⟩
end
def envOf : Nat → List Value → Env
 | _, [] => []
 | i, v :: vs => (i, v) :: envOf (i + 1) vs
theorem lk_envOf : ∀ (vs : List Value) (i t : Nat) (v : Value), lk (envOf i vs) t = some v → i ≤ t ∧ vs[t - i]? = some v
 | [], i, t, v, h => by cases h
 | u :: vs, i, t, v, h => by
   rw [envOf, lk_cons] at h
   by_cases e : i = t
   · subst e; rw [if_pos rfl] at h; refine ⟨Nat.le_refl _, ?_⟩; rw [Nat.sub_self]; exact h
   · rw [if_neg e] at h
     obtain ⟨h1, h2⟩ := lk_envOf vs (i + 1) t v h
     refine ⟨by omega, ?_⟩
     rw [show t - i = (t - (i + 1)) + 1 by omega]
     exact h2
theorem calls_W {P : Program} {f : FuncId} {fn : Func} {c : Code} {args : List Value} {n : Nat} {w : World} {R : Ending → World → Prop} (hf : P.funcs[f]? = some fn) (hb : fn.body = some c) (hn : fn.ntmps = n) (hl : args.length ≤ n)
   (h : ∀ R' : Ending → World → Prop, (∀ e w', R e w' → R' e w') → WC P c (bodyPost P fn R') n (envOf 0 args) w) : Calls P f args.toArray w R := by
 refine calls_of_wp hf hb (h R (fun _ _ h => h) _ ⟨?_, rfl, fun t v ht => ?_⟩)
 · simp [hn]; omega
 · obtain ⟨_, h2⟩ := lk_envOf args 0 t v ht
   rw [Nat.sub_zero] at h2
   obtain ⟨hlt, _⟩ := List.getElem?_eq_some_iff.1 h2
   rw [Array.getD_eq_getD_getElem?, Array.getElem?_append_left (by simpa using hlt)]
   simp [h2]
def ResV (P : Program) (w : World) (E : Env) (r : ResultVar) (v : Value) : Prop :=
 match r with
 | .tmp t => lk E t = some v
 | .cell p ty => ∃ ad, lk E p = some (.pointer (some ad)) ∧ (loadVar ty ad).run P w = .ok v w
def rv (tmps : Array Value) : ResultVar → Sem Value
 | .tmp t => pure (tmps.getD t undef)
 | .cell a t => do loadVar t (← asAddr (tmps.getD a undef))
theorem results_rv (fn : Func) (tmps : Array Value) : results fn tmps = (do let vs ← fn.results.mapM (rv tmps); pure (if h : vs.size = 1 then vs[0] else .tuple vs)) := by
 unfold results
 congr 1
theorem ResV.run {P : Program} {w : World} {E : Env} {r : ResultVar} {v : Value} {a : Act} {n : Nat} (h : ResV P w E r v) (ha : Fits a n E) : (rv a.tmps r).run P w = .ok v w := by
 cases r with
 | tmp t => show (pure (a.tmps.getD t undef) : Sem Value).run P w = _; rw [ha.look t v h]; rfl
 | cell p ty =>
   obtain ⟨ad, h1, h2⟩ := h
   show (do loadVar ty (← asAddr (a.tmps.getD p undef)) : Sem Value).run P w = _
   rw [ha.look p _ h1]
   simpa [asAddr] using h2
section
variable {P : Program} {fn : Func} {n : Nat} {E : Env} {w : World} {R : Ending → World → Prop} {e : Exit}
theorem WQ.ret0 (he : e = .ret ∨ e = .normal) (hr : fn.results = #[]) (hR : R (.returned (.tuple #[])) w) : WQ (bodyPost P fn R) e n E w := fun a ha => by
 have : bodyPost P fn R .ret a w := ⟨ha.defers, .tuple #[], by simp [results_rv, hr], hR⟩
 rcases he with rfl | rfl <;> exact this
theorem WQ.ret1 {r : ResultVar} {v : Value} (hr : fn.results = #[r]) (h1 : ResV P w E r v) (hR : R (.returned v) w) : WQ (bodyPost P fn R) .ret n E w := fun a ha =>
 ⟨ha.defers, v, by simp [results_rv, hr, h1.run ha], hR⟩
theorem WQ.ret2 {r s : ResultVar} {v u : Value} (hr : fn.results = #[r, s]) (h1 : ResV P w E r v) (h2 : ResV P w E s u) (hR : R (.returned (.tuple #[v, u])) w) : WQ (bodyPost P fn R) .ret n E w := fun a ha =>
 ⟨ha.defers, _, by simp [results_rv, hr, h1.run ha, h2.run ha], hR⟩
theorem WQ.ret3 {r s q : ResultVar} {v u z : Value} (hr : fn.results = #[r, s, q]) (h1 : ResV P w E r v) (h2 : ResV P w E s u) (h3 : ResV P w E q z) (hR : R (.returned (.tuple #[v, u, z])) w) : WQ (bodyPost P fn R) .ret n E w := fun a ha =>
 ⟨ha.defers, _, by simp [results_rv, hr, h1.run ha, h2.run ha, h3.run ha], hR⟩
end
end Go.Proofs.YtoccifnjhbibcaaGreat.XW
namespace Go.Proofs.YtoccifnjhbibcaaGreat.XLaw
open Go.RowKit Go.Proofs.YtoccifnjhbibcaaGreatW.PrintWords Go.Proofs.YtoccifnjhbibcaaGreatW.PrintLast Go.Proofs.YtoccifnjhbibcaaGreatW.PrintMore
set_option linter.unusedVariables false
structure Fct where
 lo : Nat
 hi : Nat
 P : World → Prop
 mv : ∀ {w w1 : World}, (∀ k, lo ≤ k → k < hi → w1.heap[k]? = w.heap[k]?) → P w → P w1
def St (w : World) : Nat → List Fct → Prop
 | _, [] => True
 | top, f :: fs => f.lo ≤ f.hi ∧ f.hi ≤ top ∧ f.P w ∧ St w f.lo fs
theorem St.move {w w1 : World} : ∀ {fs : List Fct} {top : Nat}, (∀ k, k < top → w1.heap[k]? = w.heap[k]?) → St w top fs → St w1 top fs
 | [], _, _, _ => trivial
 | f :: fs, top, hm, ⟨h1, h2, h3, h4⟩ => ⟨h1, h2, f.mv (fun k _ hk => hm k (by omega)) h3, St.move (fun k hk => hm k (by omega)) h4⟩
theorem St.get {w : World} : ∀ {fs : List Fct} {top : Nat} (i : Nat) {f : Fct}, fs[i]? = some f → St w top fs → f.P w ∧ f.hi ≤ top
 | [], _, i, f, hi, _ => by simp at hi
 | g :: fs, top, 0, f, hi, ⟨h1, h2, h3, h4⟩ => by
   have e : g = f := by simpa using hi
   subst e
   exact ⟨h3, h2⟩
 | g :: fs, top, i + 1, f, hi, ⟨h1, h2, h3, h4⟩ => by
   have := St.get i (f := f) (by simpa using hi) h4
   exact ⟨this.1, by have := this.2; omega⟩
theorem St.put {w w1 : World} : ∀ {fs : List Fct} {top : Nat} (i : Nat) {f f' : Fct}, fs[i]? = some f → f'.lo = f.lo → f'.hi = f.hi → f'.P w1 →
   (∀ k, k < top → ¬ (f.lo ≤ k ∧ k < f.hi) → w1.heap[k]? = w.heap[k]?) → St w top fs → St w1 top (fs.set i f')
 | [], _, i, f, f', hi, _, _, _, _, _ => by simp at hi
 | g :: fs, top, 0, f, f', hi, e1, e2, hp, hm, ⟨h1, h2, h3, h4⟩ => by
   have e : g = f := by simpa using hi
   subst e
   exact ⟨by omega, by omega, hp, by rw [e1]; exact St.move (fun k hk => hm k (by omega) (by omega)) h4⟩
 | g :: fs, top, i + 1, f, f', hi, e1, e2, hp, hm, ⟨h1, h2, h3, h4⟩ => by
   have hi' : fs[i]? = some f := by simpa using hi
   have hb := (St.get i hi' h4).2
   exact ⟨h1, h2, g.mv (fun k hk hk2 => hm k (by omega) (by omega)) h3, St.put i hi' e1 e2 hp (fun k hk hn => hm k (by omega) hn) h4⟩
section
variable {α : Type} (d : Kd α) (e b lo hi : Nat) (v : Value) (xs : List α)
def own : Fct := ⟨lo, hi, fun w => d.R e w b (fun k => lo ≤ k ∧ k < hi) v xs, fun hm h => Kd.R_move h (fun k hk => hm k hk.1 hk.2)⟩
end
end Go.Proofs.YtoccifnjhbibcaaGreat.XLaw
namespace Go.Proofs.YtoccifnjhbibcaaGreat.XLoad
open Go.Proofs.YtoccifnjhbibcaaGreat.XLaw Go.RowKit Go.Proofs.YtoccifnjhbibcaaGreatW.PrintWords Go.Proofs.YtoccifnjhbibcaaGreatW.PrintLast Go.Proofs.YtoccifnjhbibcaaGreatW.PrintMore
set_option linter.unusedVariables false
theorem add_add (a : Addr) (m n : Nat) : (a.add m).add n = a.add (m + n) := by
 unfold Addr.add
 by_cases hm : m = 0
 · subst hm; simp
 · by_cases hn : n = 0
   · subst hn; simp [hm]
   · simp [hm, hn, Nat.add_assoc]
theorem load_all {P : Program} (w : World) (a : Addr) (ty : TypeId) (cs : List Value) (d : TypeDesc) (hc : ∀ j v, cs[j]? = some v → w.cell? (a.add j) = some v)
   (hu : P.underlying ty = some d) (hd : d.isRow = true) (hi : (P.info? ty).map (·.size) = some cs.length) :
   (Instr.loadAt ty (.pointer (some a))).run P w = .ok (.agg cs.toArray) w := by
 have hl : (loadCells a cs.length).run P w = .ok cs.toArray w := run_loadCells_list (P := P) w a cs hc
 have hv : (loadVar ty a).run P w = .ok (.agg cs.toArray) w := by
   cases hq : P.info? ty with
   | none => simp [hq] at hi
   | some i =>
     have hs : i.size = cs.length := by simpa [hq] using hi
     have hagg : (isAgg ty).run P w = .ok true w := by
       unfold isAgg
       rw [Sem.run_bind, run_underlying hu w]
       cases d <;> simp_all
     simp [loadVar, Sem.run_bind, hagg, sizeOf, typeInfo, hq, hs, hl]
 simp only [Instr.loadAt, Instr.sureAddr, Sem.run_bind, Sem.run_pure, Result.andThen_ok, hv]
end Go.Proofs.YtoccifnjhbibcaaGreat.XLoad
namespace Go.Proofs.YtoccifnjhbibcaaGreatW.PrintWords
open Go.RowKit
section
variable {P : Program} {ops : Array Oper} {rest : List Oper} {o : Oper} {a : Act} {Q : Exit → Act → World → Prop} {W : World}
theorem gate_guard (hw : Region.wanted o (yielded ops a.tmps) = true) (h : wpList P ops Q ({ o with guard := none } :: rest) a W) : wpList P ops Q (o :: rest) a W := by
 have h1 : Region.wanted { o with guard := none } (yielded ops a.tmps) = true := rfl
 unfold wpList at h ⊢
 rw [if_pos h1] at h
 rw [if_pos hw]
 exact h
end
end Go.Proofs.YtoccifnjhbibcaaGreatW.PrintWords
namespace Go.Proofs.YtoccifnjhbibcaaGreat.XOp
open Go.RowKit Go.Proofs.YtoccifnjhbibcaaGreatW.PrintWords Go.Proofs.YtoccifnjhbibcaaGreatW.PrintLast Go.Proofs.YtoccifnjhbibcaaGreatW.PrintMore Go.Proofs.YtoccifnjhbibcaaGreat.XW
set_option linter.unusedVariables false
def Ag (ρ : Operand → Value) (E : Env) : Prop := ∀ x v, ev E x = some v → ρ x = v
def Run (P : Program) (E : Env) (o : Oper) (w : World) (v : Value) (w1 : World) : Prop := ∀ ρ, Ag ρ E → (execOp ρ o).run P w = .ok (.value v) w1
def RunU (P : Program) (E : Env) (o : Oper) (w : World) (w1 : World) : Prop := ∀ ρ, Ag ρ E → (execOp ρ o).run P w = .ok .skip w1
section
variable {P : Program} {Q : Exit → Act → World → Prop} {n : Nat} {E E' : Env} {w w1 : World} {ops : Array Oper} {o : Oper} {rest : List Oper} {v : Value} {d : Nat}
theorem ag {a : Act} (ha : Fits a n E) : Ag a.eval E := fun x v h => ha.ev x v h
theorem WL.val (hg : o.guard = none) (hd : o.dst = some d) (hlt : d < n) (hr : Run P E o w v w1) (h : WL P ops Q rest n ((d, v) :: E) w1) : WL P ops Q (o :: rest) n E w := fun a ha => by
 refine wpList_plain hg fun K hK => ?_
 unfold Oper.wp
 rw [hr _ (ag ha), Oper.upon_value, hd]
 exact hK _ _ (h _ (ha.put hlt v))
theorem WL.skip (hg : o.guard = none) (hd : o.dst = none) (hr : RunU P E o w w1) (h : WL P ops Q rest n E w1) : WL P ops Q (o :: rest) n E w := fun a ha => by
 refine wpList_plain hg fun K hK => ?_
 unfold Oper.wp
 rw [hr _ (ag ha), Oper.upon_skip, hd]
 exact hK _ _ (h _ ha)
theorem yielded_lk {a : Act} (ha : Fits a n E) {i t : Nat} {b : Bool} (hi : (ops[i]?).bind (·.dst) = some t) (hv : lk E t = some (.bool b)) : yielded ops a.tmps i = some b := by
 have h1 := ha.look t _ hv
 unfold yielded
 rw [hi]
 show (match a.tmps[t]? with | some (.bool b) => some b | _ => none) = some b
 rw [Array.getD_eq_getD_getElem?] at h1
 cases e : a.tmps[t]? with
 | none => rw [e] at h1; cases h1
 | some u => rw [e] at h1; rw [show u = .bool b from h1]
theorem wanted_on {a : Act} (ha : Fits a n E) {i t : Nat} {b c : Bool} (hg : o.guard = some (i, b)) (hi : (ops[i]?).bind (·.dst) = some t) (hv : lk E t = some (.bool c)) (hc : c = b) : Region.wanted o (yielded ops a.tmps) = true := by
 subst hc
 simp [Region.wanted, hg, yielded_lk ha hi hv]
theorem wanted_off {a : Act} (ha : Fits a n E) {i t : Nat} {b c c' : Bool} (hg : o.guard = some (i, b)) (hi : (ops[i]?).bind (·.dst) = some t) (hv : lk E t = some (.bool c)) (hc : c = c') (hb : (c' == b) = false) : Region.wanted o (yielded ops a.tmps) = false := by
 subst hc
 simp [Region.wanted, hg, yielded_lk ha hi hv]
 simpa using hb
theorem wanted_offU {a : Act} (ha : Fits a n E) {i t : Nat} {b : Bool} (hg : o.guard = some (i, b)) (hi : (ops[i]?).bind (·.dst) = some t) (hv : lk E t = some undef) : Region.wanted o (yielded ops a.tmps) = false := by
 have h1 := ha.look t _ hv
 have h2 : yielded ops a.tmps i = none := by
   unfold yielded
   rw [hi]
   show (match a.tmps[t]? with | some (.bool b) => some b | _ => none) = none
   rw [Array.getD_eq_getD_getElem?] at h1
   cases e : a.tmps[t]? with
   | none => rfl
   | some u => rw [e] at h1; rw [show u = undef from h1]; rfl
 simp [Region.wanted, hg, h2]
theorem WL.on {i t : Nat} {b c : Bool} (hg : o.guard = some (i, b)) (hi : (ops[i]?).bind (·.dst) = some t) (hv : lk E t = some (.bool c)) (hc : c = b) (h : WL P ops Q ({ o with guard := none } :: rest) n E w) : WL P ops Q (o :: rest) n E w := fun a ha =>
 gate_guard (wanted_on ha hg hi hv hc) (h a ha)
theorem WL.off {i t : Nat} {b c c' : Bool} (hg : o.guard = some (i, b)) (hi : (ops[i]?).bind (·.dst) = some t) (hv : lk E t = some (.bool c)) (hc : c = c') (hb : (c' == b) = false) (hd : o.dst = some d) (hlt : d < n) (h : WL P ops Q rest n ((d, undef) :: E) w) : WL P ops Q (o :: rest) n E w := fun a ha => by
 unfold wpList
 rw [if_neg (by rw [wanted_off ha hg hi hv hc hb]; simp), hd]
 exact h _ (ha.put hlt undef)
theorem WL.offT {i t : Nat} {b : Bool} {vs : Array Value} (hg : o.guard = some (i, b)) (hi : (ops[i]?).bind (·.dst) = some t) (hv : lk E t = some (.tuple vs)) (hd : o.dst = some d) (hlt : d < n) (h : WL P ops Q rest n ((d, undef) :: E) w) : WL P ops Q (o :: rest) n E w := fun a ha => by
 unfold wpList
 have hw : Region.wanted o (yielded ops a.tmps) = false := by
   have h1 := ha.look t _ hv
   have h2 : yielded ops a.tmps i = none := by
     unfold yielded
     rw [hi]
     show (match a.tmps[t]? with | some (.bool b) => some b | _ => none) = none
     rw [Array.getD_eq_getD_getElem?] at h1
     cases e : a.tmps[t]? with
     | none => rfl
     | some u => rw [e] at h1; rw [show u = .tuple vs from h1]
   simp [Region.wanted, hg, h2]
 rw [if_neg (by rw [hw]; simp), hd]
 exact h _ (ha.put hlt undef)
theorem WL.call {f : FuncId} {fn : Func} {as : Array Operand} {ts : Array TypeId} {args : List Value} {R : Ending → World → Prop} (hg : o.guard = none) (hd : o.dst = some d) (hlt : d < n) (hop : o.op = .call { callee := .value (.func f), args := as, argTypes := ts })
   (hf : P.funcs[f]? = some fn) (hname : (fn.name == "runtime.NumGoroutine") = false) (hb : fn.body.isSome = true) (hc : Calls P f args.toArray w R) (hargs : as.toList.map (ev E) = args.map some)
   (h : ∀ e w1, R e w1 → ∃ v, e = .returned v ∧ WL P ops Q rest n ((d, v) :: E) w1) : WL P ops Q (o :: rest) n E w := fun a ha => by
 refine wpList_plain hg fun K hK => ?_
 have hae : as.map a.eval = args.toArray := by
   rw [← Array.toList_inj, Array.toList_map]
   have : ∀ (l : List Operand) (vs : List Value), l.map (ev E) = vs.map some → l.map a.eval = vs := fun l => by
     induction l with
     | nil => intro vs h; cases vs with | nil => rfl | cons _ _ => cases h
     | cons x l ih =>
       intro vs h
       cases vs with
       | nil => cases h
       | cons v vs =>
         rw [List.map_cons, List.map_cons, List.cons.injEq] at h
         rw [List.map_cons, ha.ev x v h.1, ih vs h.2]
   exact this _ _ hargs
 have he := enters_ hf hname hb args.toArray w
 have hrun : (execOp a.eval o).run P w = .ok (.enter f args.toArray) w := by
   unfold execOp
   simp [hop, resolve, Deferred.ofValue, invoke, Act.eval, hae, he]
 unfold Oper.wp
 rw [hrun, Oper.upon_enter]
 refine hc.mono fun e w' hh => ?_
 obtain ⟨v, rfl, hk⟩ := h e w' hh
 rw [hd]
 exact hK _ _ (hk _ (ha.put hlt v))
end
section
variable {P : Program} {E : Env} {w w1 : World} {o : Oper} {v u : Value} {x y : Operand} {t s ty : TypeId} {k : IntKind} {i j : Int}
theorem Run.move (ho : o.op = .move x) (hx : ev E x = some v) : Run P E o w v w := fun ρ hρ => by unfold execOp; simp [ho, hρ _ _ hx]
theorem Run.assign (ho : o.op = .assign x) (hx : ev E x = some v) : Run P E o w v w := fun ρ hρ => by unfold execOp; simp [ho, hρ _ _ hx]
theorem Run.pickT {c : Operand} {b : Bool} (ho : o.op = .pick c x y) (hc : ev E c = some (.bool b)) (hb : b = true) (hx : ev E x = some v) : Run P E o w v w := fun ρ hρ => by unfold execOp; simp [ho, hρ _ _ hx, hρ _ _ hc, hb, asBool]
theorem Run.pickF {c : Operand} {b : Bool} (ho : o.op = .pick c x y) (hc : ev E c = some (.bool b)) (hb : b = false) (hx : ev E y = some v) : Run P E o w v w := fun ρ hρ => by unfold execOp; simp [ho, hρ _ _ hx, hρ _ _ hc, hb, asBool]
theorem Run.not {b : Bool} (ho : o.op = .unOp .not ty x) (hx : ev E x = some (.bool b)) : Run P E o w (.bool (!b)) w := fun ρ hρ => by unfold execOp; simp [ho, hρ _ _ hx, Op.unary]
theorem Run.neg (ho : o.op = .unOp .neg ty x) (hx : ev E x = some (.int k i)) : Run P E o w (.int k (k.wrap (0 - i))) w := fun ρ hρ => by unfold execOp; simp [ho, hρ _ _ hx, Op.unary, Op.intArith]
theorem Run.extract {vs : Array Value} {m : Nat} (ho : o.op = .extract x m) (hx : ev E x = some (.tuple vs)) (hm : vs[m]? = some v) : Run P E o w v w := fun ρ hρ => by unfold execOp; simp [ho, hρ _ _ hx, Instr.extract, hm]
theorem eqGuard_int (op : BinOp) (a b : Int) (k k' : IntKind) : (eqGuard op t x y (.int k a) (.int k' b)).run P w = .ok () w := by unfold eqGuard; split <;> simp
theorem Run.bin {op : BinOp} {t2 : TypeId} (ho : o.op = .binOp op t x y t2) (hx : ev E x = some (.int k i)) (hy : ev E y = some (.int k j)) (hr : (Go.binOp op t (.int k i) (.int k j)).run P w = .ok v w) : Run P E o w v w := fun ρ hρ => by
 unfold execOp; simp [ho, hρ _ _ hx, hρ _ _ hy, eqGuard_int, hr]
theorem bin_add : (Go.binOp .add t (.int k i) (.int k j)).run P w = .ok (.int k (k.wrap (i + j))) w := by simp [Go.binOp, Op.intArith]
theorem bin_sub : (Go.binOp .sub t (.int k i) (.int k j)).run P w = .ok (.int k (k.wrap (i - j))) w := by simp [Go.binOp, Op.intArith]
theorem bin_mul : (Go.binOp .mul t (.int k i) (.int k j)).run P w = .ok (.int k (k.wrap (i * j))) w := by simp [Go.binOp, Op.intArith]
theorem bin_quo (h : j ≠ 0) : (Go.binOp .quo t (.int k i) (.int k j)).run P w = .ok (.int k (k.wrap (i.tdiv j))) w := by simp [Go.binOp, Op.intDiv, h]
theorem bin_rem (h : j ≠ 0) : (Go.binOp .rem t (.int k i) (.int k j)).run P w = .ok (.int k (i.tmod j)) w := by simp [Go.binOp, Op.intDiv, h]
theorem bin_eql : (Go.binOp .eql t (.int k i) (.int k j)).run P w = .ok (.bool (i == j)) w := by simp [Go.binOp, Op.intCmp]
theorem bin_neq : (Go.binOp .neq t (.int k i) (.int k j)).run P w = .ok (.bool (i != j)) w := by simp [Go.binOp, Op.intCmp]
theorem bin_lss : (Go.binOp .lss t (.int k i) (.int k j)).run P w = .ok (.bool (decide (i < j))) w := by simp [Go.binOp, Op.intCmp]
theorem bin_leq : (Go.binOp .leq t (.int k i) (.int k j)).run P w = .ok (.bool (decide (i ≤ j))) w := by simp [Go.binOp, Op.intCmp]
theorem bin_gtr : (Go.binOp .gtr t (.int k i) (.int k j)).run P w = .ok (.bool (decide (i > j))) w := by simp [Go.binOp, Op.intCmp]
theorem bin_geq : (Go.binOp .geq t (.int k i) (.int k j)).run P w = .ok (.bool (decide (i ≥ j))) w := by simp [Go.binOp, Op.intCmp]
theorem bin_add64 : (Go.binOp .add t (.int .i64 i) (.int .i64 j)).run P w = .ok (.int .i64 (wrap64 (i + j))) w := by rw [← i64_w]; exact bin_add
theorem bin_sub64 : (Go.binOp .sub t (.int .i64 i) (.int .i64 j)).run P w = .ok (.int .i64 (wrap64 (i - j))) w := by rw [← i64_w]; exact bin_sub
theorem bin_mul64 : (Go.binOp .mul t (.int .i64 i) (.int .i64 j)).run P w = .ok (.int .i64 (wrap64 (i * j))) w := by rw [← i64_w]; exact bin_mul
theorem bin_quo64 (h : j ≠ 0) : (Go.binOp .quo t (.int .i64 i) (.int .i64 j)).run P w = .ok (.int .i64 (wrap64 (i.tdiv j))) w := by rw [← i64_w]; exact bin_quo h
theorem Run.neg64 (ho : o.op = .unOp .neg ty x) (hx : ev E x = some (.int .i64 i)) : Run P E o w (.int .i64 (wrap64 (0 - i))) w := by rw [← i64_w]; exact Run.neg ho hx
theorem Run.len {A : Option Addr} {m c e : Nat} {ts : Array TypeId} (ho : o.op = .call { callee := .builtin .len, args := #[x], argTypes := #[t] }) (ht : P.underlying t = some (.slice e)) (hx : ev E x = some (.slice A m c)) : Run P E o w (.int .i64 (m : Int)) w := fun ρ hρ => by
 unfold execOp
 simp [ho, hρ _ _ hx, resolve, invoke, builtin, Builtin.len_, run_underlying ht, goInt]
theorem Run.fieldAddr {ad ad' : Addr} {m : Nat} {fs : Array Field} {f : Field} (ho : o.op = .fieldAddr s x m) (hx : ev E x = some (.pointer (some ad))) (hs : P.underlying s = some (.struct fs)) (hf : fs[m]? = some f) (hi : (P.info? f.type).map (fun i => i.size == 0) = some false) (he : ad.add f.offset = ad') :
   Run P E o w (.pointer (some ad')) w := fun ρ hρ => by
 obtain ⟨i0, hi, hz⟩ := Option.map_eq_some_iff.1 hi
 have hz' : ¬ i0.size = 0 := by simpa using hz
 unfold execOp
 simp [ho, hρ _ _ hx, Instr.fieldAt, Instr.sureAddr, run_underlying hs, hf, fieldPlace, sizeOf, typeInfo, hi, hz', he]
theorem Run.indexAddr {ad : Addr} {m c e sz : Nat} (ho : o.op = .indexAddr t x y) (hx : ev E x = some (.slice (some ad) m c)) (hy : ev E y = some (.int k i)) (ht : P.underlying t = some (.slice e)) (hsz : (P.info? e).map (·.size) = some sz) (h0 : 0 ≤ i) (h1 : i < (m : Int)) :
   Run P E o w (.pointer (some (ad.add (i.toNat * sz)))) w := fun ρ hρ => by
 obtain ⟨i0, hi, hs⟩ := Option.map_eq_some_iff.1 hsz
 unfold execOp
 simp [ho, hρ _ _ hx, hρ _ _ hy, Instr.indexAt, asIntOf, run_underlying ht, sizeOf, typeInfo, hi, hs, h0, h1]
theorem run_loadAt_one {ad : Addr} {dd : TypeDesc} (ht : P.underlying t = some dd) (hd : dd.isRow = false) (hc : w.cell? ad = some v) : (Instr.loadAt t (.pointer (some ad))).run P w = .ok v w := by
 have hagg : (isAgg t).run P w = .ok false w := by
   unfold isAgg
   rw [Sem.run_bind, run_underlying ht w]
   cases dd <;> simp_all
 simp [Instr.loadAt, Instr.sureAddr, loadVar, hagg, hc]
theorem Run.load {ad : Addr} {dd : TypeDesc} (ho : o.op = .load t x) (hx : ev E x = some (.pointer (some ad))) (ht : P.underlying t = some dd) (hd : dd.isRow = false) (hc : w.cell? ad = some v) : Run P E o w v w := fun ρ hρ => by
 unfold execOp; simp only [ho, hρ _ _ hx, Sem.run_bind, run_loadAt_one ht hd hc, Result.andThen_ok, Sem.run_pure]
theorem Run.loadS {ad : Addr} {dd : TypeDesc} {cs : List Value} (ho : o.op = .load t x) (hx : ev E x = some (.pointer (some ad))) (ht : P.underlying t = some dd) (hd : dd.isRow = true) (hi : (P.info? t).map (·.size) = some cs.length) (hc : ∀ j v, cs[j]? = some v → w.cell? (ad.add j) = some v) : Run P E o w (.agg cs.toArray) w := fun ρ hρ => by
 unfold execOp; simp only [ho, hρ _ _ hx, Sem.run_bind, XLoad.load_all w ad t cs dd hc ht hd hi, Result.andThen_ok, Sem.run_pure]
theorem Run.box {cs : Array Value} (ho : o.op = .box t x) (hx : ev E x = some v) (hv : v.cells = cs) : Run P E o w (.pointer (some ⟨w.heap.size, 0, none⟩)) (w.alloc (.cells cs t)) := fun ρ hρ => by
 unfold execOp; simp [ho, hρ _ _ hx, Instr.box, newVar, newRow, hv]
theorem Run.alloc {z : Value} {i0 : TypeInfo} (ho : o.op = .alloc t) (hi : P.info? t = some i0) (hz : i0.zero = some z) : Run P E o w (.pointer (some ⟨w.heap.size, 0, none⟩)) (w.alloc (.cells z.cells t)) := fun ρ hρ => by
 unfold execOp; simp [ho, Instr.alloc, zeroValue, typeInfo, hi, hz, newVar, newRow]
end
end Go.Proofs.YtoccifnjhbibcaaGreat.XOp
namespace Go.Proofs.YtoccifnjhbibcaaGreat.XSt
open Go.RowKit Go.Proofs.YtoccifnjhbibcaaGreatW.PrintWords Go.Proofs.YtoccifnjhbibcaaGreatW.PrintLast Go.Proofs.YtoccifnjhbibcaaGreatW.PrintMore Go.Proofs.YtoccifnjhbibcaaGreat.XW Go.Proofs.YtoccifnjhbibcaaGreat.XOp
set_option linter.unusedVariables false
abbrev Fact := World → Prop
def AllF (W : World) : List Fact → Prop
 | [] => True
 | f :: fs => f W ∧ AllF W fs
structure Mu where
 blk : List Nat
 P : World → Prop
def AllM (w : World) : List Mu → Prop
 | [] => True
 | m :: ms => Foot m.P w (fun k => k ∈ m.blk) ∧ AllM w ms
def bks : List Mu → List Nat
 | [] => []
 | m :: ms => m.blk ++ bks ms
def okS (ok0 : Nat → Prop) (B : Nat) (bs : List Nat) (k : Nat) : Prop := (k < B → ok0 k) ∧ k ∉ bs
structure St (ok0 : Nat → Prop) (w0 w : World) (ms : List Mu) (fo fn : List Fact) : Prop where
 b : Below w0.heap.size w0 w
 o : Foot (fun W => AllF W fo) w (okS ok0 w0.heap.size (bks ms))
 n : Foot (fun W => AllF W fn) w (okS (fun _ => False) w0.heap.size (bks ms))
 m : AllM w ms
 d : (bks ms).Nodup
 l : ∀ k, k ∈ bks ms → w0.heap.size ≤ k ∧ k < w.heap.size
theorem AllF.get {W : World} : ∀ {fs : List Fact} (i : Nat) {p : Fact}, fs[i]? = some p → AllF W fs → p W
 | [], i, p, h, _ => by simp at h
 | f :: fs, 0, p, h, ha => by
   have e : f = p := by simpa using h
   exact e ▸ ha.1
 | f :: fs, i + 1, p, h, ha => AllF.get i (by simpa using h) ha.2
theorem AllM.get {w : World} : ∀ {ms : List Mu} (i : Nat) {p : Mu}, ms[i]? = some p → AllM w ms → Foot p.P w (fun k => k ∈ p.blk)
 | [], i, p, h, _ => by simp at h
 | f :: fs, 0, p, h, ha => by
   have e : f = p := by simpa using h
   exact e ▸ ha.1
 | f :: fs, i + 1, p, h, ha => AllM.get i (by simpa using h) ha.2
theorem bks_app : ∀ (a b : List Mu), bks (a ++ b) = bks a ++ bks b
 | [], b => rfl
 | m :: a, b => by rw [List.cons_append, bks, bks, bks_app a b, List.append_assoc]
theorem AllM.app {w : World} : ∀ {a b : List Mu}, AllM w (a ++ b) ↔ AllM w a ∧ AllM w b
 | [], b => ⟨fun h => ⟨trivial, h⟩, fun h => h.2⟩
 | m :: a, b => ⟨fun h => ⟨⟨h.1, (AllM.app.1 h.2).1⟩, (AllM.app.1 h.2).2⟩, fun h => ⟨h.1.1, AllM.app.2 ⟨h.1.2, h.2⟩⟩⟩
theorem AllM.step {w w1 : World} : ∀ {ms : List Mu}, (∀ k, k ∈ bks ms → k < w.heap.size → w1.heap[k]? = w.heap[k]?) → AllM w ms → AllM w1 ms
 | [], _, _ => trivial
 | m :: ms, hm, h => ⟨h.1.step (fun k hk hl => hm k (List.mem_append_left _ hk) hl), AllM.step (fun k hk hl => hm k (List.mem_append_right _ hk) hl) h.2⟩
section
variable {ok0 : Nat → Prop} {w0 w w1 : World} {ms : List Mu} {fo fn fs : List Fact} {p : Fact}
theorem okS_new {B : Nat} {bs : List Nat} (hB : B ≤ w.heap.size) (hl : ∀ k, k ∈ bs → k < w.heap.size) {k : Nat} (hk : w.heap.size ≤ k) : okS ok0 B bs k := ⟨fun h => by omega, fun h => by have := hl k h; omega⟩
theorem okS_sub {B : Nat} {bs bs' : List Nat} (h : ∀ k, k ∈ bs' → k ∈ bs) {k : Nat} (hk : okS ok0 B bs k) : okS ok0 B bs' k := ⟨hk.1, fun h2 => hk.2 (h k h2)⟩
theorem okS_n {B : Nat} {bs : List Nat} {k : Nat} (hk : okS (fun _ => False) B bs k) : okS ok0 B bs k := ⟨fun h => (hk.1 h).elim, hk.2⟩
theorem St.start (h : Foot (fun W => AllF W fo) w ok0) : St ok0 w w [] fo [] :=
 ⟨Below.refl _ _, (Foot.bound h).mono (fun k hk => ⟨fun _ => hk.1, by simp [bks]⟩), fun _ _ => trivial, trivial, List.nodup_nil, fun k hk => by simp [bks] at hk⟩
theorem St.size (h : St ok0 w0 w ms fo fn) : w0.heap.size ≤ w.heap.size := h.b.size
theorem St.getO (h : St ok0 w0 w ms fo fn) (i : Nat) (hi : fo[i]? = some p) : p w := (h.o.imp (fun W hW => AllF.get i hi hW)).now
theorem St.footO (h : St ok0 w0 w ms fo fn) (i : Nat) (hi : fo[i]? = some p) : Foot p w (okS ok0 w0.heap.size (bks ms)) := h.o.imp (fun W hW => AllF.get i hi hW)
theorem St.getN (h : St ok0 w0 w ms fo fn) (i : Nat) (hi : fn[i]? = some p) : p w := (h.n.imp (fun W hW => AllF.get i hi hW)).now
theorem St.footN (h : St ok0 w0 w ms fo fn) (i : Nat) (hi : fn[i]? = some p) : Foot p w (okS (fun _ => False) w0.heap.size (bks ms)) := h.n.imp (fun W hW => AllF.get i hi hW)
theorem St.mu (h : St ok0 w0 w ms fo fn) (i : Nat) {m : Mu} (hi : ms[i]? = some m) : m.P w := (AllM.get i hi h.m).now
theorem St.below (h : St ok0 w0 w ms fo fn) (hb : Below w.heap.size w w1) : St ok0 w0 w1 ms fo fn :=
 ⟨h.b.trans (hb.mono h.size), h.o.step (fun k _ hl => hb.block k hl), h.n.step (fun k _ hl => hb.block k hl), h.m.step (fun k _ hl => hb.block k hl), h.d, fun k hk => ⟨(h.l k hk).1, Nat.lt_of_lt_of_le (h.l k hk).2 hb.size⟩⟩
theorem St.drew (h : St ok0 w0 w ms fo fn) : St ok0 w0 w.drew ms fo fn := h.below (below_drew (Below.refl _ _))
theorem foot_and {q : Fact} {w : World} {ok : Nat → Prop} (h1 : Foot p w ok) (h2 : Foot q w ok) : Foot (fun W => p W ∧ q W) w ok := fun W hW => ⟨h1 W hW, h2 W hW⟩
theorem St.addO (h : St ok0 w0 w ms fo fn) (hp : Foot p w (okS ok0 w0.heap.size (bks ms))) : St ok0 w0 w ms (p :: fo) fn := ⟨h.b, foot_and hp h.o, h.n, h.m, h.d, h.l⟩
theorem St.addN (h : St ok0 w0 w ms fo fn) (hp : Foot p w (okS (fun _ => False) w0.heap.size (bks ms))) : St ok0 w0 w ms fo (p :: fn) := ⟨h.b, h.o, foot_and hp h.n, h.m, h.d, h.l⟩
theorem St.deriveO (h : St ok0 w0 w ms fo fn) (hi : ∀ W, AllF W fo → AllF W fn → p W) : St ok0 w0 w ms (p :: fo) fn := h.addO (fun W hW => hi W (h.o W hW) (h.n W (fun k hk => hW k (okS_n hk))))
theorem St.deriveN (h : St ok0 w0 w ms fo fn) (hi : ∀ W, AllF W fn → p W) : St ok0 w0 w ms fo (p :: fn) := h.addN (fun W hW => hi W (h.n W hW))
theorem St.pickO {fo' : List Fact} (h : St ok0 w0 w ms fo fn) (hi : ∀ W, AllF W fo → AllF W fo') : St ok0 w0 w ms fo' fn := ⟨h.b, h.o.imp hi, h.n, h.m, h.d, h.l⟩
theorem St.pickN {fn' : List Fact} (h : St ok0 w0 w ms fo fn) (hi : ∀ W, AllF W fn → AllF W fn') : St ok0 w0 w ms fo fn' := ⟨h.b, h.o, h.n.imp hi, h.m, h.d, h.l⟩
theorem St.pick {fo' fn' : List Fact} (h : St ok0 w0 w ms fo fn) (hO : ∀ W, AllF W fo → AllF W fo') (hN : ∀ W, AllF W fn → AllF W fn') : St ok0 w0 w ms fo' fn' := (h.pickO hO).pickN hN
def boxM (b : Nat) (cs : Array Value) (t : TypeId) : Mu := ⟨[b], fun W => W.heap[b]? = some (.cells cs t (0, 0))⟩
theorem foot_box {b : Nat} {cs : Array Value} {t : TypeId} (h : w.heap[b]? = some (.cells cs t (0, 0))) : Foot (boxM b cs t).P w (fun k => k ∈ (boxM b cs t).blk) := fun W hW => (hW b (by simp [boxM]) (blk_lt h)).trans h
theorem St.push {m : Mu} (h : St ok0 w0 w ms fo fn) (hb : Below w.heap.size w w1) (hf : Foot m.P w1 (fun k => k ∈ m.blk)) (hn : m.blk.Nodup) (hl : ∀ k, k ∈ m.blk → w.heap.size ≤ k ∧ k < w1.heap.size) : St ok0 w0 w1 (m :: ms) fo fn := by
 have h1 := h.below hb
 have hlt : ∀ k, k < w.heap.size → k ∉ m.blk := fun k hk h2 => by have := (hl k h2).1; omega
 refine ⟨h1.b, ?_, ?_, ⟨hf, h1.m⟩, ?_, ?_⟩
 · exact ((h.o.bound).step (fun k _ hk => hb.block k hk)).mono (fun k hk => ⟨hk.1.1, fun h2 => (List.mem_append.1 h2).elim (hlt k hk.2) hk.1.2⟩)
 · exact ((h.n.bound).step (fun k _ hk => hb.block k hk)).mono (fun k hk => ⟨hk.1.1, fun h2 => (List.mem_append.1 h2).elim (hlt k hk.2) hk.1.2⟩)
 · exact List.nodup_append.2 ⟨hn, h.d, fun a ha b hb' e => by subst e; exact hlt a (h.l a hb').2 ha⟩
 · intro k hk
   rcases List.mem_append.1 hk with hk | hk
   · exact ⟨Nat.le_trans h.size (hl k hk).1, (hl k hk).2⟩
   · exact h1.l k hk
theorem St.box (h : St ok0 w0 w ms fo fn) (cs : Array Value) (t : TypeId) : St ok0 w0 (w.alloc (.cells cs t)) (boxM w.heap.size cs t :: ms) fo fn :=
 h.push (below_alloc (Below.refl _ _) _) (foot_box (by show (w.alloc _).heap[w.heap.size]? = _; unfold World.alloc; simp)) (by simp [boxM]) (fun k hk => by
   have : k = w.heap.size := by simpa [boxM] using hk
   subst this
   exact ⟨Nat.le_refl _, by simp⟩)
theorem split_at {α : Type} {l : List α} {i : Nat} {m : α} (h : l[i]? = some m) : l = l.take i ++ m :: l.drop (i + 1) ∧ (∀ m', l.set i m' = l.take i ++ m' :: l.drop (i + 1)) ∧ l.eraseIdx i = l.take i ++ l.drop (i + 1) := by
 obtain ⟨hl, e⟩ := List.getElem?_eq_some_iff.1 h
 refine ⟨?_, fun m' => ?_, List.eraseIdx_eq_take_drop_succ l i⟩
 · rw [← e, List.getElem_cons_drop, List.take_append_drop]
 · rw [List.set_eq_take_append_cons_drop, if_pos hl]
theorem St.put (h : St ok0 w0 w ms fo fn) (i : Nat) {m m' : Mu} (hi : ms[i]? = some m) (hB : Below w0.heap.size w0 w1) (hs : w.heap.size ≤ w1.heap.size) (hk : ∀ k, k < w.heap.size → k ∉ m.blk → w1.heap[k]? = w.heap[k]?)
   (hf : Foot m'.P w1 (fun k => k ∈ m'.blk)) (hn : m'.blk.Nodup) (hl : ∀ k, k ∈ m'.blk → k ∈ m.blk ∨ (w.heap.size ≤ k ∧ k < w1.heap.size)) : St ok0 w0 w1 (ms.set i m') fo fn := by
 obtain ⟨e1, e2, _⟩ := split_at hi
 rw [e2]
 obtain ⟨hb, ho, hn', hm, hd, hl'⟩ := h
 rw [e1] at ho hn' hm hd hl'
 generalize ms.take i = l1 at *
 generalize ms.drop (i + 1) = l2 at *
 clear e1 e2 hi
 obtain ⟨hm1, hm2⟩ := AllM.app.1 hm
 rw [bks_app, bks] at hd hl' ho hn'
 obtain ⟨d1, d2, d3⟩ := List.nodup_append.1 hd
 obtain ⟨d4, d5, d6⟩ := List.nodup_append.1 d2
 have hin : ∀ k, k ∈ bks (l1 ++ m' :: l2) → k ∈ bks l1 ++ (m.blk ++ bks l2) ∨ (w.heap.size ≤ k ∧ k < w1.heap.size) := by
   intro k hk
   rw [bks_app, bks] at hk
   rcases List.mem_append.1 hk with hk | hk
   · exact .inl (List.mem_append_left _ hk)
   · rcases List.mem_append.1 hk with hk | hk
     · rcases hl k hk with h2 | h2
       · exact .inl (List.mem_append_right _ (List.mem_append_left _ h2))
       · exact .inr h2
     · exact .inl (List.mem_append_right _ (List.mem_append_right _ hk))
 have hout : ∀ {ok : Nat → Prop} {k : Nat}, okS ok w0.heap.size (bks l1 ++ (m.blk ++ bks l2)) k ∧ k < w.heap.size → okS ok w0.heap.size (bks (l1 ++ m' :: l2)) k := fun hk => ⟨hk.1.1, fun h2 => (hin _ h2).elim hk.1.2 (fun h3 => by have := hk.2; omega)⟩
 refine ⟨hB, (ho.bound.step (fun k h_ hlt => hk k hlt (fun h2 => h_.1.2 (List.mem_append_right _ (List.mem_append_left _ h2))))).mono (fun k hk => hout hk), (hn'.bound.step (fun k h_ hlt => hk k hlt (fun h2 => h_.1.2 (List.mem_append_right _ (List.mem_append_left _ h2))))).mono (fun k hk => hout hk), AllM.app.2 ⟨AllM.step (fun k hk' hlt => hk k hlt (fun h2 => ?_)) hm1, hf, AllM.step (fun k hk' hlt => hk k hlt (fun h2 => ?_)) hm2.2⟩, ?_, fun k hk' => ?_⟩
 · exact d3 k hk' k (List.mem_append_left _ h2) rfl
 · exact d6 k h2 k hk' rfl
 · rw [bks_app, bks]
   have hnew : ∀ k, k ∈ m'.blk → k ∈ m.blk ∨ w.heap.size ≤ k := fun k hk' => (hl k hk').imp id (fun h => h.1)
   refine List.nodup_append.2 ⟨d1, List.nodup_append.2 ⟨hn, d5, fun a ha b hb' e => ?_⟩, fun a ha b hb' e => ?_⟩
   · subst e
     rcases hnew a ha with h2 | h2
     · exact d6 a h2 a hb' rfl
     · have := (hl' a (List.mem_append_right _ (List.mem_append_right _ hb'))).2; omega
   · subst e
     rcases List.mem_append.1 hb' with h2 | h2
     · rcases hnew a h2 with h3 | h3
       · exact d3 a ha a (List.mem_append_left _ h3) rfl
       · have := (hl' a (List.mem_append_left _ ha)).2; omega
     · exact d3 a ha a (List.mem_append_right _ h2) rfl
 · rcases hin k hk' with h2 | h2
   · exact ⟨(hl' k h2).1, Nat.lt_of_lt_of_le (hl' k h2).2 hs⟩
   · exact ⟨by have := hb.size; omega, h2.2⟩
end
end Go.Proofs.YtoccifnjhbibcaaGreat.XSt
namespace Go.Proofs.YtoccifnjhbibcaaGreat.XSt
open Go.RowKit Go.Proofs.YtoccifnjhbibcaaGreatW.PrintWords Go.Proofs.YtoccifnjhbibcaaGreatW.PrintLast Go.Proofs.YtoccifnjhbibcaaGreatW.PrintMore Go.Proofs.YtoccifnjhbibcaaGreat.XW Go.Proofs.YtoccifnjhbibcaaGreat.XOp
set_option linter.unusedVariables false
section
variable {ok0 : Nat → Prop} {w0 w w1 : World} {ms : List Mu} {fo fn fs : List Fact} {p : Fact} {b : Nat} {t : TypeId} {cs cs' : Array Value}
theorem St.store (h : St ok0 w0 w ms fo fn) (i : Nat) (hi : ms[i]? = some (boxM b cs t)) (j : Nat) (v : Value) (e : cs.setIfInBounds j v = cs') : St ok0 w0 (w.setCell ⟨b, j, none⟩ v) (ms.set i (boxM b cs' t)) fo fn := by
 have hb : w.heap[b]? = some (.cells cs t (0, 0)) := h.mu i hi
 have hge : w0.heap.size ≤ b := (h.l b (by obtain ⟨e1, _⟩ := split_at hi; rw [e1, bks_app, bks]; simp [boxM])).1
 refine h.put i hi (below_set h.b hge) (by simp [World.setCell]) (fun k hk hn => Below.heap_setCell w _ v k (fun e2 => hn (by subst e2; simp [boxM]))) (foot_box ?_) (by simp [boxM]) (fun k hk => .inl hk)
 rw [← e]
 exact blk_set hb j v
def splice : Array Value → Nat → List Value → Array Value
 | cs, _, [] => cs
 | cs, o, v :: r => splice (cs.setIfInBounds o v) (o + 1) r
theorem splice_size : ∀ (vs : List Value) (cs : Array Value) (o : Nat), (splice cs o vs).size = cs.size
 | [], cs, o => rfl
 | v :: r, cs, o => by rw [splice, splice_size r, Array.size_setIfInBounds]
theorem St.storeS : ∀ (vs : List Value) {w : World} {ms : List Mu} {cs cs' : Array Value} (o : Nat), St ok0 w0 w ms fo fn → ∀ (i : Nat), ms[i]? = some (boxM b cs t) → splice cs o vs = cs' → St ok0 w0 (w.setCells b o vs) (ms.set i (boxM b cs' t)) fo fn
 | [], w, ms, cs, cs', o, h, i, hi, e => by
   subst e
   obtain ⟨h1, h2⟩ := List.getElem?_eq_some_iff.1 hi
   show St ok0 w0 w (ms.set i (boxM b cs t)) fo fn
   rw [← h2, List.set_getElem_self]
   exact h
 | v :: r, w, ms, cs, cs', o, h, i, hi, e => by
   have h1 := h.store i hi o v rfl
   have h2 := St.storeS r (o + 1) h1 i (List.getElem?_set_self (List.getElem?_eq_some_iff.1 hi).1) e
   rw [List.set_set] at h2
   exact h2
end
section
variable {P : Program} {E : Env} {w : World} {o : Oper} {v : Value} {x y : Operand} {t ty : TypeId} {b j : Nat} {cs : Array Value}
theorem RunU.store (ho : o.op = .store t x y) (hx : ev E x = some (.pointer (some ⟨b, j, none⟩))) (hy : ev E y = some v) (hv : v.oneCell' = true) (hi : (P.info? t).map (·.size) = some 1) (hb : w.heap[b]? = some (.cells cs ty (0, 0))) (hj : j < cs.size) : RunU P E o w (w.setCell ⟨b, j, none⟩ v) := fun ρ hρ => by
 have h1 := run_storeVar_mid (P := P) w b j t #[v] (fun i hi => by
   have : i = 0 := by simpa using hi
   subst this
   refine ⟨?_, blk_frozen hb _⟩
   rw [blk_cell hb, Nat.add_zero, Array.getElem?_eq_getElem hj]; rfl) hi (by simp [hv])
 unfold execOp
 simp only [ho, hρ _ _ hx, hρ _ _ hy, Instr.storeAt, Instr.sureAddr, Sem.run_bind, Sem.run_pure, Result.andThen_ok]
 have h2 : (storeVar t ⟨b, j, none⟩ v).run P w = (storeVar t ⟨b, j, none⟩ (.agg #[v])).run P w := by
   unfold storeVar
   have : v.cells = #[v] := by cases v <;> simp_all [Value.cells, Value.oneCell']
   rw [this]; rfl
 rw [h2, h1]
 rfl
theorem RunU.storeS {vs : List Value} (ho : o.op = .store t x y) (hx : ev E x = some (.pointer (some ⟨b, j, none⟩))) (hy : ev E y = some (.agg vs.toArray)) (hv : ∀ u ∈ vs, u.oneCell' = true) (hi : (P.info? t).map (·.size) = some vs.length) (hb : w.heap[b]? = some (.cells cs ty (0, 0))) (hj : j + vs.length ≤ cs.size) : RunU P E o w (w.setCells b j vs) := fun ρ hρ => by
 have h1 := run_storeAt_mid (P := P) w b j t vs.toArray (fun i hi => by
   have hi : i < vs.length := by simpa using hi
   refine ⟨?_, blk_frozen hb _⟩
   rw [blk_cell hb, Array.getElem?_eq_getElem (by omega)]; rfl) (by simpa using hi) (all_oneCell_toArray hv)
 unfold execOp
 simp only [ho, hρ _ _ hx, hρ _ _ hy, Sem.run_bind, h1, Result.andThen_ok, Sem.run_pure]
end
def rowM (B e sz : Nat) (v : Value) (n : Nat) (inner : List Value) : Mu := ⟨v.ownBlock.toList, fun W => W.ownsRow B e sz v n inner⟩
theorem foot_row {B e sz n : Nat} {v : Value} {inner : List Value} {w : World} (h : w.ownsRow B e sz v n inner) : Foot (rowM B e sz v n inner).P w (fun k => k ∈ (rowM B e sz v n inner).blk) := fun W hW =>
 own_move h (fun k hk => hW k (by simp [rowM, hk]) (own_lt h k hk))
section
variable {ok0 : Nat → Prop} {w0 w w1 : World} {ms : List Mu} {fo fn fs : List Fact} {p : Fact} {e sz n : Nat} {v v1 : Value} {inner news : List Value}
theorem St.grown (h : St ok0 w0 w ms fo fn) (i : Nat) {m : Nat} (hi : ms[i]? = some (rowM w0.heap.size e sz v n inner)) (ho : w1.ownsRow w0.heap.size e sz v1 m news) (hg : w.grownBy w1 v.ownBlock) (hat : v1.ownBlock = v.ownBlock ∨ v1.ownBlock = some w.heap.size) :
   St ok0 w0 w1 (ms.set i (rowM w0.heap.size e sz v1 m news)) fo fn := by
 have hown : w.ownsRow w0.heap.size e sz v n inner := h.mu i hi
 refine h.put i hi (h.b.grown hg h.size (own_base hown)) hg.size (fun k hk hn => hg.block k hk (fun e2 => hn ?_)) (foot_row ho) ?_ (fun k hk => ?_)
 · show k ∈ v.ownBlock.toList
   rw [← e2]; simp
 · show v1.ownBlock.toList.Nodup
   cases v1.ownBlock <;> simp
 · have hk : v1.ownBlock = some k := by simpa [rowM] using hk
   rcases hat with h2 | h2
   · exact .inl (by show k ∈ v.ownBlock.toList; rw [← h2, hk]; simp)
   · rw [h2] at hk
     injection hk with hk
     subst hk
     exact .inr ⟨Nat.le_refl _, own_lt ho _ h2⟩
theorem St.rowNew (h : St ok0 w0 w ms fo fn) (hb : Below w.heap.size w w1) (ho : w1.ownsRow w.heap.size e sz v n inner) : St ok0 w0 w1 (rowM w0.heap.size e sz v n inner :: ms) fo fn :=
 h.push hb (foot_row (own_weaken ho h.size)) (by show v.ownBlock.toList.Nodup; cases v.ownBlock <;> simp) (fun k hk => by
   have hk : v.ownBlock = some k := by simpa [rowM] using hk
   exact ⟨own_base ho k hk, own_lt ho k hk⟩)
theorem St.rowNil (h : St ok0 w0 w ms fo fn) (e sz : Nat) : St ok0 w0 w (rowM w0.heap.size e sz (.slice none 0 0) 0 [] :: ms) fo fn := h.rowNew (Below.refl _ _) (own_nil _ _ _ _)
end
section
variable {P : Program} {Q : Exit → Act → World → Prop} {N : Nat} {E : Env} {ops : Array Oper} {o : Oper} {rest : List Oper} {d : Nat} {ok0 : Nat → Prop} {w0 w : World} {ms : List Mu} {fo fn : List Fact} {e sz n : Nat} {v : Value} {inner : List Value}
theorem WL.append (H : St ok0 w0 w ms fo fn) (i : Nat) (hi : ms[i]? = some (rowM w0.heap.size e sz v n inner)) (hg : o.guard = none) (hd : o.dst = some d) (hlt : d < N) {s x : Operand} {t : TypeId} (ho : o.op = .call { callee := .builtin .append, args := #[s, x], argTypes := #[t, t] })
   (z : Value) (bytes : Nat) (ht : P.underlying t = some (.slice e)) (hinfo : (P.info? e).map (fun i => (i.zero, i.size, i.bytes)) = some (some z, sz, bytes)) (hz : z.cells.size = sz) (hs0 : 0 < sz) (hb0 : 0 < bytes)
   (hs : ev E s = some v) {ad : Addr} {m c : Nat} (hx : ev E x = some (.slice (some ad) m c)) (news : List Value) (hl : news.length = m * sz) (hnews : ∀ j u, news[j]? = some u → w.cell? (ad.add j) = some u) (h1 : ∀ u ∈ news, u.oneCell' = true) (hbytes : (n + m) * bytes ≤ 140737488355328) (n' : Nat) (hn : n + m = n')
   (h : ∀ v1 w1 I, I = inner ++ news → St ok0 w0 w1 (ms.set i (rowM w0.heap.size e sz v1 n' I)) fo fn → WL P ops Q rest N ((d, v1) :: E) w1) : WL P ops Q (o :: rest) N E w := fun a ha => by
 subst hn
 obtain ⟨i0, hi0, hzz⟩ := Option.map_eq_some_iff.1 hinfo
 simp only [Prod.mk.injEq] at hzz
 obtain ⟨hz0, hz1, hz2⟩ := hzz
 have hlen : n + m ≤ 140737488355328 := Nat.le_trans (Nat.le_mul_of_pos_right _ hb0) hbytes
 refine wpList_append_own_at w hg s x t ho w0.heap.size e i0 z sz bytes ht hi0 hz0 hz1 hz2 hz hs0 v n inner (ha.ev _ _ hs) (H.mu i hi) ad m c news (ha.ev _ _ hx) hl hnews h1 (by simp only [maxLen]; omega) hbytes H.size ?_
 intro v1 w1 hown hgr _ hat
 rw [hd]
 exact h v1 w1 _ rfl (H.grown i hi hown hgr hat) _ (ha.put hlt v1)
end
theorem lit_news (W : World) (vs : List Value) (e : TypeId) : ∀ j u, vs[j]? = some u → (W.alloc (.cells vs.toArray e)).cell? ((⟨W.heap.size, 0, none⟩ : Addr).add j) = some u := fun j u h => by
 rw [Addr.add_mid, blk_cell (cs := vs.toArray) (t := e) (by show (W.alloc _).heap[W.heap.size]? = _; unfold World.alloc; simp)]
 simpa using h
theorem splice_get : ∀ (vs : List Value) (cs : Array Value) (o i : Nat), o + vs.length ≤ cs.size → (splice cs o vs)[i]? = if o ≤ i ∧ i < o + vs.length then vs[i - o]? else cs[i]?
 | [], cs, o, i, h => by rw [if_neg (by simp)]; rfl
 | v :: r, cs, o, i, h => by
   simp only [List.length_cons] at h
   rw [splice, splice_get r _ (o + 1) i (by rw [Array.size_setIfInBounds]; omega), List.length_cons]
   by_cases h1 : i = o
   · subst h1
     rw [if_neg (by omega), if_pos (by omega), Nat.sub_self, Array.getElem?_setIfInBounds_self_of_lt (by omega)]; rfl
   · by_cases h2 : o + 1 ≤ i ∧ i < o + 1 + r.length
     · rw [if_pos h2, if_pos (by omega), show i - o = (i - (o + 1)) + 1 by omega, List.getElem?_cons_succ]
     · rw [if_neg h2, if_neg (by omega), Array.getElem?_setIfInBounds_ne (by omega)]
theorem splice_all {vs : List Value} {cs : Array Value} (h : vs.length = cs.size) : splice cs 0 vs = vs.toArray := by
 apply Array.ext_getElem?
 intro i
 rw [splice_get vs cs 0 i (by omega)]
 by_cases hi : i < vs.length
 · rw [if_pos (by omega)]; simp
 · rw [if_neg (by omega), Array.getElem?_eq_none (by omega), Array.getElem?_eq_none (by simp; omega)]
section
variable {α β : Type} {dd : Kd α} {ok0 ok : Nat → Prop} {w0 w w1 : World} {ms : List Mu} {fo fn fs : List Fact} {p : Fact} {e sz n c : Nat} {v v1 : Value} {inner news cs : List Value} {xs : List α} {x : α} {A : Option Addr}
theorem row_reads {B : Nat} {W : World} (ho : W.ownsRow B e dd.sz v xs.length inner) (hr : Reps (dd.K W) dd.sz xs inner) : ∃ A c, v = .slice A xs.length c ∧ xs.length ≤ c ∧ dd.C W A xs.length xs := by
 obtain ⟨A, c, h1, h2, h3⟩ := OwnRow.reads (R := dd.K W) (e := e) (size := dd.sz) (base := B) ⟨inner, ho, hr⟩
 exact ⟨A, c, h1, h2, h3⟩
theorem row_slice {B : Nat} {W : World} (ho : W.ownsRow B e sz v n inner) : ∃ A c, v = .slice A n c := by
 rcases ho.2 with ⟨rfl, rfl⟩ | ⟨g, cap, cur, rfl, _⟩
 · exact ⟨none, 0, rfl⟩
 · exact ⟨_, _, rfl⟩
theorem St.freezeN (h : St ok0 w0 w ms fo fn) (i : Nat) {m : Mu} (hi : ms[i]? = some m) (himp : ∀ W, m.P W → AllF W fn → p W) : St ok0 w0 w (ms.eraseIdx i) fo (p :: fn) := by
 obtain ⟨e1, _, e3⟩ := split_at hi
 have hm := AllM.get i hi h.m
 have hml : ∀ k, k ∈ m.blk → k ∈ bks ms := fun k hk => by rw [e1, bks_app, bks]; simp [hk]
 have hsub : ∀ k, k ∈ bks (ms.eraseIdx i) → k ∈ bks ms := fun k hk => by
   rw [e3, bks_app] at hk; rw [e1, bks_app, bks]
   rcases List.mem_append.1 hk with hk | hk
   · exact List.mem_append_left _ hk
   · exact List.mem_append_right _ (List.mem_append_right _ hk)
 have hmd : ∀ k, k ∈ m.blk → k ∉ bks (ms.eraseIdx i) := fun k hk h2 => by
   have hd := h.d
   rw [e1, bks_app, bks] at hd
   rw [e3, bks_app] at h2
   obtain ⟨d1, d2, d3⟩ := List.nodup_append.1 hd
   obtain ⟨d4, d5, d6⟩ := List.nodup_append.1 d2
   rcases List.mem_append.1 h2 with h2 | h2
   · exact d3 k h2 k (List.mem_append_left _ hk) rfl
   · exact d6 k hk k h2 rfl
 refine ⟨h.b, h.o.mono (fun k hk => okS_sub hsub hk), fun W hW => ?_, ?_, ?_, fun k hk => h.l k (hsub k hk)⟩
 · have hF := h.n W (fun k hk hl => hW k (okS_sub hsub hk) hl)
   refine ⟨himp W (hm W (fun k hk hl => hW k ⟨fun h2 => ?_, hmd k hk⟩ hl)) hF, hF⟩
   have := (h.l k (hml k hk)).1
   omega
 · have := h.m
   rw [e1] at this
   rw [e3]
   exact AllM.app.2 ⟨(AllM.app.1 this).1, (AllM.app.1 this).2.2⟩
 · have hd := h.d
   rw [e1, bks_app, bks] at hd
   rw [e3, bks_app]
   obtain ⟨d1, d2, d3⟩ := List.nodup_append.1 hd
   obtain ⟨d4, d5, d6⟩ := List.nodup_append.1 d2
   exact List.nodup_append.2 ⟨d1, d5, fun a ha b hb => d3 a ha b (List.mem_append_right _ hb)⟩
theorem St.freezeO (h : St ok0 w0 w ms fo fn) (i : Nat) {m : Mu} (hi : ms[i]? = some m) (himp : ∀ W, m.P W → AllF W fo → p W) : St ok0 w0 w (ms.eraseIdx i) (p :: fo) fn := by
 have h1 := h.freezeN i hi (p := m.P) (fun W hm _ => hm)
 have h2 := h1.deriveO (p := p) (fun W ho hn => himp W hn.1 ho)
 exact h2.pickN (fun W hW => hW.2)
theorem St.forget (h : St ok0 w0 w ms fo fn) (i : Nat) {m : Mu} (hi : ms[i]? = some m) : St ok0 w0 w (ms.eraseIdx i) fo fn := (h.freezeN i hi (p := m.P) (fun W hm _ => hm)).pickN (fun W hW => hW.2)
theorem foot_elem {W : World} (h : Foot (fun W => dd.C W A n xs) W ok) (hs : 0 < dd.sz) (z : α) (i : Int) (h0 : 0 ≤ i) (h1 : i < (n : Int)) :
   ∃ ad c, A = some ad ∧ c.length = dd.sz ∧ Foot (fun W => dd.K W (xs.getD i.toNat z) c ∧ ∀ j u, c[j]? = some u → W.cell? ((ad.add (i.toNat * dd.sz)).add j) = some u) W ok := by
 obtain ⟨ad, c, rfl, hl, hK, hc⟩ := Kd.C_get h.now z i h0 h1
 refine ⟨ad, c, rfl, hl, fun W' hW => ?_⟩
 obtain ⟨ad', c', e1, hl', hK', hc'⟩ := Kd.C_get (h W' hW) z i h0 h1
 injection e1 with e1
 subst e1
 have hblk : ok ad.block := by
   refine Classical.byContradiction fun hn => ?_
   obtain ⟨W2, e2, e3⟩ := Kd.emptied W ad.block
   obtain ⟨ad2, c2, e4, hl2, _, hc2⟩ := Kd.C_get (h W2 (fun k hk _ => e2 k (fun e5 => hn (e5 ▸ hk)))) z i h0 h1
   injection e4 with e4
   subst e4
   have hb : (ad.add (i.toNat * dd.sz + 0)).block = ad.block := by unfold Addr.add; split <;> rfl
   have := hc2 0 c2[0] (List.getElem?_eq_getElem (by omega))
   rw [e3 _ hb] at this
   cases this
 have hlt : ad.block < W.heap.size := by
   have hb : (ad.add (i.toNat * dd.sz + 0)).block = ad.block := by unfold Addr.add; split <;> rfl
   rw [← hb]
   exact World.block_lt_of_cell? W _ (hc 0 c[0] (List.getElem?_eq_getElem (by omega)))
 have hcell : ∀ k, W'.cell? (ad.add k) = W.cell? (ad.add k) := fun k => World.cell?_of_block (by
   have hb : (ad.add k).block = ad.block := by unfold Addr.add; split <;> rfl
   rw [hb]; exact hW _ hblk hlt)
 have hcc : c' = c := by
   apply List.ext_getElem
   · rw [hl, hl']
   · intro j h3 h4
     have t1 := hc' j _ (List.getElem?_eq_getElem h3)
     have t2 := hc j _ (List.getElem?_eq_getElem h4)
     rw [hcell, t2] at t1
     exact (Option.some.inj t1).symm
 subst hcc
 exact ⟨hK', fun j u hj => by rw [XLoad.add_add]; exact hc' j u hj⟩
theorem St.elemO (h : St ok0 w0 w ms fo fn) (i : Nat) (hi : fo[i]? = some (fun W => dd.C W A n xs)) (hs : 0 < dd.sz) (z : α) (j : Int) (h0 : 0 ≤ j) (h1 : j < (n : Int)) :
   ∃ ad c, A = some ad ∧ c.length = dd.sz ∧ St ok0 w0 w ms ((fun W => dd.K W (xs.getD j.toNat z) c ∧ ∀ i u, c[i]? = some u → W.cell? ((ad.add (j.toNat * dd.sz)).add i) = some u) :: fo) fn := by
 obtain ⟨ad, c, e1, e2, hf⟩ := foot_elem (h.footO i hi) hs z j h0 h1
 exact ⟨ad, c, e1, e2, h.addO hf⟩
theorem St.elemN (h : St ok0 w0 w ms fo fn) (i : Nat) (hi : fn[i]? = some (fun W => dd.C W A n xs)) (hs : 0 < dd.sz) (z : α) (j : Int) (h0 : 0 ≤ j) (h1 : j < (n : Int)) :
   ∃ ad c, A = some ad ∧ c.length = dd.sz ∧ St ok0 w0 w ms fo ((fun W => dd.K W (xs.getD j.toNat z) c ∧ ∀ i u, c[i]? = some u → W.cell? ((ad.add (j.toNat * dd.sz)).add i) = some u) :: fn) := by
 obtain ⟨ad, c, e1, e2, hf⟩ := foot_elem (h.footN i hi) hs z j h0 h1
 exact ⟨ad, c, e1, e2, h.addN hf⟩
theorem foot_K {W : World} (hd : Kd.Heap dd) (h : dd.K W x cs) : Foot (fun W => dd.K W x cs) W (fun _ => True) := fun W' hW => hd.K (fun k hk => hW k trivial hk) h
theorem foot_C {W : World} (hd : Kd.Heap dd) (h : dd.C W A n xs) : Foot (fun W => dd.C W A n xs) W (fun _ => True) := fun W' hW => hd.C (fun k hk => hW k trivial hk) h
theorem reps_snoc {W : World} {I : List Value} (hI : I = inner ++ cs) (h : Reps (dd.K W) dd.sz xs inner) (hk : dd.K W x cs) : Reps (dd.K W) dd.sz (xs ++ [x]) I := by rw [hI]; exact h.snoc hk (dd.K_len hk)
theorem row_C {B : Nat} {W : World} {n c : Nat} (hn : n = xs.length) (ho : W.ownsRow B e dd.sz (.slice A n c) n inner) (hr : Reps (dd.K W) dd.sz xs inner) : dd.C W A xs.length xs := by
 subst hn
 obtain ⟨A', c', e1, _, h⟩ := row_reads ho hr
 injection e1 with e1 e2 e3
 rw [e1]; exact h
theorem row_le {B : Nat} {W : World} {n c : Nat} (ho : W.ownsRow B e sz (.slice A n c) n inner) : n ≤ c := by
 rcases ho.2 with ⟨h, rfl⟩ | ⟨g, cap, cur, h, _, _, h2, _⟩
 · exact Nat.zero_le _
 · injection h with h1 h2 h3
   omega
theorem K_int {W : World} {k : IntKind} (x : Int) : (Kd.int k).K W x [.int k x] := rfl
theorem K_slice {W : World} {e : Nat} (hl : xs.length ≤ c) (h : dd.C W A xs.length xs) : (Kd.slice e dd).K W xs [.slice A xs.length c] := ⟨A, c, rfl, hl, h⟩
end
end Go.Proofs.YtoccifnjhbibcaaGreat.XSt
namespace Go.Proofs.YtoccifnjhbibcaaGreatW.PrintLast
open Go.Proofs.YtoccifnjhbibcaaGreatW.PrintWords (Aside0)
def needsOf (md : Region.Mode) (o : Oper) : List Nat := (o.after.toList.filter (fun e => Region.binds md e)).map (fun e => e.on)
def clashOf (md : Region.Mode) (ops : Array Oper) (i : Nat) (oi : Oper) : List Nat := (List.range ops.size).filter fun j => !(j == i) && match ops[j]? with
 | some oj => !(oj.after.any (fun e => Region.binds md e && e.on == i) || oi.apart ops oj)
 | none => false
def rtab (md : Region.Mode) (ops : Array Oper) : Bool × List (List Nat × List Nat) := (Region.noSelect ops, (List.range ops.size).map fun i => match ops[i]? with
 | some o => (needsOf md o, clashOf md ops i o)
 | none => ([], []))
def readyAt (T : List (List Nat × List Nat)) (l : List Bool) (i : Nat) : Bool := !l.getD i true && match T[i]? with
 | some r => r.1.all (fun j => l.getD j false)
 | none => false
def readyT (T : List (List Nat × List Nat)) (l : List Bool) : List Nat := (List.range T.length).filter (readyAt T l)
def freeT (T : List (List Nat × List Nat)) (l : List Bool) (i : Nat) : Bool := match T[i]? with
 | some r => r.2.all (fun j => l.getD j true)
 | none => false
def closedT (T : List (List Nat × List Nat)) (l : List Bool) : Bool := (List.range T.length).all fun j => !l.getD j false || match T[j]? with
 | some r => r.1.all (fun k => l.getD k false)
 | none => true
def reachT (T : List (List Nat × List Nat)) (i : Nat) : Nat → Nat → Bool
 | 0, _ => false
 | fuel + 1, d => match T[d]? with
   | some r => r.1.any fun j => j == i || reachT T i fuel j
   | none => false
def lastT (T : List (List Nat × List Nat)) (l : List Bool) (ds : List Nat) (i : Nat) : Bool := ds.all fun d => l.getD d true || reachT T i T.length d
section
variable {md : Region.Mode} {ops : Array Oper} {T : Bool × List (List Nat × List Nat)} {l l' li lj lk : Array Bool} {ds : List Nat} {i j k : Nat}
theorem gd (l : Array Bool) (j : Nat) (b : Bool) : l.getD j b = l.toList.getD j b := by simp [Array.getD_eq_getD_getElem?, List.getD_eq_getElem?_getD]
theorem needs_all (o : Oper) (p : Nat → Bool) : o.after.all (fun e => !Region.binds md e || p e.on) = (needsOf md o).all p := by
 unfold needsOf
 rw [← Array.all_toList]
 induction o.after.toList with
 | nil => rfl
 | cons e r ih =>
   rw [List.all_cons, ih, List.filter_cons]
   cases h : Region.binds md e <;> simp
theorem needs_any (o : Oper) (p : Nat → Bool) : o.after.any (fun e => Region.binds md e && p e.on) = (needsOf md o).any p := by
 unfold needsOf
 rw [← Array.any_toList]
 induction o.after.toList with
 | nil => rfl
 | cons e r ih =>
   rw [List.any_cons, ih, List.filter_cons]
   cases h : Region.binds md e <;> simp
theorem rtab_length : (rtab md ops).2.length = ops.size := by simp [rtab]
theorem rtab_some {o : Oper} (h : ops[i]? = some o) : (rtab md ops).2[i]? = some (needsOf md o, clashOf md ops i o) := by
 have hi := (Array.getElem?_eq_some_iff.1 h).1
 unfold rtab
 rw [List.getElem?_map, List.getElem?_range hi, Option.map_some, h]
theorem rtab_none (h : ops[i]? = none) : (rtab md ops).2[i]? = none := by
 have hi : ops.size ≤ i := Array.getElem?_eq_none_iff.1 h
 exact List.getElem?_eq_none (by rw [rtab_length]; exact hi)
theorem readyAt_eq : readyAt (rtab md ops).2 l.toList i = (!l.getD i true && ((ops[i]?).map (·.after.all fun e => !Region.binds md e || l.getD e.on false)).getD false) := by
 unfold readyAt
 rw [gd]
 cases h : ops[i]? with
 | none => rw [rtab_none h]; rfl
 | some o =>
   rw [rtab_some h]
   simp only [Option.map_some, Option.getD_some]
   rw [← needs_all]
   simp only [gd]
theorem ready_eq : Region.ready md ops l = readyT (rtab md ops).2 l.toList := by
 unfold Region.ready readyT
 rw [rtab_length]
 refine List.filter_congr (fun i _ => ?_)
 rw [readyAt_eq]
theorem free_eq : Region.free md ops l i = freeT (rtab md ops).2 l.toList i := by
 unfold Region.free freeT
 cases h : ops[i]? with
 | none => rw [rtab_none h]
 | some oi =>
   rw [rtab_some h]
   simp only [clashOf]
   rw [List.all_filter]
   congr 1
   funext j
   rw [gd]
   cases hj : ops[j]? with
   | none => cases (j == i) <;> cases (l.toList.getD j true) <;> simp
   | some oj =>
     cases (j == i) <;> cases (l.toList.getD j true) <;> cases (oj.after.any (fun e => Region.binds md e && e.on == i) || oi.apart ops oj) <;> simp_all
theorem closed_eq : Region.closedB md ops l = closedT (rtab md ops).2 l.toList := by
 unfold Region.closedB closedT
 rw [rtab_length]
 congr 1
 funext j
 rw [gd]
 cases h : ops[j]? with
 | none => rw [rtab_none h]
 | some o =>
   rw [rtab_some h]
   simp only
   rw [← needs_all]
   simp only [gd]
theorem reach_eq : ∀ (fuel d : Nat), Region.reachB md ops i fuel d = reachT (rtab md ops).2 i fuel d
 | 0, _ => rfl
 | fuel + 1, d => by
   unfold Region.reachB reachT
   cases h : ops[d]? with
   | none => rw [rtab_none h]
   | some o =>
     rw [rtab_some h]
     simp only
     rw [← needs_any]
     congr 1
     funext e
     rw [reach_eq fuel]
theorem last_eq : Region.lastB md ops l ds i = lastT (rtab md ops).2 l.toList ds i := by
 unfold Region.lastB lastT
 rw [rtab_length]
 congr 1
 funext d
 rw [gd, reach_eq]
theorem readyAt_mem (h : readyAt T.2 l.toList i = true) (hT : rtab md ops = T) : (Region.ready md ops l).contains i = true := by
 subst hT
 rw [ready_eq]
 unfold readyT
 rw [List.contains_iff_mem, List.mem_filter, List.mem_range]
 refine ⟨?_, h⟩
 unfold readyAt at h
 rw [Bool.and_eq_true] at h
 cases hq : (rtab md ops).2[i]? with
 | none => rw [hq] at h; simp at h
 | some r => exact (List.getElem?_eq_some_iff.1 hq).1
theorem set_of (h : (l.toList.set i true == l'.toList) = true) : (l.setIfInBounds i true == l') = true := by
 rw [beq_iff_eq] at h ⊢
 apply Array.ext'
 rw [Array.toList_setIfInBounds]
 exact h
def anyT (T : Bool × List (List Nat × List Nat)) (l l' : List Bool) (i : Nat) : Bool := T.1 && freeT T.2 l i && readyAt T.2 l i && (l.set i true == l')
theorem any_of (hT : rtab md ops = T) (h : anyT T l.toList l'.toList i = true) : anyB md ops l l' i = true := by
 simp only [anyT, Bool.and_eq_true] at h
 obtain ⟨⟨⟨h1, h2⟩, h3⟩, h4⟩ := h
 have h5 := readyAt_mem h3 hT
 have h6 := set_of h4
 subst hT
 simp only [anyB, Bool.and_eq_true]
 exact ⟨⟨⟨h1, by rw [free_eq]; exact h2⟩, h5⟩, h6⟩
def takeT (T : Bool × List (List Nat × List Nat)) (ds : List Nat) (l l' : List Bool) (i : Nat) : Bool := T.1 && freeT T.2 l i && readyAt T.2 l i && closedT T.2 l && lastT T.2 l ds i && (l.set i true == l')
theorem take_of (hT : rtab md ops = T) (h : takeT T ds l.toList l'.toList i = true) : takeB md ops ds l l' i = true := by
 simp only [takeT, Bool.and_eq_true] at h
 obtain ⟨⟨⟨⟨⟨h1, h2⟩, h3⟩, h4⟩, h5⟩, h6⟩ := h
 have h7 := readyAt_mem h3 hT
 have h8 := set_of h6
 subst hT
 simp only [takeB, Bool.and_eq_true]
 exact ⟨⟨⟨⟨⟨h1, by rw [free_eq]; exact h2⟩, h7⟩, by rw [closed_eq]; exact h4⟩, by rw [last_eq]; exact h5⟩, h8⟩
theorem one_of (hT : rtab md ops = T) (h : (readyT T.2 l.toList == [i] && l.toList.set i true == l'.toList) = true) : readyB md ops l l' i = true := by
 simp only [Bool.and_eq_true] at h
 obtain ⟨h1, h2⟩ := h
 subst hT
 simp only [readyB, Bool.and_eq_true]
 exact ⟨by rw [ready_eq]; exact h1, set_of h2⟩
end
end Go.Proofs.YtoccifnjhbibcaaGreatW.PrintLast
namespace Go.Proofs.YtoccifnjhbibcaaGreat.XDraw
open Go.RowKit Go.Proofs.YtoccifnjhbibcaaGreatW.PrintWords Go.Proofs.YtoccifnjhbibcaaGreatW.PrintLast Go.Proofs.YtoccifnjhbibcaaGreatW.PrintMore Go.Proofs.YtoccifnjhbibcaaGreat.XW Go.Proofs.YtoccifnjhbibcaaGreat.XOp Go.Proofs.YtoccifnjhbibcaaGreat.XSt
set_option linter.unusedVariables false
def WD (P : Program) (ops : Array Oper) (Q : Exit → Act → World → Prop) (S : World → Prop) (ds : List Nat) (fuel : Nat) (l : Array Bool) (n : Nat) (E : Env) (w : World) : Prop := ∀ a, Fits a n E → wpAnyLast P .any ops Q S ds fuel l a w
section
variable {P : Program} {Q : Exit → Act → World → Prop} {n m fuel d : Nat} {E E' : Env} {w w1 : World} {S : World → Prop} {ops : Array Oper} {oi : Oper} {ds : List Nat} {v : Value} {l : Array Bool}
theorem WC.draw {id : Nat} (l : Array Bool) (ds : List Nat) (hm : P.follows .mixedOrders = true) (hn : ops.size = m) (hl : Array.replicate m false = l) (h : WD P ops Q (fun w' => Below w.drew.heap.size w.drew w') ds m l n E w.drew) : WC P (.region id ops true) Q n E w := fun a ha =>
 start_ l hm hn hl (Below.refl _ _) (fun _ => h a ha)
theorem WC.drawS {ok0 : Nat → Prop} {w0 : World} {ms : List Mu} {fo fn : List Fact} {id : Nat} (H : St ok0 w0 w ms fo fn) (ds : List Nat) (hm : P.follows .mixedOrders = true) (hn : ops.size = m) (h : ∀ w1, St ok0 w0 w1 ms fo fn → WD P ops Q (fun w' => Below w1.heap.size w1 w') ds m (Array.replicate m false) n E w1) : WC P (.region id ops true) Q n E w :=
 WC.draw _ ds hm hn rfl (h _ H.drew)
theorem WD.pure (i : Nat) (hi : ops[i]? = some oi) (hd : oi.dst = some d) (hlt : d < n) (hc : anyB .any ops l (l.setIfInBounds i true) i = true) (hQ : ∀ v c a w, Q (.panic c) (a.put oi.dst v) w → Q (.panic c) a w) (hg : oi.guard = none) (hr : ∀ w', Run P E oi w' v w')
   (h : WD P ops Q S ds fuel (l.setIfInBounds i true) n ((d, v) :: E) w) : WD P ops Q S ds (fuel + 1) l n E w := fun a ha =>
 pure_ (a' := a.put (some d) v) _ hi hd hc (hQ v) (.inl ⟨by simp [Region.wanted, hg], fun w' => hr w' _ (ag ha)⟩) rfl (h _ (ha.put hlt v))
theorem WD.pureG {j t : Nat} {b c : Bool} (i : Nat) (hi : ops[i]? = some oi) (hd : oi.dst = some d) (hlt : d < n) (hc : anyB .any ops l (l.setIfInBounds i true) i = true) (hQ : ∀ v c a w, Q (.panic c) (a.put oi.dst v) w → Q (.panic c) a w) (hg : oi.guard = some (j, b)) (hj : (ops[j]?).bind (·.dst) = some t) (hv : lk E t = some (.bool c)) (hcb : c = b) (hr : ∀ w', Run P E oi w' v w')
   (h : WD P ops Q S ds fuel (l.setIfInBounds i true) n ((d, v) :: E) w) : WD P ops Q S ds (fuel + 1) l n E w := fun a ha =>
 pure_ (a' := a.put (some d) v) _ hi hd hc (hQ v) (.inl ⟨wanted_on ha hg hj hv hcb, fun w' => hr w' _ (ag ha)⟩) rfl (h _ (ha.put hlt v))
theorem WD.off {j t : Nat} {b c c' : Bool} (i : Nat) (hi : ops[i]? = some oi) (hd : oi.dst = some d) (hlt : d < n) (hc : anyB .any ops l (l.setIfInBounds i true) i = true) (hQ : ∀ v c a w, Q (.panic c) (a.put oi.dst v) w → Q (.panic c) a w) (hg : oi.guard = some (j, b)) (hj : (ops[j]?).bind (·.dst) = some t) (hv : lk E t = some (.bool c)) (hcc : c = c') (hcb : (c' == b) = false)
   (h : WD P ops Q S ds fuel (l.setIfInBounds i true) n ((d, undef) :: E) w) : WD P ops Q S ds (fuel + 1) l n E w := fun a ha =>
 pure_ (a' := a.put (some d) undef) _ hi hd hc (hQ undef) (.inr ⟨wanted_off ha hg hj hv hcc hcb, rfl⟩) rfl (h _ (ha.put hlt undef))
theorem WD.offU {j t : Nat} {b : Bool} (i : Nat) (hi : ops[i]? = some oi) (hd : oi.dst = some d) (hlt : d < n) (hc : anyB .any ops l (l.setIfInBounds i true) i = true) (hQ : ∀ v c a w, Q (.panic c) (a.put oi.dst v) w → Q (.panic c) a w) (hg : oi.guard = some (j, b)) (hj : (ops[j]?).bind (·.dst) = some t) (hv : lk E t = some undef)
   (h : WD P ops Q S ds fuel (l.setIfInBounds i true) n ((d, undef) :: E) w) : WD P ops Q S ds (fuel + 1) l n E w := fun a ha =>
 pure_ (a' := a.put (some d) undef) _ hi hd hc (hQ undef) (.inr ⟨wanted_offU ha hg hj hv, rfl⟩) rfl (h _ (ha.put hlt undef))
theorem WD.take (i : Nat) (hi : ops[i]? = some oi) (hd : oi.dst = some d) (hlt : d < n) (hc : takeB .any ops ds l (l.setIfInBounds i true) i = true) (hQ : ∀ v c a w, Q (.panic c) (a.put oi.dst v) w → Q (.panic c) a w) (hg : oi.guard = none) (hW : S w) (hr : ∀ w', S w' → Run P E oi w' v w')
   (h : WD P ops Q S ds fuel (l.setIfInBounds i true) n ((d, v) :: E) w) : WD P ops Q S ds (fuel + 1) l n E w := fun a ha =>
 take_ (a' := a.put (some d) v) _ hi hd hc (hQ v) (.inl ⟨by simp [Region.wanted, hg], fun w' hw' => hr w' hw' _ (ag ha)⟩) hW rfl (h _ (ha.put hlt v))
theorem WD.takeG {j t : Nat} {b c : Bool} (i : Nat) (hi : ops[i]? = some oi) (hd : oi.dst = some d) (hlt : d < n) (hc : takeB .any ops ds l (l.setIfInBounds i true) i = true) (hQ : ∀ v c a w, Q (.panic c) (a.put oi.dst v) w → Q (.panic c) a w) (hg : oi.guard = some (j, b)) (hj : (ops[j]?).bind (·.dst) = some t) (hv : lk E t = some (.bool c)) (hcb : c = b) (hW : S w) (hr : ∀ w', S w' → Run P E oi w' v w')
   (h : WD P ops Q S ds fuel (l.setIfInBounds i true) n ((d, v) :: E) w) : WD P ops Q S ds (fuel + 1) l n E w := fun a ha =>
 take_ (a' := a.put (some d) v) _ hi hd hc (hQ v) (.inl ⟨wanted_on ha hg hj hv hcb, fun w' hw' => hr w' hw' _ (ag ha)⟩) hW rfl (h _ (ha.put hlt v))
theorem WD.one (i : Nat) (hi : ops[i]? = some oi) (hd : oi.dst = some d) (hc : readyB .any ops l (l.setIfInBounds i true) i = true) (hds : i ∉ ds)
   (h : ∀ K : Act → World → Prop, (∀ E' w', S w' → WD P ops Q S ds fuel (l.setIfInBounds i true) n E' w' → ∀ a, Fits a n E' → K a w') → ∀ a, Fits a n E → if Region.wanted oi (yielded ops a.tmps) = true then Oper.wp P oi a w K Q else K (a.put (some d) undef) w) : WD P ops Q S ds (fuel + 1) l n E w := fun a ha =>
 one_ _ hi hd hc hds (fun K hK => h K (fun E' w' hw' hD a' ha' => hK.out a' w' hw' (fun _ => hD a' ha')) a ha)
theorem WD.done (hr : (Region.ready .any ops l == []) = true) (h : WQ Q .normal n E w) : WD P ops Q S ds m l n E w := fun a ha => done_ hr (h a ha)
theorem WD.call {f : FuncId} {fn : Func} {as : Array Operand} {ts : Array TypeId} {args : List Value} {R : Ending → World → Prop} (i : Nat) (hi : ops[i]? = some oi) (hd : oi.dst = some d) (hlt : d < n) (hc : readyB .any ops l (l.setIfInBounds i true) i = true) (hds : i ∉ ds)
   (hw : ∀ a, Fits a n E → Region.wanted oi (yielded ops a.tmps) = true) (hop : oi.op = .call { callee := .value (.func f), args := as, argTypes := ts })
   (hf : P.funcs[f]? = some fn) (hname : (fn.name == "runtime.NumGoroutine") = false) (hb : fn.body.isSome = true) (hcall : Calls P f args.toArray w R) (hargs : as.toList.map (ev E) = args.map some)
   (h : ∀ e w1, R e w1 → S w1 ∧ ∃ v, e = .returned v ∧ WD P ops Q S ds fuel (l.setIfInBounds i true) n ((d, v) :: E) w1) : WD P ops Q S ds (fuel + 1) l n E w := by
 refine WD.one i hi hd hc hds (fun K hK a ha => ?_)
 have hae : as.map a.eval = args.toArray := by
   rw [← Array.toList_inj, Array.toList_map]
   have : ∀ (l : List Operand) (vs : List Value), l.map (ev E) = vs.map some → l.map a.eval = vs := fun l => by
     induction l with
     | nil => intro vs h; cases vs with | nil => rfl | cons _ _ => cases h
     | cons x l ih =>
       intro vs h
       cases vs with
       | nil => cases h
       | cons v vs =>
         rw [List.map_cons, List.map_cons, List.cons.injEq] at h
         rw [List.map_cons, ha.ev x v h.1, ih vs h.2]
   exact this _ _ hargs
 refine goes_ hf hname hb args.toArray (hw a ha) hd hop hae (hcall.mono fun e w' hh => ?_)
 obtain ⟨h1, v, rfl, hk⟩ := h e w' hh
 exact ⟨v, rfl, hK _ _ h1 hk _ (ha.put hlt v)⟩
theorem w_none (hg : oi.guard = none) : ∀ a : Act, Fits a n E → Region.wanted oi (yielded ops a.tmps) = true := fun a _ => by simp [Region.wanted, hg]
theorem w_on {j t : Nat} {b c : Bool} (hg : oi.guard = some (j, b)) (hj : (ops[j]?).bind (·.dst) = some t) (hv : lk E t = some (.bool c)) (hcb : c = b) : ∀ a : Act, Fits a n E → Region.wanted oi (yielded ops a.tmps) = true := fun a ha => wanted_on ha hg hj hv hcb
end
end Go.Proofs.YtoccifnjhbibcaaGreat.XDraw
namespace Go.Proofs.YtoccifnjhbibcaaGreat.XSt
open Go.RowKit Go.Proofs.YtoccifnjhbibcaaGreatW.PrintWords Go.Proofs.YtoccifnjhbibcaaGreatW.PrintLast Go.Proofs.YtoccifnjhbibcaaGreatW.PrintMore Go.Proofs.YtoccifnjhbibcaaGreat.XW Go.Proofs.YtoccifnjhbibcaaGreat.XOp
set_option linter.unusedVariables false
theorem if_some {α : Type} {p : Prop} [Decidable p] {x : Option α} {r : α} (h : (if p then x else none) = some r) : p ∧ x = some r := by
 by_cases c : p
 · rw [if_pos c] at h; exact ⟨c, h⟩
 · rw [if_neg c] at h; cases h
theorem bind_some {α β : Type} {x : Option α} {f : α → Option β} {r : β} (h : x.bind f = some r) : ∃ a, x = some a ∧ f a = some r := Option.bind_eq_some_iff.1 h
section
variable {P : Program} {Q : Exit → Act → World → Prop} {n : Nat} {E : Env} {w W : World} {c : Code}
theorem WQ.via {Q' : Exit → Act → World → Prop} {e : Exit} {K : Act → World → Prop} (hq : ∀ a w, K a w → Q' e a w) (hK : ∀ E w', WC P c Q n E w' → ∀ a, Fits a n E → K a w') (h : WC P c Q n E w) : WQ Q' e n E w := fun a ha => hq a w (hK E w h a ha)
theorem WQ.via2 {Q' : Exit → Act → World → Prop} {e : Exit} {K : Act → World → Prop} {J : Env → World → Prop} {E' : Env} (hq : ∀ a w, K a w → Q' e a w) (hX : ∀ E w', J E w' → ∀ a, Fits a n E → K a w') (hJ : J E' w) (hE : Sub E' E) : WQ Q' e n E w := fun a ha => hq a w (hX E' w hJ a (ha.sub hE))
theorem WQ.fin {Q' : Exit → Act → World → Prop} {e e' : Exit} {fn : Func} {R : Ending → World → Prop} (hq : ∀ a w, bodyPost P fn R e' a w → Q' e a w) (h : WQ (bodyPost P fn R) e' n E w) : WQ Q' e n E w := fun a ha => hq a w (h a ha)
end
section
variable {P : Program} {Q : Exit → Act → World → Prop} {N : Nat} {E : Env} {ops : Array Oper} {o : Oper} {rest : List Oper} {d : Nat} {ok0 : Nat → Prop} {w0 w : World} {ms : List Mu} {fo fn : List Fact} {e sz n : Nat} {v u : Value} {inner : List Value} {t ty : TypeId} {x y : Operand} {cs cs' : Array Value}
theorem WL.box (H : St ok0 w0 w ms fo fn) (hg : o.guard = none) (hd : o.dst = some d) (hlt : d < N) (ho : o.op = .box t x) (hx : ev E x = some v) (hv : v.cells = cs)
   (h : ∀ b w1, w0.heap.size ≤ b → St ok0 w0 w1 (boxM b cs t :: ms) fo fn → WL P ops Q rest N ((d, .pointer (some ⟨b, 0, none⟩)) :: E) w1) : WL P ops Q (o :: rest) N E w :=
 WL.val hg hd hlt (Run.box ho hx hv) (h _ _ H.size (H.box cs t))
theorem WL.alloc (H : St ok0 w0 w ms fo fn) (hg : o.guard = none) (hd : o.dst = some d) (hlt : d < N) (ho : o.op = .alloc t) (hi : (P.info? t).map (fun i => i.zero) = some (some v)) (hv : v.cells = cs)
   (h : ∀ b w1, w0.heap.size ≤ b → St ok0 w0 w1 (boxM b cs t :: ms) fo fn → WL P ops Q rest N ((d, .pointer (some ⟨b, 0, none⟩)) :: E) w1) : WL P ops Q (o :: rest) N E w := by
 obtain ⟨i0, hi0, hz⟩ := Option.map_eq_some_iff.1 hi
 subst hv
 exact WL.val hg hd hlt (Run.alloc ho hi0 hz) (h _ _ H.size (H.box v.cells t))
theorem WL.store (H : St ok0 w0 w ms fo fn) (i : Nat) {b j : Nat} (hi : ms[i]? = some (boxM b cs ty)) (hg : o.guard = none) (hd : o.dst = none) (ho : o.op = .store t x y) (hx : ev E x = some (.pointer (some ⟨b, j, none⟩))) (hy : ev E y = some v) (hv : v.oneCell' = true) (hz : (P.info? t).map (·.size) = some 1) (hj : j < cs.size) (e : cs.setIfInBounds j v = cs')
   (h : ∀ w1, St ok0 w0 w1 (ms.set i (boxM b cs' ty)) fo fn → WL P ops Q rest N E w1) : WL P ops Q (o :: rest) N E w :=
 WL.skip hg hd (RunU.store ho hx hy hv hz (H.mu i hi) hj) (h _ (H.store i hi j v e))
theorem WL.storeS (H : St ok0 w0 w ms fo fn) (i : Nat) {b j : Nat} {vs : List Value} (hi : ms[i]? = some (boxM b cs ty)) (hg : o.guard = none) (hd : o.dst = none) (ho : o.op = .store t x y) (hx : ev E x = some (.pointer (some ⟨b, j, none⟩))) (hy : ev E y = some (.agg vs.toArray)) (hv : ∀ u ∈ vs, u.oneCell' = true) (hz : (P.info? t).map (·.size) = some vs.length) (hj : j + vs.length ≤ cs.size) (e : splice cs j vs = cs')
   (h : ∀ w1, St ok0 w0 w1 (ms.set i (boxM b cs' ty)) fo fn → WL P ops Q rest N E w1) : WL P ops Q (o :: rest) N E w :=
 WL.skip hg hd (RunU.storeS ho hx hy hv hz (H.mu i hi) hj) (h _ (St.storeS vs j H i hi e))
theorem Run.lit0 (ho : o.op = .buildSlice t 0 #[]) (ht : P.underlying t = some (.slice e)) {sz : Nat} (hz : (P.info? e).map (·.size) = some sz) : Run P E o w (.slice (some ⟨w.heap.size, 0, none⟩) 0 0) (w.alloc (.cells #[] e)) := fun ρ hρ => by
 obtain ⟨i0, hi, hs⟩ := Option.map_eq_some_iff.1 hz
 unfold execOp
 simp [ho, Instr.buildSlice, run_underlying ht, sizeOf, typeInfo, hi, Instr.fill, newRow]
 rw [show (Array.range 0) = #[] from by simp [Array.range], Array.map_empty]
theorem WL.lit0 (H : St ok0 w0 w ms fo fn) (hg : o.guard = none) (hd : o.dst = some d) (hlt : d < N) (ho : o.op = .buildSlice t 0 #[]) (ht : P.underlying t = some (.slice e)) {sz : Nat} (hz : (P.info? e).map (·.size) = some sz)
   (h : ∀ v w1, St ok0 w0 w1 (rowM w0.heap.size e sz v 0 [] :: ms) fo fn → WL P ops Q rest N ((d, v) :: E) w1) : WL P ops Q (o :: rest) N E w :=
 WL.val hg hd hlt (Run.lit0 ho ht hz) (h _ _ (H.rowNew (below_alloc (Below.refl _ _) _) (by
   have := World.ownsRow_lit (base := w.heap.size) (e := e) (size := sz) w #[] 0 (Nat.le_refl _) (by decide) (by simp)
   simpa using this)))
end
theorem fold_size (off : Nat) : ∀ (l : List Value) (k : Nat) (cs : Array Value), ((l.zipIdx k).foldl (fun cs (p : Value × Nat) => cs.setIfInBounds (off + p.2) p.1) cs).size = cs.size
 | [], k, cs => rfl
 | a :: l, k, cs => by rw [List.zipIdx_cons, List.foldl_cons, fold_size off l]; simp
theorem fold_get (off : Nat) : ∀ (l : List Value) (k : Nat) (cs : Array Value) (i : Nat), i < cs.size → ((l.zipIdx k).foldl (fun cs (p : Value × Nat) => cs.setIfInBounds (off + p.2) p.1) cs)[i]? = if off + k ≤ i ∧ i < off + k + l.length then l[i - (off + k)]? else cs[i]?
 | [], k, cs, i, hi => by rw [if_neg (by simp)]; rfl
 | a :: l, k, cs, i, hi => by
   rw [List.zipIdx_cons, List.foldl_cons, fold_get off l (k + 1) _ i (by simpa using hi), List.length_cons]
   by_cases h1 : i = off + k
   · subst h1
     rw [if_neg (by omega), if_pos (by omega), Nat.sub_self]
     show (cs.setIfInBounds (off + k) a)[off + k]? = some a
     rw [Array.getElem?_setIfInBounds_self_of_lt hi]
   · by_cases h2 : off + (k + 1) ≤ i ∧ i < off + (k + 1) + l.length
     · rw [if_pos h2, if_pos (by omega), show i - (off + k) = (i - (off + (k + 1))) + 1 by omega, List.getElem?_cons_succ]
     · rw [if_neg h2, if_neg (by omega)]
       show (cs.setIfInBounds (off + k) a)[i]? = cs[i]?
       rw [Array.getElem?_setIfInBounds_ne (by omega)]
theorem fold_all (vs cs : Array Value) (h : cs.size = vs.size) : vs.zipIdx.foldl (fun cs (p : Value × Nat) => cs.setIfInBounds (0 + p.2) p.1) cs = vs := by
 have e : vs.zipIdx.foldl (fun cs (p : Value × Nat) => cs.setIfInBounds (0 + p.2) p.1) cs = (vs.toList.zipIdx 0).foldl (fun cs (p : Value × Nat) => cs.setIfInBounds (0 + p.2) p.1) cs := by
   rw [← Array.foldl_toList, Array.toList_zipIdx]
 rw [e]
 apply Array.ext_getElem?
 intro i
 by_cases hi : i < cs.size
 · rw [fold_get 0 vs.toList 0 cs i hi, if_pos (by simp; omega)]
   simp
 · rw [Array.getElem?_eq_none (by rw [fold_size]; omega), Array.getElem?_eq_none (by omega)]
theorem fill_1 {place : Nat → Option (Nat × Nat)} {sz : Nat} {v : Value} {cs : Array Value} (hp : place 0 = some (0, sz)) (h1 : v.cells.size = sz) (h2 : cs.size = sz) : Instr.fill place cs [(0, v)] = some v.cells := by
 have hf := fold_all v.cells cs (by rw [h1, h2])
 unfold Instr.fill
 rw [hp]
 simp only [h1, h2, Nat.zero_add, Nat.lt_irrefl, ne_eq, not_true_eq_false, decide_false, Bool.or_self, Bool.false_eq_true, if_false, gt_iff_lt]
 unfold Instr.fill
 simp only [Nat.zero_add] at hf
 rw [hf]
theorem run_lit1 {e : TypeId} {vs : List Value} {v z : Value} {P : Program} {w : World} {t : TypeId} (hv : v.cells = vs.toArray) (ht : P.underlying t = some (.slice e)) (hi : (P.info? e).map (fun i => (i.zero, i.size)) = some (some z, vs.length)) (h0 : 0 < vs.length) (hm : vs.length ≤ 16777216) : (Instr.buildSlice t 1 #[(0, v)]).run P w = .ok (.slice (some ⟨w.heap.size, 0, none⟩) 1 1) (w.alloc (.cells vs.toArray e)) := by
 obtain ⟨i0, hi0, hs⟩ := Option.map_eq_some_iff.1 hi
 simp only [Prod.mk.injEq] at hs
 obtain ⟨hs1, hs2⟩ := hs
 have hf : ∀ cs : Array Value, cs.size = vs.length → Instr.fill (fun i => some (i * vs.length, vs.length)) cs [(0, v)] = some vs.toArray := fun cs hc => by
   rw [fill_1 (sz := vs.length) (by simp) (by rw [hv]; simp) hc, hv]
 have hne : ¬ vs.length = 0 := by omega
 unfold Instr.buildSlice
 simp only [Sem.run_bind, run_underlying ht, Result.andThen_ok, sizeOf, typeInfo, run_program, hi0, Sem.run_pure, hs2, Nat.one_mul, Sem.run_ite, if_neg hne, Nat.not_lt.2 (show vs.length ≤ 2 ^ 24 from hm), if_neg (Nat.not_lt.2 (show vs.length ≤ 2 ^ 24 from hm)), gt_iff_lt, zeroValue, hs1]
 rw [hf _ (by simp)]
 simp [newRow]
theorem Run.lit1 {P : Program} {E : Env} {o : Oper} {w : World} {t e : TypeId} {x : Operand} {vs : List Value} {v z : Value} (ho : o.op = .buildSlice t 1 #[(0, x)]) (hx : ev E x = some v) (hv : v.cells = vs.toArray) (ht : P.underlying t = some (.slice e)) (hi : (P.info? e).map (fun i => (i.zero, i.size)) = some (some z, vs.length)) (h0 : 0 < vs.length) (hm : vs.length ≤ 16777216) : Run P E o w (.slice (some ⟨w.heap.size, 0, none⟩) 1 1) (w.alloc (.cells vs.toArray e)) := fun ρ hρ => by
 unfold execOp
 simp [ho, hρ _ _ hx, run_lit1 hv ht hi h0 hm]
def AtK {α : Type} (d : Kd α) (w : World) (x : α) (cs : List Value) (o : Nat) : Prop := ∃ p, d.K w x p ∧ ∀ i u, p[i]? = some u → cs[o + i]? = some u
section
variable {α β : Type} {d : Kd α} {a : Kd α} {b : Kd β} {w : World} {cs : List Value} {o o' e : Nat} {k : IntKind}
theorem AtK.whole {x : α} (h : d.K w x cs) : AtK d w x cs 0 := ⟨cs, h, fun i u hu => by rw [Nat.zero_add]; exact hu⟩
theorem AtK.iso {f : β → α} {x : β} (h : AtK (Kd.iso d f) w x cs o) : AtK d w (f x) cs o := h
theorem AtK.fst {x : α × β} (h : AtK (Kd.pair a b) w x cs o) : AtK a w x.1 cs o := by
 obtain ⟨p, ⟨c0, c1, rfl, h0, h1⟩, hp⟩ := h
 exact ⟨c0, h0, fun i u hu => hp i u (by rw [List.getElem?_append_left (List.getElem?_eq_some_iff.1 hu).1]; exact hu)⟩
theorem AtK.snd {x : α × β} (h : AtK (Kd.pair a b) w x cs o) (e : o + a.sz = o') : AtK b w x.2 cs o' := by
 obtain ⟨p, ⟨c0, c1, rfl, h0, h1⟩, hp⟩ := h
 refine ⟨c1, h1, fun i u hu => ?_⟩
 have hl := a.K_len h0
 have := hp (c0.length + i) u (by rw [List.getElem?_append_right (by omega), Nat.add_sub_cancel_left]; exact hu)
 rw [← this]; congr 1; omega
theorem AtK.int {x : Int} (h : AtK (Kd.int k) w x cs o) : cs[o]? = some (.int k x) := by
 obtain ⟨p, hp, hc⟩ := h
 have e : p = [.int k x] := hp
 subst e
 exact hc 0 _ rfl
theorem AtK.slice {xs : List α} (h : AtK (Kd.slice e d) w xs cs o) : ∃ A c, cs[o]? = some (.slice A xs.length c) ∧ xs.length ≤ c := by
 obtain ⟨p, ⟨A, c, rfl, hl, hC⟩, hc⟩ := h
 exact ⟨A, c, hc 0 _ rfl, hl⟩
theorem AtK.C {xs : List α} {A : Option Addr} {n c : Nat} (h : AtK (Kd.slice e d) w xs cs o) (hc : cs[o]? = some (.slice A n c)) : d.C w A xs.length xs := by
 obtain ⟨p, ⟨A', c', rfl, hl, hC⟩, hp⟩ := h
 have := (hp 0 _ rfl).symm.trans hc
 injection this with this
 injection this with h1 h2 h3
 rw [← h1]; exact hC
end
theorem box_cell {w : World} {b o : Nat} {t : TypeId} {cs : List Value} {v : Value} (hb : w.heap[b]? = some (.cells cs.toArray t (0, 0))) (hc : cs[o]? = some v) : w.cell? ⟨b, o, none⟩ = some v := by rw [blk_cell hb]; simpa using hc
def Part (p cs : List Value) (o : Nat) : Prop := ∀ i u, p[i]? = some u → cs[o + i]? = some u
theorem part_nil {cs : List Value} {o : Nat} : Part [] cs o := fun i u h => by simp at h
theorem part_cons {cs p : List Value} {o : Nat} {v : Value} (h : cs[o]? = some v) (hp : Part p cs (o + 1)) : Part (v :: p) cs o := fun i u hu => by
 cases i with
 | zero => rw [Nat.add_zero, h]; simpa using hu
 | succ i => have := hp i u (by simpa using hu); rw [← this]; congr 1; omega
theorem part_all {cs : List Value} : Part cs cs 0 := fun i u h => by rw [Nat.zero_add]; exact h
theorem box_part {w : World} {b o : Nat} {t : TypeId} {cs p : List Value} (hb : w.heap[b]? = some (.cells cs.toArray t (0, 0))) (hp : Part p cs o) : ∀ j v, p[j]? = some v → w.cell? ((⟨b, o, none⟩ : Addr).add j) = some v := fun j v hj => by
 rw [Addr.add_mid]; exact box_cell hb (hp j v hj)
theorem resv_box {P : Program} {w : World} {b : Nat} {t t0 : TypeId} {cs : List Value} {d : TypeDesc} (hb : w.heap[b]? = some (.cells cs.toArray t0 (0, 0))) (hu : P.underlying t = some d) (hd : d.isRow = true) (hi : (P.info? t).map (·.size) = some cs.length) : (loadVar t ⟨b, 0, none⟩).run P w = .ok (.agg cs.toArray) w :=
 run_loadVar_mid w b 0 t cs d (fun j v hj => by rw [Nat.zero_add]; exact box_cell hb hj) hu hd hi
theorem cells_part {w : World} {ad : Addr} {cs p : List Value} (h : ∀ i u, cs[i]? = some u → w.cell? (ad.add i) = some u) (hp : Part p cs 0) : ∀ i u, p[i]? = some u → w.cell? (ad.add i) = some u := fun i u hu => by
 have := h (0 + i) u (hp i u hu)
 rw [Nat.zero_add] at this
 exact this
theorem foot_fresh {p : Fact} {w : World} {B : Nat} {bs : List Nat} (h : Foot p w (okS (fun _ => False) B bs)) : Foot p w (fun k => B ≤ k) := h.mono (fun k hk => Nat.le_of_not_lt (fun hl => hk.1 hl))
theorem foot_cons {p : Fact} {fs : List Fact} {w : World} {ok : Nat → Prop} (h1 : Foot p w ok) (h2 : Foot (fun W => AllF W fs) w ok) : Foot (fun W => AllF W (p :: fs)) w ok := fun W hW => ⟨h1 W hW, h2 W hW⟩
theorem foot_nil {w : World} {ok : Nat → Prop} : Foot (fun W => AllF W []) w ok := fun _ _ => trivial
theorem open_G {α : Type} {β : Type} {x : Option α} {f : α → Option β} {r : β} (h : x.bind f = some r) : ∃ G : α → Option β, G = f ∧ ∃ o, x = some o ∧ G o = some r := ⟨f, rfl, bind_some h⟩
theorem St.newNs {ok0 : Nat → Prop} {w0 w w1 : World} {ms : List Mu} {fo fn ps : List Fact} (h : St ok0 w0 w ms fo fn) (hb : Below w.heap.size w w1) (hp : Foot (fun W => AllF W ps) w1 (fun k => w.heap.size ≤ k)) : St ok0 w0 w1 ms fo (ps ++ fn) := by
 have h1 := h.below hb
 have h2 : Foot (fun W => AllF W ps) w1 (okS (fun _ => False) w0.heap.size (bks ms)) := hp.mono (fun k hk => okS_new h.size (fun k hk => (h.l k hk).2) hk)
 refine ⟨h1.b, h1.o, fun W hW => ?_, h1.m, h1.d, h1.l⟩
 have t1 := h2 W hW
 have t2 := h1.n W hW
 clear h2 hp
 induction ps with
 | nil => exact t2
 | cons p ps ih => exact ⟨t1.1, ih t1.2⟩
section
variable {α : Type} {dd : Kd α} {ok0 : Nat → Prop} {w0 w : World} {ms : List Mu} {fo fn : List Fact} {e n c : Nat} {xs : List α} {A : Option Addr} {ad : Addr} {k : IntKind}
theorem C_open (h : dd.C w A n xs) (h0 : 0 < n) : ∃ ad, A = some ad := by
 obtain ⟨ad, e, _⟩ := h.2.2 h0
 exact ⟨ad, e⟩
theorem int_cell {xs : List Int} (h : (Kd.int k).C w (some ad) n xs) (i : Int) (h0 : 0 ≤ i) (h1 : i < (n : Int)) : w.cell? (ad.add (i.toNat * 1)) = some (.int k (xs.getD i.toNat 0)) := by
 obtain ⟨ad', c, e, hl, hK, hc⟩ := Kd.C_get h 0 i h0 h1
 injection e with e
 subst e
 have e : c = [.int k (xs.getD i.toNat 0)] := hK
 subst e
 exact hc 0 _ rfl
theorem St.elO (h : St ok0 w0 w ms fo fn) (i : Nat) (hi : fo[i]? = some (fun W => dd.C W (some ad) n xs)) (hs : 0 < dd.sz) (z : α) (j : Int) (h0 : 0 ≤ j) (h1 : j < (n : Int)) :
   ∃ c, c.length = dd.sz ∧ St ok0 w0 w ms ((fun W => dd.K W (xs.getD j.toNat z) c ∧ ∀ i u, c[i]? = some u → W.cell? ((ad.add (j.toNat * dd.sz)).add i) = some u) :: fo) fn := by
 obtain ⟨ad', c, e1, e2, H⟩ := h.elemO i hi hs z j h0 h1
 injection e1 with e1
 subst e1
 exact ⟨c, e2, H⟩
theorem St.elN (h : St ok0 w0 w ms fo fn) (i : Nat) (hi : fn[i]? = some (fun W => dd.C W (some ad) n xs)) (hs : 0 < dd.sz) (z : α) (j : Int) (h0 : 0 ≤ j) (h1 : j < (n : Int)) :
   ∃ c, c.length = dd.sz ∧ St ok0 w0 w ms fo ((fun W => dd.K W (xs.getD j.toNat z) c ∧ ∀ i u, c[i]? = some u → W.cell? ((ad.add (j.toNat * dd.sz)).add i) = some u) :: fn) := by
 obtain ⟨ad', c, e1, e2, H⟩ := h.elemN i hi hs z j h0 h1
 injection e1 with e1
 subst e1
 exact ⟨c, e2, H⟩
theorem St.slO {e : Nat} {xs : List (List α)} (h : St ok0 w0 w ms fo fn) (i : Nat) (hi : fo[i]? = some (fun W => (Kd.slice e dd).C W (some ad) n xs)) (j : Int) (h0 : 0 ≤ j) (h1 : j < (n : Int)) :
   ∃ A c, (xs.getD j.toNat []).length ≤ c ∧ St ok0 w0 w ms ((fun W => dd.C W A (xs.getD j.toNat []).length (xs.getD j.toNat [])) :: (fun W => W.cell? (ad.add (j.toNat * 1)) = some (.slice A (xs.getD j.toNat []).length c)) :: fo) fn := by
 obtain ⟨cs, hl, H⟩ := h.elO i hi (by show 0 < 1; omega) [] j h0 h1
 obtain ⟨⟨A, c, rfl, hle, hC⟩, hcell⟩ := H.getO 0 rfl
 have H2 := H.deriveO (p := fun W => W.cell? (ad.add (j.toNat * 1)) = some (.slice A (xs.getD j.toNat []).length c)) (fun W hW _ => by
   have := hW.1.2 0 _ rfl
   rw [XLoad.add_add] at this
   exact this)
 have H3 := H2.deriveO (p := fun W => dd.C W A (xs.getD j.toNat []).length (xs.getD j.toNat [])) (fun W hW _ => by
   obtain ⟨A', c', e1, _, hC'⟩ := hW.2.1.1
   injection e1 with e1
   injection e1 with e1 e2 e3
   rw [e1]; exact hC')
 exact ⟨A, c, hle, H3.pickO (fun W hW => ⟨hW.1, hW.2.1, hW.2.2.2⟩)⟩
end
end Go.Proofs.YtoccifnjhbibcaaGreat.XSt
namespace Go.Proofs.YtoccifnjhbibcaaGreat.XSt
open Go.RowKit Go.Proofs.YtoccifnjhbibcaaGreatW.PrintWords Go.Proofs.YtoccifnjhbibcaaGreatW.PrintLast Go.Proofs.YtoccifnjhbibcaaGreatW.PrintMore Go.Proofs.YtoccifnjhbibcaaGreat.XW Go.Proofs.YtoccifnjhbibcaaGreat.XOp
set_option linter.unusedVariables false
theorem setCells_heap : ∀ (vs : List Value) (w : World) (g o : Nat) (cs : Array Value) (t : TypeId), w.heap[g]? = some (.cells cs t (0, 0)) → (w.setCells g o vs).heap[g]? = some (.cells (splice cs o vs) t (0, 0))
 | [], w, g, o, cs, t, h => h
 | v :: r, w, g, o, cs, t, h => setCells_heap r _ g (o + 1) _ t (blk_set h o v)
theorem setCells_other : ∀ (vs : List Value) (w : World) (g o k : Nat), k ≠ g → (w.setCells g o vs).heap[k]? = w.heap[k]?
 | [], w, g, o, k, h => rfl
 | v :: r, w, g, o, k, h => (setCells_other r _ g (o + 1) k h).trans (Below.heap_setCell w ⟨g, o, none⟩ v k h)
theorem setCells_below : ∀ (vs : List Value) {B : Nat} {w0 w : World} (g o : Nat), Below B w0 w → B ≤ g → Below B w0 (w.setCells g o vs)
 | [], B, w0, w, g, o, h, hg => h
 | v :: r, B, w0, w, g, o, h, hg => setCells_below r g (o + 1) (h.setCell (p := ⟨g, o, none⟩) hg v) hg
theorem setCells_size : ∀ (vs : List Value) (w : World) (g o : Nat), (w.setCells g o vs).heap.size = w.heap.size
 | [], w, g, o => rfl
 | v :: r, w, g, o => (setCells_size r _ g (o + 1)).trans (by simp [World.setCell])
def cut (inner : List Value) (k : Nat) (vs : List Value) : List Value := inner.take k ++ (vs ++ inner.drop (k + vs.length))
theorem cut_length {inner vs : List Value} {k : Nat} (h : k + vs.length ≤ inner.length) : (cut inner k vs).length = inner.length := by
 unfold cut; rw [List.length_append, List.length_append, List.length_take, List.length_drop]; omega
theorem cut_get {inner vs : List Value} {k i : Nat} (h : k + vs.length ≤ inner.length) : (cut inner k vs)[i]? = if k ≤ i ∧ i < k + vs.length then vs[i - k]? else inner[i]? := by
 unfold cut
 have hl : (inner.take k).length = k := by rw [List.length_take]; omega
 by_cases h1 : i < k
 · rw [if_neg (by omega), List.getElem?_append_left (by omega), List.getElem?_take_of_lt h1]
 · rw [List.getElem?_append_right (by omega), hl]
   by_cases h2 : i < k + vs.length
   · rw [if_pos (by omega), List.getElem?_append_left (by omega)]
   · rw [if_neg (by omega), List.getElem?_append_right (by omega), List.getElem?_drop]
     congr 1; omega
section
variable {w : World} {B e sz n c : Nat} {ad : Addr} {inner vs : List Value}
theorem own_at (h : w.ownsRow B e sz (.slice (some ad) n c) n inner) : ∃ g cur, ad = ⟨g, 0, none⟩ ∧ B ≤ g ∧ w.heap[g]? = some (.cells cur e (0, 0)) ∧ n * sz ≤ cur.size ∧ cur.toList.take (n * sz) = inner := by
 rcases h.2 with ⟨e1, _⟩ | ⟨g, cap, cur, e1, hb, hh, hn, _, hc, ht⟩
 · cases e1
 · injection e1 with e1 e2 e3
   injection e1 with e1
   exact ⟨g, cur, e1, hb, hh, by rw [hc]; exact Nat.mul_le_mul_right _ hn, ht⟩
theorem row_cell (h : w.ownsRow B e sz (.slice (some ad) n c) n inner) {k : Nat} {u : Value} (hu : inner[k]? = some u) : w.cell? (ad.add k) = some u := by
 obtain ⟨g, cur, rfl, _, hh, hs, ht⟩ := own_at h
 have hk : k < n * sz := by have := (List.getElem?_eq_some_iff.1 hu).1; rw [← h.1]; exact this
 rw [Addr.add_mid, Nat.zero_add, blk_cell hh]
 rw [← ht, List.getElem?_take_of_lt hk] at hu
 simpa using hu
theorem own_cut (h : w.ownsRow B e sz (.slice (some ad) n c) n inner) (k : Nat) (hk : k + vs.length ≤ n * sz) : ∃ g, ad = ⟨g, 0, none⟩ ∧ (w.setCells g k vs).ownsRow B e sz (.slice (some ad) n c) n (cut inner k vs) := by
 obtain ⟨g, cur, rfl, hb, hh, hs, ht⟩ := own_at h
 have hl := h.1
 refine ⟨g, rfl, by rw [cut_length (by omega)]; exact hl, ?_⟩
 rcases h.2 with ⟨e1, _⟩ | ⟨g', cap, cur', e1, hb', hh', hn, hm, hc, ht'⟩
 · cases e1
 · injection e1 with e1 e2 e3
   injection e1 with e1
   injection e1 with e1
   subst e1 e3
   rw [hh] at hh'
   injection hh' with hh'
   injection hh' with hh'
   subst hh'
   refine .inr ⟨g, c, _, rfl, hb, setCells_heap vs w g k cur e hh, hn, hm, by rw [splice_size]; exact hc, ?_⟩
   apply List.ext_getElem?
   intro i
   rw [cut_get (by omega)]
   by_cases hi : i < n * sz
   · rw [List.getElem?_take_of_lt hi, Array.getElem?_toList, splice_get vs cur k i (by omega)]
     by_cases h2 : k ≤ i ∧ i < k + vs.length
     · rw [if_pos h2, if_pos h2]
     · rw [if_neg h2, if_neg h2, ← ht, List.getElem?_take_of_lt hi, Array.getElem?_toList]
   · rw [List.getElem?_eq_none (by rw [List.length_take]; omega), if_neg (by omega), List.getElem?_eq_none (by omega)]
end
theorem Reps.set_ {α : Type} {R : α → List Value → Prop} {sz : Nat} {xs : List α} {inner vs : List Value} (h : Reps R sz xs inner) (j : Nat) (x : α) (hx : R x vs) (hv : vs.length = sz) (hj : j < xs.length) : Reps R sz (xs.set j x) (cut inner (j * sz) vs) := by
 have hle : j * sz + sz ≤ xs.length * sz := by rw [← Nat.succ_mul]; exact Nat.mul_le_mul_right _ hj
 have hl := h.1
 have hc : j * sz + vs.length ≤ inner.length := by omega
 refine ⟨by rw [cut_length hc, List.length_set]; exact hl, fun i p hi => ?_⟩
 have hil : i < xs.length := by have := (List.getElem?_eq_some_iff.1 hi).1; rwa [List.length_set] at this
 have hile : i * sz + sz ≤ xs.length * sz := by rw [← Nat.succ_mul]; exact Nat.mul_le_mul_right _ hil
 by_cases e : i = j
 · subst e
   rw [List.getElem?_set_self hil] at hi
   have e2 : ((cut inner (i * sz) vs).drop (i * sz)).take sz = vs := by
     apply List.ext_getElem?
     intro q
     by_cases hq : q < sz
     · rw [List.getElem?_take_of_lt hq, List.getElem?_drop, cut_get hc, if_pos (by omega), Nat.add_sub_cancel_left]
     · rw [List.getElem?_eq_none (by rw [List.length_take]; omega), List.getElem?_eq_none (by omega)]
   rw [e2, ← Option.some.inj hi]; exact hx
 · rw [List.getElem?_set_ne (fun e2 => e e2.symm)] at hi
   have e2 : ((cut inner (j * sz) vs).drop (i * sz)).take sz = (inner.drop (i * sz)).take sz := by
     apply List.ext_getElem?
     intro q
     by_cases hq : q < sz
     · rw [List.getElem?_take_of_lt hq, List.getElem?_take_of_lt hq, List.getElem?_drop, List.getElem?_drop, cut_get hc, if_neg]
       rcases Nat.lt_or_gt_of_ne e with h1 | h1
       · have : (i + 1) * sz ≤ j * sz := Nat.mul_le_mul_right _ h1
         rw [Nat.succ_mul] at this
         omega
       · have : (j + 1) * sz ≤ i * sz := Nat.mul_le_mul_right _ h1
         rw [Nat.succ_mul] at this
         omega
     · rw [List.getElem?_eq_none (by rw [List.length_take]; omega), List.getElem?_eq_none (by rw [List.length_take]; omega)]
   rw [e2]; exact h.2 i p hi
theorem reps_set {α : Type} {dd : Kd α} {W : World} {xs : List α} {inner vs I : List Value} {j : Nat} {x : α} (hI : I = cut inner (j * dd.sz) vs) (h : Reps (dd.K W) dd.sz xs inner) (hx : dd.K W x vs) (hj : j < xs.length) : Reps (dd.K W) dd.sz (xs.set j x) I := by
 rw [hI]; exact Reps.set_ h j x hx (dd.K_len hx) hj
theorem row_open {w : World} {B e sz n c : Nat} {A : Option Addr} {inner : List Value} (h : w.ownsRow B e sz (.slice A n c) n inner) (h0 : 0 < n) : ∃ ad, A = some ad := by
 rcases h.2 with ⟨e1, h1⟩ | ⟨g, cap, cur, e1, _⟩
 · omega
 · injection e1 with e1 _ _; exact ⟨_, e1⟩
theorem row_int {w : World} {B e n c : Nat} {k : IntKind} {ad : Addr} {inner : List Value} {xs : List Int} (h : w.ownsRow B e 1 (.slice (some ad) n c) n inner) (hr : Reps ((Kd.int k).K w) (Kd.int k).sz xs inner) {i : Int} (h0 : 0 ≤ i) (h1 : i < ((n : Nat) : Int)) : w.cell? (ad.add (i.toNat * 1)) = some (.int k (xs.getD i.toNat 0)) := by
 have hl : inner.length = xs.length * 1 := hr.1
 have hn := h.1
 have hi : i.toNat < xs.length := by omega
 have h2 : (inner.drop (i.toNat * 1)).take 1 = [.int k (xs.getD i.toNat 0)] := by
   have := hr.2 i.toNat _ (List.getElem?_eq_getElem hi)
   rw [List.getD_eq_getElem?_getD, List.getElem?_eq_getElem hi]
   exact this
 refine row_cell h ?_
 rw [Nat.mul_one] at h2 ⊢
 have h3 := congrArg List.head? h2
 rw [List.head?_take, List.head?_drop] at h3
 simpa using h3
theorem mul_room {i : Int} {n : Nat} (h0 : 0 ≤ i) (h1 : i < ((n : Nat) : Int)) (sz : Nat) : i.toNat * sz + sz ≤ n * sz := by
 have h2 : i.toNat + 1 ≤ n := by omega
 have := Nat.mul_le_mul_right sz h2
 rw [Nat.succ_mul] at this
 exact this
theorem toNat_lt {i : Int} {n : Nat} (h0 : 0 ≤ i) (h1 : i < ((n : Nat) : Int)) : i.toNat < n := by omega
theorem St.rowN {ok0 : Nat → Prop} {w0 w : World} {ms : List Mu} {fo fn : List Fact} {B e sz n n' : Nat} {v : Value} {inner : List Value} (h : St ok0 w0 w ms fo fn) (i : Nat) (hi : ms[i]? = some (rowM B e sz v n inner)) (hn : n = n') : St ok0 w0 w (ms.set i (rowM B e sz v n' inner)) fo fn := by
 subst hn
 obtain ⟨h1, h2⟩ := List.getElem?_eq_some_iff.1 hi
 rw [← h2, List.set_getElem_self]
 exact h
section
variable {P : Program} {Q : Exit → Act → World → Prop} {N : Nat} {E : Env} {ops : Array Oper} {o : Oper} {rest : List Oper} {d : Nat} {ok0 : Nat → Prop} {w0 w : World} {ms : List Mu} {fo fn : List Fact} {e sz n c : Nat} {v u : Value} {inner : List Value} {t : TypeId} {x y : Operand} {ad : Addr}
theorem WL.putEl (H : St ok0 w0 w ms fo fn) (i : Nat) (hi : ms[i]? = some (rowM w0.heap.size e sz (.slice (some ad) n c) n inner)) (hg : o.guard = none) (hd : o.dst = none) (ho : o.op = .store t x y) {k : Nat} (hx : ev E x = some (.pointer (some (ad.add k)))) (hy : ev E y = some v) (vs : List Value) (hv : v.cells = vs.toArray) (h1 : ∀ u ∈ vs, u.oneCell' = true) (hz : (P.info? t).map (·.size) = some vs.length) (hk : k + vs.length ≤ n * sz)
   (h : ∀ w1 I, I = cut inner k vs → St ok0 w0 w1 (ms.set i (rowM w0.heap.size e sz (.slice (some ad) n c) n I)) fo fn → WL P ops Q rest N E w1) : WL P ops Q (o :: rest) N E w := by
 have hrow : w.ownsRow w0.heap.size e sz (.slice (some ad) n c) n inner := H.mu i hi
 obtain ⟨g, cur, hge, hb, hh, hs, ht⟩ := own_at hrow
 obtain ⟨g2, hge2, hcut⟩ := own_cut (vs := vs) hrow k hk
 have hgg : g2 = g := by rw [hge] at hge2; injection hge2 with h1 _ _; exact h1.symm
 subst hgg
 subst hge
 refine WL.skip hg hd (w1 := w.setCells g2 k vs) (fun ρ hρ => ?_) (h _ _ rfl ?_)
 · have hst := run_storeVar_mid (P := P) w g2 k t vs.toArray (fun j hj => by
     have hj : j < vs.length := by simpa using hj
     refine ⟨?_, blk_frozen hh _⟩
     rw [blk_cell hh, Array.getElem?_eq_getElem (by omega)]; rfl) (by simpa using hz) (all_oneCell_toArray h1)
   have h2 : (storeVar t ⟨g2, k, none⟩ v).run P w = (storeVar t ⟨g2, k, none⟩ (.agg vs.toArray)).run P w := by
     unfold storeVar
     rw [show v.cells = (Value.agg vs.toArray).cells from hv]
   have hp := hρ _ _ hx
   rw [Addr.add_mid, Nat.zero_add] at hp
   unfold execOp
   simp only [ho, hp, hρ _ _ hy, Instr.storeAt, Instr.sureAddr, Sem.run_bind, Sem.run_pure, Result.andThen_ok]
   rw [h2, hst]; rfl
 · refine H.put i hi (setCells_below vs g2 k H.b hb) (by rw [setCells_size]; exact Nat.le_refl _) (fun j hj hn => setCells_other vs w g2 k j (fun e2 => hn (by subst e2; simp [rowM, Value.ownBlock]))) (foot_row hcut) (by simp [rowM, Value.ownBlock]) (fun j hj => .inl hj)
theorem WL.make {α : Type} (dd : Kd α) (H : St ok0 w0 w ms fo fn) (hg : o.guard = none) (hd : o.dst = some d) (hlt : d < N) (ho : o.op = .makeSlice t x y) {m : Int} (hx : ev E x = some (.int .i64 m)) (hy : ev E y = some (.int .i64 m)) (z : Value) (bytes : Nat) (z0 : α) (ht : P.underlying t = some (.slice e)) (hinfo : (P.info? e).map (fun i => (i.zero, i.size, i.bytes)) = some (some z, dd.sz, bytes)) (hz : z.cells.size = dd.sz) (hs0 : 0 < dd.sz) (hb0 : 0 < bytes) (hK : ∀ W, dd.K W z0 z.cells.toList) (h0 : 0 ≤ m) (hl : m.toNat * bytes ≤ 140737488355328)
   (h : ∀ v w1 I, (∀ W, Reps (dd.K W) dd.sz (List.replicate m.toNat z0) I) → St ok0 w0 w1 (rowM w0.heap.size e dd.sz v (List.replicate m.toNat z0).length I :: ms) fo fn → WL P ops Q rest N ((d, v) :: E) w1) : WL P ops Q (o :: rest) N E w := by
 obtain ⟨q, rfl⟩ := Int.eq_ofNat_of_zero_le h0
 simp only [Int.toNat_natCast] at hl h
 obtain ⟨i0, hi, hzz⟩ := Option.map_eq_some_iff.1 hinfo
 simp only [Prod.mk.injEq] at hzz
 obtain ⟨hz0, hz1, hz2⟩ := hzz
 have hm : q ≤ 140737488355328 := Nat.le_trans (Nat.le_mul_of_pos_right _ hb0) hl
 have hr := run_make (P := P) w t e i0 z ht hi hz0 .i64 .i64 (q : Int) (q : Int) (by omega) (by omega)
   (by
     have h3 : ((i0.bytes * q : Nat) : Int) ≤ 281474976710656 := by rw [hz2, Nat.mul_comm]; omega
     rwa [Int.natCast_mul] at h3) (by omega)
 simp only [Int.toNat_natCast] at hr
 rw [hz1] at hr
 have hrep : ∀ W, Reps (dd.K W) dd.sz (List.replicate q z0) (madeCells z.cells (q * dd.sz)).toList := fun W => Kd.reps_made hz hs0 (hK W) q
 have hown := World.ownsRow_lit (base := w.heap.size) (e := e) (size := dd.sz) w (madeCells z.cells (q * dd.sz)) q (Nat.le_refl _) (by simp only [maxLen]; omega) (size_madeCells _ _)
 refine WL.val hg hd hlt (v := .slice (some ⟨w.heap.size, 0, none⟩) q q) (w1 := w.alloc (.cells (madeCells z.cells (q * dd.sz)) e)) (fun ρ hρ => ?_) (h _ _ _ hrep (H.rowNew (below_alloc (Below.refl _ _) _) (by rw [List.length_replicate]; exact hown)))
 unfold execOp
 simp [ho, hρ _ _ hx, hρ _ _ hy, hr]
end
end Go.Proofs.YtoccifnjhbibcaaGreat.XSt
namespace Go.Proofs.YtoccifnjhbibcaaGreat.XSt
open Go.RowKit Go.Proofs.YtoccifnjhbibcaaGreatW.PrintWords Go.Proofs.YtoccifnjhbibcaaGreatW.PrintLast Go.Proofs.YtoccifnjhbibcaaGreatW.PrintMore Go.Proofs.YtoccifnjhbibcaaGreat.XW Go.Proofs.YtoccifnjhbibcaaGreat.XOp Go.Proofs.YtoccifnjhbibcaaGreat.XDraw
set_option linter.unusedVariables false
section
variable {P : Program} {Q : Exit → Act → World → Prop} {n m fuel : Nat} {E E' : Env} {w w1 : World} {S : World → Prop} {ops : Array Oper} {o oi : Oper} {rest : List Oper} {v : Value} {d : Nat} {x y : Operand} {t s ty : TypeId} {ds : List Nat} {l : Array Bool} {i j g : Nat} {b c c' : Bool}
theorem v_ (hr : Run P E o w v w1) (h : WL P ops Q rest n ((d, v) :: E) w1) (hg : o.guard = none := by rfl) (hd : o.dst = some d := by rfl) (hlt : d < n := by decide) : WL P ops Q (o :: rest) n E w := WL.val hg hd hlt hr h
theorem mv_ (h : WL P ops Q rest n ((d, v) :: E) w) (ho : o.op = .move x := by rfl) (hx : ev E x = some v := by rfl) (hg : o.guard = none := by rfl) (hd : o.dst = some d := by rfl) (hlt : d < n := by decide) : WL P ops Q (o :: rest) n E w := WL.val hg hd hlt (Run.move ho hx) h
theorem as_ (h : WL P ops Q rest n ((d, v) :: E) w) (ho : o.op = .assign x := by rfl) (hx : ev E x = some v := by rfl) (hg : o.guard = none := by rfl) (hd : o.dst = some d := by rfl) (hlt : d < n := by decide) : WL P ops Q (o :: rest) n E w := WL.val hg hd hlt (Run.assign ho hx) h
theorem on_ {i t : Nat} {b c : Bool} (hc : c = b) (h : WL P ops Q ({ o with guard := none } :: rest) n E w) (hg : o.guard = some (i, b) := by rfl) (hi : (ops[i]?).bind (·.dst) = some t := by rfl) (hv : lk E t = some (.bool c) := by rfl) : WL P ops Q (o :: rest) n E w := WL.on hg hi hv hc h
theorem off_ {i t : Nat} {b c c' : Bool} (hc : c = c') (h : WL P ops Q rest n ((d, undef) :: E) w) (hg : o.guard = some (i, b) := by rfl) (hi : (ops[i]?).bind (·.dst) = some t := by rfl) (hv : lk E t = some (.bool c) := by rfl) (hb : (c' == b) = false := by rfl) (hd : o.dst = some d := by rfl) (hlt : d < n := by decide) : WL P ops Q (o :: rest) n E w := WL.off hg hi hv hc hb hd hlt h
theorem c_ {f : FuncId} {fn : Func} {as : Array Operand} {ts : Array TypeId} {args : List Value} {R : Ending → World → Prop} (hf : P.funcs[f]? = some fn) (hc : Calls P f args.toArray w R) (h : ∀ e w1, R e w1 → ∃ v, e = .returned v ∧ WL P ops Q rest n ((d, v) :: E) w1)
   (hop : o.op = .call { callee := .value (.func f), args := as, argTypes := ts } := by rfl) (hargs : as.toList.map (ev E) = args.map some := by rfl) (hg : o.guard = none := by rfl) (hd : o.dst = some d := by rfl) (hlt : d < n := by decide) (hname : (fn.name == "runtime.NumGoroutine") = false := by rfl) (hb : fn.body.isSome = true := by rfl) : WL P ops Q (o :: rest) n E w := WL.call hg hd hlt hop hf hname hb hc hargs h
theorem dp_ (i : Nat) (hr : ∀ w', Run P E oi w' v w') (h : WD P ops Q S ds fuel (l.setIfInBounds i true) n ((d, v) :: E) w) (hi : ops[i]? = some oi := by rfl) (hd : oi.dst = some d := by rfl) (hlt : d < n := by decide) (hc : anyB .any ops l (l.setIfInBounds i true) i = true := by exact any_of rfl (by kernel_rfl)) (hQ : ∀ v c a w, Q (.panic c) (a.put oi.dst v) w → Q (.panic c) a w := by exact fun _ _ _ _ h => h) (hg : oi.guard = none := by rfl) : WD P ops Q S ds (fuel + 1) l n E w := WD.pure i hi hd hlt hc hQ hg hr h
theorem dg_ (i : Nat) (hcb : c = b) (hr : ∀ w', Run P E oi w' v w') (h : WD P ops Q S ds fuel (l.setIfInBounds i true) n ((d, v) :: E) w) (hi : ops[i]? = some oi := by rfl) (hd : oi.dst = some d := by rfl) (hlt : d < n := by decide) (hc : anyB .any ops l (l.setIfInBounds i true) i = true := by exact any_of rfl (by kernel_rfl)) (hQ : ∀ v c a w, Q (.panic c) (a.put oi.dst v) w → Q (.panic c) a w := by exact fun _ _ _ _ h => h) (hg : oi.guard = some (j, b) := by rfl) (hj : (ops[j]?).bind (·.dst) = some g := by rfl) (hv : lk E g = some (.bool c) := by rfl) : WD P ops Q S ds (fuel + 1) l n E w := WD.pureG i hi hd hlt hc hQ hg hj hv hcb hr h
theorem du_ (i : Nat) (h : WD P ops Q S ds fuel (l.setIfInBounds i true) n ((d, undef) :: E) w) (hi : ops[i]? = some oi := by rfl) (hd : oi.dst = some d := by rfl) (hlt : d < n := by decide) (hc : anyB .any ops l (l.setIfInBounds i true) i = true := by exact any_of rfl (by kernel_rfl)) (hQ : ∀ v c a w, Q (.panic c) (a.put oi.dst v) w → Q (.panic c) a w := by exact fun _ _ _ _ h => h) (hg : oi.guard = some (j, b) := by rfl) (hj : (ops[j]?).bind (·.dst) = some g := by rfl) (hv : lk E g = some undef := by rfl) : WD P ops Q S ds (fuel + 1) l n E w := WD.offU i hi hd hlt hc hQ hg hj hv h
theorem dt_ (i : Nat) (hW : S w) (hr : ∀ w', S w' → Run P E oi w' v w') (h : WD P ops Q S ds fuel (l.setIfInBounds i true) n ((d, v) :: E) w) (hi : ops[i]? = some oi := by rfl) (hd : oi.dst = some d := by rfl) (hlt : d < n := by decide) (hc : takeB .any ops ds l (l.setIfInBounds i true) i = true := by exact take_of rfl (by kernel_rfl)) (hQ : ∀ v c a w, Q (.panic c) (a.put oi.dst v) w → Q (.panic c) a w := by exact fun _ _ _ _ h => h) (hg : oi.guard = none := by rfl) : WD P ops Q S ds (fuel + 1) l n E w := WD.take i hi hd hlt hc hQ hg hW hr h
theorem dh_ (i : Nat) (hcb : c = b) (hW : S w) (hr : ∀ w', S w' → Run P E oi w' v w') (h : WD P ops Q S ds fuel (l.setIfInBounds i true) n ((d, v) :: E) w) (hi : ops[i]? = some oi := by rfl) (hd : oi.dst = some d := by rfl) (hlt : d < n := by decide) (hc : takeB .any ops ds l (l.setIfInBounds i true) i = true := by exact take_of rfl (by kernel_rfl)) (hQ : ∀ v c a w, Q (.panic c) (a.put oi.dst v) w → Q (.panic c) a w := by exact fun _ _ _ _ h => h) (hg : oi.guard = some (j, b) := by rfl) (hj : (ops[j]?).bind (·.dst) = some g := by rfl) (hv : lk E g = some (.bool c) := by rfl) : WD P ops Q S ds (fuel + 1) l n E w := WD.takeG i hi hd hlt hc hQ hg hj hv hcb hW hr h
theorem dc_ {f : FuncId} {fn : Func} {as : Array Operand} {ts : Array TypeId} {args : List Value} {R : Ending → World → Prop} (i : Nat) (hw : ∀ a, Fits a n E → Region.wanted oi (yielded ops a.tmps) = true) (hf : P.funcs[f]? = some fn) (hcall : Calls P f args.toArray w R) (h : ∀ e w1, R e w1 → S w1 ∧ ∃ v, e = .returned v ∧ WD P ops Q S ds fuel (l.setIfInBounds i true) n ((d, v) :: E) w1)
   (hi : ops[i]? = some oi := by rfl) (hd : oi.dst = some d := by rfl) (hlt : d < n := by decide) (hc : readyB .any ops l (l.setIfInBounds i true) i = true := by exact one_of rfl (by kernel_rfl)) (hds : i ∉ ds := by decide) (hop : oi.op = .call { callee := .value (.func f), args := as, argTypes := ts } := by rfl) (hargs : as.toList.map (ev E) = args.map some := by rfl) (hname : (fn.name == "runtime.NumGoroutine") = false := by rfl) (hb : fn.body.isSome = true := by rfl) : WD P ops Q S ds (fuel + 1) l n E w := WD.call i hi hd hlt hc hds hw hop hf hname hb hcall hargs h
def fast (ops : Array Oper) : List Oper → Env → Option Env
 | [], E => some E
 | o :: rest, E =>
   match o.dst with
   | none => none
   | some d =>
     match o.guard with
     | some (i, b) =>
       match ((ops[i]?).bind (·.dst)).bind (lk E) with
       | some (.bool c) => cond (c == b) none (fast ops rest ((d, undef) :: E))
       | some (.tuple _) => fast ops rest ((d, undef) :: E)
       | _ => none
     | none =>
       match o.op with
       | .move x => match ev E x with | some v => fast ops rest ((d, v) :: E) | none => none
       | .assign x => match ev E x with | some v => fast ops rest ((d, v) :: E) | none => none
       | .pick c x y => match ev E c with
         | some (.bool true) => match ev E x with | some v => fast ops rest ((d, v) :: E) | none => none
         | some (.bool false) => match ev E y with | some v => fast ops rest ((d, v) :: E) | none => none
         | _ => none
       | _ => none
def small (n : Nat) : List Oper → Bool
 | [] => true
 | o :: rest => (match o.dst with | some d => decide (d < n) | none => false) && small n rest
theorem fast_go : ∀ (l : List Oper) (E E1 : Env), small n l = true → fast ops l E = some E1 → WQ Q .normal n E1 w → WL P ops Q l n E w
 | [], E, E1, _, h, hq => by
   have : E = E1 := Option.some.inj h
   subst this; exact WL.done hq
 | o :: rest, E, E1, hs, h, hq => by
   unfold small at hs
   rw [Bool.and_eq_true] at hs
   obtain ⟨hs1, hs2⟩ := hs
   unfold fast at h
   cases hd : o.dst with
   | none => rw [hd] at h; cases h
   | some d =>
     rw [hd] at h hs1
     have hlt : d < n := of_decide_eq_true hs1
     cases hg : o.guard with
     | some ib =>
       obtain ⟨i, b⟩ := ib
       rw [hg] at h
       simp only at h
       split at h
       · rename_i c hv
         obtain ⟨t, ht, hv⟩ := Option.bind_eq_some_iff.1 hv
         cases hcb : (c == b) with
         | true => rw [hcb] at h; cases h
         | false => rw [hcb] at h; exact WL.off hg ht hv rfl hcb hd hlt (fast_go rest _ E1 hs2 h hq)
       · rename_i vs hv
         obtain ⟨t, ht, hv⟩ := Option.bind_eq_some_iff.1 hv
         exact WL.offT hg ht hv hd hlt (fast_go rest _ E1 hs2 h hq)
       · cases h
     | none =>
       rw [hg] at h
       simp only at h
       split at h
       · rename_i x ho
         split at h
         · rename_i v hx; exact WL.val hg hd hlt (Run.move ho hx) (fast_go rest _ E1 hs2 h hq)
         · cases h
       · rename_i x ho
         split at h
         · rename_i v hx; exact WL.val hg hd hlt (Run.assign ho hx) (fast_go rest _ E1 hs2 h hq)
         · cases h
       · rename_i c x y ho
         split at h
         · rename_i hc
           split at h
           · rename_i v hx; exact WL.val hg hd hlt (Run.pickT ho hc rfl hx) (fast_go rest _ E1 hs2 h hq)
           · cases h
         · rename_i hc
           split at h
           · rename_i v hx; exact WL.val hg hd hlt (Run.pickF ho hc rfl hx) (fast_go rest _ E1 hs2 h hq)
           · cases h
         · cases h
       · cases h
theorem fast_ {l : List Oper} {E1 : Env} (hq : WQ Q .normal n E1 w) (h : fast ops l E = some E1 := by rfl) (hs : small n l = true := by kernel_rfl) : WL P ops Q l n E w := fast_go l E E1 hs h hq
theorem WL.know (t : Nat) {c c' : Bool} (hc : c = c') (h : WL P ops Q rest n ((t, .bool c') :: E) w) (hv : lk E t = some (.bool c) := by rfl) : WL P ops Q rest n E w := fun a ha => h a ⟨ha.size, ha.defers, fun s u hs => by
 rw [lk_cons] at hs
 by_cases e : t = s
 · subst e; rw [if_pos rfl] at hs; rw [← Option.some.inj hs, ← hc]; exact ha.look t _ hv
 · rw [if_neg e] at hs; exact ha.look s u hs⟩
end
end Go.Proofs.YtoccifnjhbibcaaGreat.XSt
namespace Go.Proofs.YtoccifnjhbibcaaGreat.XSt
open Go.RowKit Go.Proofs.YtoccifnjhbibcaaGreatW.PrintWords Go.Proofs.YtoccifnjhbibcaaGreatW.PrintLast Go.Proofs.YtoccifnjhbibcaaGreatW.PrintMore Go.Proofs.YtoccifnjhbibcaaGreat.XW Go.Proofs.YtoccifnjhbibcaaGreat.XOp
set_option linter.unusedVariables false
theorem run_eqB {P : Program} {w : World} {t : TypeId} {a b : Bool} (hu : P.underlying t = some .bool) : (Op.equal t (.bool a) (.bool b)).run P w = .ok (a == b) w := by
 unfold Op.equal Op.maxDepth Op.equalIn
 simp only [Sem.run_bind, run_underlying hu, Result.andThen_ok, Sem.run_pure]
theorem bin_neqB {P : Program} {w : World} {t : TypeId} {a b : Bool} (hu : P.underlying t = some .bool) : (Go.binOp .neq t (.bool a) (.bool b)).run P w = .ok (.bool (a != b)) w := by
 unfold Go.binOp; simp only [Sem.run_bind, run_eqB hu, Result.andThen_ok, Sem.run_pure]; rfl
theorem eqGuard_bool {P : Program} {w : World} {t : TypeId} {x y : Operand} (op : BinOp) (a b : Bool) : (eqGuard op t x y (.bool a) (.bool b)).run P w = .ok () w := by unfold eqGuard; split <;> simp
theorem Run.binB {P : Program} {E : Env} {o : Oper} {w : World} {t t2 : TypeId} {x y : Operand} {v : Value} {op : BinOp} {a b : Bool} (ho : o.op = .binOp op t x y t2) (hx : ev E x = some (.bool a)) (hy : ev E y = some (.bool b)) (hr : (Go.binOp op t (.bool a) (.bool b)).run P w = .ok v w) : Run P E o w v w := fun ρ hρ => by
 unfold execOp; simp [ho, hρ _ _ hx, hρ _ _ hy, eqGuard_bool, hr]
theorem splice_app : ∀ (a b : List Value) (cs : Array Value) (o : Nat), splice cs o (a ++ b) = splice (splice cs o a) (o + a.length) b
 | [], b, cs, o => rfl
 | v :: a, b, cs, o => by
   rw [List.cons_append, splice, splice_app a b, splice, List.length_cons, show o + 1 + a.length = o + (a.length + 1) by omega]
theorem fold_splice (off : Nat) : ∀ (l : List Value) (k : Nat) (cs : Array Value), (l.zipIdx k).foldl (fun cs (p : Value × Nat) => cs.setIfInBounds (off + p.2) p.1) cs = splice cs (off + k) l
 | [], k, cs => rfl
 | a :: l, k, cs => by rw [List.zipIdx_cons, List.foldl_cons, fold_splice off l (k + 1), splice]; rfl
def PartsAt (sz : Nat) : Nat → List (Nat × Value) → List (List Value) → Prop
 | _, [], [] => True
 | k, (i, v) :: ps, vs :: L => (i = k ∧ v.cells = vs.toArray ∧ vs.length = sz) ∧ PartsAt sz (k + 1) ps L
 | _, _, _ => False
theorem fill_n {sz : Nat} : ∀ (ps : List (Nat × Value)) (L : List (List Value)) (k : Nat) (cs : Array Value), PartsAt sz k ps L → (k + L.length) * sz ≤ cs.size → Instr.fill (fun i => some (i * sz, sz)) cs ps = some (splice cs (k * sz) L.flatten)
 | [], [], k, cs, _, _ => rfl
 | (i, v) :: ps, vs :: L, k, cs, h, hs => by
   obtain ⟨⟨rfl, h2, h3⟩, h4⟩ := h
   have hm : i * sz + sz + L.length * sz ≤ cs.size := by
     rw [List.length_cons, show i + (L.length + 1) = (i + 1) + L.length by omega, Nat.add_mul, Nat.succ_mul] at hs; exact hs
   have hz : v.cells.size = sz := by rw [h2]; simpa using h3
   unfold Instr.fill
   simp only [hz, ne_eq, not_true_eq_false, decide_false, Bool.false_or, decide_eq_true_eq, if_neg (show ¬ i * sz + sz > cs.size by omega)]
   have e : v.cells.zipIdx.foldl (fun cs (p : Value × Nat) => cs.setIfInBounds (i * sz + p.2) p.1) cs = splice cs (i * sz) vs := by
     rw [h2, ← Array.foldl_toList, Array.toList_zipIdx]
     exact fold_splice (i * sz) vs 0 cs
   have g := fill_n ps L (i + 1) (splice cs (i * sz) vs) h4 (by rw [splice_size, show i + 1 + L.length = i + (vs :: L).length by simp; omega]; exact hs)
   have e2 : splice (splice cs (i * sz) vs) ((i + 1) * sz) L.flatten = splice cs (i * sz) (vs :: L).flatten := by
     rw [List.flatten_cons, splice_app, h3, Nat.succ_mul]
   rw [← e2, ← g, ← e]
 | [], _ :: _, _, _, h, _ => h.elim
 | _ :: _, [], _, _, h, _ => h.elim
def EvP (E : Env) (sz : Nat) : Nat → List (Nat × Operand) → List (List Value) → Prop
 | _, [], [] => True
 | k, (i, x) :: ps, vs :: L => (i = k ∧ ∃ v, ev E x = some v ∧ v.cells = vs.toArray ∧ vs.length = sz) ∧ EvP E sz (k + 1) ps L
 | _, _, _ => False
theorem evP_parts {E : Env} {sz : Nat} {ρ : Operand → Value} (hρ : ∀ x v, ev E x = some v → ρ x = v) : ∀ (ps : List (Nat × Operand)) (L : List (List Value)) (k : Nat), EvP E sz k ps L → PartsAt sz k (ps.map fun p => (p.1, ρ p.2)) L
 | [], [], k, _ => trivial
 | (i, x) :: ps, vs :: L, k, h => by
   obtain ⟨⟨h1, v, h2, h3, h4⟩, h5⟩ := h
   refine ⟨⟨h1, ?_, h4⟩, evP_parts hρ ps L (k + 1) h5⟩
   show (ρ x).cells = _
   rw [hρ x v h2, h3]
 | [], _ :: _, _, h => h.elim
 | _ :: _, [], _, h => h.elim
theorem parts_len {sz : Nat} : ∀ (ps : List (Nat × Value)) (L : List (List Value)) (k : Nat), PartsAt sz k ps L → L.flatten.length = L.length * sz
 | [], [], k, _ => by simp
 | (i, v) :: ps, vs :: L, k, h => by
   rw [List.flatten_cons, List.length_append, parts_len ps L (k + 1) h.2, h.1.2.2, List.length_cons, Nat.succ_mul]; omega
 | [], _ :: _, _, h => h.elim
 | _ :: _, [], _, h => h.elim
theorem run_litN {P : Program} {w : World} {t e : TypeId} {n sz : Nat} {ps : List (Nat × Value)} {L : List (List Value)} {z : Value} (hp : PartsAt sz 0 ps L) (hn : L.length = n) (ht : P.underlying t = some (.slice e)) (hi : (P.info? e).map (fun i => (i.zero, i.size)) = some (some z, sz)) (h0 : 0 < n * sz) (hm : n * sz ≤ 16777216) : (Instr.buildSlice t n ps.toArray).run P w = .ok (.slice (some ⟨w.heap.size, 0, none⟩) n n) (w.alloc (.cells L.flatten.toArray e)) := by
 subst hn
 obtain ⟨i0, hi0, hs⟩ := Option.map_eq_some_iff.1 hi
 simp only [Prod.mk.injEq] at hs
 obtain ⟨hs1, hs2⟩ := hs
 have hf : ∀ cs : Array Value, cs.size = L.length * sz → Instr.fill (fun i => some (i * sz, sz)) cs ps = some L.flatten.toArray := fun cs hc => by
   rw [fill_n ps L 0 cs hp (by rw [Nat.zero_add, hc]; exact Nat.le_refl _), Nat.zero_mul, splice_all (by rw [parts_len ps L 0 hp, hc])]
 have hne : ¬ L.length * sz = 0 := by omega
 unfold Instr.buildSlice
 simp only [Sem.run_bind, run_underlying ht, Result.andThen_ok, sizeOf, typeInfo, run_program, hi0, Sem.run_pure, hs2, Sem.run_ite, if_neg hne, if_neg (Nat.not_lt.2 (show L.length * sz ≤ 2 ^ 24 from hm)), gt_iff_lt, zeroValue, hs1]
 rw [hf _ (by simp)]
 simp [newRow]
section
variable {P : Program} {Q : Exit → Act → World → Prop} {N : Nat} {E : Env} {ops : Array Oper} {o : Oper} {rest : List Oper} {d : Nat} {ok0 : Nat → Prop} {w0 w : World} {ms : List Mu} {fo fn : List Fact} {e sz n : Nat} {t : TypeId} {ps : Array (Nat × Operand)} {L : List (List Value)} {z : Value}
theorem Run.litN (ho : o.op = .buildSlice t n ps) (hE : EvP E sz 0 ps.toList L) (hn : L.length = n) (ht : P.underlying t = some (.slice e)) (hi : (P.info? e).map (fun i => (i.zero, i.size)) = some (some z, sz)) (h0 : 0 < n * sz) (hm : n * sz ≤ 16777216) : Run P E o w (.slice (some ⟨w.heap.size, 0, none⟩) n n) (w.alloc (.cells L.flatten.toArray e)) := fun ρ hρ => by
 have h := run_litN (w := w) (evP_parts hρ ps.toList L 0 hE) hn ht hi h0 hm
 unfold execOp
 simp only [ho]
 have e2 : (ps.map fun (p : Nat × Operand) => (p.1, ρ p.2)) = (ps.toList.map fun p => (p.1, ρ p.2)).toArray := by
   apply Array.ext'; simp
 rw [show (ps.map fun x => match x with | (i, x) => (i, ρ x)) = (ps.map fun (p : Nat × Operand) => (p.1, ρ p.2)) from rfl, e2]
 simp [h]
theorem WL.litN (H : St ok0 w0 w ms fo fn) (hg : o.guard = none) (hd : o.dst = some d) (hlt : d < N) (ho : o.op = .buildSlice t n ps) (L : List (List Value)) (hE : EvP E sz 0 ps.toList L) (hn : L.length = n) (ht : P.underlying t = some (.slice e)) (hi : (P.info? e).map (fun i => (i.zero, i.size)) = some (some z, sz)) (h0 : 0 < n * sz) (hm : n * sz ≤ 16777216)
   (h : ∀ v w1, St ok0 w0 w1 (rowM w0.heap.size e sz v n L.flatten :: ms) fo fn → WL P ops Q rest N ((d, v) :: E) w1) : WL P ops Q (o :: rest) N E w :=
 WL.val hg hd hlt (Run.litN ho hE hn ht hi h0 hm) (h _ _ (H.rowNew (below_alloc (Below.refl _ _) _) (by
   have hl : L.flatten.length = n * sz := by
     have hEv : ∀ (ps : List (Nat × Operand)) (L : List (List Value)) (k : Nat), EvP E sz k ps L → L.flatten.length = L.length * sz := by
       intro ps
       induction ps with
       | nil => intro L k h; cases L with
         | nil => simp
         | cons => exact h.elim
       | cons p ps ih => intro L k h; cases L with
         | nil => obtain ⟨i, x⟩ := p; exact h.elim
         | cons vs L =>
           obtain ⟨i, x⟩ := p
           obtain ⟨⟨_, v, _, _, h4⟩, h5⟩ := h
           rw [List.flatten_cons, List.length_append, ih L (k + 1) h5, h4, List.length_cons, Nat.succ_mul]; omega
     rw [hEv ps.toList L 0 hE, hn]
   have := World.ownsRow_lit (base := w.heap.size) (e := e) (size := sz) w L.flatten.toArray n (Nat.le_refl _) (by
     have : n ≤ n * sz := Nat.le_mul_of_pos_right _ (Nat.pos_of_ne_zero (fun h => by subst h; omega))
     simp only [maxLen]; omega) (by simpa using hl)
   simpa using this)))
end
theorem reps_cons {α : Type} {R : α → List Value → Prop} {sz : Nat} {x : α} {xs : List α} {cs I : List Value} (hx : R x cs) (hl : cs.length = sz) (h : Reps R sz xs I) : Reps R sz (x :: xs) (cs ++ I) := by
 refine ⟨by rw [List.length_append, h.1, List.length_cons, hl, Nat.succ_mul]; omega, fun i p hi => ?_⟩
 cases i with
 | zero =>
   have e : x = p := by simpa using hi
   subst e
   rw [Nat.zero_mul, List.drop_zero, List.take_append_of_le_length (by omega), List.take_of_length_le (by omega)]
   exact hx
 | succ i =>
   have e := h.2 i p (by simpa using hi)
   rw [Nat.succ_mul, Nat.add_comm, ← hl, ← List.drop_drop, List.drop_left, hl]
   exact e
def AllL {α : Type} (dd : Kd α) (W : World) : List α → List (List Value) → Prop
 | [], [] => True
 | x :: xs, cs :: L => dd.K W x cs ∧ AllL dd W xs L
 | _, _ => False
theorem reps_lit {α : Type} {dd : Kd α} {W : World} : ∀ {xs : List α} {L : List (List Value)}, AllL dd W xs L → Reps (dd.K W) dd.sz xs L.flatten
 | [], [], _ => Reps.none _ _
 | x :: xs, cs :: L, h => by rw [List.flatten_cons]; exact reps_cons h.1 (dd.K_len h.1) (reps_lit h.2)
 | [], _ :: _, h => h.elim
 | _ :: _, [], h => h.elim
end Go.Proofs.YtoccifnjhbibcaaGreat.XSt
namespace Go.Proofs.YtoccifnjhbibcaaGreat.XSt
open Go.RowKit Go.Proofs.YtoccifnjhbibcaaGreatW.PrintWords Go.Proofs.YtoccifnjhbibcaaGreatW.PrintLast Go.Proofs.YtoccifnjhbibcaaGreatW.PrintMore Go.Proofs.YtoccifnjhbibcaaGreat.XW Go.Proofs.YtoccifnjhbibcaaGreat.XOp Go.Proofs.YtoccifnjhbibcaaGreat.XDraw
set_option linter.unusedVariables false
set_option linter.unusedSimpArgs false
theorem args_eval {E : Env} {a : Act} {n : Nat} (ha : Fits a n E) : ∀ (l : List Operand) (vs : List Value), l.map (ev E) = vs.map some → l.map a.eval = vs
 | [], [], _ => rfl
 | [], _ :: _, h => by cases h
 | _ :: _, [], h => by cases h
 | x :: l, v :: vs, h => by
   rw [List.map_cons, List.map_cons, List.cons.injEq] at h
   rw [List.map_cons, ha.ev x v h.1, args_eval ha l vs h.2]
theorem args_evalA {E : Env} {a : Act} {n : Nat} (ha : Fits a n E) {as : Array Operand} {vs : List Value} (h : as.toList.map (ev E) = vs.map some) : as.map a.eval = vs.toArray := by
 rw [← Array.toList_inj, Array.toList_map]; exact args_eval ha _ _ h
section
variable {P : Program} {Q : Exit → Act → World → Prop} {n fuel d : Nat} {E : Env} {w w1 : World} {S : World → Prop} {ops : Array Oper} {o oi : Oper} {rest : List Oper} {ds : List Nat} {l : Array Bool} {f : FuncId} {fn : Func} {as : Array Operand} {ts : Array TypeId} {args cap : List Value} {R : Ending → World → Prop} {x : Operand}
theorem enters_V (a : Act) (hx : a.eval x = .func (.func f) #[] cap.toArray) (hop : o.op = .call { callee := .value x, args := as, argTypes := ts }) (hf : P.funcs[f]? = some fn) (hname : (fn.name == "runtime.NumGoroutine") = false) (hb : fn.body.isSome = true) (hae : as.map a.eval = args.toArray) : (execOp a.eval o).run P w = .ok (.enter f (args ++ cap).toArray) w := by
 have he := enters_ hf hname hb (args ++ cap).toArray w
 unfold execOp
 simp only [hop, resolve, hae]
 rw [hx]
 simp [Deferred.ofValue, invoke, he]
theorem cv_ (hf : P.funcs[f]? = some fn) (hc : Calls P f (args ++ cap).toArray w R) (h : ∀ e w1, R e w1 → ∃ v, e = .returned v ∧ WL P ops Q rest n ((d, v) :: E) w1)
   (hop : o.op = .call { callee := .value x, args := as, argTypes := ts } := by rfl) (hx : ev E x = some (.func (.func f) #[] cap.toArray) := by rfl) (hargs : as.toList.map (ev E) = args.map some := by rfl) (hg : o.guard = none := by rfl) (hd : o.dst = some d := by rfl) (hlt : d < n := by decide) (hname : (fn.name == "runtime.NumGoroutine") = false := by rfl) (hb : fn.body.isSome = true := by rfl) : WL P ops Q (o :: rest) n E w := fun a ha => by
 refine wpList_plain hg fun K hK => ?_
 have hrun := enters_V (w := w) a (ha.ev _ _ hx) hop hf hname hb (args_evalA ha hargs)
 unfold Oper.wp
 rw [hrun, Oper.upon_enter]
 refine hc.mono fun e w' hh => ?_
 obtain ⟨v, rfl, hk⟩ := h e w' hh
 rw [hd]
 exact hK _ _ (hk _ (ha.put hlt v))
theorem dcv_ (i : Nat) (hw : ∀ a, Fits a n E → Region.wanted oi (yielded ops a.tmps) = true) (hf : P.funcs[f]? = some fn) (hcall : Calls P f (args ++ cap).toArray w R) (h : ∀ e w1, R e w1 → S w1 ∧ ∃ v, e = .returned v ∧ WD P ops Q S ds fuel (l.setIfInBounds i true) n ((d, v) :: E) w1)
   (hi : ops[i]? = some oi := by rfl) (hd : oi.dst = some d := by rfl) (hlt : d < n := by decide) (hc : readyB .any ops l (l.setIfInBounds i true) i = true := by exact one_of rfl (by kernel_rfl)) (hds : i ∉ ds := by decide) (hop : oi.op = .call { callee := .value x, args := as, argTypes := ts } := by rfl) (hx : ev E x = some (.func (.func f) #[] cap.toArray) := by rfl) (hargs : as.toList.map (ev E) = args.map some := by rfl) (hname : (fn.name == "runtime.NumGoroutine") = false := by rfl) (hb : fn.body.isSome = true := by rfl) : WD P ops Q S ds (fuel + 1) l n E w := by
 refine WD.one i hi hd hc hds (fun K hK a ha => ?_)
 refine call_ f (args ++ cap).toArray (hw a ha) hd (enters_V (w := w) a (ha.ev _ _ hx) hop hf hname hb (args_evalA ha hargs)) (hcall.mono fun e w' hh => ?_)
 obtain ⟨h1, v, rfl, hk⟩ := h e w' hh
 exact ⟨v, rfl, hK _ _ h1 hk _ (ha.put hlt v)⟩
theorem Run.makeFunc {g : FuncId} (ho : o.op = .makeFunc (.func g) #[] as) (hc : as.toList.map (ev E) = cap.map some) : Run P E o w (.func (.func g) #[] cap.toArray) w := fun ρ hρ => by
 have e : as.map ρ = cap.toArray := by
   rw [← Array.toList_inj, Array.toList_map]
   have : ∀ (l : List Operand) (vs : List Value), l.map (ev E) = vs.map some → l.map ρ = vs := fun l => by
     induction l with
     | nil => intro vs h; cases vs with | nil => rfl | cons _ _ => cases h
     | cons x l ih =>
       intro vs h
       cases vs with
       | nil => cases h
       | cons v vs =>
         rw [List.map_cons, List.map_cons, List.cons.injEq] at h
         rw [List.map_cons, hρ x v h.1, ih vs h.2]
   exact this _ _ hc
 unfold execOp
 simp [ho, e, Instr.makeFunc]
end
theorem Run.eqv {P : Program} {E : Env} {o : Oper} {w w1 : World} {v v' : Value} (h : v = v') (r : Run P E o w v w1) : Run P E o w v' w1 := h ▸ r
theorem foot_rob {w : World} {b : Nat} {cs : Array Value} {t : TypeId} (h : w.heap[b]? = some (.cells cs t (0, 0))) : Foot (fun W => W.heap[b]? = some (.cells cs t (0, 0))) w (fun _ => True) := fun W hW => (hW b trivial (blk_lt h)).trans h
section
variable {P : Program} {E : Env} {w : World} {o : Oper} {x y z : Operand} {t e : TypeId} {A : Option Addr} {m c lo hi sz : Nat} {i j : Int}
theorem el_of (ht : P.underlying t = some (.slice e)) : P.elem t = e := by unfold Program.elem; rw [ht]
theorem run_sized (ht : (P.info? e).map (·.size) = some sz) : (sizeOf e).run P w = .ok sz w := by
 obtain ⟨i0, hi, hs⟩ := Option.map_eq_some_iff.1 ht
 simp [sizeOf, typeInfo, hi, hs]
theorem Run.slH (ho : o.op = .slice t x none (some y) none) (ht : P.underlying t = some (.slice e)) (hz : (P.info? e).map (·.size) = some sz) (hx : ev E x = some (.slice A m c)) (hy : ev E y = some (.int .i64 j)) (h0 : 0 ≤ j) (h1 : j ≤ (c : Int)) : Run P E o w (sliced A 0 j.toNat c sz) w := fun ρ hρ => by
 have ht' : P.underlying t = some (.slice (P.elem t)) := by rw [el_of ht]; exact ht
 unfold execOp
 simp only [ho, hρ _ _ hx, Option.map_some, Option.map_none, hρ _ _ hy, Sem.run_bind, run_sliceAt_slice w t _ _ _ _ ht', run_slice_h w t A m c ht' .i64 j h0 h1, el_of ht, run_sized hz, Result.andThen_ok, Sem.run_pure]
theorem Run.slLH (ho : o.op = .slice t x (some y) (some z) none) (ht : P.underlying t = some (.slice e)) (hz : (P.info? e).map (·.size) = some sz) (hx : ev E x = some (.slice A m c)) (hy : ev E y = some (.int .i64 i)) (hz2 : ev E z = some (.int .i64 j)) (h0 : 0 ≤ i) (h1 : i ≤ j) (h2 : j ≤ (c : Int)) : Run P E o w (sliced A i.toNat j.toNat c sz) w := fun ρ hρ => by
 have ht' : P.underlying t = some (.slice (P.elem t)) := by rw [el_of ht]; exact ht
 unfold execOp
 simp only [ho, hρ _ _ hx, Option.map_some, Option.map_none, hρ _ _ hy, hρ _ _ hz2, Sem.run_bind, run_sliceAt_slice w t _ _ _ _ ht', run_slice_lh w t A m c ht' .i64 .i64 i j h0 h1 h2, el_of ht, run_sized hz, Result.andThen_ok, Sem.run_pure]
end
section
variable {α : Type} {dd : Kd α}
theorem slc_mid (dd : Kd α) (A : Option Addr) (c : Nat) (xs : List α) (i j : Int) (h0 : 0 ≤ i) (h1 : i ≤ j) (h2 : j ≤ (xs.length : Int)) (hc : xs.length ≤ c) :
   ∃ A' c', sliced A i.toNat j.toNat c dd.sz = .slice A' ((xs.take j.toNat).drop i.toNat).length c' ∧ ((xs.take j.toNat).drop i.toNat).length ≤ c' ∧ ∀ W, dd.C W A xs.length xs → dd.C W A' ((xs.take j.toNat).drop i.toNat).length ((xs.take j.toNat).drop i.toNat) := by
 have e : ((xs.take j.toNat).drop i.toNat).length = j.toNat - i.toNat := by rw [List.length_drop, List.length_take]; omega
 refine ⟨_, c - i.toNat, by rw [e]; rfl, by rw [e]; omega, fun W h => Kd.C_mid h (by omega) (by omega) hc⟩
theorem slc_take (dd : Kd α) (A : Option Addr) (c : Nat) (xs : List α) (j : Int) (h1 : 0 ≤ j) (h2 : j ≤ (xs.length : Int)) (hc : xs.length ≤ c) :
   ∃ A' c', sliced A 0 j.toNat c dd.sz = .slice A' (xs.take j.toNat).length c' ∧ (xs.take j.toNat).length ≤ c' ∧ ∀ W, dd.C W A xs.length xs → dd.C W A' (xs.take j.toNat).length (xs.take j.toNat) := by
 have h := slc_mid dd A c xs 0 j (by omega) (by omega) h2 hc
 exact h
end
section
variable {P : Program} {E : Env} {w : World} {o : Oper} {x y : Operand} {t t2 : TypeId} {v : Value} {cs cs' : Array Value} {r : Bool}
theorem run_eqA (hg : P.eqGuardType P.depth t = false) (op : BinOp) : (eqGuard op t x y (.agg cs) (.agg cs')).run P w = .ok () w := by
 unfold eqGuard
 split <;> simp [hg]
 all_goals (intro h; rw [hg] at h; cases h)
theorem Run.eqS (ho : o.op = .binOp .eql t x y t2) (hx : ev E x = some (.agg cs)) (hy : ev E y = some (.agg cs')) (hg : P.eqGuardType P.depth t = false) (hr : (Op.equal t (.agg cs) (.agg cs')).run P w = .ok r w) : Run P E o w (.bool r) w := fun ρ hρ => by
 unfold execOp
 simp [ho, hρ _ _ hx, hρ _ _ hy, run_eqA hg, Go.binOp, hr]
end
end Go.Proofs.YtoccifnjhbibcaaGreat.XSt
namespace Go.Proofs.YtoccifnjhbibcaaGreat.XSt
open Go.RowKit Go.Proofs.YtoccifnjhbibcaaGreatW.PrintWords Go.Proofs.YtoccifnjhbibcaaGreatW.PrintLast Go.Proofs.YtoccifnjhbibcaaGreatW.PrintMore Go.Proofs.YtoccifnjhbibcaaGreat.XW Go.Proofs.YtoccifnjhbibcaaGreat.XOp Go.Proofs.YtoccifnjhbibcaaGreat.XDraw
set_option linter.unusedVariables false
theorem Reps.app {α : Type} {R : α → List Value → Prop} {sz : Nat} {xs : List α} {I : List Value} (h : Reps R sz xs I) : ∀ (ys : List α) (J : List Value), Reps R sz ys J → Reps R sz (xs ++ ys) (I ++ J) := by
 intro ys J hy
 refine ⟨by rw [List.length_append, h.1, hy.1, List.length_append, Nat.add_mul], fun i p hi => ?_⟩
 have hI := h.1
 by_cases c : i < xs.length
 · rw [List.getElem?_append_left c] at hi
   have h2 := h.2 i p hi
   have h3 : i * sz + sz ≤ I.length := by rw [hI, ← Nat.succ_mul]; exact Nat.mul_le_mul_right _ c
   rw [List.drop_append_of_le_length (by omega), List.take_append_of_le_length (by rw [List.length_drop]; omega)]
   exact h2
 · rw [List.getElem?_append_right (by omega)] at hi
   have h2 := hy.2 (i - xs.length) p hi
   have e : i * sz = I.length + (i - xs.length) * sz := by rw [hI, ← Nat.add_mul]; congr 1; omega
   rw [e, ← List.drop_drop, List.drop_left]
   exact h2
theorem reps_more {α : Type} {dd : Kd α} {W : World} {xs ys : List α} {inner J I : List Value} (hI : I = inner ++ J) (h : Reps (dd.K W) dd.sz xs inner) (h2 : Reps (dd.K W) dd.sz ys J) : Reps (dd.K W) dd.sz (xs ++ ys) I := by rw [hI]; exact Reps.app h ys J h2
section
variable {α : Type} {dd : Kd α} {ok0 : Nat → Prop} {w0 w : World} {ms : List Mu} {fo fn : List Fact} {ad : Addr} {n : Nat}
theorem St.slN {e : Nat} {xs : List (List α)} (h : St ok0 w0 w ms fo fn) (i : Nat) (hi : fn[i]? = some (fun W => (Kd.slice e dd).C W (some ad) n xs)) (j : Int) (h0 : 0 ≤ j) (h1 : j < (n : Int)) :
   ∃ A c, (xs.getD j.toNat []).length ≤ c ∧ St ok0 w0 w ms fo ((fun W => dd.C W A (xs.getD j.toNat []).length (xs.getD j.toNat [])) :: (fun W => W.cell? (ad.add (j.toNat * 1)) = some (.slice A (xs.getD j.toNat []).length c)) :: fn) := by
 obtain ⟨cs, hl, H⟩ := h.elN i hi (by show 0 < 1; omega) [] j h0 h1
 obtain ⟨⟨A, c, rfl, hle, hC⟩, hcell⟩ := H.getN 0 rfl
 have H2 := H.deriveN (p := fun W => W.cell? (ad.add (j.toNat * 1)) = some (.slice A (xs.getD j.toNat []).length c)) (fun W hW => by
   have := hW.1.2 0 _ rfl
   rw [XLoad.add_add] at this
   exact this)
 have H3 := H2.deriveN (p := fun W => dd.C W A (xs.getD j.toNat []).length (xs.getD j.toNat [])) (fun W hW => by
   obtain ⟨A', c', e1, _, hC'⟩ := hW.2.1.1
   injection e1 with e1
   injection e1 with e1 e2 e3
   rw [e1]; exact hC')
 exact ⟨A, c, hle, H3.pickN (fun W hW => ⟨hW.1, hW.2.1, hW.2.2.2⟩)⟩
end
section
variable {P : Program} {E : Env} {w : World} {o : Oper} {x y : Operand} {ts : Array TypeId} {k : IntKind} {i j : Int}
theorem Run.max2 (ho : o.op = .call { callee := .builtin .max, args := #[x, y], argTypes := ts }) (hx : ev E x = some (.int k i)) (hy : ev E y = some (.int k j)) : Run P E o w (.int k (if i < j then j else i)) w := fun ρ hρ => by
 unfold execOp
 simp [ho, hρ _ _ hx, hρ _ _ hy, resolve, invoke, builtin, Builtin.max_, Builtin.max2]
theorem Run.min2 (ho : o.op = .call { callee := .builtin .min, args := #[x, y], argTypes := ts }) (hx : ev E x = some (.int k i)) (hy : ev E y = some (.int k j)) : Run P E o w (.int k (if j < i then j else i)) w := fun ρ hρ => by
 unfold execOp
 simp [ho, hρ _ _ hx, hρ _ _ hy, resolve, invoke, builtin, Builtin.min_, Builtin.min2]
end
end Go.Proofs.YtoccifnjhbibcaaGreat.XSt
namespace Go.Proofs.YtoccifnjhbibcaaGreat.XSt
open Go.RowKit Go.Proofs.YtoccifnjhbibcaaGreatW.PrintWords Go.Proofs.YtoccifnjhbibcaaGreatW.PrintLast Go.Proofs.YtoccifnjhbibcaaGreatW.PrintMore Go.Proofs.YtoccifnjhbibcaaGreat.XW Go.Proofs.YtoccifnjhbibcaaGreat.XOp Go.Proofs.YtoccifnjhbibcaaGreat.XDraw
set_option linter.unusedVariables false
def RestOf (w w' : World) (b : Nat) : Prop := ∀ k, k < w.heap.size → k ≠ b → w'.heap[k]? = w.heap[k]?
def keepM (w : World) (bs : List Nat) : Mu := ⟨bs, fun W => ∀ k, k ∈ bs → W.heap[k]? = w.heap[k]?⟩
def frameF (w : World) (b : Nat) (bs : List Nat) : Fact := fun W => ∀ k, k < w.heap.size → k ∉ b :: bs → W.heap[k]? = w.heap[k]?
section
variable {ok0 : Nat → Prop} {w0 w w1 w' : World} {ms : List Mu} {fo fn ps : List Fact} {p : Fact} {b : Nat} {bs : List Nat} {cs cs' : Array Value} {t : TypeId} {x : Obj}
theorem bks_two : bks [boxM b cs t, keepM w bs] = b :: bs := by show [b] ++ (bs ++ []) = b :: bs; simp
theorem St.startM (hB : Below w0.heap.size w0 w) (hn : (b :: bs).Nodup) (hl : ∀ k, k ∈ b :: bs → w0.heap.size ≤ k ∧ k < w.heap.size) (hb : w.heap[b]? = some (.cells cs t (0, 0))) (h : Foot (fun W => AllF W fo) w (fun k => k ∉ b :: bs)) :
   St (fun _ => True) w0 w [boxM b cs t, keepM w bs] (frameF w b bs :: fo) [] := by
 refine ⟨hB, ?_, fun _ _ => trivial, ⟨foot_box hb, ?_, trivial⟩, by rw [bks_two]; exact hn, fun k hk => by rw [bks_two] at hk; exact hl k hk⟩
 · refine foot_and (fun W hW k hk hn2 => hW k ⟨fun _ => trivial, by rw [bks_two]; exact hn2⟩ hk) (h.mono (fun k hk => ?_))
   exact ⟨fun _ => trivial, by rw [bks_two]; exact hk⟩
 · intro W hW k hk
   exact hW k hk (hl k (List.mem_cons_of_mem _ hk)).2
theorem rest_of (hf : frameF w b bs w') (hk : (keepM w bs).P w') : RestOf w w' b := fun k hlt hne => by
 by_cases h : k ∈ bs
 · exact hk k h
 · exact hf k hlt (fun h2 => by rcases List.mem_cons.1 h2 with h2 | h2; exact hne h2; exact h h2)
theorem foot_freshM (h : Foot p w' (okS (fun _ => False) w0.heap.size (bks [boxM b cs t, keepM w bs]))) : Foot p w' (fun k => w0.heap.size ≤ k ∧ k ∉ b :: bs) := h.mono (fun k hk => ⟨Nat.le_of_not_lt (fun hl => hk.1 hl), by have := hk.2; rwa [bks_two] at this⟩)
theorem rest_size (h : RestOf w w1 b) (hb : w1.heap[b]? = some x) (hlt : b < w.heap.size) : w.heap.size ≤ w1.heap.size := by
 refine Classical.byContradiction fun hc => ?_
 by_cases e : w.heap.size - 1 = b
 · obtain ⟨h1, _⟩ := Array.getElem?_eq_some_iff.1 hb
   omega
 · have h2 := h (w.heap.size - 1) (by omega) e
   rw [Array.getElem?_eq_none (by omega), Array.getElem?_eq_getElem (by omega)] at h2
   cases h2
theorem mem_split {i : Nat} (hi : ms[i]? = some (boxM b cs t)) (k : Nat) : k ∈ bks ms ↔ k ∈ b :: bks (ms.eraseIdx i) := by
 obtain ⟨e1, _, e3⟩ := split_at hi
 rw [e3]
 generalize ms.take i = l1 at *
 generalize ms.drop (i + 1) = l2 at *
 rw [e1, bks_app, bks, bks_app]
 simp only [boxM, List.mem_append, List.mem_cons, List.not_mem_nil, or_false]
 constructor
 · rintro (h | h | h)
   · exact .inr (.inl h)
   · exact .inl h
   · exact .inr (.inr h)
 · rintro (h | h | h)
   · exact .inr (.inl h)
   · exact .inl h
   · exact .inr (.inr h)
theorem mem_set {i : Nat} (hi : ms[i]? = some (boxM b cs t)) (k : Nat) : k ∈ bks (ms.set i (boxM b cs' t)) ↔ k ∈ b :: bks (ms.eraseIdx i) := by
 have h1 : (ms.set i (boxM b cs' t))[i]? = some (boxM b cs' t) := List.getElem?_set_self (List.getElem?_eq_some_iff.1 hi).1
 rw [mem_split h1 k]
 obtain ⟨e1, e2, e3⟩ := split_at hi
 obtain ⟨_, _, e4⟩ := split_at h1
 have : (ms.set i (boxM b cs' t)).eraseIdx i = ms.eraseIdx i := by
   rw [e3, e4, e2 (boxM b cs' t)]
   have hl : (ms.take i).length = i := by rw [List.length_take]; have := (List.getElem?_eq_some_iff.1 hi).1; omega
   rw [List.take_left' hl, show i + 1 = (ms.take i).length + 1 by omega, ← List.drop_drop, List.drop_left]; rfl
 rw [this]
theorem St.nodupM (h : St ok0 w0 w ms fo fn) (i : Nat) (hi : ms[i]? = some (boxM b cs t)) : (b :: bks (ms.eraseIdx i)).Nodup := by
 obtain ⟨e1, _, e3⟩ := split_at hi
 have hd := h.d
 rw [e3]
 rw [e1] at hd
 generalize ms.take i = l1 at *
 generalize ms.drop (i + 1) = l2 at *
 rw [bks_app, bks] at hd
 rw [bks_app]
 obtain ⟨d1, d2, d3⟩ := List.nodup_append.1 hd
 obtain ⟨d4, d5, d6⟩ := List.nodup_append.1 d2
 refine List.nodup_cons.2 ⟨fun hm => ?_, List.nodup_append.2 ⟨d1, d5, fun a ha c hc => d3 a ha c (List.mem_append_right _ hc)⟩⟩
 rcases List.mem_append.1 hm with hm | hm
 · exact d3 b hm b (List.mem_append_left _ (by simp [boxM])) rfl
 · exact d6 b (by simp [boxM]) b hm rfl
theorem St.boundM (h : St ok0 w0 w ms fo fn) (i : Nat) (hi : ms[i]? = some (boxM b cs t)) : ∀ k, k ∈ b :: bks (ms.eraseIdx i) → w0.heap.size ≤ k ∧ k < w.heap.size := fun k hk => h.l k ((mem_split hi k).2 hk)
theorem St.footOM (h : St ok0 w0 w ms fo fn) (i : Nat) (hi : ms[i]? = some (boxM b cs t)) (j : Nat) (hj : fo[j]? = some p) : Foot p w (fun k => k ∉ b :: bks (ms.eraseIdx i)) := (h.footO j hj).mono (fun k hk h2 => hk.2 ((mem_split hi k).2 h2))
theorem St.footNM (h : St ok0 w0 w ms fo fn) (i : Nat) (hi : ms[i]? = some (boxM b cs t)) (j : Nat) (hj : fn[j]? = some p) : Foot p w (fun k => k ∉ b :: bks (ms.eraseIdx i)) := (h.footN j hj).mono (fun k hk h2 => hk.2 ((mem_split hi k).2 h2))
theorem St.calledM (h : St ok0 w0 w ms fo fn) (i : Nat) (hi : ms[i]? = some (boxM b cs t)) (hB : Below w0.heap.size w0 w1) (hr : RestOf w w1 b) (hb : w1.heap[b]? = some (.cells cs' t (0, 0))) : St ok0 w0 w1 (ms.set i (boxM b cs' t)) fo fn := by
 have hlt := (h.boundM i hi b (List.mem_cons_self ..)).2
 exact h.put i hi hB (rest_size hr hb hlt) (fun k hk hn => hr k hk (fun e => hn (by simp [boxM, e]))) (foot_box hb) (by simp [boxM]) (fun k hk => .inl hk)
theorem St.newM (h : St ok0 w0 w ms fo fn) (i : Nat) (hi : ms[i]? = some (boxM b cs t)) (hB : Below w0.heap.size w0 w1) (hr : RestOf w w1 b) (hb : w1.heap[b]? = some (.cells cs' t (0, 0))) (hp : Foot (fun W => AllF W ps) w1 (fun k => w0.heap.size ≤ k ∧ k ∉ b :: bks (ms.eraseIdx i))) : St ok0 w0 w1 (ms.set i (boxM b cs' t)) fo (ps ++ fn) := by
 have h1 := (h.calledM i hi hB hr hb).addN (p := fun W => AllF W ps) (hp.mono (fun k hk => ⟨fun hlt => absurd hk.1 (Nat.not_le.2 hlt), fun h2 => hk.2 ((mem_set hi k).1 h2)⟩))
 refine h1.pickN (fun W hW => ?_)
 obtain ⟨a, c⟩ := hW
 clear hp h1
 induction ps with
 | nil => exact c
 | cons q ps ih => exact ⟨a.1, ih a.2⟩
end
section
variable {P : Program} {E : Env} {w : World} {o : Oper} {x y : Operand} {t s : TypeId} {ad : Addr} {k k' : IntKind} {i j : Int} {ps : Array (Nat × Operand)} {vs : List (Nat × Value)} {cells : Array Value}
theorem Run.nilCheck (ho : o.op = .nilCheck x) (hx : ev E x = some (.pointer (some ad))) : Run P E o w (.pointer (some ad)) w := fun ρ hρ => by unfold execOp; simp [ho, hρ _ _ hx]
def EvB (E : Env) : List (Nat × Operand) → List (Nat × Value) → Prop
 | [], [] => True
 | (i, x) :: ps, (j, v) :: vs => (i = j ∧ ev E x = some v) ∧ EvB E ps vs
 | _, _ => False
theorem evB_map {E : Env} {ρ : Operand → Value} (hρ : ∀ x v, ev E x = some v → ρ x = v) : ∀ (ps : List (Nat × Operand)) (vs : List (Nat × Value)), EvB E ps vs → ps.map (fun p => (p.1, ρ p.2)) = vs
 | [], [], _ => rfl
 | (i, x) :: ps, (j, v) :: vs, h => by
   obtain ⟨⟨rfl, h2⟩, h3⟩ := h
   rw [List.map_cons, evB_map hρ ps vs h3, hρ x v h2]
 | [], _ :: _, h => h.elim
 | _ :: _, [], h => h.elim
theorem Run.build (ho : o.op = .build t ps) (vs : List (Nat × Value)) (hE : EvB E ps.toList vs) (hc : P.built t vs = some cells) : Run P E o w (.agg cells) w := fun ρ hρ => by
 have e : (ps.map fun (p : Nat × Operand) => (p.1, ρ p.2)).toList = vs := by rw [Array.toList_map]; exact evB_map hρ ps.toList vs hE
 have h := run_build (P := P) w t (ps.map fun (p : Nat × Operand) => (p.1, ρ p.2)) cells (by rw [e]; exact hc)
 unfold execOp
 simp only [ho]
 rw [show (ps.map fun x => match x with | (i, x) => (i, ρ x)) = (ps.map fun (p : Nat × Operand) => (p.1, ρ p.2)) from rfl]
 simp [h]
end
end Go.Proofs.YtoccifnjhbibcaaGreat.XSt
namespace Go.Proofs.YtoccifnjhbibcaaGreat.XSt
open Go.RowKit Go.Proofs.YtoccifnjhbibcaaGreatW.PrintWords Go.Proofs.YtoccifnjhbibcaaGreatW.PrintLast Go.Proofs.YtoccifnjhbibcaaGreatW.PrintMore Go.Proofs.YtoccifnjhbibcaaGreat.XW Go.Proofs.YtoccifnjhbibcaaGreat.XOp Go.Proofs.YtoccifnjhbibcaaGreat.XDraw
set_option linter.unusedVariables false
def AllP (W : World) : List Mu → Prop
 | [] => True
 | m :: ms => m.P W ∧ AllP W ms
def SF (fo fn : List Fact) (KM : List Mu) : World → Prop := fun W => AllF W fo ∧ AllF W fn ∧ AllP W KM
section
variable {P : Program} {Q : Exit → Act → World → Prop} {N m fuel d : Nat} {E : Env} {w w1 : World} {S : World → Prop} {ops : Array Oper} {oi : Oper} {ds : List Nat} {v : Value} {l : Array Bool} {ok0 : Nat → Prop} {w0 : World} {ms : List Mu} {fo fn : List Fact} {e sz n c : Nat} {inner : List Value} {t ty : TypeId} {x y : Operand} {cs cs' : Array Value} {ad : Addr}
theorem St.nowO (h : St ok0 w0 w ms fo fn) : AllF w fo := h.o.now
theorem St.nowN (h : St ok0 w0 w ms fo fn) : AllF w fn := h.n.now
theorem WC.drawW {id : Nat} (H : St ok0 w0 w ms fo fn) (KM : List Mu) (hK : ∀ w1, St ok0 w0 w1 ms fo fn → AllP w1 KM) (ds : List Nat) (hm : P.follows .mixedOrders = true) (hn : ops.size = m) (h : ∀ w1, St ok0 w0 w1 ms fo fn → WD P ops Q (SF fo fn KM) ds m (Array.replicate m false) N E w1) : WC P (.region id ops true) Q N E w := fun a ha =>
 start_ _ hm hn rfl ⟨H.drew.nowO, H.drew.nowN, hK _ H.drew⟩ (fun _ => h _ H.drew a ha)
theorem dv_ (i : Nat) (hw : ∀ a, Fits a N E → Region.wanted oi (yielded ops a.tmps) = true) (hr : Run P E oi w v w1) (hS : S w1) (h : WD P ops Q S ds fuel (l.setIfInBounds i true) N ((d, v) :: E) w1)
   (hi : ops[i]? = some oi := by rfl) (hd : oi.dst = some d := by rfl) (hlt : d < N := by decide) (hc : readyB .any ops l (l.setIfInBounds i true) i = true := by exact one_of rfl (by kernel_rfl)) (hds : i ∉ ds := by decide) : WD P ops Q S ds (fuel + 1) l N E w := by
 refine WD.one i hi hd hc hds (fun K hK a ha => ?_)
 exact value_ (hw a ha) hd (hr _ (ag ha)) (hK _ _ hS h _ (ha.put hlt v))
theorem dl_ (i : Nat) (hr : RunU P E oi w w1) (h : WD P ops Q S ds fuel (l.setIfInBounds i true) N E w1)
   (hi : ops[i]? = some oi := by rfl) (hd : oi.dst = none := by rfl) (hg : oi.guard = none := by rfl) (hc : readyB .any ops l (l.setIfInBounds i true) i = true := by exact one_of rfl (by kernel_rfl)) (hds : i ∈ ds := by decide) : WD P ops Q S ds (fuel + 1) l N E w := by
 intro a ha
 refine last_ _ hi hd hc hds (fun K hK => ?_)
 rw [if_pos (by simp [Region.wanted, hg])]
 unfold Oper.wp
 rw [hr _ (ag ha), Oper.upon_skip, hd]
 exact hK.out _ _ (h _ ha)
theorem WD.storeL (i : Nat) (H : St ok0 w0 w ms fo fn) (q : Nat) {b j : Nat} (hq : ms[q]? = some (boxM b cs ty)) (ho : oi.op = .store t x y) (hx : ev E x = some (.pointer (some ⟨b, j, none⟩))) (hy : ev E y = some v) (hv : v.oneCell' = true) (hz : (P.info? t).map (·.size) = some 1) (hj : j < cs.size) (e : cs.setIfInBounds j v = cs')
   (h : ∀ w1, St ok0 w0 w1 (ms.set q (boxM b cs' ty)) fo fn → WD P ops Q S ds fuel (l.setIfInBounds i true) N E w1)
   (hi : ops[i]? = some oi := by rfl) (hd : oi.dst = none := by rfl) (hg : oi.guard = none := by rfl) (hc : readyB .any ops l (l.setIfInBounds i true) i = true := by exact one_of rfl (by kernel_rfl)) (hds : i ∈ ds := by decide) : WD P ops Q S ds (fuel + 1) l N E w :=
 dl_ i (RunU.store ho hx hy hv hz (H.mu q hq) hj) (h _ (H.store q hq j v e)) hi hd hg hc hds
theorem append_run (H : St ok0 w0 w ms fo fn) (q : Nat) (hq : ms[q]? = some (rowM w0.heap.size e sz v n inner)) {s : Operand} (ho : oi.op = .call { callee := .builtin .append, args := #[s, x], argTypes := #[t, t] })
   (z : Value) (bytes : Nat) (ht : P.underlying t = some (.slice e)) (hinfo : (P.info? e).map (fun i => (i.zero, i.size, i.bytes)) = some (some z, sz, bytes)) (hz : z.cells.size = sz) (hs0 : 0 < sz) (hb0 : 0 < bytes)
   (hs : ev E s = some v) {m : Nat} (hx : ev E x = some (.slice (some ad) m c)) (news : List Value) (hl : news.length = m * sz) (hnews : ∀ j u, news[j]? = some u → w.cell? (ad.add j) = some u) (h1 : ∀ u ∈ news, u.oneCell' = true) (hbytes : (n + m) * bytes ≤ 140737488355328) (n' : Nat) (hn : n + m = n') :
   ∃ v1 w1, Run P E oi w v1 w1 ∧ St ok0 w0 w1 (ms.set q (rowM w0.heap.size e sz v1 n' (inner ++ news))) fo fn := by
 subst hn
 obtain ⟨i0, hi0, hzz⟩ := Option.map_eq_some_iff.1 hinfo
 simp only [Prod.mk.injEq] at hzz
 obtain ⟨hz0, hz1, hz2⟩ := hzz
 have hlen : n + m ≤ 140737488355328 := Nat.le_trans (Nat.le_mul_of_pos_right _ hb0) hbytes
 obtain ⟨v', w', hr, h2, h3, h4, h5⟩ := run_append_own_at (P := P) w w0.heap.size t oi.type e i0 z sz bytes ht hi0 hz0 hz1 hz2 hz hs0 v n inner (H.mu q hq) ad m c news hl hnews h1 (by simp only [maxLen]; omega) hbytes H.size
 refine ⟨v', w', fun ρ hρ => ?_, H.grown q hq h2 h3 h5⟩
 unfold execOp
 simp only [ho, resolve, invoke, builtin, Sem.run_bind, Sem.run_pure, Result.andThen_ok, List.map_toArray, List.map_cons, List.map_nil, hρ _ _ hs, hρ _ _ hx, hr]
theorem WD.append (i : Nat) (hw : ∀ a, Fits a N E → Region.wanted oi (yielded ops a.tmps) = true) (H : St ok0 w0 w ms fo fn) (q : Nat) (hq : ms[q]? = some (rowM w0.heap.size e sz v n inner)) {s : Operand} (ho : oi.op = .call { callee := .builtin .append, args := #[s, x], argTypes := #[t, t] })
   (z : Value) (bytes : Nat) (ht : P.underlying t = some (.slice e)) (hinfo : (P.info? e).map (fun i => (i.zero, i.size, i.bytes)) = some (some z, sz, bytes)) (hz : z.cells.size = sz) (hs0 : 0 < sz) (hb0 : 0 < bytes)
   (hs : ev E s = some v) {m : Nat} (hx : ev E x = some (.slice (some ad) m c)) (news : List Value) (hl : news.length = m * sz) (hnews : ∀ j u, news[j]? = some u → w.cell? (ad.add j) = some u) (h1 : ∀ u ∈ news, u.oneCell' = true) (hbytes : (n + m) * bytes ≤ 140737488355328) (n' : Nat) (hn : n + m = n')
   (h : ∀ v1 w1 I, I = inner ++ news → St ok0 w0 w1 (ms.set q (rowM w0.heap.size e sz v1 n' I)) fo fn → S w1 ∧ WD P ops Q S ds fuel (l.setIfInBounds i true) N ((d, v1) :: E) w1)
   (hi : ops[i]? = some oi := by rfl) (hd : oi.dst = some d := by rfl) (hlt : d < N := by decide) (hc : readyB .any ops l (l.setIfInBounds i true) i = true := by exact one_of rfl (by kernel_rfl)) (hds : i ∉ ds := by decide) : WD P ops Q S ds (fuel + 1) l N E w := by
 obtain ⟨v1, w1, hr, H1⟩ := append_run H q hq ho z bytes ht hinfo hz hs0 hb0 hs hx news hl hnews h1 hbytes n' hn
 have g := h v1 w1 _ rfl H1
 exact dv_ i hw hr g.1 g.2 hi hd hlt hc hds
end
end Go.Proofs.YtoccifnjhbibcaaGreat.XSt
namespace Go.Proofs.YtoccifnjhbibcaaGreat.XSt
open Go.RowKit Go.Proofs.YtoccifnjhbibcaaGreatW.PrintWords Go.Proofs.YtoccifnjhbibcaaGreatW.PrintLast Go.Proofs.YtoccifnjhbibcaaGreatW.PrintMore Go.Proofs.YtoccifnjhbibcaaGreat.XW Go.Proofs.YtoccifnjhbibcaaGreat.XOp Go.Proofs.YtoccifnjhbibcaaGreat.XDraw
set_option linter.unusedVariables false
section
variable {α : Type} {dd : Kd α} {w : World} {ok : Nat → Prop} {A : Option Addr} {n : Nat} {xs : List α}
theorem allL_of {W : World} (c : Nat → List Value) : ∀ (xs : List α) (k : Nat), (∀ i x, xs[i]? = some x → dd.K W x (c (k + i))) → AllL dd W xs ((List.range xs.length).map fun i => c (k + i))
 | [], k, h => trivial
 | x :: xs, k, h => by
   rw [List.length_cons, List.range_succ_eq_map, List.map_cons, List.map_map]
   refine ⟨by have := h 0 x rfl; exact this, ?_⟩
   have g := allL_of c xs (k + 1) (fun i y hy => by have := h (i + 1) y (by simpa using hy); rwa [show k + (i + 1) = k + 1 + i by omega] at this)
   have e : ((List.range xs.length).map ((fun i => c (k + i)) ∘ Nat.succ)) = (List.range xs.length).map fun i => c (k + 1 + i) := by
     apply List.map_congr_left; intro i _; show c (k + (i + 1)) = _; congr 1; omega
   rw [e]; exact g
theorem flat_get (c : Nat → List Value) (sz : Nat) (hs : 0 < sz) (hc : ∀ i, i < n → (c i).length = sz) (m : Nat) (hm : m ≤ n) : (((List.range m).map c).flatten).length = m * sz ∧ ∀ j u, (((List.range m).map c).flatten)[j]? = some u → ∃ i q, i < m ∧ j = i * sz + q ∧ (c i)[q]? = some u := by
 induction m with
 | zero => exact ⟨by simp, fun j u h => by simp at h⟩
 | succ m ih =>
   obtain ⟨h1, h2⟩ := ih (by omega)
   have e : ((List.range (m + 1)).map c).flatten = ((List.range m).map c).flatten ++ c m := by rw [List.range_succ, List.map_append, List.flatten_append]; simp
   rw [e]
   refine ⟨by rw [List.length_append, h1, hc m (by omega), Nat.succ_mul], fun j u hj => ?_⟩
   by_cases hlt : j < m * sz
   · rw [List.getElem?_append_left (by omega)] at hj
     obtain ⟨i, q, a, b, d⟩ := h2 j u hj
     exact ⟨i, q, by omega, b, d⟩
   · rw [List.getElem?_append_right (by omega), h1] at hj
     exact ⟨m, j - m * sz, by omega, by omega, hj⟩
theorem foot_all (h : Foot (fun W => dd.C W A n xs) w ok) (hs : 0 < dd.sz) (hn : xs.length = n) : ∃ L : List Value, L.length = n * dd.sz ∧ (∀ u ∈ L, u.oneCell' = true) ∧ Foot (fun W => Reps (dd.K W) dd.sz xs L) w ok ∧ (0 < n → ∃ ad, A = some ad ∧ ∀ j u, L[j]? = some u → w.cell? (ad.add j) = some u) := by
 by_cases hz : n = 0
 · subst hz
   have : xs = [] := List.eq_nil_of_length_eq_zero hn
   subst this
   exact ⟨[], by simp, (fun u hu => by cases hu), (fun W _ => Reps.none _ _), fun h0 => by omega⟩
 · have hne : xs ≠ [] := fun e => hz (by rw [← hn, e]; rfl)
   let z := xs.head hne
   have hel : ∀ i : Nat, i < n → ∃ c : List Value, c.length = dd.sz ∧ ∃ ad, A = some ad ∧ Foot (fun W => dd.K W (xs.getD i z) c ∧ ∀ j u, c[j]? = some u → W.cell? ((ad.add (i * dd.sz)).add j) = some u) w ok := fun i hi => by
     obtain ⟨ad, c, h1, h2, h3⟩ := foot_elem h hs z (i : Int) (by omega) (by omega)
     rw [Int.toNat_natCast] at h3
     exact ⟨c, h2, ad, h1, h3⟩
   let c : Nat → List Value := fun i => if hi : i < n then (hel i hi).choose else []
   have hc : ∀ i (hi : i < n), c i = (hel i hi).choose := fun i hi => dif_pos hi
   have hcl : ∀ i, i < n → (c i).length = dd.sz := fun i hi => by rw [hc i hi]; exact (hel i hi).choose_spec.1
   obtain ⟨ad, hA, _⟩ := (hel 0 (by omega)).choose_spec.2
   have hF : ∀ i, i < n → Foot (fun W => dd.K W (xs.getD i z) (c i) ∧ ∀ j u, (c i)[j]? = some u → W.cell? ((ad.add (i * dd.sz)).add j) = some u) w ok := fun i hi => by
     obtain ⟨ad', hA', hf⟩ := (hel i hi).choose_spec.2
     rw [hA] at hA'
     injection hA' with e
     subst e
     rw [hc i hi]; exact hf
   obtain ⟨hl, hg⟩ := flat_get c dd.sz hs hcl n (Nat.le_refl _)
   have hK : ∀ W, (∀ k, ok k → k < w.heap.size → W.heap[k]? = w.heap[k]?) → AllL dd W xs ((List.range xs.length).map c) := fun W hW => by
     have := allL_of (dd := dd) (W := W) c xs 0 (fun i x hx => by
       have hi : i < n := by have := (List.getElem?_eq_some_iff.1 hx).1; omega
       have := (hF i hi W hW).1
       rw [List.getD_eq_getElem?_getD, hx] at this
       rw [Nat.zero_add]; exact this)
     simpa using this
   refine ⟨((List.range n).map c).flatten, hl, fun u hu => ?_, fun W hW => ?_, fun _ => ⟨ad, hA, fun j u hj => ?_⟩⟩
   · obtain ⟨l, hl1, hl2⟩ := List.mem_flatten.1 hu
     obtain ⟨i, hi, rfl⟩ := List.mem_map.1 hl1
     have hi := List.mem_range.1 hi
     exact Kd.K_one _ (hF i hi).now.1 u hl2
   · have := reps_lit (hK W hW)
     rwa [hn] at this
   · obtain ⟨i, q, hi, rfl, hq⟩ := hg j u hj
     have := (hF i hi).now.2 q u hq
     rwa [XLoad.add_add] at this
end
section
variable {P : Program} {Q : Exit → Act → World → Prop} {N : Nat} {E : Env} {ops : Array Oper} {o : Oper} {rest : List Oper} {d : Nat} {ok0 : Nat → Prop} {w0 w : World} {ms : List Mu} {fo fn : List Fact} {e sz n m c : Nat} {v : Value} {inner : List Value} {t : TypeId} {s x : Operand} {A : Option Addr}
theorem append_none (H : St ok0 w0 w ms fo fn) (q : Nat) (hq : ms[q]? = some (rowM w0.heap.size e sz v n inner)) (ho : o.op = .call { callee := .builtin .append, args := #[s, x], argTypes := #[t, t] })
   (ht : P.underlying t = some (.slice e)) (hz : (P.info? e).map (·.size) = some sz) (hs : ev E s = some v) (hx : ev E x = some (.slice none 0 c)) : Run P E o w v w := fun ρ hρ => by
 obtain ⟨i0, hi0, hs0⟩ := Option.map_eq_some_iff.1 hz
 have hrow : w.ownsRow w0.heap.size e sz v n inner := H.mu q hq
 unfold execOp
 rcases hrow.2 with ⟨rfl, rfl⟩ | ⟨g, cap, cur, rfl, _, _, hn, _⟩
 · simp [ho, hρ _ _ hs, hρ _ _ hx, resolve, invoke, builtin, Builtin.append_, run_underlying ht, sizeOf, typeInfo, hi0, Builtin.lenOf, Builtin.firstCells]
 · simp [ho, hρ _ _ hs, hρ _ _ hx, resolve, invoke, builtin, Builtin.append_, run_underlying ht, sizeOf, typeInfo, hi0, Builtin.lenOf, Builtin.firstCells, hn, storeCells]
theorem appendL_run (H : St ok0 w0 w ms fo fn) (q : Nat) (hq : ms[q]? = some (rowM w0.heap.size e sz v n inner)) (ho : o.op = .call { callee := .builtin .append, args := #[s, x], argTypes := #[t, t] })
   (z : Value) (bytes : Nat) (ht : P.underlying t = some (.slice e)) (hinfo : (P.info? e).map (fun i => (i.zero, i.size, i.bytes)) = some (some z, sz, bytes)) (hz : z.cells.size = sz) (hs0 : 0 < sz) (hb0 : 0 < bytes)
   (hs : ev E s = some v) (hx : ev E x = some (.slice A m c)) (L : List Value) (hl : L.length = m * sz) (hcell : 0 < m → ∃ ad, A = some ad ∧ ∀ j u, L[j]? = some u → w.cell? (ad.add j) = some u) (h1 : ∀ u ∈ L, u.oneCell' = true) (hbytes : (n + m) * bytes ≤ 140737488355328) (n' : Nat) (hn : n + m = n') :
   ∃ v1 w1, Run P E o w v1 w1 ∧ St ok0 w0 w1 (ms.set q (rowM w0.heap.size e sz v1 n' (inner ++ L))) fo fn := by
 cases A with
 | some ad =>
   refine append_run H q hq ho z bytes ht hinfo hz hs0 hb0 hs hx L hl (fun j u hj => ?_) h1 hbytes n' hn
   have hm : 0 < m := Nat.pos_of_ne_zero (fun e0 => by
     subst e0
     rw [Nat.zero_mul] at hl
     rw [List.eq_nil_of_length_eq_zero hl] at hj
     simp at hj)
   obtain ⟨ad', e1, h2⟩ := hcell hm
   injection e1 with e1
   subst e1
   exact h2 j u hj
 | none =>
   have hm : m = 0 := Nat.eq_zero_of_not_pos (fun h => by obtain ⟨ad, e1, _⟩ := hcell h; cases e1)
   subst hm
   rw [Nat.zero_mul] at hl
   obtain rfl := List.eq_nil_of_length_eq_zero hl
   obtain ⟨i0, hi0, hzz⟩ := Option.map_eq_some_iff.1 hinfo
   simp only [Prod.mk.injEq] at hzz
   refine ⟨v, w, append_none H q hq ho ht (by rw [hi0]; simp [hzz.2.1]) hs hx, ?_⟩
   rw [Nat.add_zero] at hn
   subst hn
   rw [List.append_nil]
   obtain ⟨g1, g2⟩ := List.getElem?_eq_some_iff.1 hq
   rw [← g2, List.set_getElem_self]
   exact H
theorem WL.appendL (H : St ok0 w0 w ms fo fn) (q : Nat) (hq : ms[q]? = some (rowM w0.heap.size e sz v n inner)) (hg : o.guard = none) (hd : o.dst = some d) (hlt : d < N) (ho : o.op = .call { callee := .builtin .append, args := #[s, x], argTypes := #[t, t] })
   (z : Value) (bytes : Nat) (ht : P.underlying t = some (.slice e)) (hinfo : (P.info? e).map (fun i => (i.zero, i.size, i.bytes)) = some (some z, sz, bytes)) (hz : z.cells.size = sz) (hs0 : 0 < sz) (hb0 : 0 < bytes)
   (hs : ev E s = some v) (hx : ev E x = some (.slice A m c)) (L : List Value) (hl : L.length = m * sz) (hcell : 0 < m → ∃ ad, A = some ad ∧ ∀ j u, L[j]? = some u → w.cell? (ad.add j) = some u) (h1 : ∀ u ∈ L, u.oneCell' = true) (hbytes : (n + m) * bytes ≤ 140737488355328) (n' : Nat) (hn : n + m = n')
   (h : ∀ v1 w1 I, I = inner ++ L → St ok0 w0 w1 (ms.set q (rowM w0.heap.size e sz v1 n' I)) fo fn → WL P ops Q rest N ((d, v1) :: E) w1) : WL P ops Q (o :: rest) N E w := by
 obtain ⟨v1, w1, hr, H1⟩ := appendL_run H q hq ho z bytes ht hinfo hz hs0 hb0 hs hx L hl hcell h1 hbytes n' hn
 exact WL.val hg hd hlt hr (h v1 w1 _ rfl H1)
end
end Go.Proofs.YtoccifnjhbibcaaGreat.XSt
namespace Go.Proofs.YtoccifnjhbibcaaGreat.XSt
open Go.RowKit Go.Proofs.YtoccifnjhbibcaaGreatW.PrintWords Go.Proofs.YtoccifnjhbibcaaGreatW.PrintLast Go.Proofs.YtoccifnjhbibcaaGreatW.PrintMore Go.Proofs.YtoccifnjhbibcaaGreat.XW Go.Proofs.YtoccifnjhbibcaaGreat.XOp Go.Proofs.YtoccifnjhbibcaaGreat.XDraw
set_option linter.unusedVariables false
section
variable {ok0 : Nat → Prop} {w0 w : World} {ms : List Mu} {fo fn : List Fact} {m : Mu}
theorem bks_front {i : Nat} (hi : ms[i]? = some m) : (bks ms).Perm (bks (m :: ms.eraseIdx i)) := by
 obtain ⟨e1, _, e3⟩ := split_at hi
 rw [e3]
 generalize ms.take i = l1 at *
 generalize ms.drop (i + 1) = l2 at *
 rw [e1, bks_app, bks, bks, bks_app]
 exact List.perm_append_comm_assoc ..
theorem St.front (h : St ok0 w0 w ms fo fn) (i : Nat) (hi : ms[i]? = some m) : St ok0 w0 w (m :: ms.eraseIdx i) fo fn := by
 have hp := bks_front hi
 refine ⟨h.b, h.o.mono (fun k hk => ⟨hk.1, fun h2 => hk.2 (hp.mem_iff.2 h2)⟩), h.n.mono (fun k hk => ⟨hk.1, fun h2 => hk.2 (hp.mem_iff.2 h2)⟩), ⟨AllM.get i hi h.m, ?_⟩, hp.nodup_iff.1 h.d, fun k hk => h.l k (hp.mem_iff.2 hk)⟩
 have hm := h.m
 obtain ⟨e1, _, e3⟩ := split_at hi
 rw [e1] at hm
 rw [e3]
 exact AllM.app.2 ⟨(AllM.app.1 hm).1, (AllM.app.1 hm).2.2⟩
end
end Go.Proofs.YtoccifnjhbibcaaGreat.XSt
namespace Go.Proofs.YtoccifnjhbibcaaGreat.XSt
open Go.RowKit Go.Proofs.YtoccifnjhbibcaaGreatW.PrintWords Go.Proofs.YtoccifnjhbibcaaGreatW.PrintLast Go.Proofs.YtoccifnjhbibcaaGreatW.PrintMore Go.Proofs.YtoccifnjhbibcaaGreat.XW Go.Proofs.YtoccifnjhbibcaaGreat.XOp Go.Proofs.YtoccifnjhbibcaaGreat.XDraw
set_option linter.unusedVariables false
theorem ite_ {α : Type} {p : Prop} [Decidable p] {a b r : α} (h : (if p then a else b) = r) : (p ∧ a = r) ∨ (¬ p ∧ b = r) := by
 by_cases c : p
 · rw [if_pos c] at h; exact .inl ⟨c, h⟩
 · rw [if_neg c] at h; exact .inr ⟨c, h⟩
theorem eti_ {α : Type} {p : Prop} [Decidable p] {a b r : α} (h : (if p then a else b) = r) : (¬ p ∧ b = r) ∨ (p ∧ a = r) := (ite_ h).symm
theorem bF {b : Bool} (h : ¬ b = true) : b = false := Bool.eq_false_iff.mpr h
theorem nB {b c : Bool} (h : b = c) : (!b) = !c := congrArg (fun b_ => !b_) h
theorem qF {α : Type} [BEq α] [LawfulBEq α] {a b : α} (h : a = b) : (a != b) = false := bne_eq_false_iff_eq.mpr h
theorem qT {α : Type} [BEq α] [LawfulBEq α] {a b : α} (h : ¬ a = b) : (a != b) = true := bne_iff_ne.mpr h
theorem eT {α : Type} [BEq α] [LawfulBEq α] {a b : α} (h : a = b) : (a == b) = true := beq_iff_eq.mpr h
theorem eF {α : Type} [BEq α] [LawfulBEq α] {a b : α} (h : ¬ a = b) : (a == b) = false := beq_eq_false_iff_ne.mpr h
theorem dT {p : Prop} [Decidable p] (h : p) : decide p = true := decide_eq_true h
theorem dF {p : Prop} [Decidable p] (h : ¬ p) : decide p = false := decide_eq_false h
theorem os {α : Type} {a b : α} (h : some a = some b) : a = b := Option.some.inj h
section
variable {P : Program} {Q Q' : Exit → Act → World → Prop} {n fuel d : Nat} {E : Env} {w w1 W0 : World} {c : Code} {K : Act → World → Prop} {e : Exit} {fn : Func} {R R' : Ending → World → Prop} {r s q : ResultVar} {v u z : Value} {ops : Array Oper} {o oi : Oper} {rest : List Oper} {ds : List Nat} {l : Array Bool} {i j g : Nat} {b b' : Bool} {ok0 : Nat → Prop} {w0 : World} {ms : List Mu} {fo fs : List Fact}
theorem via_ (hK : ∀ E w', WC P c Q n E w' → ∀ a, Fits a n E → K a w') (h : WC P c Q n E w) (hq : ∀ a w, K a w → Q' e a w := by exact fun _ _ h => h) : WQ Q' e n E w := WQ.via hq hK h
theorem rg_ {id : Nat} {l : List Oper} (h : WL P l.toArray Q l n E w) : WC P (.region id l.toArray false) Q n E w := WC.region h
theorem fin0 (fn : Func) {e : Exit} (hR : ∀ e w', R e w' → R' e w') (h : R (.returned (.tuple #[])) w) (he : e = .ret ∨ e = .normal := by exact Or.inl rfl) (hr : fn.results = #[] := by rfl) (hq : ∀ a w, bodyPost P fn R' e a w → Q' e a w := by exact fun _ _ h => h) : WQ Q' e n E w :=
 WQ.fin hq (WQ.ret0 he hr (hR _ _ h))
theorem fin1 (fn : Func) (hr : fn.results = #[r]) (h1 : ResV P w E r v) (hR : ∀ e w', R e w' → R' e w') (h : R (.returned v) w) (hq : ∀ a w, bodyPost P fn R' .ret a w → Q' e a w := by exact fun _ _ h => h) : WQ Q' e n E w :=
 WQ.fin hq (WQ.ret1 hr h1 (hR _ _ h))
theorem fin2 (fn : Func) (hr : fn.results = #[r, s]) (h1 : ResV P w E r v) (h2 : ResV P w E s u) (hR : ∀ e w', R e w' → R' e w') (h : R (.returned (.tuple #[v, u])) w) (hq : ∀ a w, bodyPost P fn R' .ret a w → Q' e a w := by exact fun _ _ h => h) : WQ Q' e n E w :=
 WQ.fin hq (WQ.ret2 hr h1 h2 (hR _ _ h))
theorem fin3 (fn : Func) (hr : fn.results = #[r, s, q]) (h1 : ResV P w E r v) (h2 : ResV P w E s u) (h3 : ResV P w E q z) (hR : ∀ e w', R e w' → R' e w') (h : R (.returned (.tuple #[v, u, z])) w) (hq : ∀ a w, bodyPost P fn R' .ret a w → Q' e a w := by exact fun _ _ h => h) : WQ Q' e n E w :=
 WQ.fin hq (WQ.ret3 hr h1 h2 h3 (hR _ _ h))
theorem cs_ {f : FuncId} {as : Array Operand} {ts : Array TypeId} {args : List Value} (HS : St ok0 w0 w ms fo fs) (hf : P.funcs[f]? = some fn) (hc : Calls P f args.toArray w (fun e w' => e = .returned v ∧ Below w.heap.size w w')) (h : ∀ w1, St ok0 w0 w1 ms fo fs → WL P ops Q rest n ((d, v) :: E) w1)
   (hop : o.op = .call { callee := .value (.func f), args := as, argTypes := ts } := by rfl) (hargs : as.toList.map (ev E) = args.map some := by rfl) (hg : o.guard = none := by rfl) (hd : o.dst = some d := by rfl) (hlt : d < n := by decide) (hname : (fn.name == "runtime.NumGoroutine") = false := by rfl) (hb : fn.body.isSome = true := by rfl) : WL P ops Q (o :: rest) n E w :=
 c_ hf hc (fun e w1 hh => ⟨v, hh.1, h w1 (HS.below hh.2)⟩) hop hargs hg hd hlt hname hb
theorem cs0_ {f : FuncId} {as : Array Operand} {ts : Array TypeId} {args : List Value} (HS : St ok0 w0 w ms fo fs) (hf : P.funcs[f]? = some fn) (hc : Calls P f args.toArray w (fun e w' => e = .returned v ∧ Drawn0 w w')) (h : ∀ w1, St ok0 w0 w1 ms fo fs → WL P ops Q rest n ((d, v) :: E) w1)
   (hop : o.op = .call { callee := .value (.func f), args := as, argTypes := ts } := by rfl) (hargs : as.toList.map (ev E) = args.map some := by rfl) (hg : o.guard = none := by rfl) (hd : o.dst = some d := by rfl) (hlt : d < n := by decide) (hname : (fn.name == "runtime.NumGoroutine") = false := by rfl) (hb : fn.body.isSome = true := by rfl) : WL P ops Q (o :: rest) n E w :=
 c_ hf hc (fun e w1 hh => ⟨v, hh.1, h w1 (HS.below hh.2.below)⟩) hop hargs hg hd hlt hname hb
theorem dcs_ {f : FuncId} {as : Array Operand} {ts : Array TypeId} {args : List Value} (HS : St ok0 w0 w ms fo fs) (HB : Below W0.heap.size W0 w) (i : Nat) (hw : ∀ a, Fits a n E → Region.wanted oi (yielded ops a.tmps) = true) (hf : P.funcs[f]? = some fn) (hc : Calls P f args.toArray w (fun e w' => e = .returned v ∧ Below w.heap.size w w'))
   (h : ∀ w1, St ok0 w0 w1 ms fo fs → Below W0.heap.size W0 w1 → WD P ops Q (fun w' => Below W0.heap.size W0 w') ds fuel (l.setIfInBounds i true) n ((d, v) :: E) w1)
   (hi : ops[i]? = some oi := by rfl) (hd : oi.dst = some d := by rfl) (hlt : d < n := by decide) (hc2 : readyB .any ops l (l.setIfInBounds i true) i = true := by exact one_of rfl (by kernel_rfl)) (hds : i ∉ ds := by decide) (hop : oi.op = .call { callee := .value (.func f), args := as, argTypes := ts } := by rfl) (hargs : as.toList.map (ev E) = args.map some := by rfl) (hname : (fn.name == "runtime.NumGoroutine") = false := by rfl) (hb : fn.body.isSome = true := by rfl) : WD P ops Q (fun w' => Below W0.heap.size W0 w') ds (fuel + 1) l n E w :=
 dc_ i hw hf hc (fun e w1 hh => have hb := HB.trans (hh.2.mono HB.size); ⟨hb, v, hh.1, h w1 (HS.below hh.2) hb⟩) hi hd hlt hc2 hds hop hargs hname hb
theorem dcs0_ {f : FuncId} {as : Array Operand} {ts : Array TypeId} {args : List Value} (HS : St ok0 w0 w ms fo fs) (HB : Below W0.heap.size W0 w) (i : Nat) (hw : ∀ a, Fits a n E → Region.wanted oi (yielded ops a.tmps) = true) (hf : P.funcs[f]? = some fn) (hc : Calls P f args.toArray w (fun e w' => e = .returned v ∧ Drawn0 w w'))
   (h : ∀ w1, St ok0 w0 w1 ms fo fs → Below W0.heap.size W0 w1 → WD P ops Q (fun w' => Below W0.heap.size W0 w') ds fuel (l.setIfInBounds i true) n ((d, v) :: E) w1)
   (hi : ops[i]? = some oi := by rfl) (hd : oi.dst = some d := by rfl) (hlt : d < n := by decide) (hc2 : readyB .any ops l (l.setIfInBounds i true) i = true := by exact one_of rfl (by kernel_rfl)) (hds : i ∉ ds := by decide) (hop : oi.op = .call { callee := .value (.func f), args := as, argTypes := ts } := by rfl) (hargs : as.toList.map (ev E) = args.map some := by rfl) (hname : (fn.name == "runtime.NumGoroutine") = false := by rfl) (hb : fn.body.isSome = true := by rfl) : WD P ops Q (fun w' => Below W0.heap.size W0 w') ds (fuel + 1) l n E w :=
 dc_ i hw hf hc (fun e w1 hh => have hb := HB.trans (hh.2.below.mono HB.size); ⟨hb, v, hh.1, h w1 (HS.below hh.2.below) hb⟩) hi hd hlt hc2 hds hop hargs hname hb
theorem lb_ {bb oo : Nat} {t t0 : TypeId} {cs : List Value} {dd : TypeDesc} {x : Operand} (hb : w.heap[bb]? = some (.cells cs.toArray t0 (0, 0))) (ht : P.underlying t = some dd) (hc : cs[oo]? = some v) (ho : o.op = .load t x := by rfl) (hx : ev E x = some (.pointer (some ⟨bb, oo, none⟩)) := by rfl) (hd : dd.isRow = false := by rfl) : Run P E o w v w := Run.load ho hx ht hd (box_cell hb hc)
theorem fa_ {ad ad' : Addr} {m : Nat} {fs : Array Field} {f : Field} {s : TypeId} {x : Operand} (hs : P.underlying s = some (.struct fs)) (ho : o.op = .fieldAddr s x m := by rfl) (hx : ev E x = some (.pointer (some ad)) := by rfl) (hf : fs[m]? = some f := by rfl) (hi : (P.info? f.type).map (fun i => i.size == 0) = some false := by kernel_rfl) (he : ad.add f.offset = ad' := by rfl) :
   Run P E o w (.pointer (some ad')) w := Run.fieldAddr ho hx hs hf hi he
theorem ia_ {ad : Addr} {m c e : Nat} {t : TypeId} {x y : Operand} {k : IntKind} {i : Int} (ht : P.underlying t = some (.slice e)) (sz : Nat) (h0 : 0 ≤ i) (h1 : i < (m : Int)) (ho : o.op = .indexAddr t x y := by rfl) (hx : ev E x = some (.slice (some ad) m c) := by rfl) (hy : ev E y = some (.int k i) := by rfl) (hsz : (P.info? e).map (·.size) = some sz := by kernel_rfl) :
   Run P E o w (.pointer (some (ad.add (i.toNat * sz)))) w := Run.indexAddr ho hx hy ht hsz h0 h1
theorem doT_ {c : Bool} (i : Nat) (hcc : c = true) {S : World → Prop} (h : WD P ops Q S ds fuel (l.setIfInBounds i true) n ((d, undef) :: E) w) (hi : ops[i]? = some oi := by rfl) (hd : oi.dst = some d := by rfl) (hlt : d < n := by decide) (hc : anyB .any ops l (l.setIfInBounds i true) i = true := by exact any_of rfl (by kernel_rfl)) (hQ : ∀ v c a w, Q (.panic c) (a.put oi.dst v) w → Q (.panic c) a w := by exact fun _ _ _ _ h => h) (hg : oi.guard = some (j, b) := by rfl) (hj : (ops[j]?).bind (·.dst) = some g := by rfl) (hv : lk E g = some (.bool c) := by rfl) (hcb : (true == b) = false := by rfl) : WD P ops Q S ds (fuel + 1) l n E w := WD.off i hi hd hlt hc hQ hg hj hv hcc hcb h
end
section
variable {α : Type} {d : Kd α} {ok0 : Nat → Prop} {w0 w : World} {ms : List Mu} {fo fn : List Fact} {x : α} {cs : List Value}
theorem St.aO (h : St ok0 w0 w ms fo fn) (i : Nat) (hi : fo[i]? = some (fun W => d.K W x cs)) : AtK d w x cs 0 := AtK.whole (h.getO i hi)
end
section
variable {P : Program} {Q Q' : Exit → Act → World → Prop} {n fuel d : Nat} {E : Env} {w w1 W0 : World} {x y : Code} {K : Act → World → Prop} {e : Exit} {fn : Func} {R R' : Ending → World → Prop} {r s q : ResultVar} {v u z : Value} {ops : Array Oper} {o oi : Oper} {rest : List Oper} {ds : List Nat} {l : Array Bool} {i j g : Nat} {b b' : Bool} {ok0 : Nat → Prop} {w0 : World} {ms : List Mu} {fo fs : List Fact}
theorem sr_ {id : Nat} {l : List Oper} (h : ∀ K : Act → World → Prop, (∀ E w', WC P y Q n E w' → ∀ a, Fits a n E → K a w') → WL P l.toArray (Exit.then K Q) l n E w) : WC P (.seq (.region id l.toArray false) y) Q n E w := WC.seq fun K hK => WC.region (h K hK)
theorem dn_ (hK : ∀ E w', WC P y Q n E w' → ∀ a, Fits a n E → K a w') (h : WC P y Q n E w) (hq : ∀ a w, K a w → Q' .normal a w := by exact fun _ _ h => h) : WL P ops Q' [] n E w := WL.done (WQ.via hq hK h)
theorem rt1 (fn : Func) (hr : fn.results = #[r]) (h1 : ResV P w E r v) (hR : ∀ e w', R e w' → R' e w') (h : R (.returned v) w) (hq : ∀ a w, bodyPost P fn R' .ret a w → Q .ret a w := by exact fun _ _ h => h) : WC P .ret Q n E w := WC.ret (fin1 fn hr h1 hR h hq)
theorem rt2 (fn : Func) (hr : fn.results = #[r, s]) (h1 : ResV P w E r v) (h2 : ResV P w E s u) (hR : ∀ e w', R e w' → R' e w') (h : R (.returned (.tuple #[v, u])) w) (hq : ∀ a w, bodyPost P fn R' .ret a w → Q .ret a w := by exact fun _ _ h => h) : WC P .ret Q n E w := WC.ret (fin2 fn hr h1 h2 hR h hq)
theorem rt3 (fn : Func) (hr : fn.results = #[r, s, q]) (h1 : ResV P w E r v) (h2 : ResV P w E s u) (h3 : ResV P w E q z) (hR : ∀ e w', R e w' → R' e w') (h : R (.returned (.tuple #[v, u, z])) w) (hq : ∀ a w, bodyPost P fn R' .ret a w → Q .ret a w := by exact fun _ _ h => h) : WC P .ret Q n E w := WC.ret (fin3 fn hr h1 h2 h3 hR h hq)
theorem no_ {α : Type} {a : α} {p : Prop} (h : (none : Option α) = some a) : p := by cases h
theorem ln_ {A : Option Addr} {m c e : Nat} {t : TypeId} {x : Operand} (ht : P.underlying t = some (.slice e)) (h : WL P ops Q rest n ((d, .int .i64 (m : Int)) :: E) w) (ho : o.op = .call { callee := .builtin .len, args := #[x], argTypes := #[t] } := by rfl) (hx : ev E x = some (.slice A m c) := by rfl) (hg : o.guard = none := by rfl) (hd : o.dst = some d := by rfl) (hlt : d < n := by decide) : WL P ops Q (o :: rest) n E w := WL.val hg hd hlt (Run.len (ts := #[]) ho ht hx) h
theorem b_ {x y : Operand} {t t2 : TypeId} {k : IntKind} {i j : Int} {op : BinOp} (hr : (Go.binOp op t (.int k i) (.int k j)).run P w = .ok v w) (h : WL P ops Q rest n ((d, v) :: E) w) (ho : o.op = .binOp op t x y t2 := by rfl) (hx : ev E x = some (.int k i) := by rfl) (hy : ev E y = some (.int k j) := by rfl) (hg : o.guard = none := by rfl) (hd : o.dst = some d := by rfl) (hlt : d < n := by decide) : WL P ops Q (o :: rest) n E w := WL.val hg hd hlt (Run.bin ho hx hy hr) h
theorem nt_ {x : Operand} {ty : TypeId} {b : Bool} (h : WL P ops Q rest n ((d, .bool (!b)) :: E) w) (ho : o.op = .unOp .not ty x := by rfl) (hx : ev E x = some (.bool b) := by rfl) (hg : o.guard = none := by rfl) (hd : o.dst = some d := by rfl) (hlt : d < n := by decide) : WL P ops Q (o :: rest) n E w := WL.val hg hd hlt (Run.not ho hx) h
theorem bo_ {t : TypeId} {x : Operand} {cs : Array Value} (H : St ok0 w0 w ms fo fs) (h : ∀ b w1, w0.heap.size ≤ b → St ok0 w0 w1 (boxM b cs t :: ms) fo fs → WL P ops Q rest n ((d, .pointer (some ⟨b, 0, none⟩)) :: E) w1) (ho : o.op = .box t x := by rfl) (hx : ev E x = some v := by rfl) (hv : v.cells = cs := by rfl) (hg : o.guard = none := by rfl) (hd : o.dst = some d := by rfl) (hlt : d < n := by decide) : WL P ops Q (o :: rest) n E w := WL.box H hg hd hlt ho hx hv h
theorem cw_ {f : FuncId} {c : Code} {args : List Value} (hf : P.funcs[f]? = some fn) (h : ∀ R' : Ending → World → Prop, (∀ e w', R e w' → R' e w') → WC P c (bodyPost P fn R') n (envOf 0 args) w) (hb : fn.body = some c := by rfl) (hn : fn.ntmps = n := by rfl) (hl : args.length ≤ n := by exact Nat.le_of_ble_eq_true rfl) : Calls P f args.toArray w R := calls_W hf hb hn hl h
theorem ls_ {bb oo : Nat} {t t0 : TypeId} {cs cs0 : List Value} {dd : TypeDesc} {x : Operand} (hb : w.heap[bb]? = some (.cells cs0.toArray t0 (0, 0))) (ht : P.underlying t = some dd) (hp : Part cs cs0 oo) (ho : o.op = .load t x := by rfl) (hx : ev E x = some (.pointer (some ⟨bb, oo, none⟩)) := by rfl) (hd : dd.isRow = true := by rfl) (hi : (P.info? t).map (·.size) = some cs.length := by kernel_rfl) : Run P E o w (.agg cs.toArray) w := Run.loadS ho hx ht hd hi (box_part hb hp)
theorem wy_ {c : Operand} {t : Bool} (ht : t = true) (h : WC P x Q n E w) (hc : ev E c = some (.bool t) := by rfl) : WC P (.cond c x y) Q n E w := WC.yes hc ht h
theorem wn_ {c : Operand} {t : Bool} (ht : t = false) (h : WC P y Q n E w) (hc : ev E c = some (.bool t) := by rfl) : WC P (.cond c x y) Q n E w := WC.no hc ht h
theorem dd_ {m : Nat} {S : World → Prop} (h : WQ Q .normal n E w) (hr : (Region.ready .any ops l == []) = true := by kernel_rfl) : WD P ops Q S ds m l n E w := WD.done hr h
theorem bl_ {bb oo : Nat} {t t0 : TypeId} {cs : List Value} {dd : TypeDesc} {x : Operand} (i : Nat) (HS : St ok0 w0 W0 ms fo fs) (HB : Below W0.heap.size W0 w) (q : Nat) (ht : P.underlying t = some dd) (hc0 : cs[oo]? = some v) (h : WD P ops Q (fun w' => Below W0.heap.size W0 w') ds fuel (l.setIfInBounds i true) n ((d, v) :: E) w) (hq : ms[q]? = some (boxM bb cs.toArray t0) := by rfl) (hi : ops[i]? = some oi := by rfl) (ho : oi.op = .load t x := by rfl) (hx : ev E x = some (.pointer (some ⟨bb, oo, none⟩)) := by rfl) (hdd : dd.isRow = false := by rfl)
   (hd : oi.dst = some d := by rfl) (hlt : d < n := by decide) (hc : takeB .any ops ds l (l.setIfInBounds i true) i = true := by exact take_of rfl (by kernel_rfl)) (hQ : ∀ v c a w, Q (.panic c) (a.put oi.dst v) w → Q (.panic c) a w := by exact fun _ _ _ _ h => h) (hg : oi.guard = none := by rfl) : WD P ops Q (fun w' => Below W0.heap.size W0 w') ds (fuel + 1) l n E w :=
 WD.take i hi hd hlt hc hQ hg HB (fun w_ hw_ => lb_ ((HS.below hw_).mu q hq) ht hc0 ho hx hdd) h
theorem blg_ {c : Bool} {bb oo : Nat} {t t0 : TypeId} {cs : List Value} {dd : TypeDesc} {x : Operand} (i : Nat) (hcb : c = b) (HS : St ok0 w0 W0 ms fo fs) (HB : Below W0.heap.size W0 w) (q : Nat) (ht : P.underlying t = some dd) (hc0 : cs[oo]? = some v) (h : WD P ops Q (fun w' => Below W0.heap.size W0 w') ds fuel (l.setIfInBounds i true) n ((d, v) :: E) w) (hq : ms[q]? = some (boxM bb cs.toArray t0) := by rfl) (hi : ops[i]? = some oi := by rfl) (ho : oi.op = .load t x := by rfl) (hx : ev E x = some (.pointer (some ⟨bb, oo, none⟩)) := by rfl) (hdd : dd.isRow = false := by rfl)
   (hd : oi.dst = some d := by rfl) (hlt : d < n := by decide) (hc : takeB .any ops ds l (l.setIfInBounds i true) i = true := by exact take_of rfl (by kernel_rfl)) (hQ : ∀ v c a w, Q (.panic c) (a.put oi.dst v) w → Q (.panic c) a w := by exact fun _ _ _ _ h => h) (hg : oi.guard = some (j, b) := by rfl) (hj : (ops[j]?).bind (·.dst) = some g := by rfl) (hv : lk E g = some (.bool c) := by rfl) : WD P ops Q (fun w' => Below W0.heap.size W0 w') ds (fuel + 1) l n E w :=
 WD.takeG i hi hd hlt hc hQ hg hj hv hcb HB (fun w_ hw_ => lb_ ((HS.below hw_).mu q hq) ht hc0 ho hx hdd) h
end
section
variable {α β : Type} {d : Kd α} {dd : Kd β} {ok0 : Nat → Prop} {w0 w : World} {ms : List Mu} {fo fn : List Fact} {x : α} {cs : List Value} {xs : List β} {e o : Nat} {Rr : World → Prop}
theorem St.sO (h : St ok0 w0 w ms fo fn) (i : Nat) (hi : fo[i]? = some (fun W => d.K W x cs)) (hat : ∀ {W : World}, AtK d W x cs 0 → AtK (Kd.slice e dd) W xs cs o) : ∃ A c, cs[o]? = some (.slice A xs.length c) ∧ xs.length ≤ c ∧ St ok0 w0 w ms ((fun W => dd.C W A xs.length xs) :: fo) fn := by
 obtain ⟨A, c, h1, h2⟩ := (hat (h.aO i hi)).slice
 exact ⟨A, c, h1, h2, h.deriveO (fun W hO hN => (hat (AtK.whole (AllF.get i hi hO))).C h1)⟩
theorem St.eO (h : St ok0 w0 w ms fo fn) (i : Nat) (hi : fo[i]? = some (fun W => d.K W x cs ∧ Rr W)) (hat : ∀ {W : World}, AtK d W x cs 0 → AtK (Kd.slice e dd) W xs cs o) : ∃ A c, cs[o]? = some (.slice A xs.length c) ∧ xs.length ≤ c ∧ St ok0 w0 w ms ((fun W => dd.C W A xs.length xs) :: fo) fn := by
 obtain ⟨A, c, h1, h2⟩ := (hat (AtK.whole (h.getO i hi).1)).slice
 exact ⟨A, c, h1, h2, h.deriveO (fun W hO hN => (hat (AtK.whole (AllF.get i hi hO).1)).C h1)⟩
end
section
variable {P : Program} {Q : Exit → Act → World → Prop} {n fuel d : Nat} {E : Env} {w W0 : World} {S : World → Prop} {ops : Array Oper} {oi : Oper} {ds : List Nat} {l : Array Bool} {j g : Nat} {b c : Bool}
theorem df_ {ad ad' : Addr} {m : Nat} {fs : Array Field} {f : Field} {s : TypeId} {x : Operand} (i : Nat) (hs : P.underlying s = some (.struct fs)) (h : WD P ops Q S ds fuel (l.setIfInBounds i true) n ((d, .pointer (some ad')) :: E) w) (hi : ops[i]? = some oi := by rfl) (ho : oi.op = .fieldAddr s x m := by rfl) (hx : ev E x = some (.pointer (some ad)) := by rfl) (hf : fs[m]? = some f := by rfl) (hz : (P.info? f.type).map (fun i => i.size == 0) = some false := by kernel_rfl) (he : ad.add f.offset = ad' := by rfl)
   (hd : oi.dst = some d := by rfl) (hlt : d < n := by decide) (hc : anyB .any ops l (l.setIfInBounds i true) i = true := by exact any_of rfl (by kernel_rfl)) (hQ : ∀ v c a w, Q (.panic c) (a.put oi.dst v) w → Q (.panic c) a w := by exact fun _ _ _ _ h => h) (hg : oi.guard = none := by rfl) : WD P ops Q S ds (fuel + 1) l n E w := WD.pure i hi hd hlt hc hQ hg (fun _ => Run.fieldAddr ho hx hs hf hz he) h
theorem dfg_ {ad ad' : Addr} {m : Nat} {fs : Array Field} {f : Field} {s : TypeId} {x : Operand} (i : Nat) (hcb : c = b) (hs : P.underlying s = some (.struct fs)) (h : WD P ops Q S ds fuel (l.setIfInBounds i true) n ((d, .pointer (some ad')) :: E) w) (hi : ops[i]? = some oi := by rfl) (ho : oi.op = .fieldAddr s x m := by rfl) (hx : ev E x = some (.pointer (some ad)) := by rfl) (hf : fs[m]? = some f := by rfl) (hz : (P.info? f.type).map (fun i => i.size == 0) = some false := by kernel_rfl) (he : ad.add f.offset = ad' := by rfl)
   (hd : oi.dst = some d := by rfl) (hlt : d < n := by decide) (hc : anyB .any ops l (l.setIfInBounds i true) i = true := by exact any_of rfl (by kernel_rfl)) (hQ : ∀ v c a w, Q (.panic c) (a.put oi.dst v) w → Q (.panic c) a w := by exact fun _ _ _ _ h => h) (hg : oi.guard = some (j, b) := by rfl) (hj : (ops[j]?).bind (·.dst) = some g := by rfl) (hv : lk E g = some (.bool c) := by rfl) : WD P ops Q S ds (fuel + 1) l n E w := WD.pureG i hi hd hlt hc hQ hg hj hv hcb (fun _ => Run.fieldAddr ho hx hs hf hz he) h
theorem di_ {ad : Addr} {m c e : Nat} {t : TypeId} {x y : Operand} {k : IntKind} {q : Int} (i : Nat) (ht : P.underlying t = some (.slice e)) (sz : Nat) (h0 : 0 ≤ q) (h1 : q < (m : Int)) (h : WD P ops Q S ds fuel (l.setIfInBounds i true) n ((d, .pointer (some (ad.add (q.toNat * sz)))) :: E) w) (hi : ops[i]? = some oi := by rfl) (ho : oi.op = .indexAddr t x y := by rfl) (hx : ev E x = some (.slice (some ad) m c) := by rfl) (hy : ev E y = some (.int k q) := by rfl) (hsz : (P.info? e).map (·.size) = some sz := by kernel_rfl)
   (hd : oi.dst = some d := by rfl) (hlt : d < n := by decide) (hc : anyB .any ops l (l.setIfInBounds i true) i = true := by exact any_of rfl (by kernel_rfl)) (hQ : ∀ v c a w, Q (.panic c) (a.put oi.dst v) w → Q (.panic c) a w := by exact fun _ _ _ _ h => h) (hg : oi.guard = none := by rfl) : WD P ops Q S ds (fuel + 1) l n E w := WD.pure i hi hd hlt hc hQ hg (fun _ => Run.indexAddr ho hx hy ht hsz h0 h1) h
theorem dm_ {v : Value} {x : Operand} (i : Nat) (h : WD P ops Q S ds fuel (l.setIfInBounds i true) n ((d, v) :: E) w) (hi : ops[i]? = some oi := by rfl) (ho : oi.op = .move x := by rfl) (hx : ev E x = some v := by rfl)
   (hd : oi.dst = some d := by rfl) (hlt : d < n := by decide) (hc : anyB .any ops l (l.setIfInBounds i true) i = true := by exact any_of rfl (by kernel_rfl)) (hQ : ∀ v c a w, Q (.panic c) (a.put oi.dst v) w → Q (.panic c) a w := by exact fun _ _ _ _ h => h) (hg : oi.guard = none := by rfl) : WD P ops Q S ds (fuel + 1) l n E w := WD.pure i hi hd hlt hc hQ hg (fun _ => Run.move ho hx) h
end
end Go.Proofs.YtoccifnjhbibcaaGreat.XSt
namespace Go.Proofs.YtoccifnjhbibcaaGreat.XSt
open Go.RowKit Go.Proofs.YtoccifnjhbibcaaGreatW.PrintWords Go.Proofs.YtoccifnjhbibcaaGreatW.PrintLast Go.Proofs.YtoccifnjhbibcaaGreatW.PrintMore Go.Proofs.YtoccifnjhbibcaaGreat.XW Go.Proofs.YtoccifnjhbibcaaGreat.XOp Go.Proofs.YtoccifnjhbibcaaGreat.XDraw
set_option linter.unusedVariables false
end Go.Proofs.YtoccifnjhbibcaaGreat.XSt
namespace Go.Proofs.YtoccifnjhbibcaaGreat.XSt
open Go.RowKit Go.Proofs.YtoccifnjhbibcaaGreatW.PrintWords Go.Proofs.YtoccifnjhbibcaaGreatW.PrintLast Go.Proofs.YtoccifnjhbibcaaGreatW.PrintMore Go.Proofs.YtoccifnjhbibcaaGreat.XW Go.Proofs.YtoccifnjhbibcaaGreat.XOp Go.Proofs.YtoccifnjhbibcaaGreat.XDraw
set_option linter.unusedVariables false
theorem WC.endK {P : Program} {c : Code} {Q : Exit → Act → World → Prop} {n : Nat} {E : Env} {w : World} (h : ∀ K : Act → World → Prop, (∀ E w', WQ Q .normal n E w' → ∀ a, Fits a n E → K a w') → WC P c (Exit.then K Q) n E w) : WC P c Q n E w := by
 have e : Exit.then (fun a w => Q .normal a w) Q = Q := by
   funext e a w
   cases e <;> rfl
 have h1 := h (fun a w => Q .normal a w) (fun _ _ hy a hf => hy a hf)
 rwa [e] at h1
end Go.Proofs.YtoccifnjhbibcaaGreat.XSt
namespace Go.Proofs.YtoccifnjhbibcaaGreat.XSt
open Go.RowKit Go.Proofs.YtoccifnjhbibcaaGreatW.PrintWords Go.Proofs.YtoccifnjhbibcaaGreatW.PrintLast Go.Proofs.YtoccifnjhbibcaaGreatW.PrintMore Go.Proofs.YtoccifnjhbibcaaGreat.XW Go.Proofs.YtoccifnjhbibcaaGreat.XOp Go.Proofs.YtoccifnjhbibcaaGreat.XDraw
set_option linter.unusedVariables false
end Go.Proofs.YtoccifnjhbibcaaGreat.XSt
namespace Go.Proofs.YtoccifnjhbibcaaGreat.XSt
open Go.RowKit Go.Proofs.YtoccifnjhbibcaaGreatW.PrintWords Go.Proofs.YtoccifnjhbibcaaGreatW.PrintLast Go.Proofs.YtoccifnjhbibcaaGreatW.PrintMore Go.Proofs.YtoccifnjhbibcaaGreat.XW Go.Proofs.YtoccifnjhbibcaaGreat.XOp Go.Proofs.YtoccifnjhbibcaaGreat.XDraw
set_option linter.unusedVariables false
structure Dk (α : Type) where
 d : Kd α
 B : World → α → List Value → List Nat → Prop
 K : ∀ {w : World} {x : α} {cs : List Value} {bl : List Nat}, B w x cs bl → d.K w x cs
 mv : ∀ {w w1 : World} {x : α} {cs : List Value} {bl : List Nat}, B w x cs bl → (∀ k, k ∈ bl → w1.heap[k]? = w.heap[k]?) → B w1 x cs bl
 lt : ∀ {w : World} {x : α} {cs : List Value} {bl : List Nat}, B w x cs bl → ∀ k, k ∈ bl → k < w.heap.size
def RepsB {α : Type} (D : Dk α) (w : World) (xs : List α) (inner : List Value) (bl : List Nat) : Prop :=
 ∃ ps : List (α × List Nat), xs = ps.map Prod.fst ∧ bl = (ps.map Prod.snd).flatten ∧ Reps (fun (p : α × List Nat) cs => D.B w p.1 cs p.2) D.d.sz ps inner
section
variable {α β : Type} {D : Dk α} {w w1 : World} {xs : List α} {x : α} {inner cs : List Value} {bl bx : List Nat}
theorem RepsB.reps (h : RepsB D w xs inner bl) : Reps (D.d.K w) D.d.sz xs inner := by
 obtain ⟨ps, rfl, _, h1, h2⟩ := h
 refine ⟨by rw [List.length_map]; exact h1, fun j p hj => ?_⟩
 rw [List.getElem?_map] at hj
 obtain ⟨q, hq, rfl⟩ := Option.map_eq_some_iff.1 hj
 exact D.K (h2 j q hq)
theorem RepsB.none (D : Dk α) (w : World) : RepsB D w [] [] [] := ⟨[], rfl, rfl, Reps.none _ _⟩
theorem RepsB.mv (h : RepsB D w xs inner bl) (hm : ∀ k, k ∈ bl → w1.heap[k]? = w.heap[k]?) : RepsB D w1 xs inner bl := by
 obtain ⟨ps, rfl, rfl, h1, h2⟩ := h
 exact ⟨ps, rfl, rfl, h1, fun j p hj => D.mv (h2 j p hj) (fun k hk => hm k (List.mem_flatten.2 ⟨p.2, List.mem_map_of_mem (List.mem_of_getElem? hj), hk⟩))⟩
theorem RepsB.lt (h : RepsB D w xs inner bl) : ∀ k, k ∈ bl → k < w.heap.size := by
 obtain ⟨ps, rfl, rfl, h1, h2⟩ := h
 intro k hk
 obtain ⟨l, hl, hk⟩ := List.mem_flatten.1 hk
 obtain ⟨p, hp, rfl⟩ := List.mem_map.1 hl
 obtain ⟨j, hj⟩ := List.getElem?_of_mem hp
 exact D.lt (h2 j p hj) k hk
theorem RepsB.snoc (h : RepsB D w xs inner bl) (hx : D.B w x cs bx) : RepsB D w (xs ++ [x]) (inner ++ cs) (bl ++ bx) := by
 obtain ⟨ps, rfl, rfl, h1⟩ := h
 exact ⟨ps ++ [(x, bx)], by simp, by simp, Reps.snoc h1 hx (D.d.K_len (D.K hx))⟩
theorem flatten_set {L : List (List Nat)} {j : Nat} {b : List Nat} (hj : j < L.length) : (∀ k, k ∈ (L.set j b).flatten → k ∈ L.flatten ∨ k ∈ b) ∧ (L.flatten.Nodup → b.Nodup → (∀ k, k ∈ b → k ∉ L.flatten) → (L.set j b).flatten.Nodup) := by
 have e1 : L = L.take j ++ L[j] :: L.drop (j + 1) := by rw [List.getElem_cons_drop, List.take_append_drop]
 have e2 : L.set j b = L.take j ++ b :: L.drop (j + 1) := by rw [List.set_eq_take_append_cons_drop, if_pos hj]
 rw [e2]
 generalize L.take j = l1 at *
 generalize L.drop (j + 1) = l2 at *
 generalize L[j] = o at *
 subst e1
 simp only [List.flatten_append, List.flatten_cons, List.mem_append]
 refine ⟨fun k hk => ?_, fun hd hb hn => ?_⟩
 · rcases hk with hk | hk | hk
   · exact .inl (.inl hk)
   · exact .inr hk
   · exact .inl (.inr (.inr hk))
 · obtain ⟨d1, d2, d3⟩ := List.nodup_append.1 hd
   obtain ⟨d4, d5, d6⟩ := List.nodup_append.1 d2
   refine List.nodup_append.2 ⟨d1, List.nodup_append.2 ⟨hb, d5, fun a ha c hc e => ?_⟩, fun a ha c hc e => ?_⟩
   · subst e; exact hn a ha (.inr (.inr hc))
   · subst e
     rcases List.mem_append.1 hc with hc | hc
     · exact hn a hc (.inl ha)
     · exact d3 a ha a (List.mem_append_right _ hc) rfl
theorem RepsB.set (h : RepsB D w xs inner bl) (j : Nat) (hj : j < xs.length) (hx : D.B w x cs bx) : ∃ bl', RepsB D w (xs.set j x) (cut inner (j * D.d.sz) cs) bl' ∧ (∀ k, k ∈ bl' → k ∈ bl ∨ k ∈ bx) ∧ (bl.Nodup → bx.Nodup → (∀ k, k ∈ bx → k ∉ bl) → bl'.Nodup) := by
 obtain ⟨ps, rfl, rfl, h1⟩ := h
 rw [List.length_map] at hj
 obtain ⟨f1, f2⟩ := flatten_set (L := ps.map Prod.snd) (b := bx) (j := j) (by rwa [List.length_map])
 exact ⟨_, ⟨ps.set j (x, bx), by rw [List.map_set], by rw [List.map_set], Reps.set_ h1 j (x, bx) hx (D.d.K_len (D.K hx)) hj⟩, f1, f2⟩
theorem RepsB.flat (h : Reps (D.d.K w) D.d.sz xs inner) (hB : ∀ x cs, D.d.K w x cs → D.B w x cs []) : RepsB D w xs inner [] := by
 refine ⟨xs.map fun x => (x, []), by rw [List.map_map]; simp [Function.comp_def], ?_, by rw [List.length_map]; exact h.1, fun j p hj => ?_⟩
 · rw [List.map_map, Function.comp_def]; symm; simp
 · rw [List.getElem?_map] at hj
   obtain ⟨q, hq, rfl⟩ := Option.map_eq_some_iff.1 hj
   exact hB _ _ (h.2 j q hq)
end
def Dk.int (k : IntKind) : Dk Int := ⟨Kd.int k, fun w x cs bl => (Kd.int k).K w x cs ∧ bl = [], fun h => h.1, fun h _ => h, fun h k hk => by rw [h.2] at hk; cases hk⟩
theorem seal_K {α : Type} {D : Dk α} {w : World} {B e : Nat} {v : Value} {xs : List α} {inner : List Value} {bl : List Nat} (ho : w.ownsRow B e D.d.sz v xs.length inner) (h : RepsB D w xs inner bl) : (Kd.slice e D.d).K w xs [v] := by
 obtain ⟨A, c, rfl, h1, h2⟩ := row_reads ho h.reps
 exact ⟨A, c, rfl, h1, h2⟩
def Dk.slice {α : Type} (e : Nat) (D : Dk α) : Dk (List α) where
 d := Kd.slice e D.d
 B := fun w xs cs bl => ∃ v inner bl', cs = [v] ∧ bl = v.ownBlock.toList ++ bl' ∧ w.ownsRow 0 e D.d.sz v xs.length inner ∧ RepsB D w xs inner bl'
 K := fun ⟨v, inner, bl', e1, _, ho, h⟩ => by subst e1; exact seal_K ho h
 mv := fun ⟨v, inner, bl', e1, e2, ho, h⟩ hm => ⟨v, inner, bl', e1, e2, own_move ho (fun k hk => hm k (by rw [e2, hk]; simp)), h.mv (fun k hk => hm k (by rw [e2]; exact List.mem_append_right _ hk))⟩
 lt := fun ⟨v, inner, bl', e1, e2, ho, h⟩ k hk => by
   rw [e2] at hk
   rcases List.mem_append.1 hk with hk | hk
   · exact own_lt ho k (by simpa using hk)
   · exact h.lt k hk
def Dk.pair {α β : Type} (a : Dk α) (b : Dk β) : Dk (α × β) where
 d := Kd.pair a.d b.d
 B := fun w x cs bl => ∃ c0 c1 b0 b1, cs = c0 ++ c1 ∧ bl = b0 ++ b1 ∧ a.B w x.1 c0 b0 ∧ b.B w x.2 c1 b1
 K := fun ⟨c0, c1, b0, b1, e1, _, h0, h1⟩ => ⟨c0, c1, e1, a.K h0, b.K h1⟩
 mv := fun ⟨c0, c1, b0, b1, e1, e2, h0, h1⟩ hm => ⟨c0, c1, b0, b1, e1, e2, a.mv h0 (fun k hk => hm k (by rw [e2]; exact List.mem_append_left _ hk)), b.mv h1 (fun k hk => hm k (by rw [e2]; exact List.mem_append_right _ hk))⟩
 lt := fun ⟨c0, c1, b0, b1, e1, e2, h0, h1⟩ k hk => by
   rw [e2] at hk
   rcases List.mem_append.1 hk with hk | hk
   · exact a.lt h0 k hk
   · exact b.lt h1 k hk
def Dk.iso {α β : Type} (D : Dk α) (f : β → α) : Dk β where
 d := Kd.iso D.d f
 B := fun w x cs bl => D.B w (f x) cs bl
 K := fun h => D.K h
 mv := fun h hm => D.mv h hm
 lt := fun h => D.lt h
def valM {α : Type} (D : Dk α) (x : α) (cs : List Value) (bl : List Nat) : Mu := ⟨bl, fun W => D.B W x cs bl⟩
def elsM {α : Type} (D : Dk α) (xs : List α) (inner : List Value) (bl : List Nat) : Mu := ⟨bl, fun W => RepsB D W xs inner bl⟩
section
variable {α : Type} {D : Dk α} {w w1 : World} {xs : List α} {x : α} {inner cs : List Value} {bl bx : List Nat}
theorem foot_val (h : D.B w x cs bl) : Foot (valM D x cs bl).P w (fun k => k ∈ (valM D x cs bl).blk) := fun W hW => D.mv h (fun k hk => hW k hk (D.lt h k hk))
theorem foot_els (h : RepsB D w xs inner bl) : Foot (elsM D xs inner bl).P w (fun k => k ∈ (elsM D xs inner bl).blk) := fun W hW => h.mv (fun k hk => hW k hk (h.lt k hk))
end
section
variable {ok0 : Nat → Prop} {w0 w w1 : World} {ms Ms : List Mu} {fo fn fs : List Fact} {p : Fact} {m m1 m2 : Mu} {e sz n c : Nat} {v v1 : Value}
theorem St.put0 (h : St ok0 w0 w (m :: ms) fo fn) (m' : Mu) (hf : m.P w → Foot m'.P w (fun k => k ∈ m'.blk)) (hn : m.blk.Nodup → m'.blk.Nodup) (hb : ∀ k, k ∈ m'.blk → k ∈ m.blk) : St ok0 w0 w (m' :: ms) fo fn :=
 h.put 0 rfl h.b (Nat.le_refl _) (fun _ _ _ => rfl) (hf (h.mu 0 rfl)) (hn (List.nodup_append.1 h.d).1) (fun k hk => .inl (hb k hk))
theorem St.both (h : St ok0 w0 w (m1 :: m2 :: ms) fo fn) : St ok0 w0 w (⟨m1.blk ++ m2.blk, fun W => m1.P W ∧ m2.P W⟩ :: ms) fo fn := by
 have hm := h.m
 refine ⟨h.b, ?_, ?_, ⟨fun W hW => ⟨hm.1 W (fun k hk hl => hW k (List.mem_append_left _ hk) hl), hm.2.1 W (fun k hk hl => hW k (List.mem_append_right _ hk) hl)⟩, hm.2.2⟩, ?_, ?_⟩
 · exact h.o.mono (fun k hk => ⟨hk.1, fun h2 => hk.2 (by simpa [bks] using h2)⟩)
 · exact h.n.mono (fun k hk => ⟨hk.1, fun h2 => hk.2 (by simpa [bks] using h2)⟩)
 · have := h.d; simpa [bks] using this
 · intro k hk; exact h.l k (by simpa [bks] using hk)
theorem St.halves (h : St ok0 w0 w (m :: ms) fo fn) (m1 m2 : Mu) (hf : m.P w → Foot m1.P w (fun k => k ∈ m1.blk) ∧ Foot m2.P w (fun k => k ∈ m2.blk)) (e : m.blk = m1.blk ++ m2.blk) : St ok0 w0 w (m1 :: m2 :: ms) fo fn := by
 have hd := h.d; have hl := h.l; have ho := h.o; have hn := h.n
 obtain ⟨g1, g2⟩ := hf (h.mu 0 rfl)
 have eb : bks (m1 :: m2 :: ms) = bks (m :: ms) := by simp [bks, e]
 exact ⟨h.b, by rw [eb]; exact ho, by rw [eb]; exact hn, ⟨g1, g2, h.m.2⟩, by rw [eb]; exact hd, by rw [eb]; exact hl⟩
theorem St.none0 (h : St ok0 w0 w ms fo fn) (m : Mu) (hb : m.blk = []) (hf : ∀ W, m.P W) : St ok0 w0 w (m :: ms) fo fn :=
 h.push (Below.refl _ _) (fun W _ => hf W) (by rw [hb]; exact List.nodup_nil) (fun k hk => by rw [hb] at hk; cases hk)
section
variable {α : Type} {D : Dk α} {xs : List α} {x : α} {inner cs I : List Value} {bl bx : List Nat}
theorem St.els0 (h : St ok0 w0 w ms fo fn) (D : Dk α) : St ok0 w0 w (elsM D [] [] [] :: ms) fo fn := h.none0 _ rfl (fun W => RepsB.none D W)
theorem St.elsF (h : St ok0 w0 w ms fo fn) (D : Dk α) (hB : ∀ W x cs, D.d.K W x cs → D.B W x cs []) (hr : ∀ W, Reps (D.d.K W) D.d.sz xs inner) : St ok0 w0 w (elsM D xs inner [] :: ms) fo fn := h.none0 _ rfl (fun W => RepsB.flat (hr W) (hB W))
theorem St.elsSnoc (h : St ok0 w0 w (valM D x cs bx :: elsM D xs inner bl :: ms) fo fn) (hI : I = inner ++ cs) : St ok0 w0 w (elsM D (xs ++ [x]) I (bl ++ bx) :: ms) fo fn := by
 subst hI
 refine (h.both).put0 _ (fun hP => foot_els (hP.2.snoc hP.1)) (fun hn => ?_) (fun k hk => ?_)
 · obtain ⟨a, b, c⟩ := List.nodup_append.1 hn
   exact List.nodup_append.2 ⟨b, a, fun k hk j hj e => c j hj k hk e.symm⟩
 · rcases List.mem_append.1 hk with hk | hk
   · exact List.mem_append_right _ hk
   · exact List.mem_append_left _ hk
theorem St.elsSet (h : St ok0 w0 w (valM D x cs bx :: elsM D xs inner bl :: ms) fo fn) (j : Nat) (hs : D.d.sz = sz) (hI : I = cut inner (j * sz) cs) (hj : j < xs.length) : ∃ bl', St ok0 w0 w (elsM D (xs.set j x) I bl' :: ms) fo fn := by
 subst hs hI
 obtain ⟨bl', h1, h2, h3⟩ := (RepsB.set (h.mu 1 rfl) j hj (h.mu 0 rfl))
 refine ⟨bl', (h.both).put0 _ (fun _ => foot_els h1) (fun hn => ?_) (fun k hk => ?_)⟩
 · obtain ⟨a, b, c⟩ := List.nodup_append.1 hn
   exact h3 b a (fun k hk hk2 => c k hk k hk2 rfl)
 · rcases h2 k hk with hk | hk
   · exact List.mem_append_right _ hk
   · exact List.mem_append_left _ hk
theorem St.seal {B : Nat} (h : St ok0 w0 w (rowM B e sz v n inner :: elsM D xs inner bl :: ms) fo fn) (hs : D.d.sz = sz) (hn : n = xs.length) : St ok0 w0 w (valM (Dk.slice e D) xs [v] (v.ownBlock.toList ++ bl) :: ms) fo fn := by
 subst hn hs
 exact (h.both).put0 _ (fun hP => foot_val (D := Dk.slice e D) ⟨v, inner, bl, rfl, rfl, own_weaken hP.1 (Nat.zero_le _), hP.2⟩) (fun hn => hn) (fun k hk => hk)
theorem St.nilV (h : St ok0 w0 w ms fo fn) (e : Nat) (D : Dk α) : St ok0 w0 w (valM (Dk.slice e D) ([] : List α) [.slice none 0 0] [] :: ms) fo fn :=
 h.none0 _ rfl (fun W => ⟨.slice none 0 0, [], [], rfl, rfl, own_nil _ _ _ _, RepsB.none D W⟩)
theorem St.unseal (h : St ok0 w0 w (valM (Dk.slice e D) xs [v] bl :: ms) fo fn) (hs : D.d.sz = sz) : ∃ inner bl', St ok0 w0 w (rowM w0.heap.size e sz v xs.length inner :: elsM D xs inner bl' :: ms) fo fn := by
 subst hs
 have hP : (Dk.slice e D).B w xs [v] bl := h.mu 0 rfl
 obtain ⟨v', inner, bl', e1, e2, ho, hr⟩ := hP
 injection e1 with e1
 subst e1
 refine ⟨inner, bl', h.halves _ _ (fun _ => ⟨foot_row ?_, foot_els hr⟩) e2⟩
 refine ⟨ho.1, ?_⟩
 rcases ho.2 with ho | ⟨g, cap, cur, rfl, _, r⟩
 · exact .inl ho
 · exact .inr ⟨g, cap, cur, rfl, (h.l g (by show g ∈ bl ++ _; rw [e2]; simp [Value.ownBlock])).1, r⟩
theorem St.elsK (h : St ok0 w0 w ms fo fn) (i : Nat) (hi : ms[i]? = some (elsM D xs inner bl)) : Reps (D.d.K w) D.d.sz xs inner := RepsB.reps (h.mu i hi)
theorem St.valK (h : St ok0 w0 w ms fo fn) (i : Nat) (hi : ms[i]? = some (valM D x cs bl)) : D.d.K w x cs := D.K (h.mu i hi)
end
def Owns (w : World) (B : Nat) (Ms : List Mu) : Prop := AllM w Ms ∧ (bks Ms).Nodup ∧ ∀ k, k ∈ bks Ms → B ≤ k ∧ k < w.heap.size
theorem St.owns (h : St ok0 w0 w ms fo fn) : Owns w w0.heap.size ms := ⟨h.m, h.d, h.l⟩
theorem St.got (h : St ok0 w0 w ms fo fn) (hb : Below w.heap.size w w1) (ho : Owns w1 w.heap.size Ms) : St ok0 w0 w1 (Ms ++ ms) fo fn := by
 have h1 := h.below hb
 obtain ⟨a, b, c⟩ := ho
 have hnew : ∀ k, k ∈ bks Ms → k ∉ bks ms := fun k hk h2 => by have := (c k hk).1; have := (h.l k h2).2; omega
 refine ⟨h1.b, ?_, ?_, AllM.app.2 ⟨a, h1.m⟩, ?_, ?_⟩
 · refine ((h.o.bound).step (fun k _ hk => hb.block k hk)).mono (fun k hk => ⟨hk.1.1, fun h2 => ?_⟩)
   rw [bks_app] at h2
   rcases List.mem_append.1 h2 with h2 | h2
   · have := (c k h2).1; have := hk.2; omega
   · exact hk.1.2 h2
 · refine ((h.n.bound).step (fun k _ hk => hb.block k hk)).mono (fun k hk => ⟨hk.1.1, fun h2 => ?_⟩)
   rw [bks_app] at h2
   rcases List.mem_append.1 h2 with h2 | h2
   · have := (c k h2).1; have := hk.2; omega
   · exact hk.1.2 h2
 · rw [bks_app]; exact List.nodup_append.2 ⟨b, h.d, fun k hk j hj e => by subst e; exact hnew k hk hj⟩
 · intro k hk
   rw [bks_app] at hk
   rcases List.mem_append.1 hk with hk | hk
   · exact ⟨Nat.le_trans h.size (c k hk).1, (c k hk).2⟩
   · exact h1.l k hk
end
theorem val_slice {α : Type} {D : Dk α} {w : World} {e : Nat} {xs : List α} {v : Value} {bl : List Nat} (h : (Dk.slice e D).B w xs [v] bl) : ∃ A c, v = .slice A xs.length c ∧ xs.length ≤ c := by
 obtain ⟨v', inner, bl', e1, e2, ho, hr⟩ := h
 injection e1 with e1
 subst e1
 obtain ⟨A, c, rfl, h1, _⟩ := row_reads ho hr.reps
 exact ⟨A, c, rfl, h1⟩
end Go.Proofs.YtoccifnjhbibcaaGreat.XSt
namespace Go.Proofs.YtoccifnjhbibcaaGreat.XSt
open Go.RowKit Go.Proofs.YtoccifnjhbibcaaGreatW.PrintWords Go.Proofs.YtoccifnjhbibcaaGreatW.PrintLast Go.Proofs.YtoccifnjhbibcaaGreatW.PrintMore Go.Proofs.YtoccifnjhbibcaaGreat.XW Go.Proofs.YtoccifnjhbibcaaGreat.XOp Go.Proofs.YtoccifnjhbibcaaGreat.XDraw
set_option linter.unusedVariables false
end Go.Proofs.YtoccifnjhbibcaaGreat.XSt
namespace Go.Proofs.YtoccifnjhbibcaaGreat.XSt
open Go.RowKit Go.Proofs.YtoccifnjhbibcaaGreatW.PrintWords Go.Proofs.YtoccifnjhbibcaaGreatW.PrintLast Go.Proofs.YtoccifnjhbibcaaGreatW.PrintMore Go.Proofs.YtoccifnjhbibcaaGreat.XW Go.Proofs.YtoccifnjhbibcaaGreat.XOp Go.Proofs.YtoccifnjhbibcaaGreat.XDraw
set_option linter.unusedVariables false
abbrev vi (n : Int) : Value := .int .i64 n
abbrev sn : Value := .slice none 0 0
abbrev kI : Kd Int := Kd.int .i64
abbrev cF {α : Type} (d : Kd α) (A : Option Addr) (xs : List α) : Fact := fun W => d.C W A xs.length xs
abbrev rF {α : Type} (d : Kd α) (xs : List α) (I : List Value) : Fact := fun W => Reps (d.K W) d.sz xs I
abbrev kF {α : Type} (d : Kd α) (x : α) (cs : List Value) : Fact := fun W => d.K W x cs
theorem oneL {vs : List Value} (h : (vs.all fun u => u.oneCell') = true) : ∀ u ∈ vs, u.oneCell' = true := List.all_eq_true.1 h
theorem sb {E E' : Env} (h : (E'.map fun p => lk E p.1) = E'.map fun p => some p.2) : Sub E' E := by
 induction E' with
 | nil => trivial
 | cons p E' ih =>
   obtain ⟨t, v⟩ := p
   rw [List.map_cons, List.map_cons] at h
   injection h with h1 h2
   exact ⟨h1, ih h2⟩
theorem all_idx {W : World} {fs : List Fact} : ∀ {is : List Nat} {gs : List Fact}, is.map (fun i => fs[i]?) = gs.map some → AllF W fs → AllF W gs
 | [], [], _, _ => trivial
 | i :: is, g :: gs, e, h => by
   rw [List.map_cons, List.map_cons] at e
   injection e with e1 e2
   exact ⟨AllF.get i e1 h, all_idx e2 h⟩
 | [], _ :: _, e, _ => by cases e
 | _ :: _, [], e, _ => by cases e
theorem St.pk {ok0 : Nat → Prop} {w0 w : World} {ms : List Mu} {fo fn fo' fn' : List Fact} (h : St ok0 w0 w ms fo fn) (is js : List Nat) (hO : is.map (fun i => fo[i]?) = fo'.map some) (hN : js.map (fun i => fn[i]?) = fn'.map some) : St ok0 w0 w ms fo' fn' :=
 h.pick (fun W => all_idx hO) (fun W => all_idx hN)
theorem WL.storeW {P : Program} {Q : Exit → Act → World → Prop} {N : Nat} {E : Env} {ops : Array Oper} {o : Oper} {rest : List Oper} {ok0 : Nat → Prop} {w0 w : World} {ms : List Mu} {fo fn : List Fact} {t ty : TypeId} {x y : Operand} {cs : Array Value}
   (H : St ok0 w0 w ms fo fn) (i : Nat) {b : Nat} {vs : List Value} (hi : ms[i]? = some (boxM b cs ty)) (hg : o.guard = none) (hd : o.dst = none) (ho : o.op = .store t x y) (hx : ev E x = some (.pointer (some ⟨b, 0, none⟩))) (hy : ev E y = some (.agg vs.toArray)) (hv : ∀ u ∈ vs, u.oneCell' = true) (hz : (P.info? t).map (·.size) = some vs.length) (hj : vs.length = cs.size)
   (h : ∀ w1, St ok0 w0 w1 (ms.set i (boxM b vs.toArray ty)) fo fn → WL P ops Q rest N E w1) : WL P ops Q (o :: rest) N E w :=
 WL.storeS H i hi hg hd ho hx hy hv hz (by omega) (splice_all hj) h
theorem ble_ {n m : Nat} (h : Nat.ble n m = true) : n ≤ m := Nat.le_of_ble_eq_true h
theorem ad_ {P : Program} {Q Q' : Exit → Act → World → Prop} {K : Act → World → Prop} {n : Nat} {E : Env} {w : World} {ops : Array Oper} {o : Oper} {y : Code} {x : Operand} {d : Nat} {v : Value} (hK : ∀ E w', WC P y Q n E w' → ∀ a, Fits a n E → K a w') (h : WC P y Q n ((d, v) :: E) w)
   (ho : o.op = .assign x := by rfl) (hx : ev E x = some v := by rfl) (hg : o.guard = none := by rfl) (hd : o.dst = some d := by rfl) (hlt : d < n := by decide) (hq : ∀ a w, K a w → Q' .normal a w := by exact fun _ _ h => h) : WL P ops Q' [o] n E w := as_ (dn_ hK h hq) ho hx hg hd hlt
section
variable {α β : Type} {b : Kd β} {a : Kd α} {w : World} {y : β} {cs c0 c1 : List Value}
theorem pI {k : IntKind} {x : Int} (h : b.K w y cs) : (Kd.pair (Kd.int k) b).K w (x, y) (.int k x :: cs) := ⟨[.int k x], cs, rfl, rfl, h⟩
theorem pS {e : Nat} {xs : List α} {A : Option Addr} {c : Nat} (l : xs.length ≤ c) (g : a.C w A xs.length xs) (h : b.K w y cs) : (Kd.pair (Kd.slice e a) b).K w (xs, y) (.slice A xs.length c :: cs) := ⟨[.slice A xs.length c], cs, rfl, ⟨A, c, rfl, l, g⟩, h⟩
theorem lS {e : Nat} {xs : List α} {A : Option Addr} {c : Nat} (l : xs.length ≤ c) (g : a.C w A xs.length xs) : (Kd.slice e a).K w xs [.slice A xs.length c] := ⟨A, c, rfl, l, g⟩
end
theorem lenpos {i : Int} {n : Nat} (h0 : 0 ≤ i) (h1 : i < (n : Int)) : 0 < n := by omega
theorem iq {α β : Type} {p : α → β → Prop} (a : α) (b : β) (h : p a b) : p a b := h
section
variable {P : Program} {n : Nat} {E E' : Env} {w : World} {Q' : Exit → Act → World → Prop} {e : Exit}
theorem wr_ {J : Nat → Env → World → Prop} (k : Nat) (hq : ∀ a w, (∃ k' E', k' < k + 1 ∧ Fits a n E' ∧ J k' E' w) → Q' e a w) (hJ : J k E' w) (hE : Sub E' E := by exact sb rfl) : WQ Q' e n E w := WQ.round k hq (Nat.lt_succ_self _) hJ hE
theorem wv_ {K : Act → World → Prop} {J : Env → World → Prop} (hq : ∀ a w, K a w → Q' e a w) (hX : ∀ E w', J E w' → ∀ a, Fits a n E → K a w') (hJ : J E' w) (hE : Sub E' E := by exact sb rfl) : WQ Q' e n E w := WQ.via2 hq hX hJ hE
end
section
variable {P : Program} {Q : Exit → Act → World → Prop} {n fuel : Nat} {S : World → Prop} {ops : Array Oper} {ds : List Nat}
def offE : List Nat → Env → Env
 | [], E => E
 | d :: r, E => offE r ((d, undef) :: E)
def setA : List Nat → Array Bool → Array Bool
 | [], l => l
 | i :: r, l => setA r (l.setIfInBounds i true)
def offB (ops : Array Oper) (n g : Nat) (cc : Bool) : List Nat → List Nat → Array Bool → Bool
 | [], [], _ => true
 | i :: is, d :: r, l => (match ops[i]? with
   | some oi => (oi.dst == some d && (Nat.blt d n && !(Nat.beq d g))) && (match oi.guard with
     | some (j, b) => (ops[j]?).bind (·.dst) == some g && !(cc == b)
     | none => false)
   | none => false) && (anyT (rtab .any ops) l.toList (l.setIfInBounds i true).toList i && offB ops n g cc is r (l.setIfInBounds i true))
 | _, _, _ => false
theorem offs {g : Nat} {cc c : Bool} (hcc : c = cc) (hQ : ∀ d v c a w, Q (.panic c) (a.put (some d) v) w → Q (.panic c) a w) : ∀ (is r : List Nat) (l : Array Bool) (E : Env) (w : World), lk E g = some (.bool c) → offB ops n g cc is r l = true →
   WD P ops Q S ds fuel (setA is l) n (offE r E) w → WD P ops Q S ds (fuel + is.length) l n E w
 | [], [], l, E, w, _, _, h => h
 | [], _ :: _, l, E, w, _, hb, h => by cases hb
 | _ :: _, [], l, E, w, _, hb, h => by cases hb
 | i :: is, d :: r, l, E, w, hv, hb, h => by
   have hb' : ((match ops[i]? with
     | some oi => (oi.dst == some d && (Nat.blt d n && !(Nat.beq d g))) && (match oi.guard with
       | some (j, b) => (ops[j]?).bind (·.dst) == some g && !(cc == b)
       | none => false)
     | none => false) && (anyT (rtab .any ops) l.toList (l.setIfInBounds i true).toList i && offB ops n g cc is r (l.setIfInBounds i true))) = true := hb
   rw [Bool.and_eq_true, Bool.and_eq_true] at hb'
   obtain ⟨h1, h2, h3⟩ := hb'
   cases hi : ops[i]? with
   | none => rw [hi] at h1; cases h1
   | some oi =>
     rw [hi] at h1
     cases hg : oi.guard with
     | none => simp only [hg, Bool.and_false] at h1; cases h1
     | some q =>
       obtain ⟨j, b⟩ := q
       simp only [hg, Bool.and_eq_true, beq_iff_eq, Bool.not_eq_true'] at h1
       obtain ⟨⟨e1, e2, e3⟩, e4, e5⟩ := h1
       have hlt : d < n := Nat.le_of_ble_eq_true e2
       have hne : Nat.beq d g = false := e3
       have hv2 : lk ((d, undef) :: E) g = some (.bool c) := by
         show cond (Nat.beq d g) (some undef) (lk E g) = _
         rw [hne]; exact hv
       have := offs hcc hQ is r (l.setIfInBounds i true) ((d, undef) :: E) w hv2 h3 h
       show WD P ops Q S ds ((fuel + is.length) + 1) l n E w
       exact WD.off i hi e1 hlt (any_of rfl h2) (fun v c a w => by rw [e1]; exact hQ _ v c a w) hg e4 hv hcc e5 this
theorem doTs_ {c : Bool} {l : Array Bool} {E : Env} {w : World} (m g : Nat) (is r : List Nat) (hcc : c = true) (h : WD P ops Q S ds fuel (setA is l) n (offE r E) w) (hv : lk E g = some (.bool c) := by rfl) (hb : offB ops n g true is r l = true := by kernel_rfl) (hQ : ∀ d v c a w, Q (.panic c) (a.put (some d) v) w → Q (.panic c) a w := by exact fun _ _ _ _ _ h => h) (hm : is.length = m := by rfl) : WD P ops Q S ds (fuel + m) l n E w := by
 subst hm; exact offs hcc hQ is r l E w hv hb h
theorem doFs_ {c : Bool} {l : Array Bool} {E : Env} {w : World} (m g : Nat) (is r : List Nat) (hcc : c = false) (h : WD P ops Q S ds fuel (setA is l) n (offE r E) w) (hv : lk E g = some (.bool c) := by rfl) (hb : offB ops n g false is r l = true := by kernel_rfl) (hQ : ∀ d v c a w, Q (.panic c) (a.put (some d) v) w → Q (.panic c) a w := by exact fun _ _ _ _ _ h => h) (hm : is.length = m := by rfl) : WD P ops Q S ds (fuel + m) l n E w := by
 subst hm; exact offs hcc hQ is r l E w hv hb h
end
end Go.Proofs.YtoccifnjhbibcaaGreat.XSt
namespace Go.Proofs.YtoccifnjhbibcaaGreat.XLeaf
open Go.Proofs.YtoccifnjhbibcaaGreat.XLaw
open Go.RowKit Go.Proofs.YtoccifnjhbibcaaGreatW.PrintWords Go.Proofs.YtoccifnjhbibcaaGreatW.PrintLast Go.Proofs.YtoccifnjhbibcaaGreatW.PrintMore
set_option linter.unusedVariables false
inductive Sh where
 | int : Sh
 | row : Sh → Sh
 | both : Sh → Sh → Sh
def Sh.sz : Sh → Nat
 | .int => 1
 | .row _ => 1
 | .both a b => a.sz + b.sz
def Lv (w : World) : Sh → Nat → Nat → List Addr → Prop
 | .int, b, o, L => L = [⟨b, o, none⟩] ∧ ∃ cs t n, w.heap[b]? = some (.cells cs t (0, 0)) ∧ cs[o]? = some (.int .i64 n)
 | .row s, b, o, L => ∃ cs t A n c, w.heap[b]? = some (.cells cs t (0, 0)) ∧ cs[o]? = some (.slice A n c) ∧ n ≤ 9223372036854775807 ∧
     ∃ f : Nat → List Addr, L = (List.range n).flatMap f ∧ ∀ i, i < n → ∃ g, A = some ⟨g, 0, none⟩ ∧ Lv w s g (i * s.sz) (f i)
 | .both s t, b, o, L => ∃ L1 L2, L = L1 ++ L2 ∧ Lv w s b o L1 ∧ Lv w t b (o + s.sz) L2
def RowLv (w : World) (s : Sh) (A : Option Addr) (n : Nat) (L : List Addr) : Prop :=
 n ≤ 9223372036854775807 ∧ ∃ f : Nat → List Addr, L = (List.range n).flatMap f ∧ ∀ i, i < n → ∃ g, A = some ⟨g, 0, none⟩ ∧ Lv w s g (i * s.sz) (f i)
structure Ints (ok : Nat → Prop) (w w1 : World) : Prop where
 os : w1.os = w.os
 tape : w1.tape = w.tape
 output : w1.output = w.output
 size : w.heap.size ≤ w1.heap.size
 keep : ∀ k : Nat, k < w.heap.size → ¬ ok k → w1.heap[k]? = w.heap[k]?
 cells : ∀ (k : Nat) (cs : Array Value) (t : TypeId), w.heap[k]? = some (.cells cs t (0, 0)) → ∃ cs1 : Array Value, w1.heap[k]? = some (.cells cs1 t (0, 0)) ∧ ∀ (o : Nat) (u : Value), cs[o]? = some u → cs1[o]? = some u ∨ ∃ n m : Int, u = .int .i64 n ∧ cs1[o]? = some (.int .i64 m)
section
variable {ok ok' : Nat → Prop} {w w1 w2 : World}
theorem Ints.of_below (h : Below w.heap.size w w1) : Ints ok w w1 :=
 ⟨h.os, h.tape, h.output, h.size, fun k hk _ => h.block k hk, fun k cs t hb => ⟨cs, (h.block k (blk_lt hb)).trans hb, fun _ _ hu => .inl hu⟩⟩
theorem Ints.refl (ok : Nat → Prop) (w : World) : Ints ok w w := Ints.of_below (Below.refl _ _)
theorem Ints.mono (h : Ints ok w w1) (hm : ∀ k, ok k → ok' k) : Ints ok' w w1 :=
 ⟨h.os, h.tape, h.output, h.size, fun k hk hn => h.keep k hk (fun h2 => hn (hm k h2)), h.cells⟩
theorem Ints.trans (h : Ints ok w w1) (h' : Ints ok w1 w2) : Ints ok w w2 :=
 ⟨h'.os.trans h.os, h'.tape.trans h.tape, h'.output.trans h.output, Nat.le_trans h.size h'.size, fun k hk hn => (h'.keep k (Nat.lt_of_lt_of_le hk h.size) hn).trans (h.keep k hk hn), fun k cs t hb => by
   obtain ⟨cs1, h1, g1⟩ := h.cells k cs t hb
   obtain ⟨cs2, h2, g2⟩ := h'.cells k cs1 t h1
   refine ⟨cs2, h2, fun o u hu => ?_⟩
   rcases g1 o u hu with h3 | ⟨n, m, h3, h4⟩
   · exact g2 o u h3
   · rcases g2 o _ h4 with h5 | ⟨_, m', _, h5⟩
     · exact .inr ⟨n, m, h3, h5⟩
     · exact .inr ⟨n, m', h3, h5⟩⟩
theorem Ints.below {B : Nat} {w0 : World} (h : Ints ok w w1) (hb : Below B w0 w) (hB : B ≤ w.heap.size) (ho : ∀ k, ok k → B ≤ k) : Below B w0 w1 :=
 ⟨h.os.trans hb.os, h.tape.trans hb.tape, h.output.trans hb.output, Nat.le_trans hb.size h.size, fun k hk => (h.keep k (by omega) (fun h2 => by have := ho k h2; omega)).trans (hb.block k hk)⟩
theorem Lv.ints {s : Sh} : ∀ {b o : Nat} {L : List Addr}, Lv w s b o L → Ints ok w w1 → Lv w1 s b o L := by
 induction s with
 | int =>
   rintro b o L ⟨rfl, cs, t, n, hb, ho⟩ h
   obtain ⟨cs1, h1, g1⟩ := h.cells b cs t hb
   refine ⟨rfl, cs1, t, ?_⟩
   rcases g1 o _ ho with h2 | ⟨_, m, _, h2⟩
   · exact ⟨n, h1, h2⟩
   · exact ⟨m, h1, h2⟩
 | row s ih =>
   rintro b o L ⟨cs, t, A, n, c, hb, ho, hn, f, rfl, hf⟩ h
   obtain ⟨cs1, h1, g1⟩ := h.cells b cs t hb
   refine ⟨cs1, t, A, n, c, h1, ?_, hn, f, rfl, fun i hi => ?_⟩
   · rcases g1 o _ ho with h2 | ⟨_, m, h3, _⟩
     · exact h2
     · cases h3
   · obtain ⟨g, e, hl⟩ := hf i hi
     exact ⟨g, e, ih hl h⟩
 | both s t ih1 ih2 =>
   rintro b o L ⟨L1, L2, rfl, h1, h2⟩ h
   exact ⟨L1, L2, rfl, ih1 h1 h, ih2 h2 h⟩
theorem RowLv.ints {s : Sh} {A : Option Addr} {n : Nat} {L : List Addr} (hr : RowLv w s A n L) (h : Ints ok w w1) : RowLv w1 s A n L := by
 obtain ⟨hn, f, e, hf⟩ := hr
 exact ⟨hn, f, e, fun i hi => by obtain ⟨g, e2, hl⟩ := hf i hi; exact ⟨g, e2, hl.ints h⟩⟩
end
structure Marked (L : List Addr) (k : Int) (w w1 : World) : Prop where
 i : Ints (fun b => ∃ p, p ∈ L ∧ p.block = b) w w1
 rest : ∀ (p : Addr) (v : Value), w.cell? p = some v → p ∉ L → w1.cell? p = some v
 told : L.Nodup → ∀ (j : Nat) (p : Addr), L[j]? = some p → w1.cell? p = some (.int .i64 (k + (j : Int)))
def ToldAt (w : World) (L : List Addr) (k : Int) : Prop := ∀ (j : Nat) (p : Addr), L[j]? = some p → w.cell? p = some (.int .i64 (k + (j : Int)))
section
variable {w w1 w2 : World} {L L1 L2 : List Addr} {k : Int}
theorem Marked.nil (k : Int) (w : World) : Marked [] k w w := ⟨Ints.refl _ _, fun _ _ h _ => h, fun _ j p h => by simp at h⟩
theorem Marked.app (h : Marked L1 k w w1) (h' : Marked L2 (k + (L1.length : Int)) w1 w2) : Marked (L1 ++ L2) k w w2 := by
 refine ⟨(h.i.mono ?_).trans (h'.i.mono ?_), fun p v hv hn => ?_, fun hd j p hj => ?_⟩
 · rintro b ⟨p, hp, e⟩; exact ⟨p, List.mem_append_left _ hp, e⟩
 · rintro b ⟨p, hp, e⟩; exact ⟨p, List.mem_append_right _ hp, e⟩
 · rw [List.mem_append] at hn
   exact h'.rest p v (h.rest p v hv (fun hp => hn (.inl hp))) (fun hp => hn (.inr hp))
 · obtain ⟨d1, d2, d3⟩ := List.nodup_append.1 hd
   by_cases hlt : j < L1.length
   · rw [List.getElem?_append_left hlt] at hj
     have h1 := h.told d1 j p hj
     exact h'.rest p _ h1 (fun hp => d3 p (List.mem_of_getElem? hj) p hp rfl)
   · rw [List.getElem?_append_right (by omega)] at hj
     have h1 := h'.told d2 _ p hj
     rw [h1]
     congr 2
     omega
theorem ToldAt.below (h : ToldAt w L k) (hb : Below w.heap.size w w1) : ToldAt w1 L k := fun j p hj => pw_cell_below hb (h j p hj)
theorem ToldAt.left (h : ToldAt w (L1 ++ L2) k) : ToldAt w L1 k := fun j p hj => h j p (by rw [List.getElem?_append_left (List.getElem?_eq_some_iff.1 hj).1]; exact hj)
theorem ToldAt.right (h : ToldAt w (L1 ++ L2) k) : ToldAt w L2 (k + (L1.length : Int)) := fun j p hj => by
 have := h (L1.length + j) p (by rw [List.getElem?_append_right (by omega), Nat.add_sub_cancel_left]; exact hj)
 rw [this]
 congr 2
 omega
theorem Marked.set {b o : Nat} {L : List Addr} (h : Lv w .int b o L) (k : Int) : Marked L k w (w.setCell ⟨b, o, none⟩ (.int .i64 k)) := by
 obtain ⟨rfl, cs, t, n, hb, ho⟩ := h
 have hset : (w.setCell ⟨b, o, none⟩ (.int .i64 k)).heap[b]? = some (.cells (cs.setIfInBounds o (.int .i64 k)) t (0, 0)) := blk_set hb o _
 have hlt : o < cs.size := (Array.getElem?_eq_some_iff.1 ho).1
 refine ⟨⟨rfl, rfl, rfl, by simp [World.setCell], fun q hq hn => Below.heap_setCell _ _ _ _ (fun e => hn ⟨_, List.mem_singleton.2 rfl, e.symm⟩), fun q cs2 t2 hq => ?_⟩, fun p v hv hn => ?_, fun _ j p hj => ?_⟩
 · by_cases e : q = b
   · subst e
     rw [hb] at hq
     injection hq with hq
     injection hq with h1 h2 h3
     subst h1 h2
     refine ⟨_, hset, fun o2 u hu => ?_⟩
     by_cases e2 : o = o2
     · subst e2
       rw [ho] at hu
       injection hu with hu
       exact .inr ⟨n, k, hu.symm, by rw [Array.getElem?_setIfInBounds_self_of_lt hlt]⟩
     · exact .inl (by rw [Array.getElem?_setIfInBounds_ne e2]; exact hu)
   · exact ⟨cs2, (Below.heap_setCell w ⟨b, o, none⟩ _ q e).trans hq, fun _ _ hu => .inl hu⟩
 · have : (⟨b, o, none⟩ : Addr) ≠ p := fun e => hn (by rw [e]; exact List.mem_singleton.2 rfl)
   rw [World.cell?_setCell_other _ _ _ _ this]; exact hv
 · cases j with
   | zero =>
     have e : (⟨b, o, none⟩ : Addr) = p := by simpa using hj
     subst e
     rw [blk_cell hset o, Array.getElem?_setIfInBounds_self_of_lt hlt]
     simp
   | succ j => simp at hj
end
theorem range_snoc (f : Nat → List Addr) (j : Nat) : (List.range (j + 1)).flatMap f = (List.range j).flatMap f ++ f j := by
 rw [List.range_succ, List.flatMap_append]; simp
theorem range_cut (f : Nat → List Addr) {j n : Nat} (h : j ≤ n) : ∃ R, (List.range n).flatMap f = (List.range j).flatMap f ++ R := by
 obtain ⟨m, rfl⟩ := Nat.exists_eq_add_of_le h
 exact ⟨_, by rw [List.range_add, List.flatMap_append]⟩
theorem told_at {w : World} {k : Int} (f : Nat → List Addr) {j n : Nat} (h : ToldAt w ((List.range n).flatMap f) k) (hj : j < n) : ToldAt w (f j) (k + (((List.range j).flatMap f).length : Int)) := by
 obtain ⟨R, e⟩ := range_cut f (show j + 1 ≤ n by omega)
 rw [e, range_snoc] at h
 exact h.left.right
theorem len_at (f : Nat → List Addr) {j n : Nat} (h : j < n) : ((List.range j).flatMap f).length + (f j).length ≤ ((List.range n).flatMap f).length := by
 obtain ⟨R, e⟩ := range_cut f (show j + 1 ≤ n by omega)
 rw [e, range_snoc, List.length_append, List.length_append]
 omega
structure Leafs {α : Type} (d : Kd α) (s : Sh) (cnt : α → Nat) : Prop where
 sz : d.sz = s.sz
 get : ∀ {w : World} {base : Nat} {ok : Nat → Prop} {x : α} {cs : List Value} {b o : Nat} {bc : Array Value} {t : TypeId}, d.M w base ok x cs → w.heap[b]? = some (.cells bc t (0, 0)) → (∀ i u, cs[i]? = some u → bc[o + i]? = some u) →
   ∃ L, Lv w s b o L ∧ L.length = cnt x ∧ ∀ p, p ∈ L → (p.block = b ∧ o ≤ p.off ∧ p.off < o + s.sz) ∨ ok p.block
theorem Leafs.int : Leafs (Kd.int .i64) .int (fun _ => 1) := ⟨rfl, by
 intro w base ok x cs b o bc t h hb hc
 have e : cs = [.int .i64 x] := h
 subst e
 exact ⟨[⟨b, o, none⟩], ⟨rfl, bc, t, x, hb, hc 0 _ rfl⟩, rfl, fun p hp => by rw [List.mem_singleton.1 hp]; exact .inl ⟨rfl, Nat.le_refl _, by show o < o + 1; omega⟩⟩⟩
theorem sum_range {α : Type} (cnt : α → Nat) (xs : List α) (f : Nat → List Addr) (h : ∀ i (hi : i < xs.length), (f i).length = cnt xs[i]) : ((List.range xs.length).flatMap f).length = (xs.map cnt).sum := by
 rw [List.length_flatMap]
 congr 1
 apply List.ext_getElem
 · simp
 · intro i h1 h2
   simp only [List.getElem_map, List.getElem_range]
   exact h i (by simpa using h2)
theorem nodup_range (f : Nat → List Addr) (n : Nat) (h1 : ∀ i, i < n → (f i).Nodup) (h2 : ∀ i j p, i < n → j < n → p ∈ f i → p ∈ f j → i = j) : ((List.range n).flatMap f).Nodup := by
 induction n with
 | zero => simp
 | succ n ih =>
   rw [range_snoc]
   refine List.nodup_append.2 ⟨ih (fun i hi => h1 i (by omega)) (fun i j p hi hj => h2 i j p (by omega) (by omega)), h1 n (by omega), fun p hp q hq e => ?_⟩
   subst e
   obtain ⟨i, hi, hp⟩ := List.mem_flatMap.1 hp
   have := List.mem_range.1 hi
   have := h2 i n p (by omega) (by omega) hp hq
   omega
end Go.Proofs.YtoccifnjhbibcaaGreat.XLeaf
