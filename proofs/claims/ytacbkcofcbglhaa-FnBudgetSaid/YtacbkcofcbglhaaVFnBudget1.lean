/- The words that the printed texts of this claim use. No conditions. -/
import Derived.Test.YtacbkcofcbglhaaVFnBudget0
import Derived.Below
import Derived.Deep.Draws
import Derived.Deep.AppendLies
import Derived.Maps.AppendAt
import Derived.OwnWalk
import Derived.Laws.BytesArg
import Derived.Laws.MakeOwn
import Derived.Laws.OwnMore
import Derived.Deep.OwnRows
import Derived.Tactics
import Derived.Lib.ConvBytes
import Derived.Laws.Slices
import Derived.WalkKit
import Derived.KernelRfl
import Derived.RowKit3
import Derived.Deep.LoopGhost
import Derived.Deep.QuietTactic
import Derived.BigQuiet
import Derived.WideLaws
import Derived.Deep.DeepCutAuto
import Derived.Deep.CutBlock
import Derived.Deep.RegionHeld3
import Derived.Laws.Rows
import Derived.Lib.AppendStr
import Derived.ArgAppend
import Derived.Laws.IdiomCopy
import Derived.RowKit
import Derived.OrdersHeld
import Derived.Laws.BitsLemmas
import Derived.Deep.MidRow
import Derived.Laws.CopyOwn
import Derived.Deep.Slices
import Derived.WideShapes
import Derived.DataReads
import Derived.Laws.StructEq
namespace Go.Proofs.Ytacbkcofcbglhaa.XLeaf
open Go.Proofs.Ytacbkcofcbglhaa.XLaw
open Go.RowKit Go.Proofs.YtacbkcofcbglhaaW.PrintWords Go.Proofs.YtacbkcofcbglhaaW.PrintLast Go.Proofs.YtacbkcofcbglhaaW.PrintMore
set_option linter.unusedVariables false
/-- What a value looks like: a number, a row of such, two in line. -/
inductive Sh where
  | int : Sh
  | row : Sh → Sh
  | both : Sh → Sh → Sh
def Sh.sz : Sh → Nat
  | .int => 1
  | .row _ => 1
  | .both a b => a.sz + b.sz
/-- From cell o of block b on lies what looks so, and L are its numbers' places, in order. -/
def Lv (w : World) : Sh → Nat → Nat → List Addr → Prop
  | .int, b, o, L => L = [⟨b, o, none⟩] ∧ ∃ cs t n, w.heap[b]? = some (.cells cs t (0, 0)) ∧ cs[o]? = some (.int .i64 n)
  | .row s, b, o, L => ∃ cs t A n c, w.heap[b]? = some (.cells cs t (0, 0)) ∧ cs[o]? = some (.slice A n c) ∧ n ≤ 9223372036854775807 ∧
      ∃ f : Nat → List Addr, L = (List.range n).flatMap f ∧ ∀ i, i < n → ∃ g, A = some ⟨g, 0, none⟩ ∧ Lv w s g (i * s.sz) (f i)
  | .both s t, b, o, L => ∃ L1 L2, L = L1 ++ L2 ∧ Lv w s b o L1 ∧ Lv w t b (o + s.sz) L2
/-- The same of a row. -/
def RowLv (w : World) (s : Sh) (A : Option Addr) (n : Nat) (L : List Addr) : Prop :=
  n ≤ 9223372036854775807 ∧ ∃ f : Nat → List Addr, L = (List.range n).flatMap f ∧ ∀ i, i < n → ∃ g, A = some ⟨g, 0, none⟩ ∧ Lv w s g (i * s.sz) (f i)
/-- Numbers of the blocks ok are other numbers now; all else that was is as it was. -/
structure Ints (ok : Nat → Prop) (w w1 : World) : Prop where
  os : w1.os = w.os
  tape : w1.tape = w.tape
  output : w1.output = w.output
  size : w.heap.size ≤ w1.heap.size
  keep : ∀ k : Nat, k < w.heap.size → ¬ ok k → w1.heap[k]? = w.heap[k]?
  cells : ∀ (k : Nat) (cs : Array Value) (t : TypeId), w.heap[k]? = some (.cells cs t (0, 0)) → ∃ cs1 : Array Value, w1.heap[k]? = some (.cells cs1 t (0, 0)) ∧ ∀ (o : Nat) (u : Value), cs[o]? = some u → cs1[o]? = some u ∨ ∃ n m : Int, u = .int .i64 n ∧ cs1[o]? = some (.int .i64 m)
section
variable {ok ok' : Nat → Prop} {w w1 w2 : World}
theorem Ints.of_below (h : Below w.heap.size w w1) : Ints ok w w1 :=
  ⟨h.os, h.tape, h.output, h.size, fun k hk _ => h.block k hk, fun k cs t hb => ⟨cs, (h.block k (blk_lt hb)).trans hb, fun _ _ hu => .inl hu⟩⟩
theorem Ints.refl (ok : Nat → Prop) (w : World) : Ints ok w w := Ints.of_below (Below.refl _ _)
theorem Ints.mono (h : Ints ok w w1) (hm : ∀ k, ok k → ok' k) : Ints ok' w w1 :=
  ⟨h.os, h.tape, h.output, h.size, fun k hk hn => h.keep k hk (fun h2 => hn (hm k h2)), h.cells⟩
theorem Ints.trans (h : Ints ok w w1) (h' : Ints ok w1 w2) : Ints ok w w2 :=
  ⟨h'.os.trans h.os, h'.tape.trans h.tape, h'.output.trans h.output, Nat.le_trans h.size h'.size, fun k hk hn => (h'.keep k (Nat.lt_of_lt_of_le hk h.size) hn).trans (h.keep k hk hn), fun k cs t hb => by
    obtain ⟨cs1, h1, g1⟩ := h.cells k cs t hb
    obtain ⟨cs2, h2, g2⟩ := h'.cells k cs1 t h1
    refine ⟨cs2, h2, fun o u hu => ?_⟩
    rcases g1 o u hu with h3 | ⟨n, m, h3, h4⟩
    · exact g2 o u h3
    · rcases g2 o _ h4 with h5 | ⟨_, m', _, h5⟩
      · exact .inr ⟨n, m, h3, h5⟩
      · exact .inr ⟨n, m', h3, h5⟩⟩
theorem Ints.kept (h : Ints ok w w1) : Kept w w1 ok := ⟨h.size, fun k hk hn => h.keep k hk hn⟩
theorem Ints.below {B : Nat} {w0 : World} (h : Ints ok w w1) (hb : Below B w0 w) (hB : B ≤ w.heap.size) (ho : ∀ k, ok k → B ≤ k) : Below B w0 w1 :=
  ⟨h.os.trans hb.os, h.tape.trans hb.tape, h.output.trans hb.output, Nat.le_trans hb.size h.size, fun k hk => (h.keep k (by omega) (fun h2 => by have := ho k h2; omega)).trans (hb.block k hk)⟩
end
/-- The numbers at L are k, k + 1 and so on now, where no place is in L twice; all else is as it was. -/
structure Marked (L : List Addr) (k : Int) (w w1 : World) : Prop where
  i : Ints (fun b => ∃ p, p ∈ L ∧ p.block = b) w w1
  rest : ∀ (p : Addr) (v : Value), w.cell? p = some v → p ∉ L → w1.cell? p = some v
  told : L.Nodup → ∀ (j : Nat) (p : Addr), L[j]? = some p → w1.cell? p = some (.int .i64 (k + (j : Int)))
def ToldAt (w : World) (L : List Addr) (k : Int) : Prop := ∀ (j : Nat) (p : Addr), L[j]? = some p → w.cell? p = some (.int .i64 (k + (j : Int)))
section
variable {w w1 w2 : World} {L L1 L2 : List Addr} {k : Int}
theorem Marked.nil (k : Int) (w : World) : Marked [] k w w := ⟨Ints.refl _ _, fun _ _ h _ => h, fun _ j p h => by simp at h⟩
theorem Marked.app (h : Marked L1 k w w1) (h' : Marked L2 (k + (L1.length : Int)) w1 w2) : Marked (L1 ++ L2) k w w2 := by
  refine ⟨(h.i.mono ?_).trans (h'.i.mono ?_), fun p v hv hn => ?_, fun hd j p hj => ?_⟩
  · rintro b ⟨p, hp, e⟩; exact ⟨p, List.mem_append_left _ hp, e⟩
  · rintro b ⟨p, hp, e⟩; exact ⟨p, List.mem_append_right _ hp, e⟩
  · rw [List.mem_append] at hn
    exact h'.rest p v (h.rest p v hv (fun hp => hn (.inl hp))) (fun hp => hn (.inr hp))
  · obtain ⟨d1, d2, d3⟩ := List.nodup_append.1 hd
    by_cases hlt : j < L1.length
    · rw [List.getElem?_append_left hlt] at hj
      have h1 := h.told d1 j p hj
      exact h'.rest p _ h1 (fun hp => d3 p (List.mem_of_getElem? hj) p hp rfl)
    · rw [List.getElem?_append_right (by omega)] at hj
      have h1 := h'.told d2 _ p hj
      rw [h1]
      congr 2
      omega
theorem Marked.before (hb : Below w.heap.size w w1) (h : Marked L k w1 w2) : Marked L k w w2 :=
  ⟨(Ints.of_below hb).trans h.i, fun p v hv hn => h.rest p v (pw_cell_below hb hv) hn, h.told⟩
theorem Marked.behind (h : Marked L k w w1) (hb : Below w1.heap.size w1 w2) : Marked L k w w2 :=
  ⟨h.i.trans (Ints.of_below hb), fun p v hv hn => pw_cell_below hb (h.rest p v hv hn), fun hd j p hj => pw_cell_below hb (h.told hd j p hj)⟩
theorem ToldAt.below (h : ToldAt w L k) (hb : Below w.heap.size w w1) : ToldAt w1 L k := fun j p hj => pw_cell_below hb (h j p hj)
theorem ToldAt.left (h : ToldAt w (L1 ++ L2) k) : ToldAt w L1 k := fun j p hj => h j p (by rw [List.getElem?_append_left (List.getElem?_eq_some_iff.1 hj).1]; exact hj)
theorem ToldAt.right (h : ToldAt w (L1 ++ L2) k) : ToldAt w L2 (k + (L1.length : Int)) := fun j p hj => by
  have := h (L1.length + j) p (by rw [List.getElem?_append_right (by omega), Nat.add_sub_cancel_left]; exact hj)
  rw [this]
  congr 2
  omega
/-- One number is stored. -/
theorem Marked.set {b o : Nat} {L : List Addr} (h : Lv w .int b o L) (k : Int) : Marked L k w (w.setCell ⟨b, o, none⟩ (.int .i64 k)) := by
  obtain ⟨rfl, cs, t, n, hb, ho⟩ := h
  have hset : (w.setCell ⟨b, o, none⟩ (.int .i64 k)).heap[b]? = some (.cells (cs.setIfInBounds o (.int .i64 k)) t (0, 0)) := blk_set hb o _
  have hlt : o < cs.size := (Array.getElem?_eq_some_iff.1 ho).1
  refine ⟨⟨rfl, rfl, rfl, by simp [World.setCell], fun q hq hn => Below.heap_setCell _ _ _ _ (fun e => hn ⟨_, List.mem_singleton.2 rfl, e.symm⟩), fun q cs2 t2 hq => ?_⟩, fun p v hv hn => ?_, fun _ j p hj => ?_⟩
  · by_cases e : q = b
    · subst e
      rw [hb] at hq
      injection hq with hq
      injection hq with h1 h2 h3
      subst h1 h2
      refine ⟨_, hset, fun o2 u hu => ?_⟩
      by_cases e2 : o = o2
      · subst e2
        rw [ho] at hu
        injection hu with hu
        exact .inr ⟨n, k, hu.symm, by rw [Array.getElem?_setIfInBounds_self_of_lt hlt]⟩
      · exact .inl (by rw [Array.getElem?_setIfInBounds_ne e2]; exact hu)
    · exact ⟨cs2, (Below.heap_setCell w ⟨b, o, none⟩ _ q e).trans hq, fun _ _ hu => .inl hu⟩
  · have : (⟨b, o, none⟩ : Addr) ≠ p := fun e => hn (by rw [e]; exact List.mem_singleton.2 rfl)
    rw [World.cell?_setCell_other _ _ _ _ this]; exact hv
  · cases j with
    | zero =>
      have e : (⟨b, o, none⟩ : Addr) = p := by simpa using hj
      subst e
      rw [blk_cell hset o, Array.getElem?_setIfInBounds_self_of_lt hlt]
      simp
    | succ j => simp at hj
end
theorem range_snoc (f : Nat → List Addr) (j : Nat) : (List.range (j + 1)).flatMap f = (List.range j).flatMap f ++ f j := by
  rw [List.range_succ, List.flatMap_append]; simp
/-- Kinds whose numbers are told. -/
structure Leafs {α : Type} (d : Kd α) (s : Sh) (cnt : α → Nat) : Prop where
  sz : d.sz = s.sz
  get : ∀ {w : World} {base : Nat} {ok : Nat → Prop} {x : α} {cs : List Value} {b o : Nat} {bc : Array Value} {t : TypeId}, d.M w base ok x cs → w.heap[b]? = some (.cells bc t (0, 0)) → (∀ i u, cs[i]? = some u → bc[o + i]? = some u) →
    ∃ L, Lv w s b o L ∧ L.length = cnt x ∧ ∀ p, p ∈ L → (p.block = b ∧ o ≤ p.off ∧ p.off < o + s.sz) ∨ ok p.block
theorem Leafs.int : Leafs (Kd.int .i64) .int (fun _ => 1) := ⟨rfl, by
  intro w base ok x cs b o bc t h hb hc
  have e : cs = [.int .i64 x] := h
  subst e
  exact ⟨[⟨b, o, none⟩], ⟨rfl, bc, t, x, hb, hc 0 _ rfl⟩, rfl, fun p hp => by rw [List.mem_singleton.1 hp]; exact .inl ⟨rfl, Nat.le_refl _, by show o < o + 1; omega⟩⟩⟩
theorem sum_range {α : Type} (cnt : α → Nat) (xs : List α) (f : Nat → List Addr) (h : ∀ i (hi : i < xs.length), (f i).length = cnt xs[i]) : ((List.range xs.length).flatMap f).length = (xs.map cnt).sum := by
  rw [List.length_flatMap]
  congr 1
  apply List.ext_getElem
  · simp
  · intro i h1 h2
    simp only [List.getElem_map, List.getElem_range]
    exact h i (by simpa using h2)
theorem Leafs.row {α : Type} {d : Kd α} {s : Sh} {cnt : α → Nat} (hd : Leafs d s cnt) {e : Nat} {w : World} {base : Nat} {ok : Nat → Prop} {v : Value} {xs : List α} (h : d.R e w base ok v xs) :
    ∃ A c L, v = .slice A xs.length c ∧ RowLv w s A xs.length L ∧ L.length = (xs.map cnt).sum ∧ ∀ p, p ∈ L → ok p.block := by
  have hmax := h
  obtain ⟨A, c, rfl, hl, hC⟩ := Kd.R_reads hmax
  have hn := Kd.C_max hC
  obtain ⟨h0, inner, ho, hr⟩ := h
  have hex : ∀ i, i < xs.length → ∃ Li, (∃ g, A = some ⟨g, 0, none⟩ ∧ Lv w s g (i * s.sz) Li) ∧ (∀ hi : i < xs.length, Li.length = cnt xs[i]) ∧ ∀ p, p ∈ Li → ok p.block := by
    intro i hi
    obtain ⟨g, cap, hA, hbase, hlt⟩ := ho.form (by omega)
    injection hA with hA _ _
    subst hA
    rcases ho.2 with ⟨hv, _⟩ | ⟨g', cap', cur, hv, _, hb, _, _, hs, htake⟩
    · cases hv
    · injection hv with hv _ _
      injection hv with hv
      injection hv with hv
      subst hv
      have hM := hr.2 i _ (List.getElem?_eq_getElem hi)
      have hg : some g = (Value.slice (some ⟨g, 0, none⟩) xs.length c).ownBlock := rfl
      obtain ⟨Li, hLv, hlen, hin⟩ := hd.get hM hb (o := i * s.sz) (fun j u hu => by
        rw [List.getElem?_take] at hu
        split at hu
        · rw [List.getElem?_drop, ← htake, List.getElem?_take] at hu
          split at hu
          · rw [← hd.sz]; simpa using hu
          · cases hu
        · cases hu)
      refine ⟨Li, ⟨g, rfl, hLv⟩, fun _ => hlen, fun p hp => ?_⟩
      rcases hin p hp with ⟨e1, _⟩ | h2
      · rw [e1]; exact h0 g rfl
      · exact h2.1
  have hch : ∃ f : Nat → List Addr, ∀ i, i < xs.length → (∃ g, A = some ⟨g, 0, none⟩ ∧ Lv w s g (i * s.sz) (f i)) ∧ (∀ hi : i < xs.length, (f i).length = cnt xs[i]) ∧ ∀ p, p ∈ f i → ok p.block :=
    ⟨fun i => open Classical in if hi : i < xs.length then (hex i hi).choose else [], fun i hi => by simp only [dif_pos hi]; exact (hex i hi).choose_spec⟩
  obtain ⟨f, hf⟩ := hch
  refine ⟨A, c, (List.range xs.length).flatMap f, rfl, ⟨hn, f, rfl, fun i hi => (hf i hi).1⟩, sum_range cnt xs f (fun i hi => (hf i hi).2.1 hi), fun p hp => ?_⟩
  obtain ⟨i, hi, hp⟩ := List.mem_flatMap.1 hp
  exact (hf i (List.mem_range.1 hi)).2.2 p hp
theorem Leafs.slice {α : Type} {d : Kd α} {s : Sh} {cnt : α → Nat} (hd : Leafs d s cnt) (e : Nat) : Leafs (Kd.slice e d) (.row s) (fun xs => (xs.map cnt).sum) := ⟨rfl, by
  intro w base ok x cs b o bc t h hb hc
  obtain ⟨v, rfl, hR⟩ := h
  obtain ⟨A, c, L, rfl, ⟨hn, f, e2, hf⟩, hlen, hin⟩ := hd.row hR
  exact ⟨L, ⟨bc, t, A, x.length, c, hb, hc 0 _ rfl, hn, f, e2, hf⟩, hlen, fun p hp => .inr (hin p hp)⟩⟩
theorem Leafs.pair {α β : Type} {d : Kd α} {d' : Kd β} {s s' : Sh} {cnt : α → Nat} {cnt' : β → Nat} (hd : Leafs d s cnt) (hd' : Leafs d' s' cnt') : Leafs (Kd.pair d d') (.both s s') (fun x => cnt x.1 + cnt' x.2) := ⟨by show d.sz + d'.sz = s.sz + s'.sz; rw [hd.sz, hd'.sz], by
  intro w base ok x cs b o bc t h hb hc
  obtain ⟨c0, c1, rfl, h0, h1⟩ := h
  have hl : c0.length = s.sz := by rw [← hd.sz]; exact d.K_len (d.K_of_M h0)
  obtain ⟨L1, a1, b1, g1⟩ := hd.get h0 hb (o := o) (fun i u hu => hc i u (by rw [List.getElem?_append_left (List.getElem?_eq_some_iff.1 hu).1]; exact hu))
  obtain ⟨L2, a2, b2, g2⟩ := hd'.get h1 hb (o := o + s.sz) (fun i u hu => by
    have := hc (s.sz + i) u (by rw [List.getElem?_append_right (by omega), hl, Nat.add_sub_cancel_left]; exact hu)
    rwa [← Nat.add_assoc] at this)
  refine ⟨L1 ++ L2, ⟨L1, L2, rfl, a1, a2⟩, by rw [List.length_append, b1, b2], fun p hp => ?_⟩
  rcases List.mem_append.1 hp with hp | hp
  · rcases g1 p hp with ⟨e1, e2, e3⟩ | h2
    · exact .inl ⟨e1, e2, by show _ < o + (s.sz + s'.sz); omega⟩
    · exact .inr h2
  · rcases g2 p hp with ⟨e1, e2, e3⟩ | h2
    · exact .inl ⟨e1, by omega, by show _ < o + (s.sz + s'.sz); omega⟩
    · exact .inr h2⟩
theorem Leafs.iso {α β : Type} {d : Kd α} {s : Sh} {cnt : α → Nat} (hd : Leafs d s cnt) (f : β → α) : Leafs (Kd.iso d f) s (fun x => cnt (f x)) := ⟨hd.sz, fun h hb hc => hd.get h hb hc⟩
/-- Kinds no number of which is met twice. -/
structure Once {α : Type} (d : Kd α) (s : Sh) (cnt : α → Nat) : Prop where
  sz : d.sz = s.sz
  get : ∀ {w : World} {base : Nat} {ok : Nat → Prop} {x : α} {cs : List Value} {b o : Nat} {bc : Array Value} {t : TypeId}, d.M w base ok x cs → w.heap[b]? = some (.cells bc t (0, 0)) → (∀ i u, cs[i]? = some u → bc[o + i]? = some u) → ¬ ok b →
    ∃ L, Lv w s b o L ∧ L.Nodup ∧ L.length = cnt x ∧ ∀ p, p ∈ L → (p.block = b ∧ o ≤ p.off ∧ p.off < o + s.sz) ∨ ok p.block
theorem Once.int : Once (Kd.int .i64) .int (fun _ => 1) := ⟨rfl, by
  intro w base ok x cs b o bc t h hb hc _
  have e : cs = [.int .i64 x] := h
  subst e
  exact ⟨[⟨b, o, none⟩], ⟨rfl, bc, t, x, hb, hc 0 _ rfl⟩, by simp, rfl, fun p hp => by rw [List.mem_singleton.1 hp]; exact .inl ⟨rfl, Nat.le_refl _, by show o < o + 1; omega⟩⟩⟩
theorem nodup_range (f : Nat → List Addr) (n : Nat) (h1 : ∀ i, i < n → (f i).Nodup) (h2 : ∀ i j p, i < n → j < n → p ∈ f i → p ∈ f j → i = j) : ((List.range n).flatMap f).Nodup := by
  induction n with
  | zero => simp
  | succ n ih =>
    rw [range_snoc]
    refine List.nodup_append.2 ⟨ih (fun i hi => h1 i (by omega)) (fun i j p hi hj => h2 i j p (by omega) (by omega)), h1 n (by omega), fun p hp q hq e => ?_⟩
    subst e
    obtain ⟨i, hi, hp⟩ := List.mem_flatMap.1 hp
    have := List.mem_range.1 hi
    have := h2 i n p (by omega) (by omega) hp hq
    omega
theorem Once.row {α : Type} {d : Kd α} {s : Sh} {cnt : α → Nat} (hd : Once d s cnt) {e : Nat} {w : World} {base : Nat} {ok : Nat → Prop} {v : Value} {xs : List α} (h : Kd.S d e w base ok v xs) :
    ∃ A c L, v = .slice A xs.length c ∧ RowLv w s A xs.length L ∧ L.Nodup ∧ L.length = (xs.map cnt).sum ∧ ∀ p, p ∈ L → ok p.block := by
  obtain ⟨A, c, rfl, hl, hC⟩ := Kd.S_reads h
  have hn := Kd.C_max hC
  obtain ⟨own, h0, inner, ho, hr⟩ := h
  have hzl : xs.zipIdx.length = xs.length := List.length_zipIdx
  have hex : ∀ i, i < xs.length → ∃ Li, (∃ g, A = some ⟨g, 0, none⟩ ∧ Lv w s g (i * s.sz) Li) ∧ Li.Nodup ∧ (∀ hi : i < xs.length, Li.length = cnt xs[i]) ∧ ∀ p, p ∈ Li → (∃ g, A = some ⟨g, 0, none⟩ ∧ p.block = g ∧ i * s.sz ≤ p.off ∧ p.off < i * s.sz + s.sz) ∨ (ok p.block ∧ (∀ g, A = some ⟨g, 0, none⟩ → p.block ≠ g) ∧ own p.block = i) := by
    intro i hi
    obtain ⟨g, cap, hA, hbase, hlt⟩ := ho.form (by omega)
    injection hA with hA _ _
    subst hA
    rcases ho.2 with ⟨hv, _⟩ | ⟨g', cap', cur, hv, _, hb, _, _, hs, htake⟩
    · cases hv
    · injection hv with hv _ _
      injection hv with hv
      injection hv with hv
      subst hv
      have hM : d.M w base (fun k => (ok k ∧ some k ≠ (Value.slice (some ⟨g, 0, none⟩) xs.length c).ownBlock) ∧ own k = i) xs[i] _ := hr.2 i (xs[i], i) (Kd.zip_at (List.getElem?_eq_getElem hi))
      obtain ⟨Li, hLv, hnd, hlen, hin⟩ := hd.get hM hb (o := i * s.sz) (fun j u hu => by
        rw [List.getElem?_take] at hu
        split at hu
        · rw [List.getElem?_drop, ← htake, List.getElem?_take] at hu
          split at hu
          · rw [← hd.sz]; simpa [Kd.tag] using hu
          · cases hu
        · cases hu) (fun h2 => h2.1.2 rfl)
      refine ⟨Li, ⟨g, rfl, hLv⟩, hnd, fun _ => hlen, fun p hp => ?_⟩
      rcases hin p hp with h2 | h2
      · exact .inl ⟨g, rfl, h2⟩
      · exact .inr ⟨h2.1.1, fun g2 e2 h3 => by injection e2 with e2; injection e2 with e2; subst e2; exact h2.1.2 (by rw [h3]; rfl), h2.2⟩
  have hch : ∃ f : Nat → List Addr, ∀ i, i < xs.length → (∃ g, A = some ⟨g, 0, none⟩ ∧ Lv w s g (i * s.sz) (f i)) ∧ (f i).Nodup ∧ (∀ hi : i < xs.length, (f i).length = cnt xs[i]) ∧ ∀ p, p ∈ f i → (∃ g, A = some ⟨g, 0, none⟩ ∧ p.block = g ∧ i * s.sz ≤ p.off ∧ p.off < i * s.sz + s.sz) ∨ (ok p.block ∧ (∀ g, A = some ⟨g, 0, none⟩ → p.block ≠ g) ∧ own p.block = i) :=
    ⟨fun i => open Classical in if hi : i < xs.length then (hex i hi).choose else [], fun i hi => by simp only [dif_pos hi]; exact (hex i hi).choose_spec⟩
  obtain ⟨f, hf⟩ := hch
  refine ⟨A, c, (List.range xs.length).flatMap f, rfl, ⟨hn, f, rfl, fun i hi => (hf i hi).1⟩, nodup_range f _ (fun i hi => (hf i hi).2.1) (fun i j p hi hj hp hq => ?_), sum_range cnt xs f (fun i hi => (hf i hi).2.2.1 hi), fun p hp => ?_⟩
  · rcases (hf i hi).2.2.2 p hp with ⟨g, e1, e2, e3, e4⟩ | ⟨a1, a2, a3⟩
    · rcases (hf j hj).2.2.2 p hq with ⟨g', e1', e2', e3', e4'⟩ | ⟨a1, a2, a3⟩
      · rcases Nat.lt_trichotomy i j with hij | hij | hij
        · have := Nat.mul_le_mul_right s.sz (show i + 1 ≤ j by omega)
          rw [Nat.add_mul] at this
          omega
        · exact hij
        · have := Nat.mul_le_mul_right s.sz (show j + 1 ≤ i by omega)
          rw [Nat.add_mul] at this
          omega
      · exact absurd e2 (a2 g e1)
    · rcases (hf j hj).2.2.2 p hq with ⟨g', e1', e2', e3', e4'⟩ | ⟨b1, b2, b3⟩
      · exact absurd e2' (a2 g' e1')
      · omega
  · obtain ⟨i, hi, hp⟩ := List.mem_flatMap.1 hp
    rcases (hf i (List.mem_range.1 hi)).2.2.2 p hp with ⟨g, e1, e2, _⟩ | ⟨a1, _⟩
    · subst e1
      rw [e2]
      exact (h0 g rfl)
    · exact a1
end Go.Proofs.Ytacbkcofcbglhaa.XLeaf
namespace Go.Proofs.Ytacbkcofcbglhaa.XClass
open Go.Proofs.Ytacbkcofcbglhaa.XLaw Go.Proofs.Ytacbkcofcbglhaa.XLeaf
set_option linter.unusedVariables false
open Go.RowKit Go.Proofs.YtacbkcofcbglhaaW.PrintWords Go.Proofs.YtacbkcofcbglhaaW.PrintLast Go.Proofs.YtacbkcofcbglhaaW.PrintMore
end Go.Proofs.Ytacbkcofcbglhaa.XClass
namespace Go.Proofs.Ytacbkcofcbglhaa.XOpen
open Go.RowKit Go.Proofs.YtacbkcofcbglhaaW.PrintWords Go.Proofs.YtacbkcofcbglhaaW.PrintLast Go.Proofs.YtacbkcofcbglhaaW.PrintMore Go.Deep Go.ChangeShapes Go.WideShapes
set_option linter.unusedVariables false
set_option linter.unusedSimpArgs false
/-- Cells that can be read as data of type t are of the kind d, and what they are is G. -/
def Opens {α : Type} (P : Program) (t : TypeId) (d : Kd α) (G : α → Prop) : Prop :=
  ∀ {H : Type} {enc : TypeId × Value → H} {w : World} {base : Nat} {held : Bool} {fuel : Nat} {cs : List Value} {x : DataW H × List MemPlace},
    DataW.trod enc P w base (fun _ => true) held fuel t cs = some x → ∃ a, d.K w a cs ∧ G a
theorem opens_int {P : Program} {t : TypeId} {k : IntKind} (ht : P.underlying t = some (.int k)) : Opens P t (Kd.int k) (fun n => (Lit.int k n).wf = true) := by
  intro H enc w base held fuel cs x h
  obtain ⟨n, rfl, _, hw⟩ := DataW.trod_int ht h
  exact ⟨n, rfl, hw⟩
theorem list_of {α : Type} (Q : Nat → α → Prop) : ∀ n, (∀ i, i < n → ∃ a, Q i a) → ∃ xs : List α, xs.length = n ∧ ∀ i a, xs[i]? = some a → Q i a
  | 0, _ => ⟨[], rfl, fun i a h => by simp at h⟩
  | n + 1, h => by
    obtain ⟨xs, hl, hq⟩ := list_of Q n (fun i hi => h i (by omega))
    obtain ⟨a, ha⟩ := h n (by omega)
    refine ⟨xs ++ [a], by simp [hl], fun i b hb => ?_⟩
    by_cases hi : i < n
    · rw [List.getElem?_append_left (by omega)] at hb; exact hq i b hb
    · have : i = n := by
        have := (List.getElem?_eq_some_iff.1 hb).1
        simp at this; omega
      subst this
      rw [List.getElem?_append_right (by omega), hl, Nat.sub_self] at hb
      have : a = b := by simpa using hb
      subst this; exact ha
theorem opens_slice {α : Type} {P : Program} {t e : TypeId} {d : Kd α} {G : α → Prop} (ht : P.underlying t = some (.slice e)) (hc : P.cellsOf e = d.sz) (ho : Opens P e d G) :
    Opens P t (Kd.slice e d) (fun xs => xs.length ≤ 9223372036854775807 ∧ ∀ x ∈ xs, G x) := by
  intro H enc w base held fuel cs x h
  rcases open_slice ht h with ⟨rfl, _⟩ | ⟨a, len, cap, m, n, D, Pl, rfl, hb, hl, hm, hmm, _, hx⟩
  · exact ⟨[], ⟨none, 0, rfl, Nat.le_refl _, rfl, Nat.zero_le _, fun h => absurd h (Nat.lt_irrefl _)⟩, Nat.zero_le _, fun x hx => by cases hx⟩
  · simp only [if_true] at hmm
    subst hmm
    obtain ⟨xs, hxl, hxs⟩ := list_of (fun i p => G p ∧ ∃ c, c.length = d.sz ∧ d.K w p c ∧ ∀ j u, c[j]? = some u → w.cell? (a.add (i * d.sz + j)) = some u) len (fun i hi => by
      obtain ⟨cs', hcells, htr⟩ := hx i (by omega)
      obtain ⟨p, hp, hg⟩ := ho htr
      refine ⟨p, hg, cs', d.K_len hp, hp, fun j u hu => ?_⟩
      have hcs := hcells
      unfold World.cells? at hcs
      obtain ⟨_, h2, h3⟩ := World.cells?_some hcells
      have hj : j < P.cellsOf e := by
        have := (List.getElem?_eq_some_iff.1 hu).1
        omega
      have := h3 j hj
      rw [hu, Go.Deep.add_add, hc] at this
      exact this)
    refine ⟨xs, ⟨some a, m, by rw [hxl], by omega, rfl, ?_, fun _ => ⟨a, rfl, fun j p hp => ?_⟩⟩, ?_, fun p hp => ?_⟩
    · have : m ≤ 9223372036854775807 := hm
      omega
    · obtain ⟨_, c, h1, h2, h3⟩ := hxs j p hp
      exact ⟨c, h1, h2, h3⟩
    · have : m ≤ 9223372036854775807 := hm
      omega
    · obtain ⟨i, hi⟩ := List.getElem?_of_mem hp
      exact (hxs i p hi).1
/-- Fields in line: what stands at an offset. -/
def Part {α : Type} (d : Kd α) (G : α → Prop) (w : World) (cs : List Value) (off : Nat) (a : α) : Prop := d.K w a ((cs.drop off).take d.sz) ∧ G a
theorem part_all {α : Type} {d : Kd α} {G : α → Prop} {w : World} {cs : List Value} {a : α} (h : Part d G w cs 0 a) (hl : cs.length = d.sz) : d.K w a cs ∧ G a := by
  have h1 := h.1
  rw [List.drop_zero, List.take_of_length_le (by omega)] at h1
  exact ⟨h1, h.2⟩
end Go.Proofs.Ytacbkcofcbglhaa.XOpen
namespace Go.Proofs.Ytacbkcofcbglhaa.XSt
open Go.RowKit Go.Proofs.YtacbkcofcbglhaaW.PrintWords Go.Proofs.YtacbkcofcbglhaaW.PrintLast Go.Proofs.YtacbkcofcbglhaaW.PrintMore Go.Proofs.Ytacbkcofcbglhaa.XW Go.Proofs.Ytacbkcofcbglhaa.XOp Go.Proofs.Ytacbkcofcbglhaa.XDraw
set_option linter.unusedVariables false
/-- Operation i, run now. -/
def WDop (P : Program) (ops : Array Oper) (Q : Exit → Act → World → Prop) (S : World → Prop) (ds : List Nat) (fuel : Nat) (l : Array Bool) (n : Nat) (E : Env) (w : World) (oi : Oper) (i d : Nat) : Prop :=
  ∀ K : Act → World → Prop, (∀ E' w', S w' → WD P ops Q S ds fuel (l.setIfInBounds i true) n E' w' → ∀ a, Fits a n E' → K a w') → ∀ a, Fits a n E → if Region.wanted oi (yielded ops a.tmps) = true then Oper.wp P oi a w K Q else K (a.put (some d) undef) w
section
variable {P : Program} {Q : Exit → Act → World → Prop} {n fuel d di dj : Nat} {E : Env} {w w1 : World} {S : World → Prop} {ops : Array Oper} {oi oj : Oper} {ds : List Nat} {v : Value} {l : Array Bool} {ok0 : Nat → Prop} {w0 : World} {ms : List Mu} {fo fn : List Fact} {e : Nat} {t : TypeId} {x : Operand} {cs : Array Value}
theorem two__ (i j : Nat) (h1 : WDop P ops Q S ds fuel l n E w oi i di) (h2 : WDop P ops Q S ds fuel l n E w oj j dj) (hi : ops[i]? = some oi := by rfl) (hj : ops[j]? = some oj := by rfl) (hdi : oi.dst = some di := by rfl) (hdj : oj.dst = some dj := by rfl)
    (hc : (Region.ready .any ops l == [i, j]) = true := by kernel_rfl) (hdsi : i ∉ ds := by decide) (hdsj : j ∉ ds := by decide) : WD P ops Q S ds (fuel + 1) l n E w := fun a ha =>
  two_ (l.setIfInBounds i true) (l.setIfInBounds j true) hi hj hdi hdj (by rw [hc]; simp) hdsi hdsj
    (fun K hK => h1 K (fun E' w' hw' hD a' ha' => hK.out a' w' hw' (fun _ => hD a' ha')) a ha)
    (fun K hK => h2 K (fun E' w' hw' hD a' ha' => hK.out a' w' hw' (fun _ => hD a' ha')) a ha)
theorem dvo_ (i : Nat) (hw : ∀ a, Fits a n E → Region.wanted oi (yielded ops a.tmps) = true) (hr : Run P E oi w v w1) (hS : S w1) (h : WD P ops Q S ds fuel (l.setIfInBounds i true) n ((d, v) :: E) w1) (hd : oi.dst = some d := by rfl) (hlt : d < n := by decide) : WDop P ops Q S ds fuel l n E w oi i d :=
  fun K hK a ha => value_ (hw a ha) hd (hr _ (ag ha)) (hK _ _ hS h _ (ha.put hlt v))
theorem WDo.box (i : Nat) (hw : ∀ a, Fits a n E → Region.wanted oi (yielded ops a.tmps) = true) (H : St ok0 w0 w ms fo fn) (ho : oi.op = .box t x) (hx : ev E x = some v) (hv : v.cells = cs)
    (h : ∀ b w1, w0.heap.size ≤ b → St ok0 w0 w1 (boxM b cs t :: ms) fo fn → S w1 ∧ WD P ops Q S ds fuel (l.setIfInBounds i true) n ((d, .pointer (some ⟨b, 0, none⟩)) :: E) w1) (hd : oi.dst = some d := by rfl) (hlt : d < n := by decide) : WDop P ops Q S ds fuel l n E w oi i d :=
  let g := h _ _ H.size (H.box cs t); dvo_ i hw (Run.box ho hx hv) g.1 g.2 hd hlt
theorem WDo.alloc (i : Nat) (hw : ∀ a, Fits a n E → Region.wanted oi (yielded ops a.tmps) = true) (H : St ok0 w0 w ms fo fn) (ho : oi.op = .alloc t) (hz : (P.info? t).map (fun i => i.zero) = some (some v)) (hv : v.cells = cs)
    (h : ∀ b w1, w0.heap.size ≤ b → St ok0 w0 w1 (boxM b cs t :: ms) fo fn → S w1 ∧ WD P ops Q S ds fuel (l.setIfInBounds i true) n ((d, .pointer (some ⟨b, 0, none⟩)) :: E) w1) (hd : oi.dst = some d := by rfl) (hlt : d < n := by decide) : WDop P ops Q S ds fuel l n E w oi i d := by
  obtain ⟨i0, hi0, hz⟩ := Option.map_eq_some_iff.1 hz
  subst hv
  have g := h _ _ H.size (H.box v.cells t)
  exact dvo_ i hw (Run.alloc ho hi0 hz) g.1 g.2 hd hlt
theorem WDo.lit0 (i : Nat) (hw : ∀ a, Fits a n E → Region.wanted oi (yielded ops a.tmps) = true) (H : St ok0 w0 w ms fo fn) (ho : oi.op = .buildSlice t 0 #[]) (ht : P.underlying t = some (.slice e)) {sz : Nat} (hz : (P.info? e).map (·.size) = some sz)
    (h : ∀ v w1, St ok0 w0 w1 (rowM w0.heap.size e sz v 0 [] :: ms) fo fn → S w1 ∧ WD P ops Q S ds fuel (l.setIfInBounds i true) n ((d, v) :: E) w1) (hd : oi.dst = some d := by rfl) (hlt : d < n := by decide) : WDop P ops Q S ds fuel l n E w oi i d := by
  have g := h _ _ (H.rowNew (below_alloc (Below.refl _ _) _) (by
    have := World.ownsRow_lit (base := w.heap.size) (e := e) (size := sz) w #[] 0 (Nat.le_refl _) (by decide) (by simp)
    simpa using this))
  exact dvo_ i hw (Run.lit0 ho ht hz) g.1 g.2 hd hlt
end
section
variable {P : Program} {Q : Exit → Act → World → Prop} {n0 fuel : Nat} {E : Env} {ops : Array Oper} {o : Oper} {d : Nat} {S : World → Prop} {ds : List Nat} {l : Array Bool} {ok0 : Nat → Prop} {w0 w : World} {ms : List Mu} {fo fn : List Fact} {e sz n m c : Nat} {v : Value} {inner : List Value} {t : TypeId} {s x : Operand} {A : Option Addr} {ad : Addr}
theorem WDo.appendL (i : Nat) (hw : ∀ a, Fits a n0 E → Region.wanted o (yielded ops a.tmps) = true) (H : St ok0 w0 w ms fo fn) (q : Nat) (hq : ms[q]? = some (rowM w0.heap.size e sz v n inner)) (ho : o.op = .call { callee := .builtin .append, args := #[s, x], argTypes := #[t, t] })
    (z : Value) (bytes : Nat) (ht : P.underlying t = some (.slice e)) (hinfo : (P.info? e).map (fun i => (i.zero, i.size, i.bytes)) = some (some z, sz, bytes)) (hz : z.cells.size = sz) (hs0 : 0 < sz) (hb0 : 0 < bytes)
    (hs : ev E s = some v) (hx : ev E x = some (.slice A m c)) (L : List Value) (hl : L.length = m * sz) (hcell : 0 < m → ∃ ad, A = some ad ∧ ∀ j u, L[j]? = some u → w.cell? (ad.add j) = some u) (h1 : ∀ u ∈ L, u.oneCell' = true) (hbytes : (n + m) * bytes ≤ 140737488355328) (n' : Nat) (hn : n + m = n')
    (h : ∀ v1 w1 I, I = inner ++ L → St ok0 w0 w1 (ms.set q (rowM w0.heap.size e sz v1 n' I)) fo fn → S w1 ∧ WD P ops Q S ds fuel (l.setIfInBounds i true) n0 ((d, v1) :: E) w1)
    (hd : o.dst = some d := by rfl) (hlt : d < n0 := by decide) : WDop P ops Q S ds fuel l n0 E w o i d := by
  obtain ⟨v1, w1, hr, H1⟩ := appendL_run H q hq ho z bytes ht hinfo hz hs0 hb0 hs hx L hl hcell h1 hbytes n' hn
  have g := h v1 w1 _ rfl H1
  exact dvo_ i hw hr g.1 g.2 hd hlt
theorem WDo.append (i : Nat) (hw : ∀ a, Fits a n0 E → Region.wanted o (yielded ops a.tmps) = true) (H : St ok0 w0 w ms fo fn) (q : Nat) (hq : ms[q]? = some (rowM w0.heap.size e sz v n inner)) {s : Operand} (ho : o.op = .call { callee := .builtin .append, args := #[s, x], argTypes := #[t, t] })
    (z : Value) (bytes : Nat) (ht : P.underlying t = some (.slice e)) (hinfo : (P.info? e).map (fun i => (i.zero, i.size, i.bytes)) = some (some z, sz, bytes)) (hz : z.cells.size = sz) (hs0 : 0 < sz) (hb0 : 0 < bytes)
    (hs : ev E s = some v) {m : Nat} (hx : ev E x = some (.slice (some ad) m c)) (news : List Value) (hl : news.length = m * sz) (hnews : ∀ j u, news[j]? = some u → w.cell? (ad.add j) = some u) (h1 : ∀ u ∈ news, u.oneCell' = true) (hbytes : (n + m) * bytes ≤ 140737488355328) (n' : Nat) (hn : n + m = n')
    (h : ∀ v1 w1 I, I = inner ++ news → St ok0 w0 w1 (ms.set q (rowM w0.heap.size e sz v1 n' I)) fo fn → S w1 ∧ WD P ops Q S ds fuel (l.setIfInBounds i true) n0 ((d, v1) :: E) w1)
    (hd : o.dst = some d := by rfl) (hlt : d < n0 := by decide) : WDop P ops Q S ds fuel l n0 E w o i d := by
  obtain ⟨v1, w1, hr, H1⟩ := append_run H q hq ho z bytes ht hinfo hz hs0 hb0 hs hx news hl hnews h1 hbytes n' hn
  have g := h v1 w1 _ rfl H1
  exact dvo_ i hw hr g.1 g.2 hd hlt
end
section
variable {ok0 : Nat → Prop} {w0 w : World} {ms : List Mu} {fo fn : List Fact} {m : Mu}
theorem bks_front {i : Nat} (hi : ms[i]? = some m) : (bks ms).Perm (bks (m :: ms.eraseIdx i)) := by
  obtain ⟨e1, _, e3⟩ := split_at hi
  rw [e3]
  generalize ms.take i = l1 at *
  generalize ms.drop (i + 1) = l2 at *
  rw [e1, bks_app, bks, bks, bks_app]
  exact List.perm_append_comm_assoc ..
/-- One of what is still written is put in front. -/
theorem St.front (h : St ok0 w0 w ms fo fn) (i : Nat) (hi : ms[i]? = some m) : St ok0 w0 w (m :: ms.eraseIdx i) fo fn := by
  have hp := bks_front hi
  refine ⟨h.b, h.o.mono (fun k hk => ⟨hk.1, fun h2 => hk.2 (hp.mem_iff.2 h2)⟩), h.n.mono (fun k hk => ⟨hk.1, fun h2 => hk.2 (hp.mem_iff.2 h2)⟩), ⟨AllM.get i hi h.m, ?_⟩, hp.nodup_iff.1 h.d, fun k hk => h.l k (hp.mem_iff.2 hk)⟩
  have hm := h.m
  obtain ⟨e1, _, e3⟩ := split_at hi
  rw [e1] at hm
  rw [e3]
  exact AllM.app.2 ⟨(AllM.app.1 hm).1, (AllM.app.1 hm).2.2⟩
end
end Go.Proofs.Ytacbkcofcbglhaa.XSt
namespace Go.Proofs.Ytacbkcofcbglhaa.XSt
open Go.RowKit Go.Proofs.YtacbkcofcbglhaaW.PrintWords Go.Proofs.YtacbkcofcbglhaaW.PrintLast Go.Proofs.YtacbkcofcbglhaaW.PrintMore Go.Proofs.Ytacbkcofcbglhaa.XW Go.Proofs.Ytacbkcofcbglhaa.XOp Go.Proofs.Ytacbkcofcbglhaa.XDraw
set_option linter.unusedVariables false
theorem ite_ {α : Type} {p : Prop} [Decidable p] {a b r : α} (h : (if p then a else b) = r) : (p ∧ a = r) ∨ (¬ p ∧ b = r) := by
  by_cases c : p
  · rw [if_pos c] at h; exact .inl ⟨c, h⟩
  · rw [if_neg c] at h; exact .inr ⟨c, h⟩
theorem eti_ {α : Type} {p : Prop} [Decidable p] {a b r : α} (h : (if p then a else b) = r) : (¬ p ∧ b = r) ∨ (p ∧ a = r) := (ite_ h).symm
theorem bF {b : Bool} (h : ¬ b = true) : b = false := Bool.eq_false_iff.mpr h
theorem nB {b c : Bool} (h : b = c) : (!b) = !c := congrArg (fun b_ => !b_) h
theorem qF {α : Type} [BEq α] [LawfulBEq α] {a b : α} (h : a = b) : (a != b) = false := bne_eq_false_iff_eq.mpr h
theorem qT {α : Type} [BEq α] [LawfulBEq α] {a b : α} (h : ¬ a = b) : (a != b) = true := bne_iff_ne.mpr h
theorem eT {α : Type} [BEq α] [LawfulBEq α] {a b : α} (h : a = b) : (a == b) = true := beq_iff_eq.mpr h
theorem eF {α : Type} [BEq α] [LawfulBEq α] {a b : α} (h : ¬ a = b) : (a == b) = false := beq_eq_false_iff_ne.mpr h
theorem dT {p : Prop} [Decidable p] (h : p) : decide p = true := decide_eq_true h
theorem dF {p : Prop} [Decidable p] (h : ¬ p) : decide p = false := decide_eq_false h
theorem os {α : Type} {a b : α} (h : some a = some b) : a = b := Option.some.inj h
section
variable {P : Program} {Q Q' : Exit → Act → World → Prop} {n fuel d : Nat} {E : Env} {w w1 W0 : World} {c : Code} {K : Act → World → Prop} {e : Exit} {fn : Func} {R R' : Ending → World → Prop} {r s q : ResultVar} {v u z : Value} {ops : Array Oper} {o oi : Oper} {rest : List Oper} {ds : List Nat} {l : Array Bool} {i j g : Nat} {b b' : Bool} {ok0 : Nat → Prop} {w0 : World} {ms : List Mu} {fo fs : List Fact}
theorem via_ (hK : ∀ E w', WC P c Q n E w' → ∀ a, Fits a n E → K a w') (h : WC P c Q n E w) (hq : ∀ a w, K a w → Q' e a w := by exact fun _ _ h => h) : WQ Q' e n E w := WQ.via hq hK h
theorem rg_ {id : Nat} {l : List Oper} (h : WL P l.toArray Q l n E w) : WC P (.region id l.toArray false) Q n E w := WC.region h
theorem fin1 (fn : Func) (hr : fn.results = #[r]) (h1 : ResV P w E r v) (hR : ∀ e w', R e w' → R' e w') (h : R (.returned v) w) (hq : ∀ a w, bodyPost P fn R' .ret a w → Q' e a w := by exact fun _ _ h => h) : WQ Q' e n E w :=
  WQ.fin hq (WQ.ret1 hr h1 (hR _ _ h))
theorem fin2 (fn : Func) (hr : fn.results = #[r, s]) (h1 : ResV P w E r v) (h2 : ResV P w E s u) (hR : ∀ e w', R e w' → R' e w') (h : R (.returned (.tuple #[v, u])) w) (hq : ∀ a w, bodyPost P fn R' .ret a w → Q' e a w := by exact fun _ _ h => h) : WQ Q' e n E w :=
  WQ.fin hq (WQ.ret2 hr h1 h2 (hR _ _ h))
/-- A call that hands back what is known, and makes nothing that is looked at. -/
theorem cs_ {f : FuncId} {as : Array Operand} {ts : Array TypeId} {args : List Value} (HS : St ok0 w0 w ms fo fs) (hf : P.funcs[f]? = some fn) (hc : Calls P f args.toArray w (fun e w' => e = .returned v ∧ Below w.heap.size w w')) (h : ∀ w1, St ok0 w0 w1 ms fo fs → WL P ops Q rest n ((d, v) :: E) w1)
    (hop : o.op = .call { callee := .value (.func f), args := as, argTypes := ts } := by rfl) (hargs : as.toList.map (ev E) = args.map some := by rfl) (hg : o.guard = none := by rfl) (hd : o.dst = some d := by rfl) (hlt : d < n := by decide) (hname : (fn.name == "runtime.NumGoroutine") = false := by rfl) (hb : fn.body.isSome = true := by rfl) : WL P ops Q (o :: rest) n E w :=
  c_ hf hc (fun e w1 hh => ⟨v, hh.1, h w1 (HS.below hh.2)⟩) hop hargs hg hd hlt hname hb
theorem cs0_ {f : FuncId} {as : Array Operand} {ts : Array TypeId} {args : List Value} (HS : St ok0 w0 w ms fo fs) (hf : P.funcs[f]? = some fn) (hc : Calls P f args.toArray w (fun e w' => e = .returned v ∧ Drawn0 w w')) (h : ∀ w1, St ok0 w0 w1 ms fo fs → WL P ops Q rest n ((d, v) :: E) w1)
    (hop : o.op = .call { callee := .value (.func f), args := as, argTypes := ts } := by rfl) (hargs : as.toList.map (ev E) = args.map some := by rfl) (hg : o.guard = none := by rfl) (hd : o.dst = some d := by rfl) (hlt : d < n := by decide) (hname : (fn.name == "runtime.NumGoroutine") = false := by rfl) (hb : fn.body.isSome = true := by rfl) : WL P ops Q (o :: rest) n E w :=
  c_ hf hc (fun e w1 hh => ⟨v, hh.1, h w1 (HS.below hh.2.below)⟩) hop hargs hg hd hlt hname hb
theorem dcs_ {f : FuncId} {as : Array Operand} {ts : Array TypeId} {args : List Value} (HS : St ok0 w0 w ms fo fs) (HB : Below W0.heap.size W0 w) (i : Nat) (hw : ∀ a, Fits a n E → Region.wanted oi (yielded ops a.tmps) = true) (hf : P.funcs[f]? = some fn) (hc : Calls P f args.toArray w (fun e w' => e = .returned v ∧ Below w.heap.size w w'))
    (h : ∀ w1, St ok0 w0 w1 ms fo fs → Below W0.heap.size W0 w1 → WD P ops Q (fun w' => Below W0.heap.size W0 w') ds fuel (l.setIfInBounds i true) n ((d, v) :: E) w1)
    (hi : ops[i]? = some oi := by rfl) (hd : oi.dst = some d := by rfl) (hlt : d < n := by decide) (hc2 : readyB .any ops l (l.setIfInBounds i true) i = true := by kernel_rfl) (hds : i ∉ ds := by decide) (hop : oi.op = .call { callee := .value (.func f), args := as, argTypes := ts } := by rfl) (hargs : as.toList.map (ev E) = args.map some := by rfl) (hname : (fn.name == "runtime.NumGoroutine") = false := by rfl) (hb : fn.body.isSome = true := by rfl) : WD P ops Q (fun w' => Below W0.heap.size W0 w') ds (fuel + 1) l n E w :=
  dc_ i hw hf hc (fun e w1 hh => have hb := HB.trans (hh.2.mono HB.size); ⟨hb, v, hh.1, h w1 (HS.below hh.2) hb⟩) hi hd hlt hc2 hds hop hargs hname hb
theorem dcs0_ {f : FuncId} {as : Array Operand} {ts : Array TypeId} {args : List Value} (HS : St ok0 w0 w ms fo fs) (HB : Below W0.heap.size W0 w) (i : Nat) (hw : ∀ a, Fits a n E → Region.wanted oi (yielded ops a.tmps) = true) (hf : P.funcs[f]? = some fn) (hc : Calls P f args.toArray w (fun e w' => e = .returned v ∧ Drawn0 w w'))
    (h : ∀ w1, St ok0 w0 w1 ms fo fs → Below W0.heap.size W0 w1 → WD P ops Q (fun w' => Below W0.heap.size W0 w') ds fuel (l.setIfInBounds i true) n ((d, v) :: E) w1)
    (hi : ops[i]? = some oi := by rfl) (hd : oi.dst = some d := by rfl) (hlt : d < n := by decide) (hc2 : readyB .any ops l (l.setIfInBounds i true) i = true := by kernel_rfl) (hds : i ∉ ds := by decide) (hop : oi.op = .call { callee := .value (.func f), args := as, argTypes := ts } := by rfl) (hargs : as.toList.map (ev E) = args.map some := by rfl) (hname : (fn.name == "runtime.NumGoroutine") = false := by rfl) (hb : fn.body.isSome = true := by rfl) : WD P ops Q (fun w' => Below W0.heap.size W0 w') ds (fuel + 1) l n E w :=
  dc_ i hw hf hc (fun e w1 hh => have hb := HB.trans (hh.2.below.mono HB.size); ⟨hb, v, hh.1, h w1 (HS.below hh.2.below) hb⟩) hi hd hlt hc2 hds hop hargs hname hb
/-- A cell of a box, loaded. -/
theorem lb_ {bb oo : Nat} {t t0 : TypeId} {cs : List Value} {dd : TypeDesc} {x : Operand} (hb : w.heap[bb]? = some (.cells cs.toArray t0 (0, 0))) (ht : P.underlying t = some dd) (hc : cs[oo]? = some v) (ho : o.op = .load t x := by rfl) (hx : ev E x = some (.pointer (some ⟨bb, oo, none⟩)) := by rfl) (hd : dd.isRow = false := by rfl) : Run P E o w v w := Run.load ho hx ht hd (box_cell hb hc)
theorem fa_ {ad ad' : Addr} {m : Nat} {fs : Array Field} {f : Field} {s : TypeId} {x : Operand} (hs : P.underlying s = some (.struct fs)) (ho : o.op = .fieldAddr s x m := by rfl) (hx : ev E x = some (.pointer (some ad)) := by rfl) (hf : fs[m]? = some f := by rfl) (hi : (P.info? f.type).map (fun i => i.size == 0) = some false := by kernel_rfl) (he : ad.add f.offset = ad' := by rfl) :
    Run P E o w (.pointer (some ad')) w := Run.fieldAddr ho hx hs hf hi he
theorem ia_ {ad : Addr} {m c e : Nat} {t : TypeId} {x y : Operand} {k : IntKind} {i : Int} (ht : P.underlying t = some (.slice e)) (sz : Nat) (h0 : 0 ≤ i) (h1 : i < (m : Int)) (ho : o.op = .indexAddr t x y := by rfl) (hx : ev E x = some (.slice (some ad) m c) := by rfl) (hy : ev E y = some (.int k i) := by rfl) (hsz : (P.info? e).map (·.size) = some sz := by kernel_rfl) :
    Run P E o w (.pointer (some (ad.add (i.toNat * sz)))) w := Run.indexAddr ho hx hy ht hsz h0 h1
theorem doF_ {c : Bool} (i : Nat) (hcc : c = false) {S : World → Prop} (h : WD P ops Q S ds fuel (l.setIfInBounds i true) n ((d, undef) :: E) w) (hi : ops[i]? = some oi := by rfl) (hd : oi.dst = some d := by rfl) (hlt : d < n := by decide) (hc : anyB .any ops l (l.setIfInBounds i true) i = true := by kernel_rfl) (hQ : ∀ v c a w, Q (.panic c) (a.put oi.dst v) w → Q (.panic c) a w := by exact fun _ _ _ _ h => h) (hg : oi.guard = some (j, b) := by rfl) (hj : (ops[j]?).bind (·.dst) = some g := by rfl) (hv : lk E g = some (.bool c) := by rfl) (hcb : (false == b) = false := by rfl) : WD P ops Q S ds (fuel + 1) l n E w := WD.off i hi hd hlt hc hQ hg hj hv hcc hcb h
theorem doT_ {c : Bool} (i : Nat) (hcc : c = true) {S : World → Prop} (h : WD P ops Q S ds fuel (l.setIfInBounds i true) n ((d, undef) :: E) w) (hi : ops[i]? = some oi := by rfl) (hd : oi.dst = some d := by rfl) (hlt : d < n := by decide) (hc : anyB .any ops l (l.setIfInBounds i true) i = true := by kernel_rfl) (hQ : ∀ v c a w, Q (.panic c) (a.put oi.dst v) w → Q (.panic c) a w := by exact fun _ _ _ _ h => h) (hg : oi.guard = some (j, b) := by rfl) (hj : (ops[j]?).bind (·.dst) = some g := by rfl) (hv : lk E g = some (.bool c) := by rfl) (hcb : (true == b) = false := by rfl) : WD P ops Q S ds (fuel + 1) l n E w := WD.off i hi hd hlt hc hQ hg hj hv hcc hcb h
end
section
variable {α : Type} {d : Kd α} {ok0 : Nat → Prop} {w0 w : World} {ms : List Mu} {fo fn : List Fact} {x : α} {cs : List Value}
theorem St.aO (h : St ok0 w0 w ms fo fn) (i : Nat) (hi : fo[i]? = some (fun W => d.K W x cs)) : AtK d w x cs 0 := AtK.whole (h.getO i hi)
theorem St.aN (h : St ok0 w0 w ms fo fn) (i : Nat) (hi : fn[i]? = some (fun W => d.K W x cs)) : AtK d w x cs 0 := AtK.whole (h.getN i hi)
end
section
variable {P : Program} {Q Q' : Exit → Act → World → Prop} {n fuel d : Nat} {E : Env} {w w1 W0 : World} {x y : Code} {K : Act → World → Prop} {e : Exit} {fn : Func} {R R' : Ending → World → Prop} {r s q : ResultVar} {v u z : Value} {ops : Array Oper} {o oi : Oper} {rest : List Oper} {ds : List Nat} {l : Array Bool} {i j g : Nat} {b b' : Bool} {ok0 : Nat → Prop} {w0 : World} {ms : List Mu} {fo fs : List Fact}
theorem sr_ {id : Nat} {l : List Oper} (h : ∀ K : Act → World → Prop, (∀ E w', WC P y Q n E w' → ∀ a, Fits a n E → K a w') → WL P l.toArray (Exit.then K Q) l n E w) : WC P (.seq (.region id l.toArray false) y) Q n E w := WC.seq fun K hK => WC.region (h K hK)
theorem dn_ (hK : ∀ E w', WC P y Q n E w' → ∀ a, Fits a n E → K a w') (h : WC P y Q n E w) (hq : ∀ a w, K a w → Q' .normal a w := by exact fun _ _ h => h) : WL P ops Q' [] n E w := WL.done (WQ.via hq hK h)
theorem rt1 (fn : Func) (hr : fn.results = #[r]) (h1 : ResV P w E r v) (hR : ∀ e w', R e w' → R' e w') (h : R (.returned v) w) (hq : ∀ a w, bodyPost P fn R' .ret a w → Q .ret a w := by exact fun _ _ h => h) : WC P .ret Q n E w := WC.ret (fin1 fn hr h1 hR h hq)
theorem no_ {α : Type} {a : α} {p : Prop} (h : (none : Option α) = some a) : p := by cases h
theorem ln_ {A : Option Addr} {m c e : Nat} {t : TypeId} {x : Operand} (ht : P.underlying t = some (.slice e)) (h : WL P ops Q rest n ((d, .int .i64 (m : Int)) :: E) w) (ho : o.op = .call { callee := .builtin .len, args := #[x], argTypes := #[t] } := by rfl) (hx : ev E x = some (.slice A m c) := by rfl) (hg : o.guard = none := by rfl) (hd : o.dst = some d := by rfl) (hlt : d < n := by decide) : WL P ops Q (o :: rest) n E w := WL.val hg hd hlt (Run.len (ts := #[]) ho ht hx) h
theorem b_ {x y : Operand} {t t2 : TypeId} {k : IntKind} {i j : Int} {op : BinOp} (hr : (Go.binOp op t (.int k i) (.int k j)).run P w = .ok v w) (h : WL P ops Q rest n ((d, v) :: E) w) (ho : o.op = .binOp op t x y t2 := by rfl) (hx : ev E x = some (.int k i) := by rfl) (hy : ev E y = some (.int k j) := by rfl) (hg : o.guard = none := by rfl) (hd : o.dst = some d := by rfl) (hlt : d < n := by decide) : WL P ops Q (o :: rest) n E w := WL.val hg hd hlt (Run.bin ho hx hy hr) h
theorem nt_ {x : Operand} {ty : TypeId} {b : Bool} (h : WL P ops Q rest n ((d, .bool (!b)) :: E) w) (ho : o.op = .unOp .not ty x := by rfl) (hx : ev E x = some (.bool b) := by rfl) (hg : o.guard = none := by rfl) (hd : o.dst = some d := by rfl) (hlt : d < n := by decide) : WL P ops Q (o :: rest) n E w := WL.val hg hd hlt (Run.not ho hx) h
theorem bo_ {t : TypeId} {x : Operand} {cs : Array Value} (H : St ok0 w0 w ms fo fs) (h : ∀ b w1, w0.heap.size ≤ b → St ok0 w0 w1 (boxM b cs t :: ms) fo fs → WL P ops Q rest n ((d, .pointer (some ⟨b, 0, none⟩)) :: E) w1) (ho : o.op = .box t x := by rfl) (hx : ev E x = some v := by rfl) (hv : v.cells = cs := by rfl) (hg : o.guard = none := by rfl) (hd : o.dst = some d := by rfl) (hlt : d < n := by decide) : WL P ops Q (o :: rest) n E w := WL.box H hg hd hlt ho hx hv h
theorem cw_ {f : FuncId} {c : Code} {args : List Value} (hf : P.funcs[f]? = some fn) (h : ∀ R' : Ending → World → Prop, (∀ e w', R e w' → R' e w') → WC P c (bodyPost P fn R') n (envOf 0 args) w) (hb : fn.body = some c := by rfl) (hn : fn.ntmps = n := by rfl) (hl : args.length ≤ n := by exact Nat.le_of_ble_eq_true rfl) : Calls P f args.toArray w R := calls_W hf hb hn hl h
/-- A struct that lies in a box, loaded. -/
theorem ls_ {bb oo : Nat} {t t0 : TypeId} {cs cs0 : List Value} {dd : TypeDesc} {x : Operand} (hb : w.heap[bb]? = some (.cells cs0.toArray t0 (0, 0))) (ht : P.underlying t = some dd) (hp : Part cs cs0 oo) (ho : o.op = .load t x := by rfl) (hx : ev E x = some (.pointer (some ⟨bb, oo, none⟩)) := by rfl) (hd : dd.isRow = true := by rfl) (hi : (P.info? t).map (·.size) = some cs.length := by kernel_rfl) : Run P E o w (.agg cs.toArray) w := Run.loadS ho hx ht hd hi (box_part hb hp)
theorem wy_ {c : Operand} {t : Bool} (ht : t = true) (h : WC P x Q n E w) (hc : ev E c = some (.bool t) := by rfl) : WC P (.cond c x y) Q n E w := WC.yes hc ht h
theorem wn_ {c : Operand} {t : Bool} (ht : t = false) (h : WC P y Q n E w) (hc : ev E c = some (.bool t) := by rfl) : WC P (.cond c x y) Q n E w := WC.no hc ht h
theorem dd_ {m : Nat} {S : World → Prop} (h : WQ Q .normal n E w) (hr : (Region.ready .any ops l == []) = true := by kernel_rfl) : WD P ops Q S ds m l n E w := WD.done hr h
theorem bl_ {bb oo : Nat} {t t0 : TypeId} {cs : List Value} {dd : TypeDesc} {x : Operand} (i : Nat) (HS : St ok0 w0 W0 ms fo fs) (HB : Below W0.heap.size W0 w) (q : Nat) (ht : P.underlying t = some dd) (hc0 : cs[oo]? = some v) (h : WD P ops Q (fun w' => Below W0.heap.size W0 w') ds fuel (l.setIfInBounds i true) n ((d, v) :: E) w) (hq : ms[q]? = some (boxM bb cs.toArray t0) := by rfl) (hi : ops[i]? = some oi := by rfl) (ho : oi.op = .load t x := by rfl) (hx : ev E x = some (.pointer (some ⟨bb, oo, none⟩)) := by rfl) (hdd : dd.isRow = false := by rfl)
    (hd : oi.dst = some d := by rfl) (hlt : d < n := by decide) (hc : takeB .any ops ds l (l.setIfInBounds i true) i = true := by kernel_rfl) (hQ : ∀ v c a w, Q (.panic c) (a.put oi.dst v) w → Q (.panic c) a w := by exact fun _ _ _ _ h => h) (hg : oi.guard = none := by rfl) : WD P ops Q (fun w' => Below W0.heap.size W0 w') ds (fuel + 1) l n E w :=
  WD.take i hi hd hlt hc hQ hg HB (fun w_ hw_ => lb_ ((HS.below hw_).mu q hq) ht hc0 ho hx hdd) h
theorem blg_ {c : Bool} {bb oo : Nat} {t t0 : TypeId} {cs : List Value} {dd : TypeDesc} {x : Operand} (i : Nat) (hcb : c = b) (HS : St ok0 w0 W0 ms fo fs) (HB : Below W0.heap.size W0 w) (q : Nat) (ht : P.underlying t = some dd) (hc0 : cs[oo]? = some v) (h : WD P ops Q (fun w' => Below W0.heap.size W0 w') ds fuel (l.setIfInBounds i true) n ((d, v) :: E) w) (hq : ms[q]? = some (boxM bb cs.toArray t0) := by rfl) (hi : ops[i]? = some oi := by rfl) (ho : oi.op = .load t x := by rfl) (hx : ev E x = some (.pointer (some ⟨bb, oo, none⟩)) := by rfl) (hdd : dd.isRow = false := by rfl)
    (hd : oi.dst = some d := by rfl) (hlt : d < n := by decide) (hc : takeB .any ops ds l (l.setIfInBounds i true) i = true := by kernel_rfl) (hQ : ∀ v c a w, Q (.panic c) (a.put oi.dst v) w → Q (.panic c) a w := by exact fun _ _ _ _ h => h) (hg : oi.guard = some (j, b) := by rfl) (hj : (ops[j]?).bind (·.dst) = some g := by rfl) (hv : lk E g = some (.bool c) := by rfl) : WD P ops Q (fun w' => Below W0.heap.size W0 w') ds (fuel + 1) l n E w :=
  WD.takeG i hi hd hlt hc hQ hg hj hv hcb HB (fun w_ hw_ => lb_ ((HS.below hw_).mu q hq) ht hc0 ho hx hdd) h
end
section
variable {α β : Type} {d : Kd α} {dd : Kd β} {ok0 : Nat → Prop} {w0 w : World} {ms : List Mu} {fo fn : List Fact} {x : α} {cs : List Value} {xs : List β} {e o : Nat} {Rr : World → Prop}
/-- A slice in a struct whose cells are a list. -/
theorem St.sO (h : St ok0 w0 w ms fo fn) (i : Nat) (hi : fo[i]? = some (fun W => d.K W x cs)) (hat : ∀ {W : World}, AtK d W x cs 0 → AtK (Kd.slice e dd) W xs cs o) : ∃ A c, cs[o]? = some (.slice A xs.length c) ∧ xs.length ≤ c ∧ St ok0 w0 w ms ((fun W => dd.C W A xs.length xs) :: fo) fn := by
  obtain ⟨A, c, h1, h2⟩ := (hat (h.aO i hi)).slice
  exact ⟨A, c, h1, h2, h.deriveO (fun W hO hN => (hat (AtK.whole (AllF.get i hi hO))).C h1)⟩
theorem St.sN (h : St ok0 w0 w ms fo fn) (i : Nat) (hi : fn[i]? = some (fun W => d.K W x cs)) (hat : ∀ {W : World}, AtK d W x cs 0 → AtK (Kd.slice e dd) W xs cs o) : ∃ A c, cs[o]? = some (.slice A xs.length c) ∧ xs.length ≤ c ∧ St ok0 w0 w ms fo ((fun W => dd.C W A xs.length xs) :: fn) := by
  obtain ⟨A, c, h1, h2⟩ := (hat (h.aN i hi)).slice
  exact ⟨A, c, h1, h2, h.deriveN (fun W hN => (hat (AtK.whole (AllF.get i hi hN))).C h1)⟩
/-- The same of an element. -/
theorem St.eO (h : St ok0 w0 w ms fo fn) (i : Nat) (hi : fo[i]? = some (fun W => d.K W x cs ∧ Rr W)) (hat : ∀ {W : World}, AtK d W x cs 0 → AtK (Kd.slice e dd) W xs cs o) : ∃ A c, cs[o]? = some (.slice A xs.length c) ∧ xs.length ≤ c ∧ St ok0 w0 w ms ((fun W => dd.C W A xs.length xs) :: fo) fn := by
  obtain ⟨A, c, h1, h2⟩ := (hat (AtK.whole (h.getO i hi).1)).slice
  exact ⟨A, c, h1, h2, h.deriveO (fun W hO hN => (hat (AtK.whole (AllF.get i hi hO).1)).C h1)⟩
end
section
variable {P : Program} {Q : Exit → Act → World → Prop} {n fuel d : Nat} {E : Env} {w W0 : World} {S : World → Prop} {ops : Array Oper} {oi : Oper} {ds : List Nat} {l : Array Bool} {j g : Nat} {b c : Bool}
theorem df_ {ad ad' : Addr} {m : Nat} {fs : Array Field} {f : Field} {s : TypeId} {x : Operand} (i : Nat) (hs : P.underlying s = some (.struct fs)) (h : WD P ops Q S ds fuel (l.setIfInBounds i true) n ((d, .pointer (some ad')) :: E) w) (hi : ops[i]? = some oi := by rfl) (ho : oi.op = .fieldAddr s x m := by rfl) (hx : ev E x = some (.pointer (some ad)) := by rfl) (hf : fs[m]? = some f := by rfl) (hz : (P.info? f.type).map (fun i => i.size == 0) = some false := by kernel_rfl) (he : ad.add f.offset = ad' := by rfl)
    (hd : oi.dst = some d := by rfl) (hlt : d < n := by decide) (hc : anyB .any ops l (l.setIfInBounds i true) i = true := by kernel_rfl) (hQ : ∀ v c a w, Q (.panic c) (a.put oi.dst v) w → Q (.panic c) a w := by exact fun _ _ _ _ h => h) (hg : oi.guard = none := by rfl) : WD P ops Q S ds (fuel + 1) l n E w := WD.pure i hi hd hlt hc hQ hg (fun _ => Run.fieldAddr ho hx hs hf hz he) h
theorem dfg_ {ad ad' : Addr} {m : Nat} {fs : Array Field} {f : Field} {s : TypeId} {x : Operand} (i : Nat) (hcb : c = b) (hs : P.underlying s = some (.struct fs)) (h : WD P ops Q S ds fuel (l.setIfInBounds i true) n ((d, .pointer (some ad')) :: E) w) (hi : ops[i]? = some oi := by rfl) (ho : oi.op = .fieldAddr s x m := by rfl) (hx : ev E x = some (.pointer (some ad)) := by rfl) (hf : fs[m]? = some f := by rfl) (hz : (P.info? f.type).map (fun i => i.size == 0) = some false := by kernel_rfl) (he : ad.add f.offset = ad' := by rfl)
    (hd : oi.dst = some d := by rfl) (hlt : d < n := by decide) (hc : anyB .any ops l (l.setIfInBounds i true) i = true := by kernel_rfl) (hQ : ∀ v c a w, Q (.panic c) (a.put oi.dst v) w → Q (.panic c) a w := by exact fun _ _ _ _ h => h) (hg : oi.guard = some (j, b) := by rfl) (hj : (ops[j]?).bind (·.dst) = some g := by rfl) (hv : lk E g = some (.bool c) := by rfl) : WD P ops Q S ds (fuel + 1) l n E w := WD.pureG i hi hd hlt hc hQ hg hj hv hcb (fun _ => Run.fieldAddr ho hx hs hf hz he) h
theorem di_ {ad : Addr} {m c e : Nat} {t : TypeId} {x y : Operand} {k : IntKind} {q : Int} (i : Nat) (ht : P.underlying t = some (.slice e)) (sz : Nat) (h0 : 0 ≤ q) (h1 : q < (m : Int)) (h : WD P ops Q S ds fuel (l.setIfInBounds i true) n ((d, .pointer (some (ad.add (q.toNat * sz)))) :: E) w) (hi : ops[i]? = some oi := by rfl) (ho : oi.op = .indexAddr t x y := by rfl) (hx : ev E x = some (.slice (some ad) m c) := by rfl) (hy : ev E y = some (.int k q) := by rfl) (hsz : (P.info? e).map (·.size) = some sz := by kernel_rfl)
    (hd : oi.dst = some d := by rfl) (hlt : d < n := by decide) (hc : anyB .any ops l (l.setIfInBounds i true) i = true := by kernel_rfl) (hQ : ∀ v c a w, Q (.panic c) (a.put oi.dst v) w → Q (.panic c) a w := by exact fun _ _ _ _ h => h) (hg : oi.guard = none := by rfl) : WD P ops Q S ds (fuel + 1) l n E w := WD.pure i hi hd hlt hc hQ hg (fun _ => Run.indexAddr ho hx hy ht hsz h0 h1) h
theorem dm_ {v : Value} {x : Operand} (i : Nat) (h : WD P ops Q S ds fuel (l.setIfInBounds i true) n ((d, v) :: E) w) (hi : ops[i]? = some oi := by rfl) (ho : oi.op = .move x := by rfl) (hx : ev E x = some v := by rfl)
    (hd : oi.dst = some d := by rfl) (hlt : d < n := by decide) (hc : anyB .any ops l (l.setIfInBounds i true) i = true := by kernel_rfl) (hQ : ∀ v c a w, Q (.panic c) (a.put oi.dst v) w → Q (.panic c) a w := by exact fun _ _ _ _ h => h) (hg : oi.guard = none := by rfl) : WD P ops Q S ds (fuel + 1) l n E w := WD.pure i hi hd hlt hc hQ hg (fun _ => Run.move ho hx) h
end
/-- A row of the call's own, as cells. -/
theorem row_all {α : Type} {dd : Kd α} {w : World} {B e n c : Nat} {A : Option Addr} {inner : List Value} {xs : List α} (h : w.ownsRow B e dd.sz (.slice A n c) n inner) (hr : Reps (dd.K w) dd.sz xs inner) (hs : 0 < dd.sz) : inner.length = n * dd.sz ∧ (∀ u ∈ inner, u.oneCell' = true) ∧ (0 < n → ∃ ad, A = some ad ∧ ∀ j u, inner[j]? = some u → w.cell? (ad.add j) = some u) := by
  refine ⟨h.1, Kd.reps_one hr hs (fun _ _ hp => dd.K_one hp), fun h0 => ?_⟩
  obtain ⟨ad, rfl⟩ := row_open h h0
  exact ⟨ad, rfl, fun j u hu => row_cell h hu⟩
/-- A literal of one element, as a box, made first or second. -/
theorem WDo.lit1b {P : Program} {Q : Exit → Act → World → Prop} {n fuel d : Nat} {E : Env} {w : World} {S : World → Prop} {ops : Array Oper} {oi : Oper} {ds : List Nat} {l : Array Bool} {ok0 : Nat → Prop} {w0 : World} {ms : List Mu} {fo fs : List Fact} {e : Nat} {t : TypeId} {x : Operand} {vs : List Value} {v z : Value} (i : Nat) (hw : ∀ a, Fits a n E → Region.wanted oi (yielded ops a.tmps) = true) (H : St ok0 w0 w ms fo fs) (ho : oi.op = .buildSlice t 1 #[(0, x)]) (hx : ev E x = some v) (hv : v.cells = vs.toArray) (ht : P.underlying t = some (.slice e)) (hi : (P.info? e).map (fun i => (i.zero, i.size)) = some (some z, vs.length)) (h0 : 0 < vs.length) (hm : vs.length ≤ 16777216)
    (h : ∀ b w1, w0.heap.size ≤ b → St ok0 w0 w1 (boxM b vs.toArray e :: ms) fo fs → S w1 ∧ WD P ops Q S ds fuel (l.setIfInBounds i true) n ((d, .slice (some ⟨b, 0, none⟩) 1 1) :: E) w1) (hd : oi.dst = some d := by rfl) (hlt : d < n := by decide) : WDop P ops Q S ds fuel l n E w oi i d :=
  let g := h _ _ H.size (H.box vs.toArray e); dvo_ i hw (Run.lit1 ho hx hv ht hi h0 hm) g.1 g.2 hd hlt
/-- A call, made first or second. -/
theorem dco_ {P : Program} {Q : Exit → Act → World → Prop} {n fuel d : Nat} {E : Env} {w : World} {S : World → Prop} {ops : Array Oper} {oi : Oper} {ds : List Nat} {l : Array Bool} {f : FuncId} {fn : Func} {as : Array Operand} {ts : Array TypeId} {args : List Value} {R : Ending → World → Prop} (i : Nat) (hw : ∀ a, Fits a n E → Region.wanted oi (yielded ops a.tmps) = true) (hf : P.funcs[f]? = some fn) (hcall : Calls P f args.toArray w R) (h : ∀ e w1, R e w1 → S w1 ∧ ∃ v, e = .returned v ∧ WD P ops Q S ds fuel (l.setIfInBounds i true) n ((d, v) :: E) w1)
    (hd : oi.dst = some d := by rfl) (hlt : d < n := by decide) (hop : oi.op = .call { callee := .value (.func f), args := as, argTypes := ts } := by rfl) (hargs : as.toList.map (ev E) = args.map some := by rfl) (hname : (fn.name == "runtime.NumGoroutine") = false := by rfl) (hb : fn.body.isSome = true := by rfl) : WDop P ops Q S ds fuel l n E w oi i d := fun K hK a ha =>
  goes_ hf hname hb args.toArray (hw a ha) hd hop (args_evalA ha hargs) (hcall.mono fun e w' hh => by
    obtain ⟨h1, v, rfl, hk⟩ := h e w' hh
    exact ⟨v, rfl, hK _ _ h1 hk _ (ha.put hlt v)⟩)
theorem db_ {P : Program} {Q : Exit → Act → World → Prop} {n fuel d : Nat} {E : Env} {w : World} {S : World → Prop} {ops : Array Oper} {oi : Oper} {ds : List Nat} {l : Array Bool} {t : TypeId} {ps : Array (Nat × Operand)} {cells : Array Value} (i : Nat) (vs : List (Nat × Value)) (hi : ops[i]? = some oi) (ho : oi.op = .build t ps) (hE : EvB E ps.toList vs) (hb : P.built t vs = some cells) (h : WD P ops Q S ds fuel (l.setIfInBounds i true) n ((d, .agg cells) :: E) w)
    (hd : oi.dst = some d := by rfl) (hlt : d < n := by decide) (hc : anyB .any ops l (l.setIfInBounds i true) i = true := by kernel_rfl) (hQ : ∀ v c a w, Q (.panic c) (a.put oi.dst v) w → Q (.panic c) a w := by exact fun _ _ _ _ h => h) (hg : oi.guard = none := by rfl) : WD P ops Q S ds (fuel + 1) l n E w := WD.pure i hi hd hlt hc hQ hg (fun _ => Run.build ho vs hE hb) h
end Go.Proofs.Ytacbkcofcbglhaa.XSt
namespace Go.Proofs.Ytacbkcofcbglhaa.XSt
open Go.RowKit Go.Proofs.YtacbkcofcbglhaaW.PrintWords Go.Proofs.YtacbkcofcbglhaaW.PrintLast Go.Proofs.YtacbkcofcbglhaaW.PrintMore Go.Proofs.Ytacbkcofcbglhaa.XW Go.Proofs.Ytacbkcofcbglhaa.XOp Go.Proofs.Ytacbkcofcbglhaa.XDraw
set_option linter.unusedVariables false
/-- One cell is another, and so is what the cells are. -/
def Upd {α : Type} (d : Kd α) (w : World) (o : Nat) (v : Value) (x x' : α) : Prop := ∀ cs, d.K w x cs → d.K w x' (cs.set o v)
section
variable {α β : Type} {d : Kd α} {a : Kd α} {b : Kd β} {w : World} {o o' e c : Nat} {v : Value} {k : IntKind} {A : Option Addr}
theorem Upd.fst {x x' : α} {y : β} (h : Upd a w o v x x') (hs : o < a.sz) : Upd (Kd.pair a b) w o v (x, y) (x', y) := by
  rintro cs ⟨c0, c1, rfl, h0, h1⟩
  have hl := a.K_len h0
  exact ⟨c0.set o v, c1, by rw [List.set_append_left _ _ (by omega)], h c0 h0, h1⟩
theorem Upd.snd {x : α} {y y' : β} (h : Upd b w o v y y') (he : o' = a.sz + o) : Upd (Kd.pair a b) w o' v (x, y) (x, y') := by
  rintro cs ⟨c0, c1, rfl, h0, h1⟩
  have hl := a.K_len h0
  subst he
  exact ⟨c0, c1.set o v, by rw [List.set_append_right _ _ (by omega), hl, Nat.add_sub_cancel_left], h0, h c1 h1⟩
theorem Upd.iso {f : β → α} {x x' : β} (h : Upd d w o v (f x) (f x')) : Upd (Kd.iso d f) w o v x x' := h
theorem Upd.int {x y : Int} : Upd (Kd.int k) w 0 (.int k y) x y := fun cs h => by
  have e : cs = [.int k x] := h
  subst e; rfl
theorem Upd.bool {x y : Bool} : Upd Kd.bool w 0 (.bool y) x y := fun cs h => by
  have e : cs = [.bool x] := h
  subst e; rfl
theorem Upd.slice {xs ys : List α} (hl : ys.length ≤ c) (hC : d.C w A ys.length ys) : Upd (Kd.slice e d) w 0 (.slice A ys.length c) xs ys := fun cs h => by
  obtain ⟨A', c', rfl, _⟩ := h
  exact ⟨A, c, rfl, hl, hC⟩
end
end Go.Proofs.Ytacbkcofcbglhaa.XSt
namespace Go.Proofs.YtacbkcofcbglhaaW.PrintLast
open Go.Proofs.YtacbkcofcbglhaaW.PrintWords (Aside0)
section
variable {md : Region.Mode} {ops : Array Oper} {T : Bool × List (List Nat × List Nat)} {l l' li lj lk : Array Bool} {ds : List Nat} {i j k : Nat}
theorem gd (l : Array Bool) (j : Nat) (b : Bool) : l.getD j b = l.toList.getD j b := by simp [Array.getD_eq_getD_getElem?, List.getD_eq_getElem?_getD]
end
end Go.Proofs.YtacbkcofcbglhaaW.PrintLast
namespace Go.Proofs.YtacbkcofcbglhaaW.PrintWords
open Go.RowKit
section
variable {P : Program} {d : Nat} {xs ys : Array Value} {f : Field} {fs : List Field} {a b : Value} {r s : Bool} {w : World}
/-- The last field that counts. -/
theorem eqf_last (hn : (f.name == "_") = false) (ha : (part f.type xs f.offset).run P w = .ok a w) (hb : (part f.type ys f.offset).run P w = .ok b w) (he : (Op.equalIn d f.type a b).run P w = .ok r w) : (Op.eqFields d xs ys [f]).run P w = .ok r w := by
  have hn' : f.name ≠ "_" := by simpa using hn
  simp only [Op.eqFields, if_pos hn', Sem.run_bind, ha, hb, he, Result.andThen_ok]
  cases r <;> simp
theorem eqf_cons (hn : (f.name == "_") = false) (ha : (part f.type xs f.offset).run P w = .ok a w) (hb : (part f.type ys f.offset).run P w = .ok b w) (he : (Op.equalIn d f.type a b).run P w = .ok r w) (hr : (Op.eqFields d xs ys fs).run P w = .ok s w) : (Op.eqFields d xs ys (f :: fs)).run P w = .ok (r && s) w := by
  have hn' : f.name ≠ "_" := by simpa using hn
  rw [Op.eqFields]
  simp only [if_pos hn', Sem.run_bind, ha, hb, he, Result.andThen_ok]
  cases r
  · simp
  · simpa using hr
theorem eqA_of {t : TypeId} {fs : Array Field} (hu : P.underlying t = some (.struct fs)) (hp : P.stoodInHeld t = false) (h : (Op.eqFields d xs ys fs.toList).run P w = .ok r w) : (Op.equalIn (d + 1) t (.agg xs) (.agg ys)).run P w = .ok r w := by
  have hf : P.fieldsOf t = fs := by simp [Program.fieldsOf, hu]
  rw [run_equalIn_struct (P := P) w d t xs ys (by rw [hf]; exact hu) hp, hf]
  exact h
end
end Go.Proofs.YtacbkcofcbglhaaW.PrintWords
namespace Go.Proofs.YtacbkcofcbglhaaW.PrintWords
/-- One cell an element. -/
theorem Reps.one {α : Type} {R : α → List Value → Prop} {ps : List α} {cs : List Value} {p : α} {v : Value} (hp : R p [v]) (h : Reps R 1 ps cs) : Reps R 1 (p :: ps) (v :: cs) := by
  refine ⟨by simp [h.1], fun j q hq => ?_⟩
  cases j with
  | zero =>
    simp only [List.getElem?_cons_zero, Option.some.injEq] at hq
    subst hq
    simpa using hp
  | succ j =>
    simp only [List.getElem?_cons_succ] at hq
    have h1 := h.2 j q hq
    simpa [Nat.mul_one] using h1
/-- More cells an element: told apart by the cells' list. -/
theorem Reps.front {α : Type} {R : α → List Value → Prop} {size : Nat} {ps : List α} {cs c all : List Value} {p : α} (hp : R p c) (hc : c.length = size) (h : Reps R size ps cs) (ha : c ++ cs = all) : Reps R size (p :: ps) all := by
  subst ha
  refine ⟨by rw [List.length_append, hc, h.1, List.length_cons, Nat.succ_mul, Nat.add_comm], fun j q hq => ?_⟩
  cases j with
  | zero =>
    simp only [List.getElem?_cons_zero, Option.some.injEq] at hq
    subst hq
    rw [Nat.zero_mul, List.drop_zero, List.take_append_of_le_length (by omega), List.take_of_length_le (by omega)]
    exact hp
  | succ j =>
    simp only [List.getElem?_cons_succ] at hq
    have h1 := h.2 j q hq
    rw [Nat.succ_mul, List.drop_append, List.drop_of_length_le (by rw [hc]; exact Nat.le_add_left _ _), List.nil_append, hc, Nat.add_sub_cancel]
    exact h1
theorem Reps.c2 {α : Type} {R : α → List Value → Prop} {ps : List α} {cs : List Value} {p : α} {va vb : Value} (hp : R p [va, vb]) (h : Reps R 2 ps cs) : Reps R 2 (p :: ps) (va :: vb :: cs) := Reps.front hp rfl h rfl
theorem Reps.c3 {α : Type} {R : α → List Value → Prop} {ps : List α} {cs : List Value} {p : α} {va vb vc : Value} (hp : R p [va, vb, vc]) (h : Reps R 3 ps cs) : Reps R 3 (p :: ps) (va :: vb :: vc :: cs) := Reps.front hp rfl h rfl
theorem Reps.c4 {α : Type} {R : α → List Value → Prop} {ps : List α} {cs : List Value} {p : α} {va vb vc vd : Value} (hp : R p [va, vb, vc, vd]) (h : Reps R 4 ps cs) : Reps R 4 (p :: ps) (va :: vb :: vc :: vd :: cs) := Reps.front hp rfl h rfl
theorem Reps.c5 {α : Type} {R : α → List Value → Prop} {ps : List α} {cs : List Value} {p : α} {va vb vc vd ve : Value} (hp : R p [va, vb, vc, vd, ve]) (h : Reps R 5 ps cs) : Reps R 5 (p :: ps) (va :: vb :: vc :: vd :: ve :: cs) := Reps.front hp rfl h rfl
theorem Reps.c6 {α : Type} {R : α → List Value → Prop} {ps : List α} {cs : List Value} {p : α} {va vb vc vd ve vf : Value} (hp : R p [va, vb, vc, vd, ve, vf]) (h : Reps R 6 ps cs) : Reps R 6 (p :: ps) (va :: vb :: vc :: vd :: ve :: vf :: cs) := Reps.front hp rfl h rfl
theorem Reps.c7 {α : Type} {R : α → List Value → Prop} {ps : List α} {cs : List Value} {p : α} {va vb vc vd ve vf vg : Value} (hp : R p [va, vb, vc, vd, ve, vf, vg]) (h : Reps R 7 ps cs) : Reps R 7 (p :: ps) (va :: vb :: vc :: vd :: ve :: vf :: vg :: cs) := Reps.front hp rfl h rfl
theorem Reps.c8 {α : Type} {R : α → List Value → Prop} {ps : List α} {cs : List Value} {p : α} {va vb vc vd ve vf vg vh : Value} (hp : R p [va, vb, vc, vd, ve, vf, vg, vh]) (h : Reps R 8 ps cs) : Reps R 8 (p :: ps) (va :: vb :: vc :: vd :: ve :: vf :: vg :: vh :: cs) := Reps.front hp rfl h rfl
theorem Reps.c9 {α : Type} {R : α → List Value → Prop} {ps : List α} {cs : List Value} {p : α} {va vb vc vd ve vf vg vh vi : Value} (hp : R p [va, vb, vc, vd, ve, vf, vg, vh, vi]) (h : Reps R 9 ps cs) : Reps R 9 (p :: ps) (va :: vb :: vc :: vd :: ve :: vf :: vg :: vh :: vi :: cs) := Reps.front hp rfl h rfl
theorem Reps.c10 {α : Type} {R : α → List Value → Prop} {ps : List α} {cs : List Value} {p : α} {va vb vc vd ve vf vg vh vi vj : Value} (hp : R p [va, vb, vc, vd, ve, vf, vg, vh, vi, vj]) (h : Reps R 10 ps cs) : Reps R 10 (p :: ps) (va :: vb :: vc :: vd :: ve :: vf :: vg :: vh :: vi :: vj :: cs) := Reps.front hp rfl h rfl
end Go.Proofs.YtacbkcofcbglhaaW.PrintWords
namespace Go.Proofs.YtacbkcofcbglhaaW.PrintLast
/-- Number i is listed too. -/
def up (b : Nat → Bool) (i : Nat) : Nat → Bool := fun j => if j = i then true else b j
end Go.Proofs.YtacbkcofcbglhaaW.PrintLast
namespace Go.Proofs.YtacbkcofcbglhaaW.PrintLast
section
variable {ops : Array Oper} {a : Act} {o og : Oper} {g : Nat} {t : Tmp} {u : Bool}
/-- A guarded operation whose guard has yielded what it wants. -/
theorem wanted_on (hg : o.guard = some (g, u)) (ho : ops[g]? = some og) (hd : og.dst = some t) (hv : a.tmps[t]? = some (.bool u)) : Region.wanted o (yielded ops a.tmps) = true := by
  simp [Region.wanted, hg, yielded, ho, hd, hv]
/-- The other: it isn't carried out. -/
theorem wanted_off (hg : o.guard = some (g, u)) (ho : ops[g]? = some og) (hd : og.dst = some t) (hv : a.tmps[t]? = some (.bool (!u))) : Region.wanted o (yielded ops a.tmps) = false := by
  cases u <;> simp_all [Region.wanted, yielded]
end
end Go.Proofs.YtacbkcofcbglhaaW.PrintLast
