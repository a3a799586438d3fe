/- General lemmas: the numbers that a value of rows in rows leads to, one behind the other: marking them, and finding the marks again. No conditions. -/
import Derived.Test.YtlpginalgdbopaaXLaw
namespace Go.Proofs.Ytlpginalgdbopaa.XLeaf
open Go.Proofs.Ytlpginalgdbopaa.XLaw
open Go.RowKit Go.Proofs.YtlpginalgdbopaaW.PrintWords Go.Proofs.YtlpginalgdbopaaW.PrintLast Go.Proofs.YtlpginalgdbopaaW.PrintMore
set_option linter.unusedVariables false
/-- What a value looks like: a number, a row of such, two in line. -/
inductive Sh where
  | int : Sh
  | row : Sh → Sh
  | both : Sh → Sh → Sh
def Sh.sz : Sh → Nat
  | .int => 1
  | .row _ => 1
  | .both a b => a.sz + b.sz
/-- From cell o of block b on lies what looks so, and L are its numbers' places, in order. -/
def Lv (w : World) : Sh → Nat → Nat → List Addr → Prop
  | .int, b, o, L => L = [⟨b, o, none⟩] ∧ ∃ cs t n, w.heap[b]? = some (.cells cs t (0, 0)) ∧ cs[o]? = some (.int .i64 n)
  | .row s, b, o, L => ∃ cs t A n c, w.heap[b]? = some (.cells cs t (0, 0)) ∧ cs[o]? = some (.slice A n c) ∧ n ≤ 9223372036854775807 ∧
      ∃ f : Nat → List Addr, L = (List.range n).flatMap f ∧ ∀ i, i < n → ∃ g, A = some ⟨g, 0, none⟩ ∧ Lv w s g (i * s.sz) (f i)
  | .both s t, b, o, L => ∃ L1 L2, L = L1 ++ L2 ∧ Lv w s b o L1 ∧ Lv w t b (o + s.sz) L2
/-- The same of a row. -/
def RowLv (w : World) (s : Sh) (A : Option Addr) (n : Nat) (L : List Addr) : Prop :=
  n ≤ 9223372036854775807 ∧ ∃ f : Nat → List Addr, L = (List.range n).flatMap f ∧ ∀ i, i < n → ∃ g, A = some ⟨g, 0, none⟩ ∧ Lv w s g (i * s.sz) (f i)
/-- Numbers of the blocks ok are other numbers now; all else that was is as it was. -/
structure Ints (ok : Nat → Prop) (w w1 : World) : Prop where
  os : w1.os = w.os
  tape : w1.tape = w.tape
  output : w1.output = w.output
  size : w.heap.size ≤ w1.heap.size
  keep : ∀ k : Nat, k < w.heap.size → ¬ ok k → w1.heap[k]? = w.heap[k]?
  cells : ∀ (k : Nat) (cs : Array Value) (t : TypeId), w.heap[k]? = some (.cells cs t (0, 0)) → ∃ cs1 : Array Value, w1.heap[k]? = some (.cells cs1 t (0, 0)) ∧ ∀ (o : Nat) (u : Value), cs[o]? = some u → cs1[o]? = some u ∨ ∃ n m : Int, u = .int .i64 n ∧ cs1[o]? = some (.int .i64 m)
section
variable {ok ok' : Nat → Prop} {w w1 w2 : World}
theorem Ints.of_below (h : Below w.heap.size w w1) : Ints ok w w1 :=
  ⟨h.os, h.tape, h.output, h.size, fun k hk _ => h.block k hk, fun k cs t hb => ⟨cs, (h.block k (blk_lt hb)).trans hb, fun _ _ hu => .inl hu⟩⟩
theorem Ints.refl (ok : Nat → Prop) (w : World) : Ints ok w w := Ints.of_below (Below.refl _ _)
theorem Ints.mono (h : Ints ok w w1) (hm : ∀ k, ok k → ok' k) : Ints ok' w w1 :=
  ⟨h.os, h.tape, h.output, h.size, fun k hk hn => h.keep k hk (fun h2 => hn (hm k h2)), h.cells⟩
theorem Ints.trans (h : Ints ok w w1) (h' : Ints ok w1 w2) : Ints ok w w2 :=
  ⟨h'.os.trans h.os, h'.tape.trans h.tape, h'.output.trans h.output, Nat.le_trans h.size h'.size, fun k hk hn => (h'.keep k (Nat.lt_of_lt_of_le hk h.size) hn).trans (h.keep k hk hn), fun k cs t hb => by
    obtain ⟨cs1, h1, g1⟩ := h.cells k cs t hb
    obtain ⟨cs2, h2, g2⟩ := h'.cells k cs1 t h1
    refine ⟨cs2, h2, fun o u hu => ?_⟩
    rcases g1 o u hu with h3 | ⟨n, m, h3, h4⟩
    · exact g2 o u h3
    · rcases g2 o _ h4 with h5 | ⟨_, m', _, h5⟩
      · exact .inr ⟨n, m, h3, h5⟩
      · exact .inr ⟨n, m', h3, h5⟩⟩
theorem Ints.kept (h : Ints ok w w1) : Kept w w1 ok := ⟨h.size, fun k hk hn => h.keep k hk hn⟩
theorem Ints.below {B : Nat} {w0 : World} (h : Ints ok w w1) (hb : Below B w0 w) (hB : B ≤ w.heap.size) (ho : ∀ k, ok k → B ≤ k) : Below B w0 w1 :=
  ⟨h.os.trans hb.os, h.tape.trans hb.tape, h.output.trans hb.output, Nat.le_trans hb.size h.size, fun k hk => (h.keep k (by omega) (fun h2 => by have := ho k h2; omega)).trans (hb.block k hk)⟩
theorem Lv.ints {s : Sh} : ∀ {b o : Nat} {L : List Addr}, Lv w s b o L → Ints ok w w1 → Lv w1 s b o L := by
  induction s with
  | int =>
    rintro b o L ⟨rfl, cs, t, n, hb, ho⟩ h
    obtain ⟨cs1, h1, g1⟩ := h.cells b cs t hb
    refine ⟨rfl, cs1, t, ?_⟩
    rcases g1 o _ ho with h2 | ⟨_, m, _, h2⟩
    · exact ⟨n, h1, h2⟩
    · exact ⟨m, h1, h2⟩
  | row s ih =>
    rintro b o L ⟨cs, t, A, n, c, hb, ho, hn, f, rfl, hf⟩ h
    obtain ⟨cs1, h1, g1⟩ := h.cells b cs t hb
    refine ⟨cs1, t, A, n, c, h1, ?_, hn, f, rfl, fun i hi => ?_⟩
    · rcases g1 o _ ho with h2 | ⟨_, m, h3, _⟩
      · exact h2
      · cases h3
    · obtain ⟨g, e, hl⟩ := hf i hi
      exact ⟨g, e, ih hl h⟩
  | both s t ih1 ih2 =>
    rintro b o L ⟨L1, L2, rfl, h1, h2⟩ h
    exact ⟨L1, L2, rfl, ih1 h1 h, ih2 h2 h⟩
theorem RowLv.ints {s : Sh} {A : Option Addr} {n : Nat} {L : List Addr} (hr : RowLv w s A n L) (h : Ints ok w w1) : RowLv w1 s A n L := by
  obtain ⟨hn, f, e, hf⟩ := hr
  exact ⟨hn, f, e, fun i hi => by obtain ⟨g, e2, hl⟩ := hf i hi; exact ⟨g, e2, hl.ints h⟩⟩
end
/-- The numbers at L are k, k + 1 and so on now, where no place is in L twice; all else is as it was. -/
structure Marked (L : List Addr) (k : Int) (w w1 : World) : Prop where
  i : Ints (fun b => ∃ p, p ∈ L ∧ p.block = b) w w1
  rest : ∀ (p : Addr) (v : Value), w.cell? p = some v → p ∉ L → w1.cell? p = some v
  told : L.Nodup → ∀ (j : Nat) (p : Addr), L[j]? = some p → w1.cell? p = some (.int .i64 (k + (j : Int)))
def ToldAt (w : World) (L : List Addr) (k : Int) : Prop := ∀ (j : Nat) (p : Addr), L[j]? = some p → w.cell? p = some (.int .i64 (k + (j : Int)))
section
variable {w w1 w2 : World} {L L1 L2 : List Addr} {k : Int}
theorem Marked.nil (k : Int) (w : World) : Marked [] k w w := ⟨Ints.refl _ _, fun _ _ h _ => h, fun _ j p h => by simp at h⟩
theorem Marked.app (h : Marked L1 k w w1) (h' : Marked L2 (k + (L1.length : Int)) w1 w2) : Marked (L1 ++ L2) k w w2 := by
  refine ⟨(h.i.mono ?_).trans (h'.i.mono ?_), fun p v hv hn => ?_, fun hd j p hj => ?_⟩
  · rintro b ⟨p, hp, e⟩; exact ⟨p, List.mem_append_left _ hp, e⟩
  · rintro b ⟨p, hp, e⟩; exact ⟨p, List.mem_append_right _ hp, e⟩
  · rw [List.mem_append] at hn
    exact h'.rest p v (h.rest p v hv (fun hp => hn (.inl hp))) (fun hp => hn (.inr hp))
  · obtain ⟨d1, d2, d3⟩ := List.nodup_append.1 hd
    by_cases hlt : j < L1.length
    · rw [List.getElem?_append_left hlt] at hj
      have h1 := h.told d1 j p hj
      exact h'.rest p _ h1 (fun hp => d3 p (List.mem_of_getElem? hj) p hp rfl)
    · rw [List.getElem?_append_right (by omega)] at hj
      have h1 := h'.told d2 _ p hj
      rw [h1]
      congr 2
      omega
theorem Marked.before (hb : Below w.heap.size w w1) (h : Marked L k w1 w2) : Marked L k w w2 :=
  ⟨(Ints.of_below hb).trans h.i, fun p v hv hn => h.rest p v (pw_cell_below hb hv) hn, h.told⟩
theorem Marked.behind (h : Marked L k w w1) (hb : Below w1.heap.size w1 w2) : Marked L k w w2 :=
  ⟨h.i.trans (Ints.of_below hb), fun p v hv hn => pw_cell_below hb (h.rest p v hv hn), fun hd j p hj => pw_cell_below hb (h.told hd j p hj)⟩
theorem ToldAt.below (h : ToldAt w L k) (hb : Below w.heap.size w w1) : ToldAt w1 L k := fun j p hj => pw_cell_below hb (h j p hj)
theorem ToldAt.left (h : ToldAt w (L1 ++ L2) k) : ToldAt w L1 k := fun j p hj => h j p (by rw [List.getElem?_append_left (List.getElem?_eq_some_iff.1 hj).1]; exact hj)
theorem ToldAt.right (h : ToldAt w (L1 ++ L2) k) : ToldAt w L2 (k + (L1.length : Int)) := fun j p hj => by
  have := h (L1.length + j) p (by rw [List.getElem?_append_right (by omega), Nat.add_sub_cancel_left]; exact hj)
  rw [this]
  congr 2
  omega
/-- One number is stored. -/
theorem Marked.set {b o : Nat} {L : List Addr} (h : Lv w .int b o L) (k : Int) : Marked L k w (w.setCell ⟨b, o, none⟩ (.int .i64 k)) := by
  obtain ⟨rfl, cs, t, n, hb, ho⟩ := h
  have hset : (w.setCell ⟨b, o, none⟩ (.int .i64 k)).heap[b]? = some (.cells (cs.setIfInBounds o (.int .i64 k)) t (0, 0)) := blk_set hb o _
  have hlt : o < cs.size := (Array.getElem?_eq_some_iff.1 ho).1
  refine ⟨⟨rfl, rfl, rfl, by simp [World.setCell], fun q hq hn => Below.heap_setCell _ _ _ _ (fun e => hn ⟨_, List.mem_singleton.2 rfl, e.symm⟩), fun q cs2 t2 hq => ?_⟩, fun p v hv hn => ?_, fun _ j p hj => ?_⟩
  · by_cases e : q = b
    · subst e
      rw [hb] at hq
      injection hq with hq
      injection hq with h1 h2 h3
      subst h1 h2
      refine ⟨_, hset, fun o2 u hu => ?_⟩
      by_cases e2 : o = o2
      · subst e2
        rw [ho] at hu
        injection hu with hu
        exact .inr ⟨n, k, hu.symm, by rw [Array.getElem?_setIfInBounds_self_of_lt hlt]⟩
      · exact .inl (by rw [Array.getElem?_setIfInBounds_ne e2]; exact hu)
    · exact ⟨cs2, (Below.heap_setCell w ⟨b, o, none⟩ _ q e).trans hq, fun _ _ hu => .inl hu⟩
  · have : (⟨b, o, none⟩ : Addr) ≠ p := fun e => hn (by rw [e]; exact List.mem_singleton.2 rfl)
    rw [World.cell?_setCell_other _ _ _ _ this]; exact hv
  · cases j with
    | zero =>
      have e : (⟨b, o, none⟩ : Addr) = p := by simpa using hj
      subst e
      rw [blk_cell hset o, Array.getElem?_setIfInBounds_self_of_lt hlt]
      simp
    | succ j => simp at hj
end
theorem range_snoc (f : Nat → List Addr) (j : Nat) : (List.range (j + 1)).flatMap f = (List.range j).flatMap f ++ f j := by
  rw [List.range_succ, List.flatMap_append]; simp
/-- A part of a row's numbers. -/
theorem range_cut (f : Nat → List Addr) {j n : Nat} (h : j ≤ n) : ∃ R, (List.range n).flatMap f = (List.range j).flatMap f ++ R := by
  obtain ⟨m, rfl⟩ := Nat.exists_eq_add_of_le h
  exact ⟨_, by rw [List.range_add, List.flatMap_append]⟩
theorem told_at {w : World} {k : Int} (f : Nat → List Addr) {j n : Nat} (h : ToldAt w ((List.range n).flatMap f) k) (hj : j < n) : ToldAt w (f j) (k + (((List.range j).flatMap f).length : Int)) := by
  obtain ⟨R, e⟩ := range_cut f (show j + 1 ≤ n by omega)
  rw [e, range_snoc] at h
  exact h.left.right
theorem len_at (f : Nat → List Addr) {j n : Nat} (h : j < n) : ((List.range j).flatMap f).length + (f j).length ≤ ((List.range n).flatMap f).length := by
  obtain ⟨R, e⟩ := range_cut f (show j + 1 ≤ n by omega)
  rw [e, range_snoc, List.length_append, List.length_append]
  omega
theorem Lv.lt {w : World} {s : Sh} : ∀ {b o : Nat} {L : List Addr}, Lv w s b o L → ∀ p, p ∈ L → p.block < w.heap.size := by
  induction s with
  | int =>
    rintro b o L ⟨rfl, cs, t, n, hb, ho⟩ p hp
    rw [List.mem_singleton.1 hp]
    exact blk_lt hb
  | row s ih =>
    rintro b o L ⟨cs, t, A, n, c, hb, ho, hn, f, rfl, hf⟩ p hp
    obtain ⟨i, hi, hp⟩ := List.mem_flatMap.1 hp
    obtain ⟨g, e, hl⟩ := hf i (List.mem_range.1 hi)
    exact ih hl p hp
  | both s t ih1 ih2 =>
    rintro b o L ⟨L1, L2, rfl, h1, h2⟩ p hp
    rcases List.mem_append.1 hp with hp | hp
    · exact ih1 h1 p hp
    · exact ih2 h2 p hp
theorem RowLv.lt {w : World} {s : Sh} {A : Option Addr} {n : Nat} {L : List Addr} (h : RowLv w s A n L) : ∀ p, p ∈ L → p.block < w.heap.size := by
  obtain ⟨hn, f, rfl, hf⟩ := h
  intro p hp
  obtain ⟨i, hi, hp⟩ := List.mem_flatMap.1 hp
  obtain ⟨g, e, hl⟩ := hf i (List.mem_range.1 hi)
  exact hl.lt p hp
/-- Kinds whose numbers are told. -/
structure Leafs {α : Type} (d : Kd α) (s : Sh) (cnt : α → Nat) : Prop where
  sz : d.sz = s.sz
  get : ∀ {w : World} {base : Nat} {ok : Nat → Prop} {x : α} {cs : List Value} {b o : Nat} {bc : Array Value} {t : TypeId}, d.M w base ok x cs → w.heap[b]? = some (.cells bc t (0, 0)) → (∀ i u, cs[i]? = some u → bc[o + i]? = some u) →
    ∃ L, Lv w s b o L ∧ L.length = cnt x ∧ ∀ p, p ∈ L → (p.block = b ∧ o ≤ p.off ∧ p.off < o + s.sz) ∨ ok p.block
theorem Leafs.int : Leafs (Kd.int .i64) .int (fun _ => 1) := ⟨rfl, by
  intro w base ok x cs b o bc t h hb hc
  have e : cs = [.int .i64 x] := h
  subst e
  exact ⟨[⟨b, o, none⟩], ⟨rfl, bc, t, x, hb, hc 0 _ rfl⟩, rfl, fun p hp => by rw [List.mem_singleton.1 hp]; exact .inl ⟨rfl, Nat.le_refl _, by show o < o + 1; omega⟩⟩⟩
theorem sum_range {α : Type} (cnt : α → Nat) (xs : List α) (f : Nat → List Addr) (h : ∀ i (hi : i < xs.length), (f i).length = cnt xs[i]) : ((List.range xs.length).flatMap f).length = (xs.map cnt).sum := by
  rw [List.length_flatMap]
  congr 1
  apply List.ext_getElem
  · simp
  · intro i h1 h2
    simp only [List.getElem_map, List.getElem_range]
    exact h i (by simpa using h2)
theorem Leafs.row {α : Type} {d : Kd α} {s : Sh} {cnt : α → Nat} (hd : Leafs d s cnt) {e : Nat} {w : World} {base : Nat} {ok : Nat → Prop} {v : Value} {xs : List α} (h : d.R e w base ok v xs) :
    ∃ A c L, v = .slice A xs.length c ∧ RowLv w s A xs.length L ∧ L.length = (xs.map cnt).sum ∧ ∀ p, p ∈ L → ok p.block := by
  have hmax := h
  obtain ⟨A, c, rfl, hl, hC⟩ := Kd.R_reads hmax
  have hn := Kd.C_max hC
  obtain ⟨h0, inner, ho, hr⟩ := h
  have hex : ∀ i, i < xs.length → ∃ Li, (∃ g, A = some ⟨g, 0, none⟩ ∧ Lv w s g (i * s.sz) Li) ∧ (∀ hi : i < xs.length, Li.length = cnt xs[i]) ∧ ∀ p, p ∈ Li → ok p.block := by
    intro i hi
    obtain ⟨g, cap, hA, hbase, hlt⟩ := ho.form (by omega)
    injection hA with hA _ _
    subst hA
    rcases ho.2 with ⟨hv, _⟩ | ⟨g', cap', cur, hv, _, hb, _, _, hs, htake⟩
    · cases hv
    · injection hv with hv _ _
      injection hv with hv
      injection hv with hv
      subst hv
      have hM := hr.2 i _ (List.getElem?_eq_getElem hi)
      have hg : some g = (Value.slice (some ⟨g, 0, none⟩) xs.length c).ownBlock := rfl
      obtain ⟨Li, hLv, hlen, hin⟩ := hd.get hM hb (o := i * s.sz) (fun j u hu => by
        rw [List.getElem?_take] at hu
        split at hu
        · rw [List.getElem?_drop, ← htake, List.getElem?_take] at hu
          split at hu
          · rw [← hd.sz]; simpa using hu
          · cases hu
        · cases hu)
      refine ⟨Li, ⟨g, rfl, hLv⟩, fun _ => hlen, fun p hp => ?_⟩
      rcases hin p hp with ⟨e1, _⟩ | h2
      · rw [e1]; exact h0 g rfl
      · exact h2.1
  have hch : ∃ f : Nat → List Addr, ∀ i, i < xs.length → (∃ g, A = some ⟨g, 0, none⟩ ∧ Lv w s g (i * s.sz) (f i)) ∧ (∀ hi : i < xs.length, (f i).length = cnt xs[i]) ∧ ∀ p, p ∈ f i → ok p.block :=
    ⟨fun i => open Classical in if hi : i < xs.length then (hex i hi).choose else [], fun i hi => by simp only [dif_pos hi]; exact (hex i hi).choose_spec⟩
  obtain ⟨f, hf⟩ := hch
  refine ⟨A, c, (List.range xs.length).flatMap f, rfl, ⟨hn, f, rfl, fun i hi => (hf i hi).1⟩, sum_range cnt xs f (fun i hi => (hf i hi).2.1 hi), fun p hp => ?_⟩
  obtain ⟨i, hi, hp⟩ := List.mem_flatMap.1 hp
  exact (hf i (List.mem_range.1 hi)).2.2 p hp
theorem Leafs.slice {α : Type} {d : Kd α} {s : Sh} {cnt : α → Nat} (hd : Leafs d s cnt) (e : Nat) : Leafs (Kd.slice e d) (.row s) (fun xs => (xs.map cnt).sum) := ⟨rfl, by
  intro w base ok x cs b o bc t h hb hc
  obtain ⟨v, rfl, hR⟩ := h
  obtain ⟨A, c, L, rfl, ⟨hn, f, e2, hf⟩, hlen, hin⟩ := hd.row hR
  exact ⟨L, ⟨bc, t, A, x.length, c, hb, hc 0 _ rfl, hn, f, e2, hf⟩, hlen, fun p hp => .inr (hin p hp)⟩⟩
theorem Leafs.pair {α β : Type} {d : Kd α} {d' : Kd β} {s s' : Sh} {cnt : α → Nat} {cnt' : β → Nat} (hd : Leafs d s cnt) (hd' : Leafs d' s' cnt') : Leafs (Kd.pair d d') (.both s s') (fun x => cnt x.1 + cnt' x.2) := ⟨by show d.sz + d'.sz = s.sz + s'.sz; rw [hd.sz, hd'.sz], by
  intro w base ok x cs b o bc t h hb hc
  obtain ⟨c0, c1, rfl, h0, h1⟩ := h
  have hl : c0.length = s.sz := by rw [← hd.sz]; exact d.K_len (d.K_of_M h0)
  obtain ⟨L1, a1, b1, g1⟩ := hd.get h0 hb (o := o) (fun i u hu => hc i u (by rw [List.getElem?_append_left (List.getElem?_eq_some_iff.1 hu).1]; exact hu))
  obtain ⟨L2, a2, b2, g2⟩ := hd'.get h1 hb (o := o + s.sz) (fun i u hu => by
    have := hc (s.sz + i) u (by rw [List.getElem?_append_right (by omega), hl, Nat.add_sub_cancel_left]; exact hu)
    rwa [← Nat.add_assoc] at this)
  refine ⟨L1 ++ L2, ⟨L1, L2, rfl, a1, a2⟩, by rw [List.length_append, b1, b2], fun p hp => ?_⟩
  rcases List.mem_append.1 hp with hp | hp
  · rcases g1 p hp with ⟨e1, e2, e3⟩ | h2
    · exact .inl ⟨e1, e2, by show _ < o + (s.sz + s'.sz); omega⟩
    · exact .inr h2
  · rcases g2 p hp with ⟨e1, e2, e3⟩ | h2
    · exact .inl ⟨e1, by omega, by show _ < o + (s.sz + s'.sz); omega⟩
    · exact .inr h2⟩
theorem Leafs.iso {α β : Type} {d : Kd α} {s : Sh} {cnt : α → Nat} (hd : Leafs d s cnt) (f : β → α) : Leafs (Kd.iso d f) s (fun x => cnt (f x)) := ⟨hd.sz, fun h hb hc => hd.get h hb hc⟩
/-- Kinds no number of which is met twice. -/
structure Once {α : Type} (d : Kd α) (s : Sh) (cnt : α → Nat) : Prop where
  sz : d.sz = s.sz
  get : ∀ {w : World} {base : Nat} {ok : Nat → Prop} {x : α} {cs : List Value} {b o : Nat} {bc : Array Value} {t : TypeId}, d.M w base ok x cs → w.heap[b]? = some (.cells bc t (0, 0)) → (∀ i u, cs[i]? = some u → bc[o + i]? = some u) → ¬ ok b →
    ∃ L, Lv w s b o L ∧ L.Nodup ∧ L.length = cnt x ∧ ∀ p, p ∈ L → (p.block = b ∧ o ≤ p.off ∧ p.off < o + s.sz) ∨ ok p.block
theorem Once.int : Once (Kd.int .i64) .int (fun _ => 1) := ⟨rfl, by
  intro w base ok x cs b o bc t h hb hc _
  have e : cs = [.int .i64 x] := h
  subst e
  exact ⟨[⟨b, o, none⟩], ⟨rfl, bc, t, x, hb, hc 0 _ rfl⟩, by simp, rfl, fun p hp => by rw [List.mem_singleton.1 hp]; exact .inl ⟨rfl, Nat.le_refl _, by show o < o + 1; omega⟩⟩⟩
theorem nodup_range (f : Nat → List Addr) (n : Nat) (h1 : ∀ i, i < n → (f i).Nodup) (h2 : ∀ i j p, i < n → j < n → p ∈ f i → p ∈ f j → i = j) : ((List.range n).flatMap f).Nodup := by
  induction n with
  | zero => simp
  | succ n ih =>
    rw [range_snoc]
    refine List.nodup_append.2 ⟨ih (fun i hi => h1 i (by omega)) (fun i j p hi hj => h2 i j p (by omega) (by omega)), h1 n (by omega), fun p hp q hq e => ?_⟩
    subst e
    obtain ⟨i, hi, hp⟩ := List.mem_flatMap.1 hp
    have := List.mem_range.1 hi
    have := h2 i n p (by omega) (by omega) hp hq
    omega
theorem Once.row {α : Type} {d : Kd α} {s : Sh} {cnt : α → Nat} (hd : Once d s cnt) {e : Nat} {w : World} {base : Nat} {ok : Nat → Prop} {v : Value} {xs : List α} (h : Kd.S d e w base ok v xs) :
    ∃ A c L, v = .slice A xs.length c ∧ RowLv w s A xs.length L ∧ L.Nodup ∧ L.length = (xs.map cnt).sum ∧ ∀ p, p ∈ L → ok p.block := by
  obtain ⟨A, c, rfl, hl, hC⟩ := Kd.S_reads h
  have hn := Kd.C_max hC
  obtain ⟨own, h0, inner, ho, hr⟩ := h
  have hzl : xs.zipIdx.length = xs.length := List.length_zipIdx
  have hex : ∀ i, i < xs.length → ∃ Li, (∃ g, A = some ⟨g, 0, none⟩ ∧ Lv w s g (i * s.sz) Li) ∧ Li.Nodup ∧ (∀ hi : i < xs.length, Li.length = cnt xs[i]) ∧ ∀ p, p ∈ Li → (∃ g, A = some ⟨g, 0, none⟩ ∧ p.block = g ∧ i * s.sz ≤ p.off ∧ p.off < i * s.sz + s.sz) ∨ (ok p.block ∧ (∀ g, A = some ⟨g, 0, none⟩ → p.block ≠ g) ∧ own p.block = i) := by
    intro i hi
    obtain ⟨g, cap, hA, hbase, hlt⟩ := ho.form (by omega)
    injection hA with hA _ _
    subst hA
    rcases ho.2 with ⟨hv, _⟩ | ⟨g', cap', cur, hv, _, hb, _, _, hs, htake⟩
    · cases hv
    · injection hv with hv _ _
      injection hv with hv
      injection hv with hv
      subst hv
      have hM : d.M w base (fun k => (ok k ∧ some k ≠ (Value.slice (some ⟨g, 0, none⟩) xs.length c).ownBlock) ∧ own k = i) xs[i] _ := hr.2 i (xs[i], i) (Kd.zip_at (List.getElem?_eq_getElem hi))
      obtain ⟨Li, hLv, hnd, hlen, hin⟩ := hd.get hM hb (o := i * s.sz) (fun j u hu => by
        rw [List.getElem?_take] at hu
        split at hu
        · rw [List.getElem?_drop, ← htake, List.getElem?_take] at hu
          split at hu
          · rw [← hd.sz]; simpa [Kd.tag] using hu
          · cases hu
        · cases hu) (fun h2 => h2.1.2 rfl)
      refine ⟨Li, ⟨g, rfl, hLv⟩, hnd, fun _ => hlen, fun p hp => ?_⟩
      rcases hin p hp with h2 | h2
      · exact .inl ⟨g, rfl, h2⟩
      · exact .inr ⟨h2.1.1, fun g2 e2 h3 => by injection e2 with e2; injection e2 with e2; subst e2; exact h2.1.2 (by rw [h3]; rfl), h2.2⟩
  have hch : ∃ f : Nat → List Addr, ∀ i, i < xs.length → (∃ g, A = some ⟨g, 0, none⟩ ∧ Lv w s g (i * s.sz) (f i)) ∧ (f i).Nodup ∧ (∀ hi : i < xs.length, (f i).length = cnt xs[i]) ∧ ∀ p, p ∈ f i → (∃ g, A = some ⟨g, 0, none⟩ ∧ p.block = g ∧ i * s.sz ≤ p.off ∧ p.off < i * s.sz + s.sz) ∨ (ok p.block ∧ (∀ g, A = some ⟨g, 0, none⟩ → p.block ≠ g) ∧ own p.block = i) :=
    ⟨fun i => open Classical in if hi : i < xs.length then (hex i hi).choose else [], fun i hi => by simp only [dif_pos hi]; exact (hex i hi).choose_spec⟩
  obtain ⟨f, hf⟩ := hch
  refine ⟨A, c, (List.range xs.length).flatMap f, rfl, ⟨hn, f, rfl, fun i hi => (hf i hi).1⟩, nodup_range f _ (fun i hi => (hf i hi).2.1) (fun i j p hi hj hp hq => ?_), sum_range cnt xs f (fun i hi => (hf i hi).2.2.1 hi), fun p hp => ?_⟩
  · rcases (hf i hi).2.2.2 p hp with ⟨g, e1, e2, e3, e4⟩ | ⟨a1, a2, a3⟩
    · rcases (hf j hj).2.2.2 p hq with ⟨g', e1', e2', e3', e4'⟩ | ⟨a1, a2, a3⟩
      · rcases Nat.lt_trichotomy i j with hij | hij | hij
        · have := Nat.mul_le_mul_right s.sz (show i + 1 ≤ j by omega)
          rw [Nat.add_mul] at this
          omega
        · exact hij
        · have := Nat.mul_le_mul_right s.sz (show j + 1 ≤ i by omega)
          rw [Nat.add_mul] at this
          omega
      · exact absurd e2 (a2 g e1)
    · rcases (hf j hj).2.2.2 p hq with ⟨g', e1', e2', e3', e4'⟩ | ⟨b1, b2, b3⟩
      · exact absurd e2' (a2 g' e1')
      · omega
  · obtain ⟨i, hi, hp⟩ := List.mem_flatMap.1 hp
    rcases (hf i (List.mem_range.1 hi)).2.2.2 p hp with ⟨g, e1, e2, _⟩ | ⟨a1, _⟩
    · subst e1
      rw [e2]
      exact (h0 g rfl)
    · exact a1
/-- A row of numbers has its elements apart. -/
theorem ints_apart {e : Nat} {w : World} {base : Nat} {ok : Nat → Prop} {v : Value} {xs : List Int} (h : (Kd.int .i64).R e w base ok v xs) : Kd.S (Kd.int .i64) e w base ok v xs := by
  obtain ⟨h0, inner, ho, hr⟩ := h
  refine ⟨fun _ => 0, h0, inner, by rw [List.length_zipIdx]; exact ho, by rw [List.length_zipIdx]; exact hr.1, fun j p hj => ?_⟩
  rw [List.getElem?_zipIdx, Nat.zero_add] at hj
  obtain ⟨q, hq, rfl⟩ := Option.map_eq_some_iff.1 hj
  exact hr.2 j q hq
/-- Rows of numbers, in a row of rows. -/
theorem Once.ints (e : Nat) : Once (Kd.slice e (Kd.int .i64)) (.row .int) (fun xs => (xs.map fun _ => 1).sum) := ⟨rfl, by
  intro w base ok x cs b o bc t h hb hc _
  obtain ⟨v, rfl, hR⟩ := h
  obtain ⟨A, c, L, rfl, ⟨hn, f, e2, hf⟩, hnd, hlen, hin⟩ := Once.int.row (ints_apart hR)
  exact ⟨L, ⟨bc, t, A, x.length, c, hb, hc 0 _ rfl, hn, f, e2, hf⟩, hnd, hlen, fun p hp => .inr (hin p hp)⟩⟩
section
variable {α : Type} {d : Kd α} {s : Sh} {cnt : α → Nat} {e b lo hi n c : Nat} {A : Option Addr} {xs : List α} {w w0 w1 : World} {fs : List Fct} {f : Fct} {L : List Addr} {k : Int}
theorem own_leafs (h : (own d e b lo hi (.slice A n c) xs).P w) (hd : Leafs d s cnt) : ∃ L, RowLv w s A n L ∧ L.length = (xs.map cnt).sum ∧ ∀ p, p ∈ L → (lo ≤ p.block ∧ p.block < hi) ∧ b ≤ p.block := by
  obtain ⟨A1, c1, L, e1, h1, h2, h3⟩ := hd.row (Kd.R_bound h)
  injection e1 with ea en ec
  subst ea en ec
  exact ⟨L, h1, h2, fun p hp => ⟨(h3 p hp).1, (h3 p hp).2.1⟩⟩
theorem ownS_leafs (h : (ownS d e b lo hi (.slice A n c) xs).P w) (hd : Leafs d s cnt) : ∃ L, RowLv w s A n L ∧ L.length = (xs.map cnt).sum ∧ ∀ p, p ∈ L → (lo ≤ p.block ∧ p.block < hi) ∧ b ≤ p.block :=
  own_leafs (d := d) (e := e) (Kd.S_R h) hd
theorem ownS_once (h : (ownS d e b lo hi (.slice A n c) xs).P w) (hd : Once d s cnt) : ∃ L, RowLv w s A n L ∧ L.Nodup ∧ L.length = (xs.map cnt).sum ∧ ∀ p, p ∈ L → (lo ≤ p.block ∧ p.block < hi) ∧ b ≤ p.block := by
  obtain ⟨A1, c1, L, e1, h1, h2, h4, h3⟩ := hd.row (Kd.S_bound h)
  injection e1 with ea en ec
  subst ea en ec
  exact ⟨L, h1, h2, h4, fun p hp => ⟨(h3 p hp).1, (h3 p hp).2.1⟩⟩
theorem own_once {xs : List Int} (h : (own (Kd.int .i64) e b lo hi (.slice A n c) xs).P w) : ∃ L, RowLv w .int A n L ∧ L.Nodup ∧ L.length = (xs.map fun _ => 1).sum ∧ ∀ p, p ∈ L → (lo ≤ p.block ∧ p.block < hi) ∧ b ≤ p.block :=
  ownS_once (d := Kd.int .i64) (e := e) (ints_apart h) Once.int
/-- What was marked is told no more; all else stays. -/
def dead (f : Fct) : Fct := ⟨f.lo, f.hi, fun _ => True, fun _ _ => trivial⟩
theorem Now.marked (h : Now w0 w fs) (i : Nat) (hi : fs[i]? = some f) (hm : Marked L k w w1) (hin : ∀ p, p ∈ L → (f.lo ≤ p.block ∧ p.block < f.hi) ∧ w0.heap.size ≤ p.block) : Now w0 w1 (fs.set i (dead f)) := by
  refine Now.put h i hi (hm.i.below h.b h.b.size ?_) (hm.i.kept.mono ?_) rfl rfl trivial
  · rintro q ⟨p, hp, rfl⟩; exact (hin p hp).2
  · rintro q ⟨p, hp, rfl⟩; exact (hin p hp).1
end
theorem sum_ones {α : Type} (l : List α) : (l.map fun _ => 1).sum = l.length := by
  induction l with
  | nil => rfl
  | cons x l ih => rw [List.map_cons, List.sum_cons, ih, List.length_cons]; omega
theorem sum_lens (l : List (List Int)) : (l.map fun xs : List Int => (xs.map fun _ => 1).sum).sum = (l.map List.length).sum := by
  congr 1
  exact List.map_congr_left (fun x _ => sum_ones x)
end Go.Proofs.Ytlpginalgdbopaa.XLeaf
