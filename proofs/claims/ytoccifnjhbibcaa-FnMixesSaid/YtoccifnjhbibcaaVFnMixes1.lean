/- The words that the printed texts of this claim use. No conditions. -/
import Derived.Test.YtoccifnjhbibcaaVFnMixes0
import Derived.Below
import Derived.Deep.Draws
import Derived.Deep.AppendLies
import Derived.Maps.AppendAt
import Derived.OwnWalk
import Derived.Laws.BytesArg
import Derived.Laws.MakeOwn
import Derived.Laws.OwnMore
import Derived.Deep.OwnRows
import Derived.Tactics
import Derived.Lib.ConvBytes
import Derived.Laws.Slices
import Derived.WalkKit
import Derived.KernelRfl
import Derived.RowKit3
import Derived.Deep.LoopGhost
import Derived.Deep.QuietTactic
import Derived.BigQuiet
import Derived.WideLaws
import Derived.Deep.DeepCutAuto
import Derived.Deep.CutBlock
import Derived.Deep.RegionHeld3
import Derived.Laws.Rows
import Derived.Lib.AppendStr
import Derived.ArgAppend
import Derived.Laws.IdiomCopy
import Derived.RowKit
import Derived.OrdersHeld
import Derived.Laws.BitsLemmas
import Derived.Deep.MidRow
import Derived.Laws.CopyOwn
import Derived.Lib.SlBytesConst
import Derived.Laws.DeepStrings4
import Derived.Laws.Strings3
import Derived.Lib.SliceRun
import Derived.Deep.Slices
import Derived.WideShapes
import Derived.DataReads
import Derived.Laws.StructEq
namespace Go.Proofs.Ytoccifnjhbibcaa.XLeaf
open Go.Proofs.Ytoccifnjhbibcaa.XLaw
open Go.RowKit Go.Proofs.YtoccifnjhbibcaaW.PrintWords Go.Proofs.YtoccifnjhbibcaaW.PrintLast Go.Proofs.YtoccifnjhbibcaaW.PrintMore
set_option linter.unusedVariables false
inductive Sh where
 | int : Sh
 | row : Sh → Sh
 | both : Sh → Sh → Sh
def Sh.sz : Sh → Nat
 | .int => 1
 | .row _ => 1
 | .both a b => a.sz + b.sz
def Lv (w : World) : Sh → Nat → Nat → List Addr → Prop
 | .int, b, o, L => L = [⟨b, o, none⟩] ∧ ∃ cs t n, w.heap[b]? = some (.cells cs t (0, 0)) ∧ cs[o]? = some (.int .i64 n)
 | .row s, b, o, L => ∃ cs t A n c, w.heap[b]? = some (.cells cs t (0, 0)) ∧ cs[o]? = some (.slice A n c) ∧ n ≤ 9223372036854775807 ∧
     ∃ f : Nat → List Addr, L = (List.range n).flatMap f ∧ ∀ i, i < n → ∃ g, A = some ⟨g, 0, none⟩ ∧ Lv w s g (i * s.sz) (f i)
 | .both s t, b, o, L => ∃ L1 L2, L = L1 ++ L2 ∧ Lv w s b o L1 ∧ Lv w t b (o + s.sz) L2
def RowLv (w : World) (s : Sh) (A : Option Addr) (n : Nat) (L : List Addr) : Prop :=
 n ≤ 9223372036854775807 ∧ ∃ f : Nat → List Addr, L = (List.range n).flatMap f ∧ ∀ i, i < n → ∃ g, A = some ⟨g, 0, none⟩ ∧ Lv w s g (i * s.sz) (f i)
structure Ints (ok : Nat → Prop) (w w1 : World) : Prop where
 os : w1.os = w.os
 tape : w1.tape = w.tape
 output : w1.output = w.output
 size : w.heap.size ≤ w1.heap.size
 keep : ∀ k : Nat, k < w.heap.size → ¬ ok k → w1.heap[k]? = w.heap[k]?
 cells : ∀ (k : Nat) (cs : Array Value) (t : TypeId), w.heap[k]? = some (.cells cs t (0, 0)) → ∃ cs1 : Array Value, w1.heap[k]? = some (.cells cs1 t (0, 0)) ∧ ∀ (o : Nat) (u : Value), cs[o]? = some u → cs1[o]? = some u ∨ ∃ n m : Int, u = .int .i64 n ∧ cs1[o]? = some (.int .i64 m)
section
variable {ok ok' : Nat → Prop} {w w1 w2 : World}
theorem Ints.of_below (h : Below w.heap.size w w1) : Ints ok w w1 :=
 ⟨h.os, h.tape, h.output, h.size, fun k hk _ => h.block k hk, fun k cs t hb => ⟨cs, (h.block k (blk_lt hb)).trans hb, fun _ _ hu => .inl hu⟩⟩
theorem Ints.refl (ok : Nat → Prop) (w : World) : Ints ok w w := Ints.of_below (Below.refl _ _)
theorem Ints.mono (h : Ints ok w w1) (hm : ∀ k, ok k → ok' k) : Ints ok' w w1 :=
 ⟨h.os, h.tape, h.output, h.size, fun k hk hn => h.keep k hk (fun h2 => hn (hm k h2)), h.cells⟩
theorem Ints.trans (h : Ints ok w w1) (h' : Ints ok w1 w2) : Ints ok w w2 :=
 ⟨h'.os.trans h.os, h'.tape.trans h.tape, h'.output.trans h.output, Nat.le_trans h.size h'.size, fun k hk hn => (h'.keep k (Nat.lt_of_lt_of_le hk h.size) hn).trans (h.keep k hk hn), fun k cs t hb => by
   obtain ⟨cs1, h1, g1⟩ := h.cells k cs t hb
   obtain ⟨cs2, h2, g2⟩ := h'.cells k cs1 t h1
   refine ⟨cs2, h2, fun o u hu => ?_⟩
   rcases g1 o u hu with h3 | ⟨n, m, h3, h4⟩
   · exact g2 o u h3
   · rcases g2 o _ h4 with h5 | ⟨_, m', _, h5⟩
     · exact .inr ⟨n, m, h3, h5⟩
     · exact .inr ⟨n, m', h3, h5⟩⟩
theorem Ints.kept (h : Ints ok w w1) : Kept w w1 ok := ⟨h.size, fun k hk hn => h.keep k hk hn⟩
theorem Ints.below {B : Nat} {w0 : World} (h : Ints ok w w1) (hb : Below B w0 w) (hB : B ≤ w.heap.size) (ho : ∀ k, ok k → B ≤ k) : Below B w0 w1 :=
 ⟨h.os.trans hb.os, h.tape.trans hb.tape, h.output.trans hb.output, Nat.le_trans hb.size h.size, fun k hk => (h.keep k (by omega) (fun h2 => by have := ho k h2; omega)).trans (hb.block k hk)⟩
theorem Lv.ints {s : Sh} : ∀ {b o : Nat} {L : List Addr}, Lv w s b o L → Ints ok w w1 → Lv w1 s b o L := by
 induction s with
 | int =>
   rintro b o L ⟨rfl, cs, t, n, hb, ho⟩ h
   obtain ⟨cs1, h1, g1⟩ := h.cells b cs t hb
   refine ⟨rfl, cs1, t, ?_⟩
   rcases g1 o _ ho with h2 | ⟨_, m, _, h2⟩
   · exact ⟨n, h1, h2⟩
   · exact ⟨m, h1, h2⟩
 | row s ih =>
   rintro b o L ⟨cs, t, A, n, c, hb, ho, hn, f, rfl, hf⟩ h
   obtain ⟨cs1, h1, g1⟩ := h.cells b cs t hb
   refine ⟨cs1, t, A, n, c, h1, ?_, hn, f, rfl, fun i hi => ?_⟩
   · rcases g1 o _ ho with h2 | ⟨_, m, h3, _⟩
     · exact h2
     · cases h3
   · obtain ⟨g, e, hl⟩ := hf i hi
     exact ⟨g, e, ih hl h⟩
 | both s t ih1 ih2 =>
   rintro b o L ⟨L1, L2, rfl, h1, h2⟩ h
   exact ⟨L1, L2, rfl, ih1 h1 h, ih2 h2 h⟩
theorem RowLv.ints {s : Sh} {A : Option Addr} {n : Nat} {L : List Addr} (hr : RowLv w s A n L) (h : Ints ok w w1) : RowLv w1 s A n L := by
 obtain ⟨hn, f, e, hf⟩ := hr
 exact ⟨hn, f, e, fun i hi => by obtain ⟨g, e2, hl⟩ := hf i hi; exact ⟨g, e2, hl.ints h⟩⟩
end
structure Marked (L : List Addr) (k : Int) (w w1 : World) : Prop where
 i : Ints (fun b => ∃ p, p ∈ L ∧ p.block = b) w w1
 rest : ∀ (p : Addr) (v : Value), w.cell? p = some v → p ∉ L → w1.cell? p = some v
 told : L.Nodup → ∀ (j : Nat) (p : Addr), L[j]? = some p → w1.cell? p = some (.int .i64 (k + (j : Int)))
def ToldAt (w : World) (L : List Addr) (k : Int) : Prop := ∀ (j : Nat) (p : Addr), L[j]? = some p → w.cell? p = some (.int .i64 (k + (j : Int)))
section
variable {w w1 w2 : World} {L L1 L2 : List Addr} {k : Int}
theorem Marked.nil (k : Int) (w : World) : Marked [] k w w := ⟨Ints.refl _ _, fun _ _ h _ => h, fun _ j p h => by simp at h⟩
theorem Marked.app (h : Marked L1 k w w1) (h' : Marked L2 (k + (L1.length : Int)) w1 w2) : Marked (L1 ++ L2) k w w2 := by
 refine ⟨(h.i.mono ?_).trans (h'.i.mono ?_), fun p v hv hn => ?_, fun hd j p hj => ?_⟩
 · rintro b ⟨p, hp, e⟩; exact ⟨p, List.mem_append_left _ hp, e⟩
 · rintro b ⟨p, hp, e⟩; exact ⟨p, List.mem_append_right _ hp, e⟩
 · rw [List.mem_append] at hn
   exact h'.rest p v (h.rest p v hv (fun hp => hn (.inl hp))) (fun hp => hn (.inr hp))
 · obtain ⟨d1, d2, d3⟩ := List.nodup_append.1 hd
   by_cases hlt : j < L1.length
   · rw [List.getElem?_append_left hlt] at hj
     have h1 := h.told d1 j p hj
     exact h'.rest p _ h1 (fun hp => d3 p (List.mem_of_getElem? hj) p hp rfl)
   · rw [List.getElem?_append_right (by omega)] at hj
     have h1 := h'.told d2 _ p hj
     rw [h1]
     congr 2
     omega
theorem Marked.before (hb : Below w.heap.size w w1) (h : Marked L k w1 w2) : Marked L k w w2 :=
 ⟨(Ints.of_below hb).trans h.i, fun p v hv hn => h.rest p v (pw_cell_below hb hv) hn, h.told⟩
theorem Marked.behind (h : Marked L k w w1) (hb : Below w1.heap.size w1 w2) : Marked L k w w2 :=
 ⟨h.i.trans (Ints.of_below hb), fun p v hv hn => pw_cell_below hb (h.rest p v hv hn), fun hd j p hj => pw_cell_below hb (h.told hd j p hj)⟩
theorem ToldAt.below (h : ToldAt w L k) (hb : Below w.heap.size w w1) : ToldAt w1 L k := fun j p hj => pw_cell_below hb (h j p hj)
theorem ToldAt.left (h : ToldAt w (L1 ++ L2) k) : ToldAt w L1 k := fun j p hj => h j p (by rw [List.getElem?_append_left (List.getElem?_eq_some_iff.1 hj).1]; exact hj)
theorem ToldAt.right (h : ToldAt w (L1 ++ L2) k) : ToldAt w L2 (k + (L1.length : Int)) := fun j p hj => by
 have := h (L1.length + j) p (by rw [List.getElem?_append_right (by omega), Nat.add_sub_cancel_left]; exact hj)
 rw [this]
 congr 2
 omega
theorem Marked.set {b o : Nat} {L : List Addr} (h : Lv w .int b o L) (k : Int) : Marked L k w (w.setCell ⟨b, o, none⟩ (.int .i64 k)) := by
 obtain ⟨rfl, cs, t, n, hb, ho⟩ := h
 have hset : (w.setCell ⟨b, o, none⟩ (.int .i64 k)).heap[b]? = some (.cells (cs.setIfInBounds o (.int .i64 k)) t (0, 0)) := blk_set hb o _
 have hlt : o < cs.size := (Array.getElem?_eq_some_iff.1 ho).1
 refine ⟨⟨rfl, rfl, rfl, by simp [World.setCell], fun q hq hn => Below.heap_setCell _ _ _ _ (fun e => hn ⟨_, List.mem_singleton.2 rfl, e.symm⟩), fun q cs2 t2 hq => ?_⟩, fun p v hv hn => ?_, fun _ j p hj => ?_⟩
 · by_cases e : q = b
   · subst e
     rw [hb] at hq
     injection hq with hq
     injection hq with h1 h2 h3
     subst h1 h2
     refine ⟨_, hset, fun o2 u hu => ?_⟩
     by_cases e2 : o = o2
     · subst e2
       rw [ho] at hu
       injection hu with hu
       exact .inr ⟨n, k, hu.symm, by rw [Array.getElem?_setIfInBounds_self_of_lt hlt]⟩
     · exact .inl (by rw [Array.getElem?_setIfInBounds_ne e2]; exact hu)
   · exact ⟨cs2, (Below.heap_setCell w ⟨b, o, none⟩ _ q e).trans hq, fun _ _ hu => .inl hu⟩
 · have : (⟨b, o, none⟩ : Addr) ≠ p := fun e => hn (by rw [e]; exact List.mem_singleton.2 rfl)
   rw [World.cell?_setCell_other _ _ _ _ this]; exact hv
 · cases j with
   | zero =>
     have e : (⟨b, o, none⟩ : Addr) = p := by simpa using hj
     subst e
     rw [blk_cell hset o, Array.getElem?_setIfInBounds_self_of_lt hlt]
     simp
   | succ j => simp at hj
end
theorem range_snoc (f : Nat → List Addr) (j : Nat) : (List.range (j + 1)).flatMap f = (List.range j).flatMap f ++ f j := by
 rw [List.range_succ, List.flatMap_append]; simp
theorem range_cut (f : Nat → List Addr) {j n : Nat} (h : j ≤ n) : ∃ R, (List.range n).flatMap f = (List.range j).flatMap f ++ R := by
 obtain ⟨m, rfl⟩ := Nat.exists_eq_add_of_le h
 exact ⟨_, by rw [List.range_add, List.flatMap_append]⟩
theorem told_at {w : World} {k : Int} (f : Nat → List Addr) {j n : Nat} (h : ToldAt w ((List.range n).flatMap f) k) (hj : j < n) : ToldAt w (f j) (k + (((List.range j).flatMap f).length : Int)) := by
 obtain ⟨R, e⟩ := range_cut f (show j + 1 ≤ n by omega)
 rw [e, range_snoc] at h
 exact h.left.right
theorem len_at (f : Nat → List Addr) {j n : Nat} (h : j < n) : ((List.range j).flatMap f).length + (f j).length ≤ ((List.range n).flatMap f).length := by
 obtain ⟨R, e⟩ := range_cut f (show j + 1 ≤ n by omega)
 rw [e, range_snoc, List.length_append, List.length_append]
 omega
theorem Lv.lt {w : World} {s : Sh} : ∀ {b o : Nat} {L : List Addr}, Lv w s b o L → ∀ p, p ∈ L → p.block < w.heap.size := by
 induction s with
 | int =>
   rintro b o L ⟨rfl, cs, t, n, hb, ho⟩ p hp
   rw [List.mem_singleton.1 hp]
   exact blk_lt hb
 | row s ih =>
   rintro b o L ⟨cs, t, A, n, c, hb, ho, hn, f, rfl, hf⟩ p hp
   obtain ⟨i, hi, hp⟩ := List.mem_flatMap.1 hp
   obtain ⟨g, e, hl⟩ := hf i (List.mem_range.1 hi)
   exact ih hl p hp
 | both s t ih1 ih2 =>
   rintro b o L ⟨L1, L2, rfl, h1, h2⟩ p hp
   rcases List.mem_append.1 hp with hp | hp
   · exact ih1 h1 p hp
   · exact ih2 h2 p hp
theorem RowLv.lt {w : World} {s : Sh} {A : Option Addr} {n : Nat} {L : List Addr} (h : RowLv w s A n L) : ∀ p, p ∈ L → p.block < w.heap.size := by
 obtain ⟨hn, f, rfl, hf⟩ := h
 intro p hp
 obtain ⟨i, hi, hp⟩ := List.mem_flatMap.1 hp
 obtain ⟨g, e, hl⟩ := hf i (List.mem_range.1 hi)
 exact hl.lt p hp
structure Leafs {α : Type} (d : Kd α) (s : Sh) (cnt : α → Nat) : Prop where
 sz : d.sz = s.sz
 get : ∀ {w : World} {base : Nat} {ok : Nat → Prop} {x : α} {cs : List Value} {b o : Nat} {bc : Array Value} {t : TypeId}, d.M w base ok x cs → w.heap[b]? = some (.cells bc t (0, 0)) → (∀ i u, cs[i]? = some u → bc[o + i]? = some u) →
   ∃ L, Lv w s b o L ∧ L.length = cnt x ∧ ∀ p, p ∈ L → (p.block = b ∧ o ≤ p.off ∧ p.off < o + s.sz) ∨ ok p.block
theorem Leafs.int : Leafs (Kd.int .i64) .int (fun _ => 1) := ⟨rfl, by
 intro w base ok x cs b o bc t h hb hc
 have e : cs = [.int .i64 x] := h
 subst e
 exact ⟨[⟨b, o, none⟩], ⟨rfl, bc, t, x, hb, hc 0 _ rfl⟩, rfl, fun p hp => by rw [List.mem_singleton.1 hp]; exact .inl ⟨rfl, Nat.le_refl _, by show o < o + 1; omega⟩⟩⟩
theorem sum_range {α : Type} (cnt : α → Nat) (xs : List α) (f : Nat → List Addr) (h : ∀ i (hi : i < xs.length), (f i).length = cnt xs[i]) : ((List.range xs.length).flatMap f).length = (xs.map cnt).sum := by
 rw [List.length_flatMap]
 congr 1
 apply List.ext_getElem
 · simp
 · intro i h1 h2
   simp only [List.getElem_map, List.getElem_range]
   exact h i (by simpa using h2)
theorem Leafs.row {α : Type} {d : Kd α} {s : Sh} {cnt : α → Nat} (hd : Leafs d s cnt) {e : Nat} {w : World} {base : Nat} {ok : Nat → Prop} {v : Value} {xs : List α} (h : d.R e w base ok v xs) :
   ∃ A c L, v = .slice A xs.length c ∧ RowLv w s A xs.length L ∧ L.length = (xs.map cnt).sum ∧ ∀ p, p ∈ L → ok p.block := by
 have hmax := h
 obtain ⟨A, c, rfl, hl, hC⟩ := Kd.R_reads hmax
 have hn := Kd.C_max hC
 obtain ⟨h0, inner, ho, hr⟩ := h
 have hex : ∀ i, i < xs.length → ∃ Li, (∃ g, A = some ⟨g, 0, none⟩ ∧ Lv w s g (i * s.sz) Li) ∧ (∀ hi : i < xs.length, Li.length = cnt xs[i]) ∧ ∀ p, p ∈ Li → ok p.block := by
   intro i hi
   obtain ⟨g, cap, hA, hbase, hlt⟩ := ho.form (by omega)
   injection hA with hA _ _
   subst hA
   rcases ho.2 with ⟨hv, _⟩ | ⟨g', cap', cur, hv, _, hb, _, _, hs, htake⟩
   · cases hv
   · injection hv with hv _ _
     injection hv with hv
     injection hv with hv
     subst hv
     have hM := hr.2 i _ (List.getElem?_eq_getElem hi)
     have hg : some g = (Value.slice (some ⟨g, 0, none⟩) xs.length c).ownBlock := rfl
     obtain ⟨Li, hLv, hlen, hin⟩ := hd.get hM hb (o := i * s.sz) (fun j u hu => by
       rw [List.getElem?_take] at hu
       split at hu
       · rw [List.getElem?_drop, ← htake, List.getElem?_take] at hu
         split at hu
         · rw [← hd.sz]; simpa using hu
         · cases hu
       · cases hu)
     refine ⟨Li, ⟨g, rfl, hLv⟩, fun _ => hlen, fun p hp => ?_⟩
     rcases hin p hp with ⟨e1, _⟩ | h2
     · rw [e1]; exact h0 g rfl
     · exact h2.1
 have hch : ∃ f : Nat → List Addr, ∀ i, i < xs.length → (∃ g, A = some ⟨g, 0, none⟩ ∧ Lv w s g (i * s.sz) (f i)) ∧ (∀ hi : i < xs.length, (f i).length = cnt xs[i]) ∧ ∀ p, p ∈ f i → ok p.block :=
   ⟨fun i => open Classical in if hi : i < xs.length then (hex i hi).choose else [], fun i hi => by simp only [dif_pos hi]; exact (hex i hi).choose_spec⟩
 obtain ⟨f, hf⟩ := hch
 refine ⟨A, c, (List.range xs.length).flatMap f, rfl, ⟨hn, f, rfl, fun i hi => (hf i hi).1⟩, sum_range cnt xs f (fun i hi => (hf i hi).2.1 hi), fun p hp => ?_⟩
 obtain ⟨i, hi, hp⟩ := List.mem_flatMap.1 hp
 exact (hf i (List.mem_range.1 hi)).2.2 p hp
theorem Leafs.slice {α : Type} {d : Kd α} {s : Sh} {cnt : α → Nat} (hd : Leafs d s cnt) (e : Nat) : Leafs (Kd.slice e d) (.row s) (fun xs => (xs.map cnt).sum) := ⟨rfl, by
 intro w base ok x cs b o bc t h hb hc
 obtain ⟨v, rfl, hR⟩ := h
 obtain ⟨A, c, L, rfl, ⟨hn, f, e2, hf⟩, hlen, hin⟩ := hd.row hR
 exact ⟨L, ⟨bc, t, A, x.length, c, hb, hc 0 _ rfl, hn, f, e2, hf⟩, hlen, fun p hp => .inr (hin p hp)⟩⟩
theorem Leafs.pair {α β : Type} {d : Kd α} {d' : Kd β} {s s' : Sh} {cnt : α → Nat} {cnt' : β → Nat} (hd : Leafs d s cnt) (hd' : Leafs d' s' cnt') : Leafs (Kd.pair d d') (.both s s') (fun x => cnt x.1 + cnt' x.2) := ⟨by show d.sz + d'.sz = s.sz + s'.sz; rw [hd.sz, hd'.sz], by
 intro w base ok x cs b o bc t h hb hc
 obtain ⟨c0, c1, rfl, h0, h1⟩ := h
 have hl : c0.length = s.sz := by rw [← hd.sz]; exact d.K_len (d.K_of_M h0)
 obtain ⟨L1, a1, b1, g1⟩ := hd.get h0 hb (o := o) (fun i u hu => hc i u (by rw [List.getElem?_append_left (List.getElem?_eq_some_iff.1 hu).1]; exact hu))
 obtain ⟨L2, a2, b2, g2⟩ := hd'.get h1 hb (o := o + s.sz) (fun i u hu => by
   have := hc (s.sz + i) u (by rw [List.getElem?_append_right (by omega), hl, Nat.add_sub_cancel_left]; exact hu)
   rwa [← Nat.add_assoc] at this)
 refine ⟨L1 ++ L2, ⟨L1, L2, rfl, a1, a2⟩, by rw [List.length_append, b1, b2], fun p hp => ?_⟩
 rcases List.mem_append.1 hp with hp | hp
 · rcases g1 p hp with ⟨e1, e2, e3⟩ | h2
   · exact .inl ⟨e1, e2, by show _ < o + (s.sz + s'.sz); omega⟩
   · exact .inr h2
 · rcases g2 p hp with ⟨e1, e2, e3⟩ | h2
   · exact .inl ⟨e1, by omega, by show _ < o + (s.sz + s'.sz); omega⟩
   · exact .inr h2⟩
structure Once {α : Type} (d : Kd α) (s : Sh) (cnt : α → Nat) : Prop where
 sz : d.sz = s.sz
 get : ∀ {w : World} {base : Nat} {ok : Nat → Prop} {x : α} {cs : List Value} {b o : Nat} {bc : Array Value} {t : TypeId}, d.M w base ok x cs → w.heap[b]? = some (.cells bc t (0, 0)) → (∀ i u, cs[i]? = some u → bc[o + i]? = some u) → ¬ ok b →
   ∃ L, Lv w s b o L ∧ L.Nodup ∧ L.length = cnt x ∧ ∀ p, p ∈ L → (p.block = b ∧ o ≤ p.off ∧ p.off < o + s.sz) ∨ ok p.block
theorem Once.int : Once (Kd.int .i64) .int (fun _ => 1) := ⟨rfl, by
 intro w base ok x cs b o bc t h hb hc _
 have e : cs = [.int .i64 x] := h
 subst e
 exact ⟨[⟨b, o, none⟩], ⟨rfl, bc, t, x, hb, hc 0 _ rfl⟩, by simp, rfl, fun p hp => by rw [List.mem_singleton.1 hp]; exact .inl ⟨rfl, Nat.le_refl _, by show o < o + 1; omega⟩⟩⟩
theorem nodup_range (f : Nat → List Addr) (n : Nat) (h1 : ∀ i, i < n → (f i).Nodup) (h2 : ∀ i j p, i < n → j < n → p ∈ f i → p ∈ f j → i = j) : ((List.range n).flatMap f).Nodup := by
 induction n with
 | zero => simp
 | succ n ih =>
   rw [range_snoc]
   refine List.nodup_append.2 ⟨ih (fun i hi => h1 i (by omega)) (fun i j p hi hj => h2 i j p (by omega) (by omega)), h1 n (by omega), fun p hp q hq e => ?_⟩
   subst e
   obtain ⟨i, hi, hp⟩ := List.mem_flatMap.1 hp
   have := List.mem_range.1 hi
   have := h2 i n p (by omega) (by omega) hp hq
   omega
theorem Once.row {α : Type} {d : Kd α} {s : Sh} {cnt : α → Nat} (hd : Once d s cnt) {e : Nat} {w : World} {base : Nat} {ok : Nat → Prop} {v : Value} {xs : List α} (h : Kd.S d e w base ok v xs) :
   ∃ A c L, v = .slice A xs.length c ∧ RowLv w s A xs.length L ∧ L.Nodup ∧ L.length = (xs.map cnt).sum ∧ ∀ p, p ∈ L → ok p.block := by
 obtain ⟨A, c, rfl, hl, hC⟩ := Kd.S_reads h
 have hn := Kd.C_max hC
 obtain ⟨own, h0, inner, ho, hr⟩ := h
 have hzl : xs.zipIdx.length = xs.length := List.length_zipIdx
 have hex : ∀ i, i < xs.length → ∃ Li, (∃ g, A = some ⟨g, 0, none⟩ ∧ Lv w s g (i * s.sz) Li) ∧ Li.Nodup ∧ (∀ hi : i < xs.length, Li.length = cnt xs[i]) ∧ ∀ p, p ∈ Li → (∃ g, A = some ⟨g, 0, none⟩ ∧ p.block = g ∧ i * s.sz ≤ p.off ∧ p.off < i * s.sz + s.sz) ∨ (ok p.block ∧ (∀ g, A = some ⟨g, 0, none⟩ → p.block ≠ g) ∧ own p.block = i) := by
   intro i hi
   obtain ⟨g, cap, hA, hbase, hlt⟩ := ho.form (by omega)
   injection hA with hA _ _
   subst hA
   rcases ho.2 with ⟨hv, _⟩ | ⟨g', cap', cur, hv, _, hb, _, _, hs, htake⟩
   · cases hv
   · injection hv with hv _ _
     injection hv with hv
     injection hv with hv
     subst hv
     have hM : d.M w base (fun k => (ok k ∧ some k ≠ (Value.slice (some ⟨g, 0, none⟩) xs.length c).ownBlock) ∧ own k = i) xs[i] _ := hr.2 i (xs[i], i) (Kd.zip_at (List.getElem?_eq_getElem hi))
     obtain ⟨Li, hLv, hnd, hlen, hin⟩ := hd.get hM hb (o := i * s.sz) (fun j u hu => by
       rw [List.getElem?_take] at hu
       split at hu
       · rw [List.getElem?_drop, ← htake, List.getElem?_take] at hu
         split at hu
         · rw [← hd.sz]; simpa [Kd.tag] using hu
         · cases hu
       · cases hu) (fun h2 => h2.1.2 rfl)
     refine ⟨Li, ⟨g, rfl, hLv⟩, hnd, fun _ => hlen, fun p hp => ?_⟩
     rcases hin p hp with h2 | h2
     · exact .inl ⟨g, rfl, h2⟩
     · exact .inr ⟨h2.1.1, fun g2 e2 h3 => by injection e2 with e2; injection e2 with e2; subst e2; exact h2.1.2 (by rw [h3]; rfl), h2.2⟩
 have hch : ∃ f : Nat → List Addr, ∀ i, i < xs.length → (∃ g, A = some ⟨g, 0, none⟩ ∧ Lv w s g (i * s.sz) (f i)) ∧ (f i).Nodup ∧ (∀ hi : i < xs.length, (f i).length = cnt xs[i]) ∧ ∀ p, p ∈ f i → (∃ g, A = some ⟨g, 0, none⟩ ∧ p.block = g ∧ i * s.sz ≤ p.off ∧ p.off < i * s.sz + s.sz) ∨ (ok p.block ∧ (∀ g, A = some ⟨g, 0, none⟩ → p.block ≠ g) ∧ own p.block = i) :=
   ⟨fun i => open Classical in if hi : i < xs.length then (hex i hi).choose else [], fun i hi => by simp only [dif_pos hi]; exact (hex i hi).choose_spec⟩
 obtain ⟨f, hf⟩ := hch
 refine ⟨A, c, (List.range xs.length).flatMap f, rfl, ⟨hn, f, rfl, fun i hi => (hf i hi).1⟩, nodup_range f _ (fun i hi => (hf i hi).2.1) (fun i j p hi hj hp hq => ?_), sum_range cnt xs f (fun i hi => (hf i hi).2.2.1 hi), fun p hp => ?_⟩
 · rcases (hf i hi).2.2.2 p hp with ⟨g, e1, e2, e3, e4⟩ | ⟨a1, a2, a3⟩
   · rcases (hf j hj).2.2.2 p hq with ⟨g', e1', e2', e3', e4'⟩ | ⟨a1, a2, a3⟩
     · rcases Nat.lt_trichotomy i j with hij | hij | hij
       · have := Nat.mul_le_mul_right s.sz (show i + 1 ≤ j by omega)
         rw [Nat.add_mul] at this
         omega
       · exact hij
       · have := Nat.mul_le_mul_right s.sz (show j + 1 ≤ i by omega)
         rw [Nat.add_mul] at this
         omega
     · exact absurd e2 (a2 g e1)
   · rcases (hf j hj).2.2.2 p hq with ⟨g', e1', e2', e3', e4'⟩ | ⟨b1, b2, b3⟩
     · exact absurd e2' (a2 g' e1')
     · omega
 · obtain ⟨i, hi, hp⟩ := List.mem_flatMap.1 hp
   rcases (hf i (List.mem_range.1 hi)).2.2.2 p hp with ⟨g, e1, e2, _⟩ | ⟨a1, _⟩
   · subst e1
     rw [e2]
     exact (h0 g rfl)
   · exact a1
theorem ints_apart {e : Nat} {w : World} {base : Nat} {ok : Nat → Prop} {v : Value} {xs : List Int} (h : (Kd.int .i64).R e w base ok v xs) : Kd.S (Kd.int .i64) e w base ok v xs := by
 obtain ⟨h0, inner, ho, hr⟩ := h
 refine ⟨fun _ => 0, h0, inner, by rw [List.length_zipIdx]; exact ho, by rw [List.length_zipIdx]; exact hr.1, fun j p hj => ?_⟩
 rw [List.getElem?_zipIdx, Nat.zero_add] at hj
 obtain ⟨q, hq, rfl⟩ := Option.map_eq_some_iff.1 hj
 exact hr.2 j q hq
theorem Once.ints (e : Nat) : Once (Kd.slice e (Kd.int .i64)) (.row .int) (fun xs => (xs.map fun _ => 1).sum) := ⟨rfl, by
 intro w base ok x cs b o bc t h hb hc _
 obtain ⟨v, rfl, hR⟩ := h
 obtain ⟨A, c, L, rfl, ⟨hn, f, e2, hf⟩, hnd, hlen, hin⟩ := Once.int.row (ints_apart hR)
 exact ⟨L, ⟨bc, t, A, x.length, c, hb, hc 0 _ rfl, hn, f, e2, hf⟩, hnd, hlen, fun p hp => .inr (hin p hp)⟩⟩
section
variable {α : Type} {d : Kd α} {s : Sh} {cnt : α → Nat} {e b lo hi n c : Nat} {A : Option Addr} {xs : List α} {w w0 w1 : World} {fs : List Fct} {f : Fct} {L : List Addr} {k : Int}
def dead (f : Fct) : Fct := ⟨f.lo, f.hi, fun _ => True, fun _ _ => trivial⟩
theorem Now.marked (h : Now w0 w fs) (i : Nat) (hi : fs[i]? = some f) (hm : Marked L k w w1) (hin : ∀ p, p ∈ L → (f.lo ≤ p.block ∧ p.block < f.hi) ∧ w0.heap.size ≤ p.block) : Now w0 w1 (fs.set i (dead f)) := by
 refine Now.put h i hi (hm.i.below h.b h.b.size ?_) (hm.i.kept.mono ?_) rfl rfl trivial
 · rintro q ⟨p, hp, rfl⟩; exact (hin p hp).2
 · rintro q ⟨p, hp, rfl⟩; exact (hin p hp).1
end
end Go.Proofs.Ytoccifnjhbibcaa.XLeaf
namespace Go.Proofs.Ytoccifnjhbibcaa.XSt
open Go.RowKit Go.Proofs.YtoccifnjhbibcaaW.PrintWords Go.Proofs.YtoccifnjhbibcaaW.PrintLast Go.Proofs.YtoccifnjhbibcaaW.PrintMore Go.Proofs.Ytoccifnjhbibcaa.XW Go.Proofs.Ytoccifnjhbibcaa.XOp Go.Proofs.Ytoccifnjhbibcaa.XDraw Go.Proofs.Ytoccifnjhbibcaa.XLeaf
set_option linter.unusedVariables false
def only (w : World) (bl : List Nat) : World := { w with heap := w.heap.mapIdx fun i c => open Classical in if i ∈ bl then c else .cells #[] 0 (0, 0) }
theorem only_in {w : World} {bl : List Nat} {k : Nat} (h : k ∈ bl) : (only w bl).heap[k]? = w.heap[k]? := by
 unfold only
 simp only [Array.getElem?_mapIdx]
 cases w.heap[k]? with
 | none => rfl
 | some c => simp [h]
theorem only_cell {w : World} {bl : List Nat} {k o : Nat} {cs : Array Value} {t : TypeId} {u : Value} (h : (only w bl).heap[k]? = some (.cells cs t (0, 0))) (ho : cs[o]? = some u) : k ∈ bl ∧ w.heap[k]? = some (.cells cs t (0, 0)) := by
 have hk : k ∈ bl := Classical.byContradiction fun hn => by
   unfold only at h
   simp only [Array.getElem?_mapIdx] at h
   cases hw : w.heap[k]? with
   | none => rw [hw] at h; cases h
   | some c =>
     rw [hw] at h
     simp only [Option.map_some, hn, if_false] at h
     injection h with h
     injection h with h1
     subst h1
     simp at ho
 exact ⟨hk, (only_in hk).symm.trans h⟩
theorem Lv.mono {w w1 : World} {s : Sh} (hm : ∀ (b o : Nat) (cs : Array Value) (t : TypeId) (u : Value), w.heap[b]? = some (.cells cs t (0, 0)) → cs[o]? = some u → w1.heap[b]? = some (.cells cs t (0, 0))) : ∀ {b o : Nat} {L : List Addr}, Lv w s b o L → Lv w1 s b o L := by
 induction s with
 | int =>
   rintro b o L ⟨e, cs, t, n, hb, ho⟩
   exact ⟨e, cs, t, n, hm _ _ _ _ _ hb ho, ho⟩
 | row s ih =>
   rintro b o L ⟨cs, t, A, n, c, hb, ho, hn, f, e, hf⟩
   exact ⟨cs, t, A, n, c, hm _ _ _ _ _ hb ho, ho, hn, f, e, fun i hi => by obtain ⟨g, e2, hl⟩ := hf i hi; exact ⟨g, e2, ih hl⟩⟩
 | both s t ih1 ih2 =>
   rintro b o L ⟨L1, L2, e, h1, h2⟩
   exact ⟨L1, L2, e, ih1 h1, ih2 h2⟩
theorem RowLv.mono {w w1 : World} {s : Sh} {A : Option Addr} {n : Nat} {L : List Addr} (h : RowLv w s A n L) (hm : ∀ (b o : Nat) (cs : Array Value) (t : TypeId) (u : Value), w.heap[b]? = some (.cells cs t (0, 0)) → cs[o]? = some u → w1.heap[b]? = some (.cells cs t (0, 0))) : RowLv w1 s A n L := by
 obtain ⟨hn, f, e, hf⟩ := h
 exact ⟨hn, f, e, fun i hi => by obtain ⟨g, e2, hl⟩ := hf i hi; exact ⟨g, e2, Lv.mono hm hl⟩⟩
theorem RowLv.out {w : World} {bl : List Nat} {s : Sh} {A : Option Addr} {n : Nat} {L : List Addr} (h : RowLv (only w bl) s A n L) : RowLv w s A n L := RowLv.mono h (fun b o cs t u hb ho => (only_cell hb ho).2)
structure LeafB {α : Type} (D : Dk α) (s : Sh) (cnt : α → Nat) : Prop where
 sz : D.d.sz = s.sz
 get : ∀ {w : World} {x : α} {cs : List Value} {bl : List Nat} {b o : Nat} {bc : Array Value} {t : TypeId}, D.B w x cs bl → bl.Nodup → w.heap[b]? = some (.cells bc t (0, 0)) → (∀ i u, cs[i]? = some u → bc[o + i]? = some u) → b ∉ bl →
   ∃ L, Lv w s b o L ∧ L.Nodup ∧ L.length = cnt x ∧ ∀ p, p ∈ L → (p.block = b ∧ o ≤ p.off ∧ p.off < o + s.sz) ∨ p.block ∈ bl
theorem LeafB.int : LeafB (Dk.int .i64) .int (fun _ => 1) := ⟨rfl, by
 intro w x cs bl b o bc t h hn hb hc _
 have e : cs = [.int .i64 x] := h.1
 subst e
 exact ⟨[⟨b, o, none⟩], ⟨rfl, bc, t, x, hb, hc 0 _ rfl⟩, by simp, rfl, fun p hp => by rw [List.mem_singleton.1 hp]; exact .inl ⟨rfl, Nat.le_refl _, by show o < o + 1; omega⟩⟩⟩
theorem flat_idx {L : List (List Nat)} (h : L.flatten.Nodup) {i j : Nat} {a b : List Nat} {k : Nat} (hi : L[i]? = some a) (hj : L[j]? = some b) (ha : k ∈ a) (hb : k ∈ b) : i = j := by
 induction L generalizing i j with
 | nil => simp at hi
 | cons x L ih =>
   rw [List.flatten_cons] at h
   obtain ⟨d1, d2, d3⟩ := List.nodup_append.1 h
   cases i with
   | zero =>
     cases j with
     | zero => rfl
     | succ j =>
       have e : x = a := by simpa using hi
       subst e
       exact absurd rfl (d3 k ha k (List.mem_flatten.2 ⟨b, List.mem_of_getElem? (by simpa using hj), hb⟩))
   | succ i =>
     cases j with
     | zero =>
       have e : x = b := by simpa using hj
       subst e
       exact absurd rfl (d3 k hb k (List.mem_flatten.2 ⟨a, List.mem_of_getElem? (by simpa using hi), ha⟩))
     | succ j => exact congrArg Nat.succ (ih d2 (by simpa using hi) (by simpa using hj))
theorem flat_nodup {L : List (List Nat)} (h : L.flatten.Nodup) {a : List Nat} (ha : a ∈ L) : a.Nodup := by
 induction L with
 | nil => cases ha
 | cons x L ih =>
   rw [List.flatten_cons] at h
   obtain ⟨d1, d2, d3⟩ := List.nodup_append.1 h
   rcases List.mem_cons.1 ha with rfl | ha
   · exact d1
   · exact ih d2 ha
theorem LeafB.row {α : Type} {D : Dk α} {s : Sh} {cnt : α → Nat} (hd : LeafB D s cnt) {e : Nat} {w : World} {v : Value} {xs : List α} {bl : List Nat} (h : (Dk.slice e D).B w xs [v] bl) (hN : bl.Nodup) :
   ∃ A c L, v = .slice A xs.length c ∧ xs.length ≤ c ∧ RowLv w s A xs.length L ∧ L.Nodup ∧ L.length = (xs.map cnt).sum ∧ ∀ p, p ∈ L → p.block ∈ bl := by
 have hmax : xs.length ≤ 9223372036854775807 := by
   obtain ⟨_, _, _, _, hC⟩ := (Dk.slice e D).K h
   exact Kd.C_max hC
 obtain ⟨A, c, rfl, hc⟩ := val_slice h
 obtain ⟨v', inner, bl', e1, e2, ho, ps, e3, e4, hr⟩ := h
 injection e1 with e1
 subst e1
 have hpl : ps.length = xs.length := by rw [e3, List.length_map]
 rw [e2] at hN
 obtain ⟨n1, n2, n3⟩ := List.nodup_append.1 hN
 have hex : ∀ i, i < xs.length → ∃ Li, (∃ g, A = some ⟨g, 0, none⟩ ∧ Lv w s g (i * s.sz) Li) ∧ Li.Nodup ∧ (∀ hi : i < xs.length, Li.length = cnt xs[i]) ∧ ∀ p, p ∈ Li → (∃ g, A = some ⟨g, 0, none⟩ ∧ p.block = g ∧ i * s.sz ≤ p.off ∧ p.off < i * s.sz + s.sz) ∨ (p.block ∈ bl' ∧ (∀ g, A = some ⟨g, 0, none⟩ → p.block ≠ g) ∧ ∃ q, (ps.map Prod.snd)[i]? = some q ∧ p.block ∈ q) := by
   intro i hi
   obtain ⟨g, cap, hA, hbase, hlt⟩ := ho.form (by omega)
   injection hA with hA _ _
   subst hA
   rcases ho.2 with ⟨hv, _⟩ | ⟨g', cap', cur, hv, _, hb, _, _, hs, htake⟩
   · cases hv
   · injection hv with hv _ _
     injection hv with hv
     injection hv with hv
     subst hv
     have hpi : i < ps.length := by omega
     have hB := hr.2 i ps[i] (List.getElem?_eq_getElem hpi)
     have hmem : (ps[i]).2 ∈ ps.map Prod.snd := List.mem_map_of_mem (List.getElem_mem hpi)
     have hsub : ∀ k, k ∈ (ps[i]).2 → k ∈ bl' := fun k hk => by rw [e4]; exact List.mem_flatten.2 ⟨_, hmem, hk⟩
     have hg : ∀ k, k ∈ bl' → k ≠ g := fun k hk h2 => n3 g (by simp [Value.ownBlock]) k hk h2.symm
     obtain ⟨Li, hLv, hnd, hlen, hin⟩ := hd.get hB (flat_nodup (e4 ▸ n2) hmem) hb (o := i * s.sz) (fun j u hu => by
       rw [List.getElem?_take] at hu
       split at hu
       · rw [List.getElem?_drop, ← htake, List.getElem?_take] at hu
         split at hu
         · rw [← hd.sz]; simpa using hu
         · cases hu
       · cases hu) (fun h2 => hg g (hsub g h2) rfl)
     refine ⟨Li, ⟨g, rfl, hLv⟩, hnd, fun _ => by rw [hlen]; congr 1; simp [e3], fun p hp => ?_⟩
     rcases hin p hp with h2 | h2
     · exact .inl ⟨g, rfl, h2⟩
     · exact .inr ⟨hsub _ h2, fun g2 e5 h3 => by injection e5 with e5; injection e5 with e5; subst e5; exact hg _ (hsub _ h2) h3, (ps[i]).2, by rw [List.getElem?_map, List.getElem?_eq_getElem hpi]; rfl, h2⟩
 have hch : ∃ f : Nat → List Addr, ∀ i, i < xs.length → (∃ g, A = some ⟨g, 0, none⟩ ∧ Lv w s g (i * s.sz) (f i)) ∧ (f i).Nodup ∧ (∀ hi : i < xs.length, (f i).length = cnt xs[i]) ∧ ∀ p, p ∈ f i → (∃ g, A = some ⟨g, 0, none⟩ ∧ p.block = g ∧ i * s.sz ≤ p.off ∧ p.off < i * s.sz + s.sz) ∨ (p.block ∈ bl' ∧ (∀ g, A = some ⟨g, 0, none⟩ → p.block ≠ g) ∧ ∃ q, (ps.map Prod.snd)[i]? = some q ∧ p.block ∈ q) :=
   ⟨fun i => open Classical in if hi : i < xs.length then (hex i hi).choose else [], fun i hi => by simp only [dif_pos hi]; exact (hex i hi).choose_spec⟩
 obtain ⟨f, hf⟩ := hch
 refine ⟨A, c, (List.range xs.length).flatMap f, rfl, hc, ⟨hmax, f, rfl, fun i hi => (hf i hi).1⟩, nodup_range f _ (fun i hi => (hf i hi).2.1) (fun i j p hi hj hp hq => ?_), sum_range cnt xs f (fun i hi => (hf i hi).2.2.1 hi), fun p hp => ?_⟩
 · rcases (hf i hi).2.2.2 p hp with ⟨g, f1, f2, f3, f4⟩ | ⟨a1, a2, q, a3, a4⟩
   · rcases (hf j hj).2.2.2 p hq with ⟨g', f1', f2', f3', f4'⟩ | ⟨a1, a2, _⟩
     · rcases Nat.lt_trichotomy i j with hij | hij | hij
       · have := Nat.mul_le_mul_right s.sz (show i + 1 ≤ j by omega)
         rw [Nat.add_mul] at this
         omega
       · exact hij
       · have := Nat.mul_le_mul_right s.sz (show j + 1 ≤ i by omega)
         rw [Nat.add_mul] at this
         omega
     · exact absurd f2 (a2 g f1)
   · rcases (hf j hj).2.2.2 p hq with ⟨g', f1', f2', f3', f4'⟩ | ⟨b1, b2, q', b3, b4⟩
     · exact absurd f2' (a2 g' f1')
     · exact flat_idx (e4 ▸ n2) a3 b3 a4 b4
 · obtain ⟨i, hi, hp⟩ := List.mem_flatMap.1 hp
   rw [e2]
   rcases (hf i (List.mem_range.1 hi)).2.2.2 p hp with ⟨g, f1, f2, _⟩ | ⟨a1, _⟩
   · subst f1
     rw [f2]
     exact List.mem_append_left _ (by simp [Value.ownBlock])
   · exact List.mem_append_right _ a1
theorem LeafB.slice {α : Type} {D : Dk α} {s : Sh} {cnt : α → Nat} (hd : LeafB D s cnt) (e : Nat) : LeafB (Dk.slice e D) (.row s) (fun xs => (xs.map cnt).sum) := ⟨rfl, by
 intro w x cs bl b o bc t h hN hb hc hn
 have h' := h
 obtain ⟨v, _, _, rfl, _⟩ := h'
 obtain ⟨A, c, L, rfl, _, ⟨hn1, f, e2, hf⟩, hd2, hlen, hin⟩ := hd.row h hN
 exact ⟨L, ⟨bc, t, A, x.length, c, hb, hc 0 _ rfl, hn1, f, e2, hf⟩, hd2, hlen, fun p hp => .inr (hin p hp)⟩⟩
theorem LeafB.pair {α β : Type} {d : Dk α} {d' : Dk β} {s s' : Sh} {cnt : α → Nat} {cnt' : β → Nat} (hd : LeafB d s cnt) (hd' : LeafB d' s' cnt') : LeafB (Dk.pair d d') (.both s s') (fun x => cnt x.1 + cnt' x.2) := ⟨by show d.d.sz + d'.d.sz = s.sz + s'.sz; rw [hd.sz, hd'.sz], by
 intro w x cs bl b o bc t h hN hb hc hn
 obtain ⟨c0, c1, b0, b1, rfl, rfl, h0, h1⟩ := h
 obtain ⟨n1, n2, n3⟩ := List.nodup_append.1 hN
 have hl : c0.length = s.sz := by rw [← hd.sz]; exact d.d.K_len (d.K h0)
 obtain ⟨L1, a1, d1, l1, g1⟩ := hd.get h0 n1 hb (o := o) (fun i u hu => hc i u (by rw [List.getElem?_append_left (List.getElem?_eq_some_iff.1 hu).1]; exact hu)) (fun h2 => hn (List.mem_append_left _ h2))
 obtain ⟨L2, a2, d2, l2, g2⟩ := hd'.get h1 n2 hb (o := o + s.sz) (fun i u hu => by
   have := hc (s.sz + i) u (by rw [List.getElem?_append_right (by omega), hl, Nat.add_sub_cancel_left]; exact hu)
   rwa [← Nat.add_assoc] at this) (fun h2 => hn (List.mem_append_right _ h2))
 refine ⟨L1 ++ L2, ⟨L1, L2, rfl, a1, a2⟩, List.nodup_append.2 ⟨d1, d2, fun p hp q hq e => ?_⟩, by rw [List.length_append, l1, l2], fun p hp => ?_⟩
 · subst e
   rcases g1 p hp with ⟨e1, e2, e3⟩ | h2
   · rcases g2 p hq with ⟨e4, e5, e6⟩ | h3
     · omega
     · exact hn (List.mem_append_right _ (e1 ▸ h3))
   · rcases g2 p hq with ⟨e4, e5, e6⟩ | h3
     · exact hn (List.mem_append_left _ (e4 ▸ h2))
     · exact n3 _ h2 _ h3 rfl
 · rcases List.mem_append.1 hp with hp | hp
   · rcases g1 p hp with ⟨e1, e2, e3⟩ | h2
     · exact .inl ⟨e1, e2, by show _ < o + (s.sz + s'.sz); omega⟩
     · exact .inr (List.mem_append_left _ h2)
   · rcases g2 p hp with ⟨e1, e2, e3⟩ | h2
     · exact .inl ⟨e1, by omega, by show _ < o + (s.sz + s'.sz); omega⟩
     · exact .inr (List.mem_append_right _ h2)⟩
def preM (s : Sh) (A : Option Addr) (n : Nat) (L : List Addr) (bl : List Nat) : Mu := ⟨bl, fun W => RowLv (only W bl) s A n L ∧ L.Nodup ∧ ∀ p, p ∈ L → p.block ∈ bl⟩
def leafM (s : Sh) (A : Option Addr) (n : Nat) (L : List Addr) (k : Int) (bl : List Nat) : Mu := ⟨bl, fun W => (RowLv (only W bl) s A n L ∧ ∀ p, p ∈ L → p.block ∈ bl) ∧ ToldAt W L k⟩
theorem only_step {w W : World} {bl : List Nat} (hW : ∀ k, k ∈ bl → k < w.heap.size → W.heap[k]? = w.heap[k]?) : ∀ (b o : Nat) (cs : Array Value) (t : TypeId) (u : Value), (only w bl).heap[b]? = some (.cells cs t (0, 0)) → cs[o]? = some u → (only W bl).heap[b]? = some (.cells cs t (0, 0)) := by
 intro b o cs t u hb ho
 obtain ⟨hk, hw⟩ := only_cell hb ho
 rw [only_in hk, hW b hk (blk_lt hw), hw]
theorem cell_step {w W : World} {p : Addr} {v : Value} (h : w.cell? p = some v) (hW : W.heap[p.block]? = w.heap[p.block]?) : W.cell? p = some v := by
 unfold World.cell? at h ⊢
 rw [hW]; exact h
theorem cell_lt {w : World} {p : Addr} {v : Value} (h : w.cell? p = some v) : p.block < w.heap.size := by
 unfold World.cell? at h
 cases hb : w.heap[p.block]? with
 | none => rw [hb] at h; cases h
 | some c => exact (Array.getElem?_eq_some_iff.1 hb).1
section
variable {ok0 : Nat → Prop} {w0 w w1 : World} {ms : List Mu} {fo fn : List Fact} {α : Type} {D : Dk α} {xs : List α} {e n c : Nat} {v : Value} {bl : List Nat} {s : Sh} {cnt : α → Nat} {A : Option Addr} {L : List Addr} {k : Int}
theorem St.marked (h : St ok0 w0 w ms fo fn) (i : Nat) (hi : ms[i]? = some (preM s A n L bl)) (hm : Marked L k w w1) : St ok0 w0 w1 (ms.set i (leafM s A n L k bl)) fo fn := by
 obtain ⟨hR, hN, hin⟩ := h.mu i hi
 have hl : ∀ b, b ∈ bl → w0.heap.size ≤ b ∧ b < w.heap.size := fun b hb => h.l b (by
   obtain ⟨e1, _, _⟩ := split_at hi
   rw [e1, bks_app, bks]
   exact List.mem_append_right _ (List.mem_append_left _ hb))
 have hnb : bl.Nodup := by
   obtain ⟨e1, _, _⟩ := split_at hi
   have := h.d
   rw [e1, bks_app, bks] at this
   exact (List.nodup_append.1 (List.nodup_append.1 this).2.1).1
 have ht : ToldAt w1 L k := hm.told hN
 have hR1 : RowLv (only w1 bl) s A n L := by
   refine RowLv.ints (w := only w bl) (ok := fun _ => True) hR ⟨hm.i.os, hm.i.tape, hm.i.output, by simpa [only] using hm.i.size, fun _ _ hn => (hn trivial).elim, fun q cs t hq => ?_⟩
   by_cases hk : q ∈ bl
   · rw [only_in hk] at hq ⊢
     exact hm.i.cells q cs t hq
   · have hq' := hq
     unfold only at hq
     simp only [Array.getElem?_mapIdx] at hq
     cases hw : w.heap[q]? with
     | none => rw [hw] at hq; cases hq
     | some c0 =>
       rw [hw] at hq
       simp only [Option.map_some, hk, if_false] at hq
       injection hq with hq
       injection hq with h1 h2 _
       subst h1 h2
       have hlt : q < w1.heap.size := Nat.lt_of_lt_of_le (Array.getElem?_eq_some_iff.1 hw).1 hm.i.size
       refine ⟨#[], ?_, fun o u hu => by simp at hu⟩
       unfold only
       simp only [Array.getElem?_mapIdx, Array.getElem?_eq_getElem hlt, Option.map_some, hk, if_false]
 refine h.put i hi (hm.i.below h.b h.b.size ?_) hm.i.size (fun b hb hn => hm.i.keep b hb ?_) ?_ hnb (fun b hb => .inl hb)
 · rintro q ⟨p, hp, rfl⟩; exact (hl _ (hin p hp)).1
 · rintro ⟨p, hp, rfl⟩; exact hn (hin p hp)
 · intro W hW
   refine ⟨⟨RowLv.mono hR1 (only_step hW), hin⟩, fun j p hj => ?_⟩
   have hc := ht j p hj
   exact cell_step hc (hW _ (hin p (List.mem_of_getElem? hj)) (cell_lt hc))
end
end Go.Proofs.Ytoccifnjhbibcaa.XSt
namespace Go.Proofs.Ytoccifnjhbibcaa.XSt
open Go.RowKit Go.Proofs.YtoccifnjhbibcaaW.PrintWords Go.Proofs.YtoccifnjhbibcaaW.PrintLast Go.Proofs.YtoccifnjhbibcaaW.PrintMore Go.Proofs.Ytoccifnjhbibcaa.XW Go.Proofs.Ytoccifnjhbibcaa.XOp Go.Proofs.Ytoccifnjhbibcaa.XDraw Go.Proofs.Ytoccifnjhbibcaa.XLeaf
set_option linter.unusedVariables false
def flS : Sh → Nat → List (Nat × Sh)
 | .both s t, o => flS s o ++ flS t (o + s.sz)
 | .int, o => [(o, .int)]
 | .row s, o => [(o, .row s)]
theorem fl_of {w : World} {s : Sh} : ∀ {b o : Nat} {L : List Addr}, Lv w s b o L → ∃ Ls : List (List Addr), L = Ls.flatten ∧ Ls.length = (flS s o).length ∧ ∀ (i : Nat) (p : Nat × Sh), (flS s o)[i]? = some p → ∃ Li, Ls[i]? = some Li ∧ Lv w p.2 b p.1 Li := by
 induction s with
 | int =>
   intro b o L h
   refine ⟨[L], by simp, rfl, fun i p hp => ?_⟩
   cases i with
   | zero => obtain rfl : (o, Sh.int) = p := by simpa [flS] using hp
             exact ⟨L, rfl, h⟩
   | succ i => simp [flS] at hp
 | row s _ =>
   intro b o L h
   refine ⟨[L], by simp, rfl, fun i p hp => ?_⟩
   cases i with
   | zero => obtain rfl : (o, Sh.row s) = p := by simpa [flS] using hp
             exact ⟨L, rfl, h⟩
   | succ i => simp [flS] at hp
 | both s t ih1 ih2 =>
   rintro b o L ⟨L1, L2, rfl, h1, h2⟩
   obtain ⟨A1, rfl, n1, g1⟩ := ih1 h1
   obtain ⟨A2, rfl, n2, g2⟩ := ih2 h2
   refine ⟨A1 ++ A2, by simp, by simp [flS, n1, n2], fun i p hp => ?_⟩
   by_cases hlt : i < (flS s o).length
   · rw [flS, List.getElem?_append_left hlt] at hp
     rw [List.getElem?_append_left (by omega)]
     exact g1 i p hp
   · rw [flS, List.getElem?_append_right (by omega)] at hp
     rw [List.getElem?_append_right (by omega), n1]
     exact g2 _ p hp
theorem take_flat {Ls : List (List Addr)} {i : Nat} {Li : List Addr} (h : Ls[i]? = some Li) : (Ls.take (i + 1)).flatten = (Ls.take i).flatten ++ Li ∧ (Ls.take i).flatten.length + Li.length ≤ Ls.flatten.length := by
 obtain ⟨hl, e⟩ := List.getElem?_eq_some_iff.1 h
 have e1 : Ls.take (i + 1) = Ls.take i ++ [Li] := by rw [List.take_add_one, h]; rfl
 refine ⟨by rw [e1, List.flatten_append]; simp, ?_⟩
 have e2 : Ls.flatten = (Ls.take (i + 1)).flatten ++ (Ls.drop (i + 1)).flatten := by rw [← List.flatten_append, List.take_append_drop]
 rw [e2, e1, List.flatten_append]
 simp
theorem wrap_id {y : Int} (h0 : -9223372036854775808 ≤ y) (h1 : y ≤ 9223372036854775807) : wrap64 y = y := by
 unfold wrap64
 omega
structure MkI (w W : World) (z : Int) (g : Nat) (F : List (Nat × Sh)) (Ls : List (List Addr)) (i : Nat) (y : Int) : Prop where
 m : Marked (Ls.take i).flatten z w W
 y : y = z + ((Ls.take i).flatten.length : Int)
 z0 : 0 ≤ z
 hi : z + (Ls.flatten.length : Int) ≤ 4611686018427387904
 l : ∀ (i : Nat) (p : Nat × Sh), F[i]? = some p → ∃ Li, Ls[i]? = some Li ∧ Lv W p.2 g p.1 Li
 n : Ls.length = F.length
section
variable {w W : World} {z y : Int} {g i o : Nat} {F : List (Nat × Sh)} {Ls : List (List Addr)} {s : Sh}
theorem MkI.y0 (h : MkI w W z g F Ls i y) : 0 ≤ y := by have := h.y; have := h.z0; omega
theorem MkI.row (h : MkI w W z g F Ls i y) (hf : F[i]? = some (o, .row s)) : ∃ Li A n c y', W.cell? ⟨g, o, none⟩ = some (.slice A n c) ∧ RowLv W s A n Li ∧ y + (Li.length : Int) ≤ 4611686018427387904 ∧ y' = y + (Li.length : Int) ∧ ∀ W', Marked Li y W W' → MkI w W' z g F Ls (i + 1) y' := by
 obtain ⟨Li, hL, hv⟩ := h.l i _ hf
 obtain ⟨e1, e2⟩ := take_flat hL
 have hy := h.y
 have hi := h.hi
 have hv2 := hv
 obtain ⟨cs, t, A, n, c, hb, ho, hn, hr⟩ := hv2
 refine ⟨Li, A, n, c, _, by rw [blk_cell hb]; exact ho, ⟨hn, hr⟩, by omega, rfl, fun W' hm => ⟨?_, ?_, h.z0, h.hi, fun i p hp => ?_, h.n⟩⟩
 · rw [e1]; exact h.m.app (by rw [← hy]; exact hm)
 · rw [e1, List.length_append, hy]; omega
 · obtain ⟨Lj, a, b⟩ := h.l i p hp; exact ⟨Lj, a, Lv.ints b hm.i⟩
theorem MkI.int (h : MkI w W z g F Ls i y) (hf : F[i]? = some (o, .int)) : ∃ (cs : Array Value) (t : TypeId) (y' : Int), W.heap[g]? = some (.cells cs t (0, 0)) ∧ o < cs.size ∧ wrap64 (y + 1) = y' ∧ MkI w (W.setCell ⟨g, o, none⟩ (.int .i64 y)) z g F Ls (i + 1) y' := by
 obtain ⟨Li, hL, hv⟩ := h.l i _ hf
 obtain ⟨e1, e2⟩ := take_flat hL
 have hy := h.y
 have hi := h.hi
 have hm := Marked.set hv y
 have hv2 := hv
 obtain ⟨e3, cs, t, m, hb, ho⟩ := hv2
 have hl : Li.length = 1 := by rw [e3]; rfl
 refine ⟨cs, t, y + 1, hb, (Array.getElem?_eq_some_iff.1 ho).1, wrap_id (by have := h.y0; omega) (by omega), ⟨?_, ?_, h.z0, h.hi, fun i p hp => ?_, h.n⟩⟩
 · rw [e1]; exact h.m.app (by rw [← hy]; exact hm)
 · rw [e1, List.length_append, hy, hl]; omega
 · obtain ⟨Lj, a, b⟩ := h.l i p hp; exact ⟨Lj, a, Lv.ints b hm.i⟩
end
structure MkJ (w W : World) (z : Int) (s : Sh) (A : Option Addr) (n : Nat) (f : Nat → List Addr) (j : Nat) (y : Int) : Prop where
 m : Marked ((List.range j).flatMap f) z w W
 y : y = z + (((List.range j).flatMap f).length : Int)
 z0 : 0 ≤ z
 hi : z + (((List.range n).flatMap f).length : Int) ≤ 4611686018427387904
 l : ∀ i, i < n → ∃ g, A = some ⟨g, 0, none⟩ ∧ Lv w s g (i * s.sz) (f i)
 n : n ≤ 9223372036854775807
section
variable {w W : World} {z y : Int} {s : Sh} {A : Option Addr} {n j : Nat} {f : Nat → List Addr}
theorem MkJ.start {L : List Addr} (h : RowLv w s A n L) (h0 : 0 ≤ z) (h1 : z + (L.length : Int) ≤ 4611686018427387904) : ∃ f, L = (List.range n).flatMap f ∧ MkJ w w z s A n f 0 z := by
 obtain ⟨hn, f, rfl, hf⟩ := h
 exact ⟨f, rfl, ⟨by simpa using Marked.nil _ _, by simp, h0, h1, hf, hn⟩⟩
theorem MkJ.round (h : MkJ w W z s A n f j y) (hj : j < n) : ∃ (g : Nat) (Ls : List (List Addr)), A = some ⟨g, 0, none⟩ ∧ wrap64 ((j : Int) + 1) = ((j + 1 : Nat) : Int) ∧ (Ls.flatten = f j) ∧ MkI W W y g (flS s (j * s.sz)) Ls 0 y := by
 obtain ⟨g, e, hl⟩ := h.l j hj
 obtain ⟨Ls, e1, e2, e3⟩ := fl_of (Lv.ints hl h.m.i)
 have hy := h.y
 have hi := h.hi
 have hz := h.z0
 have hn := h.n
 have := len_at f hj
 exact ⟨g, Ls, e, by rw [wrap_id (by omega) (by omega)]; rfl, e1.symm, ⟨by simpa using Marked.nil _ _, by simp, by omega, by rw [← e1]; omega, e3, e2⟩⟩
end
structure HeI (w W : World) (z : Int) (g : Nat) (F : List (Nat × Sh)) (Ls : List (List Addr)) (i : Nat) (y : Int) : Prop where
 m : Below w.heap.size w W
 y : y = z + ((Ls.take i).flatten.length : Int)
 z0 : 0 ≤ z
 hi : z + (Ls.flatten.length : Int) ≤ 4611686018427387904
 l : ∀ (i : Nat) (p : Nat × Sh), F[i]? = some p → ∃ Li, Ls[i]? = some Li ∧ Lv w p.2 g p.1 Li
 n : Ls.length = F.length
 t : ToldAt w Ls.flatten z
section
variable {w W : World} {z y : Int} {g i o : Nat} {F : List (Nat × Sh)} {Ls : List (List Addr)} {s : Sh}
theorem HeI.y0 (h : HeI w W z g F Ls i y) : 0 ≤ y := by have := h.y; have := h.z0; omega
theorem HeI.told {Li : List Addr} (h : HeI w W z g F Ls i y) (hL : Ls[i]? = some Li) : ToldAt w Li y := by
 obtain ⟨hl, e⟩ := List.getElem?_eq_some_iff.1 hL
 have e1 : Ls = Ls.take i ++ Li :: Ls.drop (i + 1) := by rw [← e, List.getElem_cons_drop, List.take_append_drop]
 have ht := h.t
 rw [e1, List.flatten_append, List.flatten_cons] at ht
 have := ht.right.left
 rwa [← h.y] at this
theorem HeI.row (h : HeI w W z g F Ls i y) (hf : F[i]? = some (o, .row s)) : ∃ Li A n c y', W.cell? ⟨g, o, none⟩ = some (.slice A n c) ∧ RowLv W s A n Li ∧ ToldAt W Li y ∧ y + (Li.length : Int) ≤ 4611686018427387904 ∧ y' = y + (Li.length : Int) ∧ ∀ W', Below W.heap.size W W' → HeI w W' z g F Ls (i + 1) y' := by
 obtain ⟨Li, hL, hv⟩ := h.l i _ hf
 obtain ⟨e1, e2⟩ := take_flat hL
 have hy := h.y
 have hi := h.hi
 have hv2 := Lv.ints hv (Ints.of_below (ok := fun _ => False) h.m)
 obtain ⟨cs, t, A, n, c, hb, ho, hn, hr⟩ := hv2
 refine ⟨Li, A, n, c, _, by rw [blk_cell hb]; exact ho, ⟨hn, hr⟩, (h.told hL).below h.m, by omega, rfl, fun W' hm => ⟨h.m.trans (hm.mono h.m.size), ?_, h.z0, h.hi, h.l, h.n, h.t⟩⟩
 rw [e1, List.length_append, hy]; omega
theorem HeI.int (h : HeI w W z g F Ls i y) (hf : F[i]? = some (o, .int)) : ∃ y', W.cell? ⟨g, o, none⟩ = some (.int .i64 y) ∧ wrap64 (y + 1) = y' ∧ HeI w W z g F Ls (i + 1) y' := by
 obtain ⟨Li, hL, hv⟩ := h.l i _ hf
 obtain ⟨e1, e2⟩ := take_flat hL
 have hy := h.y
 have hi := h.hi
 have ht := h.told hL
 obtain ⟨e3, _⟩ := hv
 have hl : Li.length = 1 := by rw [e3]; rfl
 refine ⟨y + 1, ?_, wrap_id (by have := h.y0; omega) (by omega), ⟨h.m, ?_, h.z0, h.hi, h.l, h.n, h.t⟩⟩
 · have := ht 0 ⟨g, o, none⟩ (by rw [e3]; rfl)
   rw [pw_cell_below h.m this]; simp
 · rw [e1, List.length_append, hy, hl]; omega
end
structure HeJ (w W : World) (z : Int) (s : Sh) (A : Option Addr) (n : Nat) (f : Nat → List Addr) (j : Nat) (y : Int) : Prop where
 m : Below w.heap.size w W
 y : y = z + (((List.range j).flatMap f).length : Int)
 z0 : 0 ≤ z
 hi : z + (((List.range n).flatMap f).length : Int) ≤ 4611686018427387904
 l : ∀ i, i < n → ∃ g, A = some ⟨g, 0, none⟩ ∧ Lv w s g (i * s.sz) (f i)
 t : ToldAt w ((List.range n).flatMap f) z
 n : n ≤ 9223372036854775807
section
variable {w W : World} {z y : Int} {s : Sh} {A : Option Addr} {n j : Nat} {f : Nat → List Addr}
theorem HeJ.start {L : List Addr} (h : RowLv w s A n L) (ht : ToldAt w L z) (h0 : 0 ≤ z) (h1 : z + (L.length : Int) ≤ 4611686018427387904) : ∃ f, L = (List.range n).flatMap f ∧ HeJ w w z s A n f 0 z := by
 obtain ⟨hn, f, rfl, hf⟩ := h
 exact ⟨f, rfl, ⟨Below.refl _ _, by simp, h0, h1, hf, ht, hn⟩⟩
theorem HeJ.round (h : HeJ w W z s A n f j y) (hj : j < n) : ∃ (g : Nat) (Ls : List (List Addr)), A = some ⟨g, 0, none⟩ ∧ wrap64 ((j : Int) + 1) = ((j + 1 : Nat) : Int) ∧ (Ls.flatten = f j) ∧ HeI W W y g (flS s (j * s.sz)) Ls 0 y := by
 obtain ⟨g, e, hl⟩ := h.l j hj
 obtain ⟨Ls, e1, e2, e3⟩ := fl_of (Lv.ints hl (Ints.of_below (ok := fun _ => False) h.m))
 have hy := h.y
 have hi := h.hi
 have hz := h.z0
 have hn := h.n
 have := len_at f hj
 exact ⟨g, Ls, e, by rw [wrap_id (by omega) (by omega)]; rfl, e1.symm, ⟨Below.refl _ _, by simp, by omega, by rw [← e1]; omega, e3, e2, by rw [← e1, hy]; exact (told_at f h.t hj).below h.m⟩⟩
end
end Go.Proofs.Ytoccifnjhbibcaa.XSt
namespace Go.Proofs.Ytoccifnjhbibcaa.XSt
open Go.RowKit Go.Proofs.YtoccifnjhbibcaaW.PrintWords Go.Proofs.YtoccifnjhbibcaaW.PrintLast Go.Proofs.YtoccifnjhbibcaaW.PrintMore Go.Proofs.Ytoccifnjhbibcaa.XW Go.Proofs.Ytoccifnjhbibcaa.XOp Go.Proofs.Ytoccifnjhbibcaa.XDraw
set_option linter.unusedVariables false
theorem bks_flat : ∀ ms : List Mu, bks ms = (ms.map Mu.blk).flatten
 | [] => rfl
 | m :: ms => by rw [bks, bks_flat ms, List.map_cons, List.flatten_cons]
theorem St.sel {ok0 : Nat → Prop} {w0 w : World} {ms ms' : List Mu} {fo fn : List Fact} (h : St ok0 w0 w ms fo fn) (L : List Nat) (hm : (L.map fun i => ms[i]?) = ms'.map some := by rfl) (hL : L.Nodup := by decide) : St ok0 w0 w ms' fo fn := by
 have hd := h.d
 rw [bks_flat] at hd
 have key : ∀ (L : List Nat) (ms' : List Mu), (L.map fun i => ms[i]?) = ms'.map some → L.Nodup → AllM w ms' ∧ (bks ms').Nodup ∧ (∀ k, k ∈ bks ms' → ∃ i m, i ∈ L ∧ ms[i]? = some m ∧ k ∈ m.blk) := by
   intro L
   induction L with
   | nil =>
     intro ms' e _
     cases ms' with
     | nil => exact ⟨trivial, List.nodup_nil, fun k hk => by cases hk⟩
     | cons _ _ => cases e
   | cons i L ih =>
     intro ms' e hn
     cases ms' with
     | nil => cases e
     | cons m ms' =>
       rw [List.map_cons, List.map_cons] at e
       injection e with e1 e2
       obtain ⟨n1, n2⟩ := List.nodup_cons.1 hn
       obtain ⟨g1, g2, g3⟩ := ih ms' e2 n2
       have hb : m.blk ∈ ms.map Mu.blk := List.mem_map_of_mem (List.mem_of_getElem? e1)
       refine ⟨⟨AllM.get i e1 h.m, g1⟩, List.nodup_append.2 ⟨flat_nodup hd hb, g2, fun a ha b hb' e3 => ?_⟩, fun k hk => ?_⟩
       · subst e3
         obtain ⟨j, m', hj, hm', hk⟩ := g3 a hb'
         have : i = j := flat_idx hd (a := m.blk) (b := m'.blk) (by rw [List.getElem?_map, e1]; rfl) (by rw [List.getElem?_map, hm']; rfl) ha hk
         exact n1 (this ▸ hj)
       · rcases List.mem_append.1 hk with hk | hk
         · exact ⟨i, m, List.mem_cons_self .., e1, hk⟩
         · obtain ⟨j, m', hj, hm', hk⟩ := g3 k hk
           exact ⟨j, m', List.mem_cons_of_mem _ hj, hm', hk⟩
 obtain ⟨g1, g2, g3⟩ := key L ms' hm hL
 have hsub : ∀ k, k ∈ bks ms' → k ∈ bks ms := fun k hk => by
   obtain ⟨i, m, _, hi, hk⟩ := g3 k hk
   rw [bks_flat]
   exact List.mem_flatten.2 ⟨m.blk, List.mem_map_of_mem (List.mem_of_getElem? hi), hk⟩
 exact ⟨h.b, h.o.mono (fun k hk => okS_sub hsub hk), h.n.mono (fun k hk => okS_sub hsub hk), g1, g2, fun k hk => h.l k (hsub k hk)⟩
end Go.Proofs.Ytoccifnjhbibcaa.XSt
namespace Go.Proofs.Ytoccifnjhbibcaa.XSt
open Go.RowKit Go.Proofs.YtoccifnjhbibcaaW.PrintWords Go.Proofs.YtoccifnjhbibcaaW.PrintLast Go.Proofs.YtoccifnjhbibcaaW.PrintMore Go.Proofs.Ytoccifnjhbibcaa.XW Go.Proofs.Ytoccifnjhbibcaa.XOp Go.Proofs.Ytoccifnjhbibcaa.XDraw
set_option linter.unusedVariables false
section
variable {α : Type}
def someB (l : List (α × List Nat)) : List (α × Option (List Nat)) := l.map fun q => (q.1, some q.2)
def restM (D : Dk α) (xs : List α) (inner : List Value) (j : Nat) (bl : List Nat) : Mu := ⟨bl, fun W => ∃ (ps : List (α × List Nat)) (x0 : α), xs = ps.map Prod.fst ∧ bl = ((ps.eraseIdx j).map Prod.snd).flatten ∧
 Reps (fun (p : α × Option (List Nat)) cs => ∀ b, p.2 = some b → D.B W p.1 cs b) D.d.sz ((someB ps).set j (x0, none)) inner⟩
theorem cut_self (inner : List Value) (k m : Nat) (h : k + m ≤ inner.length) : cut inner k ((inner.drop k).take m) = inner := by
 unfold cut
 have e : ((inner.drop k).take m).length = m := by rw [List.length_take, List.length_drop]; omega
 rw [e, ← List.drop_drop, List.take_append_drop, List.take_append_drop]
theorem someB_get (l : List (α × List Nat)) (i : Nat) : (someB l)[i]? = (l[i]?).map fun q => (q.1, some q.2) := by unfold someB; rw [List.getElem?_map]
theorem someB_set (l : List (α × List Nat)) (j : Nat) (x : α) (b : List Nat) : (someB l).set j (x, some b) = someB (l.set j (x, b)) := by unfold someB; rw [List.map_set]
theorem reps_someB {D : Dk α} {W : World} {ps : List (α × List Nat)} {inner : List Value} : Reps (fun (p : α × Option (List Nat)) cs => ∀ b, p.2 = some b → D.B W p.1 cs b) D.d.sz (someB ps) inner ↔ Reps (fun (p : α × List Nat) cs => D.B W p.1 cs p.2) D.d.sz ps inner := by
 have e : (someB ps).length = ps.length := by unfold someB; rw [List.length_map]
 constructor
 · intro h
   refine ⟨by rw [← e]; exact h.1, fun i p hp => ?_⟩
   exact h.2 i (p.1, some p.2) (by rw [someB_get, hp]; rfl) p.2 rfl
 · intro h
   refine ⟨by rw [e]; exact h.1, fun i p hp => ?_⟩
   rw [someB_get] at hp
   obtain ⟨q, hq, rfl⟩ := Option.map_eq_some_iff.1 hp
   intro b hb
   obtain rfl : q.2 = b := by injection hb
   exact h.2 i q hq
theorem flat_out {ps : List (α × List Nat)} {j : Nat} (hj : j < ps.length) : (ps[j].2 ++ ((ps.eraseIdx j).map Prod.snd).flatten).Perm (ps.map Prod.snd).flatten := by
 have e1 : ps = ps.take j ++ ps[j] :: ps.drop (j + 1) := by rw [List.getElem_cons_drop, List.take_append_drop]
 rw [List.eraseIdx_eq_take_drop_succ]
 generalize hx : ps[j] = x at *
 generalize ps.take j = l1 at *
 generalize ps.drop (j + 1) = l2 at *
 subst e1
 simp only [List.map_append, List.map_cons, List.flatten_append, List.flatten_cons]
 rw [← List.append_assoc, ← List.append_assoc]
 exact List.perm_append_comm.append_right _
theorem flat_in {ps : List (α × List Nat)} {j : Nat} (hj : j < ps.length) (x : α) (b : List Nat) : (b ++ ((ps.eraseIdx j).map Prod.snd).flatten).Perm ((ps.set j (x, b)).map Prod.snd).flatten := by
 have h := flat_out (ps := ps.set j (x, b)) (j := j) (by rw [List.length_set]; exact hj)
 rw [List.getElem_set_self, List.eraseIdx_set_eq] at h
 exact h
end
section
variable {α : Type} {D : Dk α} {ok0 : Nat → Prop} {w0 w : World} {ms : List Mu} {fo fn : List Fact} {xs : List α} {x : α} {inner cs I : List Value} {bl bx : List Nat} {v : Value} {e n sz B : Nat}
theorem foot_rest {j : Nat} (h : (restM D xs inner j bl).P w) (hl : ∀ k, k ∈ bl → k < w.heap.size) : Foot (restM D xs inner j bl).P w (fun k => k ∈ (restM D xs inner j bl).blk) := fun W hW => by
 obtain ⟨ps, x0, e1, e2, h3⟩ := h
 refine ⟨ps, x0, e1, e2, ⟨h3.1, fun i p hp b hb => D.mv (h3.2 i p hp b hb) (fun k hk => ?_)⟩⟩
 have hin : k ∈ bl := by
   rw [e2]
   rw [List.getElem?_set] at hp
   split at hp
   · split at hp
     · injection hp with hp; subst hp; cases hb
     · cases hp
   · rename_i hne
     rw [someB_get] at hp
     obtain ⟨q, hq, rfl⟩ := Option.map_eq_some_iff.1 hp
     obtain rfl : q.2 = b := by injection hb
     refine List.mem_flatten.2 ⟨q.2, List.mem_map_of_mem ?_, hk⟩
     rw [List.mem_eraseIdx_iff_getElem?]
     exact ⟨i, fun h => hne h.symm, hq⟩
 exact hW k hin (hl k hin)
theorem St.elsOut (h : St ok0 w0 w (elsM D xs inner bl :: ms) fo fn) (z : α) (j : Nat) (hj : j < xs.length) : ∃ bx bl', St ok0 w0 w (valM D (xs.getD j z) ((inner.drop (j * D.d.sz)).take D.d.sz) bx :: restM D xs inner j bl' :: ms) fo fn := by
 obtain ⟨ps, e1, e2, e3⟩ := (h.mu 0 rfl : RepsB D w xs inner bl)
 have hp : j < ps.length := by rw [e1, List.length_map] at hj; exact hj
 have hxj : xs.getD j z = ps[j].1 := by rw [e1, List.getD_eq_getElem?_getD, List.getElem?_map, List.getElem?_eq_getElem hp]; rfl
 have hl := h.l
 have hlb : ∀ k, k ∈ bl → k < w.heap.size := fun k hk => (hl k (List.mem_append_left _ hk)).2
 have hpm := flat_out hp
 rw [← e2] at hpm
 have hbl : ∀ k, k ∈ ((ps.eraseIdx j).map Prod.snd).flatten → k ∈ bl := fun k hk => (hpm.mem_iff).1 (List.mem_append_right _ hk)
 have hv : D.B w ps[j].1 ((inner.drop (j * D.d.sz)).take D.d.sz) ps[j].2 := e3.2 j _ (List.getElem?_eq_getElem hp)
 have hlen : inner.length = ps.length * D.d.sz := e3.1
 have hcs := D.d.K_len (D.K hv)
 have hr : (restM D xs inner j ((ps.eraseIdx j).map Prod.snd).flatten).P w := by
   refine ⟨ps, ps[j].1, e1, rfl, ?_⟩
   have := Reps.set_ (reps_someB.2 e3) j (ps[j].1, none) (vs := (inner.drop (j * D.d.sz)).take D.d.sz) (fun b hb => by cases hb) hcs (by unfold someB; rw [List.length_map]; exact hp)
   rw [cut_self] at this
   · exact this
   · rw [hlen]
     have := Nat.mul_le_mul_right D.d.sz (show j + 1 ≤ ps.length from hp)
     rw [Nat.add_mul, Nat.one_mul] at this
     exact this
 refine ⟨ps[j].2, ((ps.eraseIdx j).map Prod.snd).flatten, ?_⟩
 rw [hxj]
 have h1 := h.put0 ⟨ps[j].2 ++ ((ps.eraseIdx j).map Prod.snd).flatten, fun W => (valM D ps[j].1 ((inner.drop (j * D.d.sz)).take D.d.sz) ps[j].2).P W ∧ (restM D xs inner j ((ps.eraseIdx j).map Prod.snd).flatten).P W⟩
   (fun _ W hW => ⟨foot_val hv W (fun k hk => hW k (List.mem_append_left _ hk)), foot_rest hr (fun k hk => hlb k (hbl k hk)) W (fun k hk => hW k (List.mem_append_right _ hk))⟩) (fun hn => hpm.nodup_iff.2 hn) (fun k hk => (hpm.mem_iff).1 hk)
 exact h1.halves _ _ (fun hP => ⟨foot_val hP.1, foot_rest hP.2 (fun k hk => hlb k (hbl k hk))⟩) rfl
theorem St.elsIn {j : Nat} (h : St ok0 w0 w (valM D x cs bx :: restM D xs inner j bl :: ms) fo fn) (hj : j < xs.length) : ∃ bl', St ok0 w0 w (elsM D (xs.set j x) (cut inner (j * D.d.sz) cs) bl' :: ms) fo fn := by
 obtain ⟨ps, x0, e1, e2, e3⟩ := (h.mu 1 rfl : (restM D xs inner j bl).P w)
 have hv : D.B w x cs bx := h.mu 0 rfl
 have hp : j < ps.length := by rw [e1, List.length_map] at hj; exact hj
 have hpm := flat_in hp x bx
 rw [← e2] at hpm
 have hr := Reps.set_ e3 j (x, some bx) (vs := cs) (fun b hb => by obtain rfl : bx = b := (by injection hb); exact hv) (D.d.K_len (D.K hv)) (by rw [List.length_set]; unfold someB; rw [List.length_map]; exact hp)
 rw [List.set_set, someB_set] at hr
 have hR : RepsB D w (xs.set j x) (cut inner (j * D.d.sz) cs) ((ps.set j (x, bx)).map Prod.snd).flatten := ⟨ps.set j (x, bx), by rw [List.map_set, e1], rfl, reps_someB.1 hr⟩
 exact ⟨_, (h.both).put0 _ (fun _ => foot_els hR) (fun hn => hpm.nodup_iff.1 hn) (fun k hk => (hpm.mem_iff).2 hk)⟩
end
section
variable {α : Type} {D : Dk α} {ok0 : Nat → Prop} {w0 w : World} {ms : List Mu} {fo fn : List Fact} {xl : List (List α)} {y : List α} {inner cs I : List Value} {bl bx : List Nat} {v : Value} {e n sz B : Nat}
theorem St.rowOut (h : St ok0 w0 w (elsM (Dk.slice e D) xl inner bl :: ms) fo fn) (j : Nat) (hs : D.d.sz = sz) (hj : j < xl.length) : ∃ v I b1 b2, inner[j]? = some v ∧ St ok0 w0 w (rowM w0.heap.size e sz v (xl.getD j []).length I :: elsM D (xl.getD j []) I b1 :: restM (Dk.slice e D) xl inner j b2 :: ms) fo fn := by
 obtain ⟨bx, b2, h1⟩ := h.elsOut [] j hj
 obtain ⟨v, I, bl', e1, _⟩ := (h1.mu 0 rfl : (Dk.slice e D).B w (xl.getD j []) ((inner.drop (j * (Dk.slice e D).d.sz)).take (Dk.slice e D).d.sz) bx)
 rw [e1] at h1
 obtain ⟨I', b1, h2⟩ := h1.unseal hs
 refine ⟨v, I', b1, b2, ?_, h2⟩
 have e2 : (inner.drop (j * 1)).take 1 = [v] := e1
 have e3 := congrArg (fun l : List Value => l[0]?) e2
 simpa using e3
theorem cut_one (inner : List Value) (j : Nat) (v : Value) (h : inner[j]? = some v) : cut inner (j * 1) [v] = inner := by
 obtain ⟨hj, e⟩ := List.getElem?_eq_some_iff.1 h
 unfold cut
 rw [Nat.mul_one, List.length_singleton, List.singleton_append, ← e, List.getElem_cons_drop, List.take_append_drop]
theorem St.rowIn {j : Nat} (h : St ok0 w0 w (valM (Dk.slice e D) y [v] bx :: restM (Dk.slice e D) xl inner j bl :: ms) fo fn) (hv : inner[j]? = some v) (hj : j < xl.length) : ∃ bl', St ok0 w0 w (elsM (Dk.slice e D) (xl.set j y) inner bl' :: ms) fo fn := by
 obtain ⟨bl', h1⟩ := h.elsIn hj
 have e1 : cut inner (j * (Dk.slice e D).d.sz) [v] = inner := cut_one inner j v hv
 rw [e1] at h1
 exact ⟨bl', h1⟩
theorem row_at {ad : Addr} {c : Nat} {W : World} {k : Int} (ho : W.ownsRow B e 1 (.slice (some ad) n c) n inner) (hv : inner[k.toNat]? = some v) : W.cell? (ad.add (k.toNat * 1)) = some v := by
 rw [Nat.mul_one]; exact row_cell ho hv
end
end Go.Proofs.Ytoccifnjhbibcaa.XSt
namespace Go.Proofs.Ytoccifnjhbibcaa.XClass
open Go.Proofs.Ytoccifnjhbibcaa.XLaw Go.Proofs.Ytoccifnjhbibcaa.XLeaf
set_option linter.unusedVariables false
open Go.RowKit Go.Proofs.YtoccifnjhbibcaaW.PrintWords Go.Proofs.YtoccifnjhbibcaaW.PrintLast Go.Proofs.YtoccifnjhbibcaaW.PrintMore
end Go.Proofs.Ytoccifnjhbibcaa.XClass
namespace Go.Proofs.Ytoccifnjhbibcaa.XSt
open Go.RowKit Go.Proofs.YtoccifnjhbibcaaW.PrintWords Go.Proofs.YtoccifnjhbibcaaW.PrintLast Go.Proofs.YtoccifnjhbibcaaW.PrintMore Go.Proofs.Ytoccifnjhbibcaa.XW Go.Proofs.Ytoccifnjhbibcaa.XOp Go.Proofs.Ytoccifnjhbibcaa.XDraw
set_option linter.unusedVariables false
end Go.Proofs.Ytoccifnjhbibcaa.XSt
namespace Go.Proofs.Ytoccifnjhbibcaa.XOpen
open Go.RowKit Go.Proofs.YtoccifnjhbibcaaW.PrintWords Go.Proofs.YtoccifnjhbibcaaW.PrintLast Go.Proofs.YtoccifnjhbibcaaW.PrintMore Go.Deep Go.ChangeShapes Go.WideShapes
set_option linter.unusedVariables false
set_option linter.unusedSimpArgs false
def Opens {α : Type} (P : Program) (t : TypeId) (d : Kd α) (G : α → Prop) : Prop :=
 ∀ {H : Type} {enc : TypeId × Value → H} {w : World} {base : Nat} {held : Bool} {fuel : Nat} {cs : List Value} {x : DataW H × List MemPlace},
   DataW.trod enc P w base (fun _ => true) held fuel t cs = some x → ∃ a, d.K w a cs ∧ G a
theorem opens_int {P : Program} {t : TypeId} {k : IntKind} (ht : P.underlying t = some (.int k)) : Opens P t (Kd.int k) (fun n => (Lit.int k n).wf = true) := by
 intro H enc w base held fuel cs x h
 obtain ⟨n, rfl, _, hw⟩ := DataW.trod_int ht h
 exact ⟨n, rfl, hw⟩
theorem list_of {α : Type} (Q : Nat → α → Prop) : ∀ n, (∀ i, i < n → ∃ a, Q i a) → ∃ xs : List α, xs.length = n ∧ ∀ i a, xs[i]? = some a → Q i a
 | 0, _ => ⟨[], rfl, fun i a h => by simp at h⟩
 | n + 1, h => by
   obtain ⟨xs, hl, hq⟩ := list_of Q n (fun i hi => h i (by omega))
   obtain ⟨a, ha⟩ := h n (by omega)
   refine ⟨xs ++ [a], by simp [hl], fun i b hb => ?_⟩
   by_cases hi : i < n
   · rw [List.getElem?_append_left (by omega)] at hb; exact hq i b hb
   · have : i = n := by
       have := (List.getElem?_eq_some_iff.1 hb).1
       simp at this; omega
     subst this
     rw [List.getElem?_append_right (by omega), hl, Nat.sub_self] at hb
     have : a = b := by simpa using hb
     subst this; exact ha
theorem opens_slice {α : Type} {P : Program} {t e : TypeId} {d : Kd α} {G : α → Prop} (ht : P.underlying t = some (.slice e)) (hc : P.cellsOf e = d.sz) (ho : Opens P e d G) :
   Opens P t (Kd.slice e d) (fun xs => xs.length ≤ 9223372036854775807 ∧ ∀ x ∈ xs, G x) := by
 intro H enc w base held fuel cs x h
 rcases open_slice ht h with ⟨rfl, _⟩ | ⟨a, len, cap, m, n, D, Pl, rfl, hb, hl, hm, hmm, _, hx⟩
 · exact ⟨[], ⟨none, 0, rfl, Nat.le_refl _, rfl, Nat.zero_le _, fun h => absurd h (Nat.lt_irrefl _)⟩, Nat.zero_le _, fun x hx => by cases hx⟩
 · simp only [if_true] at hmm
   subst hmm
   obtain ⟨xs, hxl, hxs⟩ := list_of (fun i p => G p ∧ ∃ c, c.length = d.sz ∧ d.K w p c ∧ ∀ j u, c[j]? = some u → w.cell? (a.add (i * d.sz + j)) = some u) len (fun i hi => by
     obtain ⟨cs', hcells, htr⟩ := hx i (by omega)
     obtain ⟨p, hp, hg⟩ := ho htr
     refine ⟨p, hg, cs', d.K_len hp, hp, fun j u hu => ?_⟩
     have hcs := hcells
     unfold World.cells? at hcs
     obtain ⟨_, h2, h3⟩ := World.cells?_some hcells
     have hj : j < P.cellsOf e := by
       have := (List.getElem?_eq_some_iff.1 hu).1
       omega
     have := h3 j hj
     rw [hu, Go.Deep.add_add, hc] at this
     exact this)
   refine ⟨xs, ⟨some a, m, by rw [hxl], by omega, rfl, ?_, fun _ => ⟨a, rfl, fun j p hp => ?_⟩⟩, ?_, fun p hp => ?_⟩
   · have : m ≤ 9223372036854775807 := hm
     omega
   · obtain ⟨_, c, h1, h2, h3⟩ := hxs j p hp
     exact ⟨c, h1, h2, h3⟩
   · have : m ≤ 9223372036854775807 := hm
     omega
   · obtain ⟨i, hi⟩ := List.getElem?_of_mem hp
     exact (hxs i p hi).1
end Go.Proofs.Ytoccifnjhbibcaa.XOpen
namespace Go.Proofs.YtoccifnjhbibcaaW.PrintWords
theorem Reps.one {α : Type} {R : α → List Value → Prop} {ps : List α} {cs : List Value} {p : α} {v : Value} (hp : R p [v]) (h : Reps R 1 ps cs) : Reps R 1 (p :: ps) (v :: cs) := by
 refine ⟨by simp [h.1], fun j q hq => ?_⟩
 cases j with
 | zero =>
   simp only [List.getElem?_cons_zero, Option.some.injEq] at hq
   subst hq
   simpa using hp
 | succ j =>
   simp only [List.getElem?_cons_succ] at hq
   have h1 := h.2 j q hq
   simpa [Nat.mul_one] using h1
theorem Reps.front {α : Type} {R : α → List Value → Prop} {size : Nat} {ps : List α} {cs c all : List Value} {p : α} (hp : R p c) (hc : c.length = size) (h : Reps R size ps cs) (ha : c ++ cs = all) : Reps R size (p :: ps) all := by
 subst ha
 refine ⟨by rw [List.length_append, hc, h.1, List.length_cons, Nat.succ_mul, Nat.add_comm], fun j q hq => ?_⟩
 cases j with
 | zero =>
   simp only [List.getElem?_cons_zero, Option.some.injEq] at hq
   subst hq
   rw [Nat.zero_mul, List.drop_zero, List.take_append_of_le_length (by omega), List.take_of_length_le (by omega)]
   exact hp
 | succ j =>
   simp only [List.getElem?_cons_succ] at hq
   have h1 := h.2 j q hq
   rw [Nat.succ_mul, List.drop_append, List.drop_of_length_le (by rw [hc]; exact Nat.le_add_left _ _), List.nil_append, hc, Nat.add_sub_cancel]
   exact h1
theorem Reps.c2 {α : Type} {R : α → List Value → Prop} {ps : List α} {cs : List Value} {p : α} {va vb : Value} (hp : R p [va, vb]) (h : Reps R 2 ps cs) : Reps R 2 (p :: ps) (va :: vb :: cs) := Reps.front hp rfl h rfl
theorem Reps.c3 {α : Type} {R : α → List Value → Prop} {ps : List α} {cs : List Value} {p : α} {va vb vc : Value} (hp : R p [va, vb, vc]) (h : Reps R 3 ps cs) : Reps R 3 (p :: ps) (va :: vb :: vc :: cs) := Reps.front hp rfl h rfl
theorem Reps.c4 {α : Type} {R : α → List Value → Prop} {ps : List α} {cs : List Value} {p : α} {va vb vc vd : Value} (hp : R p [va, vb, vc, vd]) (h : Reps R 4 ps cs) : Reps R 4 (p :: ps) (va :: vb :: vc :: vd :: cs) := Reps.front hp rfl h rfl
theorem Reps.c5 {α : Type} {R : α → List Value → Prop} {ps : List α} {cs : List Value} {p : α} {va vb vc vd ve : Value} (hp : R p [va, vb, vc, vd, ve]) (h : Reps R 5 ps cs) : Reps R 5 (p :: ps) (va :: vb :: vc :: vd :: ve :: cs) := Reps.front hp rfl h rfl
theorem Reps.c6 {α : Type} {R : α → List Value → Prop} {ps : List α} {cs : List Value} {p : α} {va vb vc vd ve vf : Value} (hp : R p [va, vb, vc, vd, ve, vf]) (h : Reps R 6 ps cs) : Reps R 6 (p :: ps) (va :: vb :: vc :: vd :: ve :: vf :: cs) := Reps.front hp rfl h rfl
theorem Reps.c7 {α : Type} {R : α → List Value → Prop} {ps : List α} {cs : List Value} {p : α} {va vb vc vd ve vf vg : Value} (hp : R p [va, vb, vc, vd, ve, vf, vg]) (h : Reps R 7 ps cs) : Reps R 7 (p :: ps) (va :: vb :: vc :: vd :: ve :: vf :: vg :: cs) := Reps.front hp rfl h rfl
theorem Reps.c8 {α : Type} {R : α → List Value → Prop} {ps : List α} {cs : List Value} {p : α} {va vb vc vd ve vf vg vh : Value} (hp : R p [va, vb, vc, vd, ve, vf, vg, vh]) (h : Reps R 8 ps cs) : Reps R 8 (p :: ps) (va :: vb :: vc :: vd :: ve :: vf :: vg :: vh :: cs) := Reps.front hp rfl h rfl
theorem Reps.c9 {α : Type} {R : α → List Value → Prop} {ps : List α} {cs : List Value} {p : α} {va vb vc vd ve vf vg vh vi : Value} (hp : R p [va, vb, vc, vd, ve, vf, vg, vh, vi]) (h : Reps R 9 ps cs) : Reps R 9 (p :: ps) (va :: vb :: vc :: vd :: ve :: vf :: vg :: vh :: vi :: cs) := Reps.front hp rfl h rfl
theorem Reps.c10 {α : Type} {R : α → List Value → Prop} {ps : List α} {cs : List Value} {p : α} {va vb vc vd ve vf vg vh vi vj : Value} (hp : R p [va, vb, vc, vd, ve, vf, vg, vh, vi, vj]) (h : Reps R 10 ps cs) : Reps R 10 (p :: ps) (va :: vb :: vc :: vd :: ve :: vf :: vg :: vh :: vi :: vj :: cs) := Reps.front hp rfl h rfl
end Go.Proofs.YtoccifnjhbibcaaW.PrintWords
namespace Go.Proofs.YtoccifnjhbibcaaW.PrintLast
def up (b : Nat → Bool) (i : Nat) : Nat → Bool := fun j => if j = i then true else b j
end Go.Proofs.YtoccifnjhbibcaaW.PrintLast
namespace Go.Proofs.YtoccifnjhbibcaaW.PrintLast
section
variable {ops : Array Oper} {a : Act} {o og : Oper} {g : Nat} {t : Tmp} {u : Bool}
theorem wanted_on (hg : o.guard = some (g, u)) (ho : ops[g]? = some og) (hd : og.dst = some t) (hv : a.tmps[t]? = some (.bool u)) : Region.wanted o (yielded ops a.tmps) = true := by
 simp [Region.wanted, hg, yielded, ho, hd, hv]
theorem wanted_off (hg : o.guard = some (g, u)) (ho : ops[g]? = some og) (hd : og.dst = some t) (hv : a.tmps[t]? = some (.bool (!u))) : Region.wanted o (yielded ops a.tmps) = false := by
 cases u <;> simp_all [Region.wanted, yielded]
end
end Go.Proofs.YtoccifnjhbibcaaW.PrintLast
