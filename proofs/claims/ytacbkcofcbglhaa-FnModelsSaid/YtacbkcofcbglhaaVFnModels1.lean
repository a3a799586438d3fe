/- The words that the printed texts of this claim use. No conditions. -/
import Derived.Test.YtacbkcofcbglhaaVFnModels0
import Derived.Below
import Derived.Deep.Draws
import Derived.Deep.AppendLies
import Derived.Maps.AppendAt
import Derived.OwnWalk
import Derived.Laws.BytesArg
import Derived.Laws.MakeOwn
import Derived.Laws.OwnMore
import Derived.Deep.OwnRows
import Derived.Tactics
import Derived.Lib.ConvBytes
import Derived.Laws.Slices
import Derived.WalkKit
import Derived.KernelRfl
import Derived.RowKit3
import Derived.Deep.LoopGhost
import Derived.Deep.QuietTactic
import Derived.BigQuiet
import Derived.WideLaws
import Derived.Deep.DeepCutAuto
import Derived.Deep.CutBlock
import Derived.Deep.RegionHeld3
import Derived.Laws.Rows
import Derived.Lib.AppendStr
import Derived.ArgAppend
import Derived.Laws.IdiomCopy
import Derived.RowKit
import Derived.OrdersHeld
import Derived.Laws.BitsLemmas
import Derived.Deep.MidRow
import Derived.Laws.CopyOwn
import Derived.Deep.Slices
import Derived.WideShapes
import Derived.DataReads
import Derived.Laws.StructEq
namespace Go.Proofs.Ytacbkcofcbglhaa.XOpen
open Go.RowKit Go.Proofs.YtacbkcofcbglhaaW.PrintWords Go.Proofs.YtacbkcofcbglhaaW.PrintLast Go.Proofs.YtacbkcofcbglhaaW.PrintMore Go.Deep Go.ChangeShapes Go.WideShapes
set_option linter.unusedVariables false
set_option linter.unusedSimpArgs false
/-- Cells that can be read as data of type t are of the kind d, and what they are is G. -/
def Opens {α : Type} (P : Program) (t : TypeId) (d : Kd α) (G : α → Prop) : Prop :=
  ∀ {H : Type} {enc : TypeId × Value → H} {w : World} {base : Nat} {held : Bool} {fuel : Nat} {cs : List Value} {x : DataW H × List MemPlace},
    DataW.trod enc P w base (fun _ => true) held fuel t cs = some x → ∃ a, d.K w a cs ∧ G a
theorem opens_int {P : Program} {t : TypeId} {k : IntKind} (ht : P.underlying t = some (.int k)) : Opens P t (Kd.int k) (fun n => (Lit.int k n).wf = true) := by
  intro H enc w base held fuel cs x h
  obtain ⟨n, rfl, _, hw⟩ := DataW.trod_int ht h
  exact ⟨n, rfl, hw⟩
theorem list_of {α : Type} (Q : Nat → α → Prop) : ∀ n, (∀ i, i < n → ∃ a, Q i a) → ∃ xs : List α, xs.length = n ∧ ∀ i a, xs[i]? = some a → Q i a
  | 0, _ => ⟨[], rfl, fun i a h => by simp at h⟩
  | n + 1, h => by
    obtain ⟨xs, hl, hq⟩ := list_of Q n (fun i hi => h i (by omega))
    obtain ⟨a, ha⟩ := h n (by omega)
    refine ⟨xs ++ [a], by simp [hl], fun i b hb => ?_⟩
    by_cases hi : i < n
    · rw [List.getElem?_append_left (by omega)] at hb; exact hq i b hb
    · have : i = n := by
        have := (List.getElem?_eq_some_iff.1 hb).1
        simp at this; omega
      subst this
      rw [List.getElem?_append_right (by omega), hl, Nat.sub_self] at hb
      have : a = b := by simpa using hb
      subst this; exact ha
theorem opens_slice {α : Type} {P : Program} {t e : TypeId} {d : Kd α} {G : α → Prop} (ht : P.underlying t = some (.slice e)) (hc : P.cellsOf e = d.sz) (ho : Opens P e d G) :
    Opens P t (Kd.slice e d) (fun xs => xs.length ≤ 9223372036854775807 ∧ ∀ x ∈ xs, G x) := by
  intro H enc w base held fuel cs x h
  rcases open_slice ht h with ⟨rfl, _⟩ | ⟨a, len, cap, m, n, D, Pl, rfl, hb, hl, hm, hmm, _, hx⟩
  · exact ⟨[], ⟨none, 0, rfl, Nat.le_refl _, rfl, Nat.zero_le _, fun h => absurd h (Nat.lt_irrefl _)⟩, Nat.zero_le _, fun x hx => by cases hx⟩
  · simp only [if_true] at hmm
    subst hmm
    obtain ⟨xs, hxl, hxs⟩ := list_of (fun i p => G p ∧ ∃ c, c.length = d.sz ∧ d.K w p c ∧ ∀ j u, c[j]? = some u → w.cell? (a.add (i * d.sz + j)) = some u) len (fun i hi => by
      obtain ⟨cs', hcells, htr⟩ := hx i (by omega)
      obtain ⟨p, hp, hg⟩ := ho htr
      refine ⟨p, hg, cs', d.K_len hp, hp, fun j u hu => ?_⟩
      have hcs := hcells
      unfold World.cells? at hcs
      obtain ⟨_, h2, h3⟩ := World.cells?_some hcells
      have hj : j < P.cellsOf e := by
        have := (List.getElem?_eq_some_iff.1 hu).1
        omega
      have := h3 j hj
      rw [hu, Go.Deep.add_add, hc] at this
      exact this)
    refine ⟨xs, ⟨some a, m, by rw [hxl], by omega, rfl, ?_, fun _ => ⟨a, rfl, fun j p hp => ?_⟩⟩, ?_, fun p hp => ?_⟩
    · have : m ≤ 9223372036854775807 := hm
      omega
    · obtain ⟨_, c, h1, h2, h3⟩ := hxs j p hp
      exact ⟨c, h1, h2, h3⟩
    · have : m ≤ 9223372036854775807 := hm
      omega
    · obtain ⟨i, hi⟩ := List.getElem?_of_mem hp
      exact (hxs i p hi).1
/-- Fields in line: what stands at an offset. -/
def Part {α : Type} (d : Kd α) (G : α → Prop) (w : World) (cs : List Value) (off : Nat) (a : α) : Prop := d.K w a ((cs.drop off).take d.sz) ∧ G a
theorem part_all {α : Type} {d : Kd α} {G : α → Prop} {w : World} {cs : List Value} {a : α} (h : Part d G w cs 0 a) (hl : cs.length = d.sz) : d.K w a cs ∧ G a := by
  have h1 := h.1
  rw [List.drop_zero, List.take_of_length_le (by omega)] at h1
  exact ⟨h1, h.2⟩
end Go.Proofs.Ytacbkcofcbglhaa.XOpen
namespace Go.Proofs.Ytacbkcofcbglhaa.XSt
open Go.RowKit Go.Proofs.YtacbkcofcbglhaaW.PrintWords Go.Proofs.YtacbkcofcbglhaaW.PrintLast Go.Proofs.YtacbkcofcbglhaaW.PrintMore Go.Proofs.Ytacbkcofcbglhaa.XW Go.Proofs.Ytacbkcofcbglhaa.XOp Go.Proofs.Ytacbkcofcbglhaa.XDraw
set_option linter.unusedVariables false
/-- Operation i, run now. -/
def WDop (P : Program) (ops : Array Oper) (Q : Exit → Act → World → Prop) (S : World → Prop) (ds : List Nat) (fuel : Nat) (l : Array Bool) (n : Nat) (E : Env) (w : World) (oi : Oper) (i d : Nat) : Prop :=
  ∀ K : Act → World → Prop, (∀ E' w', S w' → WD P ops Q S ds fuel (l.setIfInBounds i true) n E' w' → ∀ a, Fits a n E' → K a w') → ∀ a, Fits a n E → if Region.wanted oi (yielded ops a.tmps) = true then Oper.wp P oi a w K Q else K (a.put (some d) undef) w
section
variable {P : Program} {Q : Exit → Act → World → Prop} {n fuel d di dj : Nat} {E : Env} {w w1 : World} {S : World → Prop} {ops : Array Oper} {oi oj : Oper} {ds : List Nat} {v : Value} {l : Array Bool} {ok0 : Nat → Prop} {w0 : World} {ms : List Mu} {fo fn : List Fact} {e : Nat} {t : TypeId} {x : Operand} {cs : Array Value}
theorem two__ (i j : Nat) (h1 : WDop P ops Q S ds fuel l n E w oi i di) (h2 : WDop P ops Q S ds fuel l n E w oj j dj) (hi : ops[i]? = some oi := by rfl) (hj : ops[j]? = some oj := by rfl) (hdi : oi.dst = some di := by rfl) (hdj : oj.dst = some dj := by rfl)
    (hc : (Region.ready .any ops l == [i, j]) = true := by kernel_rfl) (hdsi : i ∉ ds := by decide) (hdsj : j ∉ ds := by decide) : WD P ops Q S ds (fuel + 1) l n E w := fun a ha =>
  two_ (l.setIfInBounds i true) (l.setIfInBounds j true) hi hj hdi hdj (by rw [hc]; simp) hdsi hdsj
    (fun K hK => h1 K (fun E' w' hw' hD a' ha' => hK.out a' w' hw' (fun _ => hD a' ha')) a ha)
    (fun K hK => h2 K (fun E' w' hw' hD a' ha' => hK.out a' w' hw' (fun _ => hD a' ha')) a ha)
theorem dvo_ (i : Nat) (hw : ∀ a, Fits a n E → Region.wanted oi (yielded ops a.tmps) = true) (hr : Run P E oi w v w1) (hS : S w1) (h : WD P ops Q S ds fuel (l.setIfInBounds i true) n ((d, v) :: E) w1) (hd : oi.dst = some d := by rfl) (hlt : d < n := by decide) : WDop P ops Q S ds fuel l n E w oi i d :=
  fun K hK a ha => value_ (hw a ha) hd (hr _ (ag ha)) (hK _ _ hS h _ (ha.put hlt v))
theorem WDo.box (i : Nat) (hw : ∀ a, Fits a n E → Region.wanted oi (yielded ops a.tmps) = true) (H : St ok0 w0 w ms fo fn) (ho : oi.op = .box t x) (hx : ev E x = some v) (hv : v.cells = cs)
    (h : ∀ b w1, w0.heap.size ≤ b → St ok0 w0 w1 (boxM b cs t :: ms) fo fn → S w1 ∧ WD P ops Q S ds fuel (l.setIfInBounds i true) n ((d, .pointer (some ⟨b, 0, none⟩)) :: E) w1) (hd : oi.dst = some d := by rfl) (hlt : d < n := by decide) : WDop P ops Q S ds fuel l n E w oi i d :=
  let g := h _ _ H.size (H.box cs t); dvo_ i hw (Run.box ho hx hv) g.1 g.2 hd hlt
theorem WDo.alloc (i : Nat) (hw : ∀ a, Fits a n E → Region.wanted oi (yielded ops a.tmps) = true) (H : St ok0 w0 w ms fo fn) (ho : oi.op = .alloc t) (hz : (P.info? t).map (fun i => i.zero) = some (some v)) (hv : v.cells = cs)
    (h : ∀ b w1, w0.heap.size ≤ b → St ok0 w0 w1 (boxM b cs t :: ms) fo fn → S w1 ∧ WD P ops Q S ds fuel (l.setIfInBounds i true) n ((d, .pointer (some ⟨b, 0, none⟩)) :: E) w1) (hd : oi.dst = some d := by rfl) (hlt : d < n := by decide) : WDop P ops Q S ds fuel l n E w oi i d := by
  obtain ⟨i0, hi0, hz⟩ := Option.map_eq_some_iff.1 hz
  subst hv
  have g := h _ _ H.size (H.box v.cells t)
  exact dvo_ i hw (Run.alloc ho hi0 hz) g.1 g.2 hd hlt
theorem WDo.lit0 (i : Nat) (hw : ∀ a, Fits a n E → Region.wanted oi (yielded ops a.tmps) = true) (H : St ok0 w0 w ms fo fn) (ho : oi.op = .buildSlice t 0 #[]) (ht : P.underlying t = some (.slice e)) {sz : Nat} (hz : (P.info? e).map (·.size) = some sz)
    (h : ∀ v w1, St ok0 w0 w1 (rowM w0.heap.size e sz v 0 [] :: ms) fo fn → S w1 ∧ WD P ops Q S ds fuel (l.setIfInBounds i true) n ((d, v) :: E) w1) (hd : oi.dst = some d := by rfl) (hlt : d < n := by decide) : WDop P ops Q S ds fuel l n E w oi i d := by
  have g := h _ _ (H.rowNew (below_alloc (Below.refl _ _) _) (by
    have := World.ownsRow_lit (base := w.heap.size) (e := e) (size := sz) w #[] 0 (Nat.le_refl _) (by decide) (by simp)
    simpa using this))
  exact dvo_ i hw (Run.lit0 ho ht hz) g.1 g.2 hd hlt
end
section
variable {P : Program} {Q : Exit → Act → World → Prop} {n0 fuel : Nat} {E : Env} {ops : Array Oper} {o : Oper} {d : Nat} {S : World → Prop} {ds : List Nat} {l : Array Bool} {ok0 : Nat → Prop} {w0 w : World} {ms : List Mu} {fo fn : List Fact} {e sz n m c : Nat} {v : Value} {inner : List Value} {t : TypeId} {s x : Operand} {A : Option Addr} {ad : Addr}
theorem WDo.appendL (i : Nat) (hw : ∀ a, Fits a n0 E → Region.wanted o (yielded ops a.tmps) = true) (H : St ok0 w0 w ms fo fn) (q : Nat) (hq : ms[q]? = some (rowM w0.heap.size e sz v n inner)) (ho : o.op = .call { callee := .builtin .append, args := #[s, x], argTypes := #[t, t] })
    (z : Value) (bytes : Nat) (ht : P.underlying t = some (.slice e)) (hinfo : (P.info? e).map (fun i => (i.zero, i.size, i.bytes)) = some (some z, sz, bytes)) (hz : z.cells.size = sz) (hs0 : 0 < sz) (hb0 : 0 < bytes)
    (hs : ev E s = some v) (hx : ev E x = some (.slice A m c)) (L : List Value) (hl : L.length = m * sz) (hcell : 0 < m → ∃ ad, A = some ad ∧ ∀ j u, L[j]? = some u → w.cell? (ad.add j) = some u) (h1 : ∀ u ∈ L, u.oneCell' = true) (hbytes : (n + m) * bytes ≤ 140737488355328) (n' : Nat) (hn : n + m = n')
    (h : ∀ v1 w1 I, I = inner ++ L → St ok0 w0 w1 (ms.set q (rowM w0.heap.size e sz v1 n' I)) fo fn → S w1 ∧ WD P ops Q S ds fuel (l.setIfInBounds i true) n0 ((d, v1) :: E) w1)
    (hd : o.dst = some d := by rfl) (hlt : d < n0 := by decide) : WDop P ops Q S ds fuel l n0 E w o i d := by
  obtain ⟨v1, w1, hr, H1⟩ := appendL_run H q hq ho z bytes ht hinfo hz hs0 hb0 hs hx L hl hcell h1 hbytes n' hn
  have g := h v1 w1 _ rfl H1
  exact dvo_ i hw hr g.1 g.2 hd hlt
theorem WDo.append (i : Nat) (hw : ∀ a, Fits a n0 E → Region.wanted o (yielded ops a.tmps) = true) (H : St ok0 w0 w ms fo fn) (q : Nat) (hq : ms[q]? = some (rowM w0.heap.size e sz v n inner)) {s : Operand} (ho : o.op = .call { callee := .builtin .append, args := #[s, x], argTypes := #[t, t] })
    (z : Value) (bytes : Nat) (ht : P.underlying t = some (.slice e)) (hinfo : (P.info? e).map (fun i => (i.zero, i.size, i.bytes)) = some (some z, sz, bytes)) (hz : z.cells.size = sz) (hs0 : 0 < sz) (hb0 : 0 < bytes)
    (hs : ev E s = some v) {m : Nat} (hx : ev E x = some (.slice (some ad) m c)) (news : List Value) (hl : news.length = m * sz) (hnews : ∀ j u, news[j]? = some u → w.cell? (ad.add j) = some u) (h1 : ∀ u ∈ news, u.oneCell' = true) (hbytes : (n + m) * bytes ≤ 140737488355328) (n' : Nat) (hn : n + m = n')
    (h : ∀ v1 w1 I, I = inner ++ news → St ok0 w0 w1 (ms.set q (rowM w0.heap.size e sz v1 n' I)) fo fn → S w1 ∧ WD P ops Q S ds fuel (l.setIfInBounds i true) n0 ((d, v1) :: E) w1)
    (hd : o.dst = some d := by rfl) (hlt : d < n0 := by decide) : WDop P ops Q S ds fuel l n0 E w o i d := by
  obtain ⟨v1, w1, hr, H1⟩ := append_run H q hq ho z bytes ht hinfo hz hs0 hb0 hs hx news hl hnews h1 hbytes n' hn
  have g := h v1 w1 _ rfl H1
  exact dvo_ i hw hr g.1 g.2 hd hlt
end
section
variable {ok0 : Nat → Prop} {w0 w : World} {ms : List Mu} {fo fn : List Fact} {m : Mu}
theorem bks_front {i : Nat} (hi : ms[i]? = some m) : (bks ms).Perm (bks (m :: ms.eraseIdx i)) := by
  obtain ⟨e1, _, e3⟩ := split_at hi
  rw [e3]
  generalize ms.take i = l1 at *
  generalize ms.drop (i + 1) = l2 at *
  rw [e1, bks_app, bks, bks, bks_app]
  exact List.perm_append_comm_assoc ..
/-- One of what is still written is put in front. -/
theorem St.front (h : St ok0 w0 w ms fo fn) (i : Nat) (hi : ms[i]? = some m) : St ok0 w0 w (m :: ms.eraseIdx i) fo fn := by
  have hp := bks_front hi
  refine ⟨h.b, h.o.mono (fun k hk => ⟨hk.1, fun h2 => hk.2 (hp.mem_iff.2 h2)⟩), h.n.mono (fun k hk => ⟨hk.1, fun h2 => hk.2 (hp.mem_iff.2 h2)⟩), ⟨AllM.get i hi h.m, ?_⟩, hp.nodup_iff.1 h.d, fun k hk => h.l k (hp.mem_iff.2 hk)⟩
  have hm := h.m
  obtain ⟨e1, _, e3⟩ := split_at hi
  rw [e1] at hm
  rw [e3]
  exact AllM.app.2 ⟨(AllM.app.1 hm).1, (AllM.app.1 hm).2.2⟩
end
end Go.Proofs.Ytacbkcofcbglhaa.XSt
namespace Go.Proofs.YtacbkcofcbglhaaW.PrintLast
open Go.Proofs.YtacbkcofcbglhaaW.PrintWords (Aside0)
section
variable {md : Region.Mode} {ops : Array Oper} {T : Bool × List (List Nat × List Nat)} {l l' li lj lk : Array Bool} {ds : List Nat} {i j k : Nat}
theorem gd (l : Array Bool) (j : Nat) (b : Bool) : l.getD j b = l.toList.getD j b := by simp [Array.getD_eq_getD_getElem?, List.getD_eq_getElem?_getD]
end
end Go.Proofs.YtacbkcofcbglhaaW.PrintLast
namespace Go.Proofs.YtacbkcofcbglhaaW.PrintWords
open Go.RowKit
section
variable {P : Program} {d : Nat} {xs ys : Array Value} {f : Field} {fs : List Field} {a b : Value} {r s : Bool} {w : World}
/-- The last field that counts. -/
theorem eqf_last (hn : (f.name == "_") = false) (ha : (part f.type xs f.offset).run P w = .ok a w) (hb : (part f.type ys f.offset).run P w = .ok b w) (he : (Op.equalIn d f.type a b).run P w = .ok r w) : (Op.eqFields d xs ys [f]).run P w = .ok r w := by
  have hn' : f.name ≠ "_" := by simpa using hn
  simp only [Op.eqFields, if_pos hn', Sem.run_bind, ha, hb, he, Result.andThen_ok]
  cases r <;> simp
theorem eqf_cons (hn : (f.name == "_") = false) (ha : (part f.type xs f.offset).run P w = .ok a w) (hb : (part f.type ys f.offset).run P w = .ok b w) (he : (Op.equalIn d f.type a b).run P w = .ok r w) (hr : (Op.eqFields d xs ys fs).run P w = .ok s w) : (Op.eqFields d xs ys (f :: fs)).run P w = .ok (r && s) w := by
  have hn' : f.name ≠ "_" := by simpa using hn
  rw [Op.eqFields]
  simp only [if_pos hn', Sem.run_bind, ha, hb, he, Result.andThen_ok]
  cases r
  · simp
  · simpa using hr
theorem eqA_of {t : TypeId} {fs : Array Field} (hu : P.underlying t = some (.struct fs)) (hp : P.stoodInHeld t = false) (h : (Op.eqFields d xs ys fs.toList).run P w = .ok r w) : (Op.equalIn (d + 1) t (.agg xs) (.agg ys)).run P w = .ok r w := by
  have hf : P.fieldsOf t = fs := by simp [Program.fieldsOf, hu]
  rw [run_equalIn_struct (P := P) w d t xs ys (by rw [hf]; exact hu) hp, hf]
  exact h
end
end Go.Proofs.YtacbkcofcbglhaaW.PrintWords
namespace Go.Proofs.YtacbkcofcbglhaaW.PrintWords
/-- One cell an element. -/
theorem Reps.one {α : Type} {R : α → List Value → Prop} {ps : List α} {cs : List Value} {p : α} {v : Value} (hp : R p [v]) (h : Reps R 1 ps cs) : Reps R 1 (p :: ps) (v :: cs) := by
  refine ⟨by simp [h.1], fun j q hq => ?_⟩
  cases j with
  | zero =>
    simp only [List.getElem?_cons_zero, Option.some.injEq] at hq
    subst hq
    simpa using hp
  | succ j =>
    simp only [List.getElem?_cons_succ] at hq
    have h1 := h.2 j q hq
    simpa [Nat.mul_one] using h1
/-- More cells an element: told apart by the cells' list. -/
theorem Reps.front {α : Type} {R : α → List Value → Prop} {size : Nat} {ps : List α} {cs c all : List Value} {p : α} (hp : R p c) (hc : c.length = size) (h : Reps R size ps cs) (ha : c ++ cs = all) : Reps R size (p :: ps) all := by
  subst ha
  refine ⟨by rw [List.length_append, hc, h.1, List.length_cons, Nat.succ_mul, Nat.add_comm], fun j q hq => ?_⟩
  cases j with
  | zero =>
    simp only [List.getElem?_cons_zero, Option.some.injEq] at hq
    subst hq
    rw [Nat.zero_mul, List.drop_zero, List.take_append_of_le_length (by omega), List.take_of_length_le (by omega)]
    exact hp
  | succ j =>
    simp only [List.getElem?_cons_succ] at hq
    have h1 := h.2 j q hq
    rw [Nat.succ_mul, List.drop_append, List.drop_of_length_le (by rw [hc]; exact Nat.le_add_left _ _), List.nil_append, hc, Nat.add_sub_cancel]
    exact h1
theorem Reps.c2 {α : Type} {R : α → List Value → Prop} {ps : List α} {cs : List Value} {p : α} {va vb : Value} (hp : R p [va, vb]) (h : Reps R 2 ps cs) : Reps R 2 (p :: ps) (va :: vb :: cs) := Reps.front hp rfl h rfl
theorem Reps.c3 {α : Type} {R : α → List Value → Prop} {ps : List α} {cs : List Value} {p : α} {va vb vc : Value} (hp : R p [va, vb, vc]) (h : Reps R 3 ps cs) : Reps R 3 (p :: ps) (va :: vb :: vc :: cs) := Reps.front hp rfl h rfl
theorem Reps.c4 {α : Type} {R : α → List Value → Prop} {ps : List α} {cs : List Value} {p : α} {va vb vc vd : Value} (hp : R p [va, vb, vc, vd]) (h : Reps R 4 ps cs) : Reps R 4 (p :: ps) (va :: vb :: vc :: vd :: cs) := Reps.front hp rfl h rfl
theorem Reps.c5 {α : Type} {R : α → List Value → Prop} {ps : List α} {cs : List Value} {p : α} {va vb vc vd ve : Value} (hp : R p [va, vb, vc, vd, ve]) (h : Reps R 5 ps cs) : Reps R 5 (p :: ps) (va :: vb :: vc :: vd :: ve :: cs) := Reps.front hp rfl h rfl
theorem Reps.c6 {α : Type} {R : α → List Value → Prop} {ps : List α} {cs : List Value} {p : α} {va vb vc vd ve vf : Value} (hp : R p [va, vb, vc, vd, ve, vf]) (h : Reps R 6 ps cs) : Reps R 6 (p :: ps) (va :: vb :: vc :: vd :: ve :: vf :: cs) := Reps.front hp rfl h rfl
theorem Reps.c7 {α : Type} {R : α → List Value → Prop} {ps : List α} {cs : List Value} {p : α} {va vb vc vd ve vf vg : Value} (hp : R p [va, vb, vc, vd, ve, vf, vg]) (h : Reps R 7 ps cs) : Reps R 7 (p :: ps) (va :: vb :: vc :: vd :: ve :: vf :: vg :: cs) := Reps.front hp rfl h rfl
theorem Reps.c8 {α : Type} {R : α → List Value → Prop} {ps : List α} {cs : List Value} {p : α} {va vb vc vd ve vf vg vh : Value} (hp : R p [va, vb, vc, vd, ve, vf, vg, vh]) (h : Reps R 8 ps cs) : Reps R 8 (p :: ps) (va :: vb :: vc :: vd :: ve :: vf :: vg :: vh :: cs) := Reps.front hp rfl h rfl
theorem Reps.c9 {α : Type} {R : α → List Value → Prop} {ps : List α} {cs : List Value} {p : α} {va vb vc vd ve vf vg vh vi : Value} (hp : R p [va, vb, vc, vd, ve, vf, vg, vh, vi]) (h : Reps R 9 ps cs) : Reps R 9 (p :: ps) (va :: vb :: vc :: vd :: ve :: vf :: vg :: vh :: vi :: cs) := Reps.front hp rfl h rfl
theorem Reps.c10 {α : Type} {R : α → List Value → Prop} {ps : List α} {cs : List Value} {p : α} {va vb vc vd ve vf vg vh vi vj : Value} (hp : R p [va, vb, vc, vd, ve, vf, vg, vh, vi, vj]) (h : Reps R 10 ps cs) : Reps R 10 (p :: ps) (va :: vb :: vc :: vd :: ve :: vf :: vg :: vh :: vi :: vj :: cs) := Reps.front hp rfl h rfl
end Go.Proofs.YtacbkcofcbglhaaW.PrintWords
namespace Go.Proofs.YtacbkcofcbglhaaW.PrintLast
/-- Number i is listed too. -/
def up (b : Nat → Bool) (i : Nat) : Nat → Bool := fun j => if j = i then true else b j
end Go.Proofs.YtacbkcofcbglhaaW.PrintLast
namespace Go.Proofs.YtacbkcofcbglhaaW.PrintLast
section
variable {ops : Array Oper} {a : Act} {o og : Oper} {g : Nat} {t : Tmp} {u : Bool}
/-- A guarded operation whose guard has yielded what it wants. -/
theorem wanted_on (hg : o.guard = some (g, u)) (ho : ops[g]? = some og) (hd : og.dst = some t) (hv : a.tmps[t]? = some (.bool u)) : Region.wanted o (yielded ops a.tmps) = true := by
  simp [Region.wanted, hg, yielded, ho, hd, hv]
/-- The other: it isn't carried out. -/
theorem wanted_off (hg : o.guard = some (g, u)) (ho : ops[g]? = some og) (hd : og.dst = some t) (hv : a.tmps[t]? = some (.bool (!u))) : Region.wanted o (yielded ops a.tmps) = false := by
  cases u <;> simp_all [Region.wanted, yielded]
end
end Go.Proofs.YtacbkcofcbglhaaW.PrintLast
namespace Go.Proofs.Ytacbkcofcbglhaa.XSt
open Go.RowKit Go.Proofs.YtacbkcofcbglhaaW.PrintWords Go.Proofs.YtacbkcofcbglhaaW.PrintLast Go.Proofs.YtacbkcofcbglhaaW.PrintMore Go.Proofs.Ytacbkcofcbglhaa.XW Go.Proofs.Ytacbkcofcbglhaa.XOp Go.Proofs.Ytacbkcofcbglhaa.XDraw
set_option linter.unusedVariables false
theorem ite_ {α : Type} {p : Prop} [Decidable p] {a b r : α} (h : (if p then a else b) = r) : (p ∧ a = r) ∨ (¬ p ∧ b = r) := by
  by_cases c : p
  · rw [if_pos c] at h; exact .inl ⟨c, h⟩
  · rw [if_neg c] at h; exact .inr ⟨c, h⟩
theorem eti_ {α : Type} {p : Prop} [Decidable p] {a b r : α} (h : (if p then a else b) = r) : (¬ p ∧ b = r) ∨ (p ∧ a = r) := (ite_ h).symm
theorem bF {b : Bool} (h : ¬ b = true) : b = false := Bool.eq_false_iff.mpr h
theorem nB {b c : Bool} (h : b = c) : (!b) = !c := congrArg (fun b_ => !b_) h
theorem qF {α : Type} [BEq α] [LawfulBEq α] {a b : α} (h : a = b) : (a != b) = false := bne_eq_false_iff_eq.mpr h
theorem qT {α : Type} [BEq α] [LawfulBEq α] {a b : α} (h : ¬ a = b) : (a != b) = true := bne_iff_ne.mpr h
theorem eT {α : Type} [BEq α] [LawfulBEq α] {a b : α} (h : a = b) : (a == b) = true := beq_iff_eq.mpr h
theorem eF {α : Type} [BEq α] [LawfulBEq α] {a b : α} (h : ¬ a = b) : (a == b) = false := beq_eq_false_iff_ne.mpr h
theorem dT {p : Prop} [Decidable p] (h : p) : decide p = true := decide_eq_true h
theorem dF {p : Prop} [Decidable p] (h : ¬ p) : decide p = false := decide_eq_false h
theorem os {α : Type} {a b : α} (h : some a = some b) : a = b := Option.some.inj h
section
variable {P : Program} {Q Q' : Exit → Act → World → Prop} {n fuel d : Nat} {E : Env} {w w1 W0 : World} {c : Code} {K : Act → World → Prop} {e : Exit} {fn : Func} {R R' : Ending → World → Prop} {r s q : ResultVar} {v u z : Value} {ops : Array Oper} {o oi : Oper} {rest : List Oper} {ds : List Nat} {l : Array Bool} {i j g : Nat} {b b' : Bool} {ok0 : Nat → Prop} {w0 : World} {ms : List Mu} {fo fs : List Fact}
theorem via_ (hK : ∀ E w', WC P c Q n E w' → ∀ a, Fits a n E → K a w') (h : WC P c Q n E w) (hq : ∀ a w, K a w → Q' e a w := by exact fun _ _ h => h) : WQ Q' e n E w := WQ.via hq hK h
theorem rg_ {id : Nat} {l : List Oper} (h : WL P l.toArray Q l n E w) : WC P (.region id l.toArray false) Q n E w := WC.region h
theorem fin1 (fn : Func) (hr : fn.results = #[r]) (h1 : ResV P w E r v) (hR : ∀ e w', R e w' → R' e w') (h : R (.returned v) w) (hq : ∀ a w, bodyPost P fn R' .ret a w → Q' e a w := by exact fun _ _ h => h) : WQ Q' e n E w :=
  WQ.fin hq (WQ.ret1 hr h1 (hR _ _ h))
theorem fin2 (fn : Func) (hr : fn.results = #[r, s]) (h1 : ResV P w E r v) (h2 : ResV P w E s u) (hR : ∀ e w', R e w' → R' e w') (h : R (.returned (.tuple #[v, u])) w) (hq : ∀ a w, bodyPost P fn R' .ret a w → Q' e a w := by exact fun _ _ h => h) : WQ Q' e n E w :=
  WQ.fin hq (WQ.ret2 hr h1 h2 (hR _ _ h))
/-- A call that hands back what is known, and makes nothing that is looked at. -/
theorem cs_ {f : FuncId} {as : Array Operand} {ts : Array TypeId} {args : List Value} (HS : St ok0 w0 w ms fo fs) (hf : P.funcs[f]? = some fn) (hc : Calls P f args.toArray w (fun e w' => e = .returned v ∧ Below w.heap.size w w')) (h : ∀ w1, St ok0 w0 w1 ms fo fs → WL P ops Q rest n ((d, v) :: E) w1)
    (hop : o.op = .call { callee := .value (.func f), args := as, argTypes := ts } := by rfl) (hargs : as.toList.map (ev E) = args.map some := by rfl) (hg : o.guard = none := by rfl) (hd : o.dst = some d := by rfl) (hlt : d < n := by decide) (hname : (fn.name == "runtime.NumGoroutine") = false := by rfl) (hb : fn.body.isSome = true := by rfl) : WL P ops Q (o :: rest) n E w :=
  c_ hf hc (fun e w1 hh => ⟨v, hh.1, h w1 (HS.below hh.2)⟩) hop hargs hg hd hlt hname hb
theorem cs0_ {f : FuncId} {as : Array Operand} {ts : Array TypeId} {args : List Value} (HS : St ok0 w0 w ms fo fs) (hf : P.funcs[f]? = some fn) (hc : Calls P f args.toArray w (fun e w' => e = .returned v ∧ Drawn0 w w')) (h : ∀ w1, St ok0 w0 w1 ms fo fs → WL P ops Q rest n ((d, v) :: E) w1)
    (hop : o.op = .call { callee := .value (.func f), args := as, argTypes := ts } := by rfl) (hargs : as.toList.map (ev E) = args.map some := by rfl) (hg : o.guard = none := by rfl) (hd : o.dst = some d := by rfl) (hlt : d < n := by decide) (hname : (fn.name == "runtime.NumGoroutine") = false := by rfl) (hb : fn.body.isSome = true := by rfl) : WL P ops Q (o :: rest) n E w :=
  c_ hf hc (fun e w1 hh => ⟨v, hh.1, h w1 (HS.below hh.2.below)⟩) hop hargs hg hd hlt hname hb
theorem dcs_ {f : FuncId} {as : Array Operand} {ts : Array TypeId} {args : List Value} (HS : St ok0 w0 w ms fo fs) (HB : Below W0.heap.size W0 w) (i : Nat) (hw : ∀ a, Fits a n E → Region.wanted oi (yielded ops a.tmps) = true) (hf : P.funcs[f]? = some fn) (hc : Calls P f args.toArray w (fun e w' => e = .returned v ∧ Below w.heap.size w w'))
    (h : ∀ w1, St ok0 w0 w1 ms fo fs → Below W0.heap.size W0 w1 → WD P ops Q (fun w' => Below W0.heap.size W0 w') ds fuel (l.setIfInBounds i true) n ((d, v) :: E) w1)
    (hi : ops[i]? = some oi := by rfl) (hd : oi.dst = some d := by rfl) (hlt : d < n := by decide) (hc2 : readyB .any ops l (l.setIfInBounds i true) i = true := by kernel_rfl) (hds : i ∉ ds := by decide) (hop : oi.op = .call { callee := .value (.func f), args := as, argTypes := ts } := by rfl) (hargs : as.toList.map (ev E) = args.map some := by rfl) (hname : (fn.name == "runtime.NumGoroutine") = false := by rfl) (hb : fn.body.isSome = true := by rfl) : WD P ops Q (fun w' => Below W0.heap.size W0 w') ds (fuel + 1) l n E w :=
  dc_ i hw hf hc (fun e w1 hh => have hb := HB.trans (hh.2.mono HB.size); ⟨hb, v, hh.1, h w1 (HS.below hh.2) hb⟩) hi hd hlt hc2 hds hop hargs hname hb
theorem dcs0_ {f : FuncId} {as : Array Operand} {ts : Array TypeId} {args : List Value} (HS : St ok0 w0 w ms fo fs) (HB : Below W0.heap.size W0 w) (i : Nat) (hw : ∀ a, Fits a n E → Region.wanted oi (yielded ops a.tmps) = true) (hf : P.funcs[f]? = some fn) (hc : Calls P f args.toArray w (fun e w' => e = .returned v ∧ Drawn0 w w'))
    (h : ∀ w1, St ok0 w0 w1 ms fo fs → Below W0.heap.size W0 w1 → WD P ops Q (fun w' => Below W0.heap.size W0 w') ds fuel (l.setIfInBounds i true) n ((d, v) :: E) w1)
    (hi : ops[i]? = some oi := by rfl) (hd : oi.dst = some d := by rfl) (hlt : d < n := by decide) (hc2 : readyB .any ops l (l.setIfInBounds i true) i = true := by kernel_rfl) (hds : i ∉ ds := by decide) (hop : oi.op = .call { callee := .value (.func f), args := as, argTypes := ts } := by rfl) (hargs : as.toList.map (ev E) = args.map some := by rfl) (hname : (fn.name == "runtime.NumGoroutine") = false := by rfl) (hb : fn.body.isSome = true := by rfl) : WD P ops Q (fun w' => Below W0.heap.size W0 w') ds (fuel + 1) l n E w :=
  dc_ i hw hf hc (fun e w1 hh => have hb := HB.trans (hh.2.below.mono HB.size); ⟨hb, v, hh.1, h w1 (HS.below hh.2.below) hb⟩) hi hd hlt hc2 hds hop hargs hname hb
/-- A cell of a box, loaded. -/
theorem lb_ {bb oo : Nat} {t t0 : TypeId} {cs : List Value} {dd : TypeDesc} {x : Operand} (hb : w.heap[bb]? = some (.cells cs.toArray t0 (0, 0))) (ht : P.underlying t = some dd) (hc : cs[oo]? = some v) (ho : o.op = .load t x := by rfl) (hx : ev E x = some (.pointer (some ⟨bb, oo, none⟩)) := by rfl) (hd : dd.isRow = false := by rfl) : Run P E o w v w := Run.load ho hx ht hd (box_cell hb hc)
theorem fa_ {ad ad' : Addr} {m : Nat} {fs : Array Field} {f : Field} {s : TypeId} {x : Operand} (hs : P.underlying s = some (.struct fs)) (ho : o.op = .fieldAddr s x m := by rfl) (hx : ev E x = some (.pointer (some ad)) := by rfl) (hf : fs[m]? = some f := by rfl) (hi : (P.info? f.type).map (fun i => i.size == 0) = some false := by kernel_rfl) (he : ad.add f.offset = ad' := by rfl) :
    Run P E o w (.pointer (some ad')) w := Run.fieldAddr ho hx hs hf hi he
theorem ia_ {ad : Addr} {m c e : Nat} {t : TypeId} {x y : Operand} {k : IntKind} {i : Int} (ht : P.underlying t = some (.slice e)) (sz : Nat) (h0 : 0 ≤ i) (h1 : i < (m : Int)) (ho : o.op = .indexAddr t x y := by rfl) (hx : ev E x = some (.slice (some ad) m c) := by rfl) (hy : ev E y = some (.int k i) := by rfl) (hsz : (P.info? e).map (·.size) = some sz := by kernel_rfl) :
    Run P E o w (.pointer (some (ad.add (i.toNat * sz)))) w := Run.indexAddr ho hx hy ht hsz h0 h1
theorem doF_ {c : Bool} (i : Nat) (hcc : c = false) {S : World → Prop} (h : WD P ops Q S ds fuel (l.setIfInBounds i true) n ((d, undef) :: E) w) (hi : ops[i]? = some oi := by rfl) (hd : oi.dst = some d := by rfl) (hlt : d < n := by decide) (hc : anyB .any ops l (l.setIfInBounds i true) i = true := by kernel_rfl) (hQ : ∀ v c a w, Q (.panic c) (a.put oi.dst v) w → Q (.panic c) a w := by exact fun _ _ _ _ h => h) (hg : oi.guard = some (j, b) := by rfl) (hj : (ops[j]?).bind (·.dst) = some g := by rfl) (hv : lk E g = some (.bool c) := by rfl) (hcb : (false == b) = false := by rfl) : WD P ops Q S ds (fuel + 1) l n E w := WD.off i hi hd hlt hc hQ hg hj hv hcc hcb h
theorem doT_ {c : Bool} (i : Nat) (hcc : c = true) {S : World → Prop} (h : WD P ops Q S ds fuel (l.setIfInBounds i true) n ((d, undef) :: E) w) (hi : ops[i]? = some oi := by rfl) (hd : oi.dst = some d := by rfl) (hlt : d < n := by decide) (hc : anyB .any ops l (l.setIfInBounds i true) i = true := by kernel_rfl) (hQ : ∀ v c a w, Q (.panic c) (a.put oi.dst v) w → Q (.panic c) a w := by exact fun _ _ _ _ h => h) (hg : oi.guard = some (j, b) := by rfl) (hj : (ops[j]?).bind (·.dst) = some g := by rfl) (hv : lk E g = some (.bool c) := by rfl) (hcb : (true == b) = false := by rfl) : WD P ops Q S ds (fuel + 1) l n E w := WD.off i hi hd hlt hc hQ hg hj hv hcc hcb h
end
section
variable {α : Type} {d : Kd α} {ok0 : Nat → Prop} {w0 w : World} {ms : List Mu} {fo fn : List Fact} {x : α} {cs : List Value}
theorem St.aO (h : St ok0 w0 w ms fo fn) (i : Nat) (hi : fo[i]? = some (fun W => d.K W x cs)) : AtK d w x cs 0 := AtK.whole (h.getO i hi)
theorem St.aN (h : St ok0 w0 w ms fo fn) (i : Nat) (hi : fn[i]? = some (fun W => d.K W x cs)) : AtK d w x cs 0 := AtK.whole (h.getN i hi)
end
section
variable {P : Program} {Q Q' : Exit → Act → World → Prop} {n fuel d : Nat} {E : Env} {w w1 W0 : World} {x y : Code} {K : Act → World → Prop} {e : Exit} {fn : Func} {R R' : Ending → World → Prop} {r s q : ResultVar} {v u z : Value} {ops : Array Oper} {o oi : Oper} {rest : List Oper} {ds : List Nat} {l : Array Bool} {i j g : Nat} {b b' : Bool} {ok0 : Nat → Prop} {w0 : World} {ms : List Mu} {fo fs : List Fact}
theorem sr_ {id : Nat} {l : List Oper} (h : ∀ K : Act → World → Prop, (∀ E w', WC P y Q n E w' → ∀ a, Fits a n E → K a w') → WL P l.toArray (Exit.then K Q) l n E w) : WC P (.seq (.region id l.toArray false) y) Q n E w := WC.seq fun K hK => WC.region (h K hK)
theorem dn_ (hK : ∀ E w', WC P y Q n E w' → ∀ a, Fits a n E → K a w') (h : WC P y Q n E w) (hq : ∀ a w, K a w → Q' .normal a w := by exact fun _ _ h => h) : WL P ops Q' [] n E w := WL.done (WQ.via hq hK h)
theorem rt1 (fn : Func) (hr : fn.results = #[r]) (h1 : ResV P w E r v) (hR : ∀ e w', R e w' → R' e w') (h : R (.returned v) w) (hq : ∀ a w, bodyPost P fn R' .ret a w → Q .ret a w := by exact fun _ _ h => h) : WC P .ret Q n E w := WC.ret (fin1 fn hr h1 hR h hq)
theorem no_ {α : Type} {a : α} {p : Prop} (h : (none : Option α) = some a) : p := by cases h
theorem ln_ {A : Option Addr} {m c e : Nat} {t : TypeId} {x : Operand} (ht : P.underlying t = some (.slice e)) (h : WL P ops Q rest n ((d, .int .i64 (m : Int)) :: E) w) (ho : o.op = .call { callee := .builtin .len, args := #[x], argTypes := #[t] } := by rfl) (hx : ev E x = some (.slice A m c) := by rfl) (hg : o.guard = none := by rfl) (hd : o.dst = some d := by rfl) (hlt : d < n := by decide) : WL P ops Q (o :: rest) n E w := WL.val hg hd hlt (Run.len (ts := #[]) ho ht hx) h
theorem b_ {x y : Operand} {t t2 : TypeId} {k : IntKind} {i j : Int} {op : BinOp} (hr : (Go.binOp op t (.int k i) (.int k j)).run P w = .ok v w) (h : WL P ops Q rest n ((d, v) :: E) w) (ho : o.op = .binOp op t x y t2 := by rfl) (hx : ev E x = some (.int k i) := by rfl) (hy : ev E y = some (.int k j) := by rfl) (hg : o.guard = none := by rfl) (hd : o.dst = some d := by rfl) (hlt : d < n := by decide) : WL P ops Q (o :: rest) n E w := WL.val hg hd hlt (Run.bin ho hx hy hr) h
theorem nt_ {x : Operand} {ty : TypeId} {b : Bool} (h : WL P ops Q rest n ((d, .bool (!b)) :: E) w) (ho : o.op = .unOp .not ty x := by rfl) (hx : ev E x = some (.bool b) := by rfl) (hg : o.guard = none := by rfl) (hd : o.dst = some d := by rfl) (hlt : d < n := by decide) : WL P ops Q (o :: rest) n E w := WL.val hg hd hlt (Run.not ho hx) h
theorem bo_ {t : TypeId} {x : Operand} {cs : Array Value} (H : St ok0 w0 w ms fo fs) (h : ∀ b w1, w0.heap.size ≤ b → St ok0 w0 w1 (boxM b cs t :: ms) fo fs → WL P ops Q rest n ((d, .pointer (some ⟨b, 0, none⟩)) :: E) w1) (ho : o.op = .box t x := by rfl) (hx : ev E x = some v := by rfl) (hv : v.cells = cs := by rfl) (hg : o.guard = none := by rfl) (hd : o.dst = some d := by rfl) (hlt : d < n := by decide) : WL P ops Q (o :: rest) n E w := WL.box H hg hd hlt ho hx hv h
theorem cw_ {f : FuncId} {c : Code} {args : List Value} (hf : P.funcs[f]? = some fn) (h : ∀ R' : Ending → World → Prop, (∀ e w', R e w' → R' e w') → WC P c (bodyPost P fn R') n (envOf 0 args) w) (hb : fn.body = some c := by rfl) (hn : fn.ntmps = n := by rfl) (hl : args.length ≤ n := by exact Nat.le_of_ble_eq_true rfl) : Calls P f args.toArray w R := calls_W hf hb hn hl h
/-- A struct that lies in a box, loaded. -/
theorem ls_ {bb oo : Nat} {t t0 : TypeId} {cs cs0 : List Value} {dd : TypeDesc} {x : Operand} (hb : w.heap[bb]? = some (.cells cs0.toArray t0 (0, 0))) (ht : P.underlying t = some dd) (hp : Part cs cs0 oo) (ho : o.op = .load t x := by rfl) (hx : ev E x = some (.pointer (some ⟨bb, oo, none⟩)) := by rfl) (hd : dd.isRow = true := by rfl) (hi : (P.info? t).map (·.size) = some cs.length := by kernel_rfl) : Run P E o w (.agg cs.toArray) w := Run.loadS ho hx ht hd hi (box_part hb hp)
theorem wy_ {c : Operand} {t : Bool} (ht : t = true) (h : WC P x Q n E w) (hc : ev E c = some (.bool t) := by rfl) : WC P (.cond c x y) Q n E w := WC.yes hc ht h
theorem wn_ {c : Operand} {t : Bool} (ht : t = false) (h : WC P y Q n E w) (hc : ev E c = some (.bool t) := by rfl) : WC P (.cond c x y) Q n E w := WC.no hc ht h
theorem dd_ {m : Nat} {S : World → Prop} (h : WQ Q .normal n E w) (hr : (Region.ready .any ops l == []) = true := by kernel_rfl) : WD P ops Q S ds m l n E w := WD.done hr h
theorem bl_ {bb oo : Nat} {t t0 : TypeId} {cs : List Value} {dd : TypeDesc} {x : Operand} (i : Nat) (HS : St ok0 w0 W0 ms fo fs) (HB : Below W0.heap.size W0 w) (q : Nat) (ht : P.underlying t = some dd) (hc0 : cs[oo]? = some v) (h : WD P ops Q (fun w' => Below W0.heap.size W0 w') ds fuel (l.setIfInBounds i true) n ((d, v) :: E) w) (hq : ms[q]? = some (boxM bb cs.toArray t0) := by rfl) (hi : ops[i]? = some oi := by rfl) (ho : oi.op = .load t x := by rfl) (hx : ev E x = some (.pointer (some ⟨bb, oo, none⟩)) := by rfl) (hdd : dd.isRow = false := by rfl)
    (hd : oi.dst = some d := by rfl) (hlt : d < n := by decide) (hc : takeB .any ops ds l (l.setIfInBounds i true) i = true := by kernel_rfl) (hQ : ∀ v c a w, Q (.panic c) (a.put oi.dst v) w → Q (.panic c) a w := by exact fun _ _ _ _ h => h) (hg : oi.guard = none := by rfl) : WD P ops Q (fun w' => Below W0.heap.size W0 w') ds (fuel + 1) l n E w :=
  WD.take i hi hd hlt hc hQ hg HB (fun w_ hw_ => lb_ ((HS.below hw_).mu q hq) ht hc0 ho hx hdd) h
theorem blg_ {c : Bool} {bb oo : Nat} {t t0 : TypeId} {cs : List Value} {dd : TypeDesc} {x : Operand} (i : Nat) (hcb : c = b) (HS : St ok0 w0 W0 ms fo fs) (HB : Below W0.heap.size W0 w) (q : Nat) (ht : P.underlying t = some dd) (hc0 : cs[oo]? = some v) (h : WD P ops Q (fun w' => Below W0.heap.size W0 w') ds fuel (l.setIfInBounds i true) n ((d, v) :: E) w) (hq : ms[q]? = some (boxM bb cs.toArray t0) := by rfl) (hi : ops[i]? = some oi := by rfl) (ho : oi.op = .load t x := by rfl) (hx : ev E x = some (.pointer (some ⟨bb, oo, none⟩)) := by rfl) (hdd : dd.isRow = false := by rfl)
    (hd : oi.dst = some d := by rfl) (hlt : d < n := by decide) (hc : takeB .any ops ds l (l.setIfInBounds i true) i = true := by kernel_rfl) (hQ : ∀ v c a w, Q (.panic c) (a.put oi.dst v) w → Q (.panic c) a w := by exact fun _ _ _ _ h => h) (hg : oi.guard = some (j, b) := by rfl) (hj : (ops[j]?).bind (·.dst) = some g := by rfl) (hv : lk E g = some (.bool c) := by rfl) : WD P ops Q (fun w' => Below W0.heap.size W0 w') ds (fuel + 1) l n E w :=
  WD.takeG i hi hd hlt hc hQ hg hj hv hcb HB (fun w_ hw_ => lb_ ((HS.below hw_).mu q hq) ht hc0 ho hx hdd) h
end
section
variable {α β : Type} {d : Kd α} {dd : Kd β} {ok0 : Nat → Prop} {w0 w : World} {ms : List Mu} {fo fn : List Fact} {x : α} {cs : List Value} {xs : List β} {e o : Nat} {Rr : World → Prop}
/-- A slice in a struct whose cells are a list. -/
theorem St.sO (h : St ok0 w0 w ms fo fn) (i : Nat) (hi : fo[i]? = some (fun W => d.K W x cs)) (hat : ∀ {W : World}, AtK d W x cs 0 → AtK (Kd.slice e dd) W xs cs o) : ∃ A c, cs[o]? = some (.slice A xs.length c) ∧ xs.length ≤ c ∧ St ok0 w0 w ms ((fun W => dd.C W A xs.length xs) :: fo) fn := by
  obtain ⟨A, c, h1, h2⟩ := (hat (h.aO i hi)).slice
  exact ⟨A, c, h1, h2, h.deriveO (fun W hO hN => (hat (AtK.whole (AllF.get i hi hO))).C h1)⟩
theorem St.sN (h : St ok0 w0 w ms fo fn) (i : Nat) (hi : fn[i]? = some (fun W => d.K W x cs)) (hat : ∀ {W : World}, AtK d W x cs 0 → AtK (Kd.slice e dd) W xs cs o) : ∃ A c, cs[o]? = some (.slice A xs.length c) ∧ xs.length ≤ c ∧ St ok0 w0 w ms fo ((fun W => dd.C W A xs.length xs) :: fn) := by
  obtain ⟨A, c, h1, h2⟩ := (hat (h.aN i hi)).slice
  exact ⟨A, c, h1, h2, h.deriveN (fun W hN => (hat (AtK.whole (AllF.get i hi hN))).C h1)⟩
/-- The same of an element. -/
theorem St.eO (h : St ok0 w0 w ms fo fn) (i : Nat) (hi : fo[i]? = some (fun W => d.K W x cs ∧ Rr W)) (hat : ∀ {W : World}, AtK d W x cs 0 → AtK (Kd.slice e dd) W xs cs o) : ∃ A c, cs[o]? = some (.slice A xs.length c) ∧ xs.length ≤ c ∧ St ok0 w0 w ms ((fun W => dd.C W A xs.length xs) :: fo) fn := by
  obtain ⟨A, c, h1, h2⟩ := (hat (AtK.whole (h.getO i hi).1)).slice
  exact ⟨A, c, h1, h2, h.deriveO (fun W hO hN => (hat (AtK.whole (AllF.get i hi hO).1)).C h1)⟩
theorem St.eN (h : St ok0 w0 w ms fo fn) (i : Nat) (hi : fn[i]? = some (fun W => d.K W x cs ∧ Rr W)) (hat : ∀ {W : World}, AtK d W x cs 0 → AtK (Kd.slice e dd) W xs cs o) : ∃ A c, cs[o]? = some (.slice A xs.length c) ∧ xs.length ≤ c ∧ St ok0 w0 w ms fo ((fun W => dd.C W A xs.length xs) :: fn) := by
  obtain ⟨A, c, h1, h2⟩ := (hat (AtK.whole (h.getN i hi).1)).slice
  exact ⟨A, c, h1, h2, h.deriveN (fun W hN => (hat (AtK.whole (AllF.get i hi hN).1)).C h1)⟩
end
section
variable {P : Program} {Q : Exit → Act → World → Prop} {n fuel d : Nat} {E : Env} {w W0 : World} {S : World → Prop} {ops : Array Oper} {oi : Oper} {ds : List Nat} {l : Array Bool} {j g : Nat} {b c : Bool}
theorem df_ {ad ad' : Addr} {m : Nat} {fs : Array Field} {f : Field} {s : TypeId} {x : Operand} (i : Nat) (hs : P.underlying s = some (.struct fs)) (h : WD P ops Q S ds fuel (l.setIfInBounds i true) n ((d, .pointer (some ad')) :: E) w) (hi : ops[i]? = some oi := by rfl) (ho : oi.op = .fieldAddr s x m := by rfl) (hx : ev E x = some (.pointer (some ad)) := by rfl) (hf : fs[m]? = some f := by rfl) (hz : (P.info? f.type).map (fun i => i.size == 0) = some false := by kernel_rfl) (he : ad.add f.offset = ad' := by rfl)
    (hd : oi.dst = some d := by rfl) (hlt : d < n := by decide) (hc : anyB .any ops l (l.setIfInBounds i true) i = true := by kernel_rfl) (hQ : ∀ v c a w, Q (.panic c) (a.put oi.dst v) w → Q (.panic c) a w := by exact fun _ _ _ _ h => h) (hg : oi.guard = none := by rfl) : WD P ops Q S ds (fuel + 1) l n E w := WD.pure i hi hd hlt hc hQ hg (fun _ => Run.fieldAddr ho hx hs hf hz he) h
theorem dfg_ {ad ad' : Addr} {m : Nat} {fs : Array Field} {f : Field} {s : TypeId} {x : Operand} (i : Nat) (hcb : c = b) (hs : P.underlying s = some (.struct fs)) (h : WD P ops Q S ds fuel (l.setIfInBounds i true) n ((d, .pointer (some ad')) :: E) w) (hi : ops[i]? = some oi := by rfl) (ho : oi.op = .fieldAddr s x m := by rfl) (hx : ev E x = some (.pointer (some ad)) := by rfl) (hf : fs[m]? = some f := by rfl) (hz : (P.info? f.type).map (fun i => i.size == 0) = some false := by kernel_rfl) (he : ad.add f.offset = ad' := by rfl)
    (hd : oi.dst = some d := by rfl) (hlt : d < n := by decide) (hc : anyB .any ops l (l.setIfInBounds i true) i = true := by kernel_rfl) (hQ : ∀ v c a w, Q (.panic c) (a.put oi.dst v) w → Q (.panic c) a w := by exact fun _ _ _ _ h => h) (hg : oi.guard = some (j, b) := by rfl) (hj : (ops[j]?).bind (·.dst) = some g := by rfl) (hv : lk E g = some (.bool c) := by rfl) : WD P ops Q S ds (fuel + 1) l n E w := WD.pureG i hi hd hlt hc hQ hg hj hv hcb (fun _ => Run.fieldAddr ho hx hs hf hz he) h
theorem di_ {ad : Addr} {m c e : Nat} {t : TypeId} {x y : Operand} {k : IntKind} {q : Int} (i : Nat) (ht : P.underlying t = some (.slice e)) (sz : Nat) (h0 : 0 ≤ q) (h1 : q < (m : Int)) (h : WD P ops Q S ds fuel (l.setIfInBounds i true) n ((d, .pointer (some (ad.add (q.toNat * sz)))) :: E) w) (hi : ops[i]? = some oi := by rfl) (ho : oi.op = .indexAddr t x y := by rfl) (hx : ev E x = some (.slice (some ad) m c) := by rfl) (hy : ev E y = some (.int k q) := by rfl) (hsz : (P.info? e).map (·.size) = some sz := by kernel_rfl)
    (hd : oi.dst = some d := by rfl) (hlt : d < n := by decide) (hc : anyB .any ops l (l.setIfInBounds i true) i = true := by kernel_rfl) (hQ : ∀ v c a w, Q (.panic c) (a.put oi.dst v) w → Q (.panic c) a w := by exact fun _ _ _ _ h => h) (hg : oi.guard = none := by rfl) : WD P ops Q S ds (fuel + 1) l n E w := WD.pure i hi hd hlt hc hQ hg (fun _ => Run.indexAddr ho hx hy ht hsz h0 h1) h
theorem dm_ {v : Value} {x : Operand} (i : Nat) (h : WD P ops Q S ds fuel (l.setIfInBounds i true) n ((d, v) :: E) w) (hi : ops[i]? = some oi := by rfl) (ho : oi.op = .move x := by rfl) (hx : ev E x = some v := by rfl)
    (hd : oi.dst = some d := by rfl) (hlt : d < n := by decide) (hc : anyB .any ops l (l.setIfInBounds i true) i = true := by kernel_rfl) (hQ : ∀ v c a w, Q (.panic c) (a.put oi.dst v) w → Q (.panic c) a w := by exact fun _ _ _ _ h => h) (hg : oi.guard = none := by rfl) : WD P ops Q S ds (fuel + 1) l n E w := WD.pure i hi hd hlt hc hQ hg (fun _ => Run.move ho hx) h
end
/-- A row of the call's own, as cells. -/
theorem row_all {α : Type} {dd : Kd α} {w : World} {B e n c : Nat} {A : Option Addr} {inner : List Value} {xs : List α} (h : w.ownsRow B e dd.sz (.slice A n c) n inner) (hr : Reps (dd.K w) dd.sz xs inner) (hs : 0 < dd.sz) : inner.length = n * dd.sz ∧ (∀ u ∈ inner, u.oneCell' = true) ∧ (0 < n → ∃ ad, A = some ad ∧ ∀ j u, inner[j]? = some u → w.cell? (ad.add j) = some u) := by
  refine ⟨h.1, Kd.reps_one hr hs (fun _ _ hp => dd.K_one hp), fun h0 => ?_⟩
  obtain ⟨ad, rfl⟩ := row_open h h0
  exact ⟨ad, rfl, fun j u hu => row_cell h hu⟩
/-- A literal of one element, as a box, made first or second. -/
theorem WDo.lit1b {P : Program} {Q : Exit → Act → World → Prop} {n fuel d : Nat} {E : Env} {w : World} {S : World → Prop} {ops : Array Oper} {oi : Oper} {ds : List Nat} {l : Array Bool} {ok0 : Nat → Prop} {w0 : World} {ms : List Mu} {fo fs : List Fact} {e : Nat} {t : TypeId} {x : Operand} {vs : List Value} {v z : Value} (i : Nat) (hw : ∀ a, Fits a n E → Region.wanted oi (yielded ops a.tmps) = true) (H : St ok0 w0 w ms fo fs) (ho : oi.op = .buildSlice t 1 #[(0, x)]) (hx : ev E x = some v) (hv : v.cells = vs.toArray) (ht : P.underlying t = some (.slice e)) (hi : (P.info? e).map (fun i => (i.zero, i.size)) = some (some z, vs.length)) (h0 : 0 < vs.length) (hm : vs.length ≤ 16777216)
    (h : ∀ b w1, w0.heap.size ≤ b → St ok0 w0 w1 (boxM b vs.toArray e :: ms) fo fs → S w1 ∧ WD P ops Q S ds fuel (l.setIfInBounds i true) n ((d, .slice (some ⟨b, 0, none⟩) 1 1) :: E) w1) (hd : oi.dst = some d := by rfl) (hlt : d < n := by decide) : WDop P ops Q S ds fuel l n E w oi i d :=
  let g := h _ _ H.size (H.box vs.toArray e); dvo_ i hw (Run.lit1 ho hx hv ht hi h0 hm) g.1 g.2 hd hlt
/-- A call, made first or second. -/
theorem dco_ {P : Program} {Q : Exit → Act → World → Prop} {n fuel d : Nat} {E : Env} {w : World} {S : World → Prop} {ops : Array Oper} {oi : Oper} {ds : List Nat} {l : Array Bool} {f : FuncId} {fn : Func} {as : Array Operand} {ts : Array TypeId} {args : List Value} {R : Ending → World → Prop} (i : Nat) (hw : ∀ a, Fits a n E → Region.wanted oi (yielded ops a.tmps) = true) (hf : P.funcs[f]? = some fn) (hcall : Calls P f args.toArray w R) (h : ∀ e w1, R e w1 → S w1 ∧ ∃ v, e = .returned v ∧ WD P ops Q S ds fuel (l.setIfInBounds i true) n ((d, v) :: E) w1)
    (hd : oi.dst = some d := by rfl) (hlt : d < n := by decide) (hop : oi.op = .call { callee := .value (.func f), args := as, argTypes := ts } := by rfl) (hargs : as.toList.map (ev E) = args.map some := by rfl) (hname : (fn.name == "runtime.NumGoroutine") = false := by rfl) (hb : fn.body.isSome = true := by rfl) : WDop P ops Q S ds fuel l n E w oi i d := fun K hK a ha =>
  goes_ hf hname hb args.toArray (hw a ha) hd hop (args_evalA ha hargs) (hcall.mono fun e w' hh => by
    obtain ⟨h1, v, rfl, hk⟩ := h e w' hh
    exact ⟨v, rfl, hK _ _ h1 hk _ (ha.put hlt v)⟩)
theorem db_ {P : Program} {Q : Exit → Act → World → Prop} {n fuel d : Nat} {E : Env} {w : World} {S : World → Prop} {ops : Array Oper} {oi : Oper} {ds : List Nat} {l : Array Bool} {t : TypeId} {ps : Array (Nat × Operand)} {cells : Array Value} (i : Nat) (vs : List (Nat × Value)) (hi : ops[i]? = some oi) (ho : oi.op = .build t ps) (hE : EvB E ps.toList vs) (hb : P.built t vs = some cells) (h : WD P ops Q S ds fuel (l.setIfInBounds i true) n ((d, .agg cells) :: E) w)
    (hd : oi.dst = some d := by rfl) (hlt : d < n := by decide) (hc : anyB .any ops l (l.setIfInBounds i true) i = true := by kernel_rfl) (hQ : ∀ v c a w, Q (.panic c) (a.put oi.dst v) w → Q (.panic c) a w := by exact fun _ _ _ _ h => h) (hg : oi.guard = none := by rfl) : WD P ops Q S ds (fuel + 1) l n E w := WD.pure i hi hd hlt hc hQ hg (fun _ => Run.build ho vs hE hb) h
end Go.Proofs.Ytacbkcofcbglhaa.XSt
namespace Go.Proofs.Ytacbkcofcbglhaa.XSt
open Go.RowKit Go.Proofs.YtacbkcofcbglhaaW.PrintWords Go.Proofs.YtacbkcofcbglhaaW.PrintLast Go.Proofs.YtacbkcofcbglhaaW.PrintMore Go.Proofs.Ytacbkcofcbglhaa.XW Go.Proofs.Ytacbkcofcbglhaa.XOp Go.Proofs.Ytacbkcofcbglhaa.XDraw
set_option linter.unusedVariables false
/-- One cell is another, and so is what the cells are. -/
def Upd {α : Type} (d : Kd α) (w : World) (o : Nat) (v : Value) (x x' : α) : Prop := ∀ cs, d.K w x cs → d.K w x' (cs.set o v)
section
variable {α β : Type} {d : Kd α} {a : Kd α} {b : Kd β} {w : World} {o o' e c : Nat} {v : Value} {k : IntKind} {A : Option Addr}
theorem Upd.fst {x x' : α} {y : β} (h : Upd a w o v x x') (hs : o < a.sz) : Upd (Kd.pair a b) w o v (x, y) (x', y) := by
  rintro cs ⟨c0, c1, rfl, h0, h1⟩
  have hl := a.K_len h0
  exact ⟨c0.set o v, c1, by rw [List.set_append_left _ _ (by omega)], h c0 h0, h1⟩
theorem Upd.snd {x : α} {y y' : β} (h : Upd b w o v y y') (he : o' = a.sz + o) : Upd (Kd.pair a b) w o' v (x, y) (x, y') := by
  rintro cs ⟨c0, c1, rfl, h0, h1⟩
  have hl := a.K_len h0
  subst he
  exact ⟨c0, c1.set o v, by rw [List.set_append_right _ _ (by omega), hl, Nat.add_sub_cancel_left], h0, h c1 h1⟩
theorem Upd.iso {f : β → α} {x x' : β} (h : Upd d w o v (f x) (f x')) : Upd (Kd.iso d f) w o v x x' := h
theorem Upd.int {x y : Int} : Upd (Kd.int k) w 0 (.int k y) x y := fun cs h => by
  have e : cs = [.int k x] := h
  subst e; rfl
theorem Upd.bool {x y : Bool} : Upd Kd.bool w 0 (.bool y) x y := fun cs h => by
  have e : cs = [.bool x] := h
  subst e; rfl
theorem Upd.slice {xs ys : List α} (hl : ys.length ≤ c) (hC : d.C w A ys.length ys) : Upd (Kd.slice e d) w 0 (.slice A ys.length c) xs ys := fun cs h => by
  obtain ⟨A', c', rfl, _⟩ := h
  exact ⟨A, c, rfl, hl, hC⟩
end
section
variable {P : Program} {Q : Exit → Act → World → Prop} {N : Nat} {E : Env} {ops : Array Oper} {o : Oper} {rest : List Oper} {ok0 : Nat → Prop} {w0 w : World} {ms : List Mu} {fo fn : List Fact} {v u : Value} {t ty : TypeId} {x y : Operand} {cs : List Value}
theorem WL.storeO (H : St ok0 w0 w ms fo fn) (i : Nat) {b j : Nat} (hi : ms[i]? = some (boxM b cs.toArray ty)) (n : Nat) (hl : cs.length = n) (ho : o.op = .store t x y) (hx : ev E x = some (.pointer (some ⟨b, j, none⟩))) (hy : ev E y = some v) (hv : v.oneCell' = true) (hz : (P.info? t).map (·.size) = some 1) (hj : j < n)
    (h : ∀ cs2 w1, cs2 = cs.set j v → cs2.length = n → St ok0 w0 w1 (ms.set i (boxM b cs2.toArray ty)) fo fn → WL P ops Q rest N E w1) (hg : o.guard = none := by rfl) (hd : o.dst = none := by rfl) : WL P ops Q (o :: rest) N E w :=
  WL.store H i hi hg hd ho hx hy hv hz (by simpa [hl] using hj) (List.setIfInBounds_toArray ..) (fun w1 H1 => h _ w1 rfl (by rw [List.length_set]; exact hl) H1)
end
end Go.Proofs.Ytacbkcofcbglhaa.XSt
