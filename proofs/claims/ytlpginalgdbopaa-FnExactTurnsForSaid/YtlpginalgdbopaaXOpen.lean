/- General lemmas: what a value that came in reads as, kind by kind: numbers, bools, slices of any depth, structs. No conditions. -/
import Derived.Test.YtlpginalgdbopaaWMore
import Derived.Deep.Slices
import Derived.WideShapes
import Derived.DataReads
namespace Go.Proofs.Ytlpginalgdbopaa.XOpen
open Go.RowKit Go.Proofs.YtlpginalgdbopaaW.PrintWords Go.Proofs.YtlpginalgdbopaaW.PrintLast Go.Proofs.YtlpginalgdbopaaW.PrintMore Go.Deep Go.ChangeShapes Go.WideShapes
set_option linter.unusedVariables false
set_option linter.unusedSimpArgs false
/-- Cells that can be read as data of type t are of the kind d, and what they are is G. -/
def Opens {α : Type} (P : Program) (t : TypeId) (d : Kd α) (G : α → Prop) : Prop :=
  ∀ {H : Type} {enc : TypeId × Value → H} {w : World} {base : Nat} {held : Bool} {fuel : Nat} {cs : List Value} {x : DataW H × List MemPlace},
    DataW.trod enc P w base (fun _ => true) held fuel t cs = some x → ∃ a, d.K w a cs ∧ G a
theorem opens_int {P : Program} {t : TypeId} {k : IntKind} (ht : P.underlying t = some (.int k)) : Opens P t (Kd.int k) (fun n => (Lit.int k n).wf = true) := by
  intro H enc w base held fuel cs x h
  obtain ⟨n, rfl, _, hw⟩ := DataW.trod_int ht h
  exact ⟨n, rfl, hw⟩
theorem opens_bool {P : Program} {t : TypeId} (ht : P.underlying t = some .bool) : Opens P t Kd.bool (fun _ => True) := by
  intro H enc w base held fuel cs x h
  obtain ⟨b, rfl, _⟩ := DataW.trod_bool ht h
  exact ⟨b, rfl, trivial⟩
theorem list_of {α : Type} (Q : Nat → α → Prop) : ∀ n, (∀ i, i < n → ∃ a, Q i a) → ∃ xs : List α, xs.length = n ∧ ∀ i a, xs[i]? = some a → Q i a
  | 0, _ => ⟨[], rfl, fun i a h => by simp at h⟩
  | n + 1, h => by
    obtain ⟨xs, hl, hq⟩ := list_of Q n (fun i hi => h i (by omega))
    obtain ⟨a, ha⟩ := h n (by omega)
    refine ⟨xs ++ [a], by simp [hl], fun i b hb => ?_⟩
    by_cases hi : i < n
    · rw [List.getElem?_append_left (by omega)] at hb; exact hq i b hb
    · have : i = n := by
        have := (List.getElem?_eq_some_iff.1 hb).1
        simp at this; omega
      subst this
      rw [List.getElem?_append_right (by omega), hl, Nat.sub_self] at hb
      have : a = b := by simpa using hb
      subst this; exact ha
theorem opens_slice {α : Type} {P : Program} {t e : TypeId} {d : Kd α} {G : α → Prop} (ht : P.underlying t = some (.slice e)) (hc : P.cellsOf e = d.sz) (ho : Opens P e d G) :
    Opens P t (Kd.slice e d) (fun xs => xs.length ≤ 9223372036854775807 ∧ ∀ x ∈ xs, G x) := by
  intro H enc w base held fuel cs x h
  rcases open_slice ht h with ⟨rfl, _⟩ | ⟨a, len, cap, m, n, D, Pl, rfl, hb, hl, hm, hmm, _, hx⟩
  · exact ⟨[], ⟨none, 0, rfl, Nat.le_refl _, rfl, Nat.zero_le _, fun h => absurd h (Nat.lt_irrefl _)⟩, Nat.zero_le _, fun x hx => by cases hx⟩
  · simp only [if_true] at hmm
    subst hmm
    obtain ⟨xs, hxl, hxs⟩ := list_of (fun i p => G p ∧ ∃ c, c.length = d.sz ∧ d.K w p c ∧ ∀ j u, c[j]? = some u → w.cell? (a.add (i * d.sz + j)) = some u) len (fun i hi => by
      obtain ⟨cs', hcells, htr⟩ := hx i (by omega)
      obtain ⟨p, hp, hg⟩ := ho htr
      refine ⟨p, hg, cs', d.K_len hp, hp, fun j u hu => ?_⟩
      have hcs := hcells
      unfold World.cells? at hcs
      obtain ⟨_, h2, h3⟩ := World.cells?_some hcells
      have hj : j < P.cellsOf e := by
        have := (List.getElem?_eq_some_iff.1 hu).1
        omega
      have := h3 j hj
      rw [hu, Go.Deep.add_add, hc] at this
      exact this)
    refine ⟨xs, ⟨some a, m, by rw [hxl], by omega, rfl, ?_, fun _ => ⟨a, rfl, fun j p hp => ?_⟩⟩, ?_, fun p hp => ?_⟩
    · have : m ≤ 9223372036854775807 := hm
      omega
    · obtain ⟨_, c, h1, h2, h3⟩ := hxs j p hp
      exact ⟨c, h1, h2, h3⟩
    · have : m ≤ 9223372036854775807 := hm
      omega
    · obtain ⟨i, hi⟩ := List.getElem?_of_mem hp
      exact (hxs i p hi).1
/-- Fields in line: what stands at an offset. -/
def Part {α : Type} (d : Kd α) (G : α → Prop) (w : World) (cs : List Value) (off : Nat) (a : α) : Prop := d.K w a ((cs.drop off).take d.sz) ∧ G a
theorem part_pair {α β : Type} {d : Kd α} {d' : Kd β} {G : α → Prop} {G' : β → Prop} {w : World} {cs : List Value} {off off' : Nat} {a : α} {b : β} (h : Part d G w cs off a) (h' : Part d' G' w cs off' b) (ho : off' = off + d.sz) :
    Part (Kd.pair d d') (fun p => G p.1 ∧ G' p.2) w cs off (a, b) := by
  subst ho
  refine ⟨⟨(cs.drop off).take d.sz, (cs.drop (off + d.sz)).take d'.sz, ?_, h.1, h'.1⟩, h.2, h'.2⟩
  show (cs.drop off).take (d.sz + d'.sz) = _
  rw [List.take_add, List.drop_drop]
theorem part_all {α : Type} {d : Kd α} {G : α → Prop} {w : World} {cs : List Value} {a : α} (h : Part d G w cs 0 a) (hl : cs.length = d.sz) : d.K w a cs ∧ G a := by
  have h1 := h.1
  rw [List.drop_zero, List.take_of_length_le (by omega)] at h1
  exact ⟨h1, h.2⟩
/-- A field of a struct that is read. -/
theorem part_field {α : Type} {P : Program} {d : Kd α} {G : α → Prop} {H : Type} {enc : TypeId × Value → H} {w : World} {base : Nat} {held : Bool} {n : Nat} {cs : List Value} {fs : Array Field} {xs : List (DataW H × List MemPlace)} {f : Field}
    (hlen : xs.length = fs.size) (hf : ∀ (i : Nat) (f : Field), fs[i]? = some f → DataW.trod enc P w base (fun _ => true) held n f.type ((cs.drop f.offset).take (P.cellsOf f.type)) = xs[i]?)
    (i : Nat) (hi : fs[i]? = some f) (hc : P.cellsOf f.type = d.sz) (ho : Opens P f.type d G) : ∃ a, Part d G w cs f.offset a := by
  have h := hf i f hi
  have hlt : i < xs.length := by rw [hlen]; exact (Array.getElem?_eq_some_iff.1 hi).1
  rw [List.getElem?_eq_getElem hlt] at h
  obtain ⟨a, ha⟩ := ho h
  rw [hc] at ha
  exact ⟨a, ha⟩
end Go.Proofs.Ytlpginalgdbopaa.XOpen
