/- General lemmas: rows of one's own that are kept apart by a class of their blocks. No conditions. -/
import Derived.Test.YtlpginalgdbopaaXLeaf
namespace Go.Proofs.Ytlpginalgdbopaa.XClass
open Go.Proofs.Ytlpginalgdbopaa.XLaw Go.Proofs.Ytlpginalgdbopaa.XLeaf
set_option linter.unusedVariables false
open Go.RowKit Go.Proofs.YtlpginalgdbopaaW.PrintWords Go.Proofs.YtlpginalgdbopaaW.PrintLast Go.Proofs.YtlpginalgdbopaaW.PrintMore
/-- Blocks from N on are of class q. -/
def cUp (c : Nat → Nat) (N q : Nat) (k : Nat) : Nat := if N ≤ k then q else c k
theorem cUp_new (c : Nat → Nat) {N q k : Nat} (h : N ≤ k) : cUp c N q k = q := if_pos h
theorem cUp_old (c : Nat → Nat) {N q k : Nat} (h : k < N) : cUp c N q k = c k := if_neg (by omega)
section
variable {α : Type} {d : Kd α} {e base a q : Nat} {W w1 : World} {c cc : Nat → Nat} {v : Value} {xs : List α} {row : Option Nat}
theorem R_up (h : d.R e W base (fun k => c k = a) v xs) (q : Nat) : d.R e W base (fun k => cUp c W.heap.size q k = a) v xs :=
  Kd.R_mono (Kd.R_bound h) (fun _ hk => (cUp_old c hk.2.2.1).trans hk.1)
theorem S_up (h : Kd.S d e W base (fun k => c k = a) v xs) (q : Nat) : Kd.S d e W base (fun k => cUp c W.heap.size q k = a) v xs :=
  Kd.S_mono (Kd.S_bound h) (fun _ hk => (cUp_old c hk.2.2.1).trans hk.1)
theorem R_off (h : d.R e W base (fun k => cc k = a) v xs) (hg : W.grownBy w1 row) (hr : ∀ k, row = some k → cc k = q) (ne : a ≠ q) : d.R e w1 base (fun k => cc k = a) v xs :=
  Kd.R_grown h hg (fun k hk e => ne (hk.symm.trans (hr k e.symm)))
theorem S_off (h : Kd.S d e W base (fun k => cc k = a) v xs) (hg : W.grownBy w1 row) (hr : ∀ k, row = some k → cc k = q) (ne : a ≠ q) : Kd.S d e w1 base (fun k => cc k = a) v xs :=
  Kd.S_grown h hg (fun k hk e => ne (hk.symm.trans (hr k e.symm)))
theorem R_re (h : d.R e W base (fun k => c k = a) v xs) {f : Nat → Nat} {b : Nat} (hf : ∀ k, k < W.heap.size → c k = a → f k = b) : d.R e W base (fun k => f k = b) v xs :=
  Kd.R_mono (Kd.R_bound h) (fun k hk => hf k hk.2.2.1 hk.1)
theorem S_re (h : Kd.S d e W base (fun k => c k = a) v xs) {f : Nat → Nat} {b : Nat} (hf : ∀ k, k < W.heap.size → c k = a → f k = b) : Kd.S d e W base (fun k => f k = b) v xs :=
  Kd.S_mono (Kd.S_bound h) (fun k hk => hf k hk.2.2.1 hk.1)
end
theorem R_empty {W : World} {g e base : Nat} {ok : Nat → Prop} (hb : W.heap[g]? = some (.cells #[] e (0, 0))) (hbase : base ≤ g) (hok : ok g) : (Kd.int .i64).R e W base ok (.slice (some ⟨g, 0, none⟩) 0 0) [] :=
  ⟨fun k hk => by have : g = k := by simpa [Value.ownBlock] using hk
                  rw [← this]; exact hok, [], ⟨rfl, .inr ⟨g, 0, #[], rfl, hbase, hb, Nat.le_refl _, by decide, rfl, rfl⟩⟩, Reps.none _ _⟩
/-- Class q joins class a; blocks from N on are of class a. -/
def cIn (c : Nat → Nat) (N a q : Nat) (k : Nat) : Nat := if N ≤ k then a else if c k = q then a else c k
theorem cIn_new (c : Nat → Nat) {N a q k : Nat} (h : N ≤ k) : cIn c N a q k = a := if_pos h
theorem cIn_q (c : Nat → Nat) {N a q k : Nat} (h : c k = q) : cIn c N a q k = a := by unfold cIn; rw [if_pos h]; split <;> rfl
theorem cIn_old (c : Nat → Nat) {N a q k : Nat} (h : k < N) (hq : c k ≠ q) : cIn c N a q k = c k := by unfold cIn; rw [if_neg (by omega), if_neg hq]
section
variable {α : Type} {d : Kd α} {e base b : Nat} {W : World} {c : Nat → Nat} {v : Value} {xs : List α}
theorem R_in (h : d.R e W base (fun k => c k = b) v xs) (a q : Nat) (hb : b ≠ q) : d.R e W base (fun k => cIn c W.heap.size a q k = b) v xs :=
  R_re h (fun k hk e => (cIn_old c hk (by rw [e]; exact hb)).trans e)
theorem S_in (h : Kd.S d e W base (fun k => c k = b) v xs) (a q : Nat) (hb : b ≠ q) : Kd.S d e W base (fun k => cIn c W.heap.size a q k = b) v xs :=
  S_re h (fun k hk e => (cIn_old c hk (by rw [e]; exact hb)).trans e)
end
section
variable {α : Type} {d : Kd α} {s : Sh} {cnt : α → Nat} {e b lo hi n0 c0 n1 c1 : Nat} {A0 A1 : Option Addr} {v0 v1 : Value} {xs0 xs1 : List α} {w w0 w1 : World} {f : Nat → Nat}
/-- Two rows of one's own that lead to no block together. -/
def apart2 (d : Kd α) (e b lo hi : Nat) (v0 : Value) (xs0 : List α) (v1 : Value) (xs1 : List α) : Fct :=
  ⟨lo, hi, fun w => ∃ f : Nat → Nat, Kd.S d e w b (fun k => (lo ≤ k ∧ k < hi) ∧ f k = 0) v0 xs0 ∧ Kd.S d e w b (fun k => (lo ≤ k ∧ k < hi) ∧ f k = 1) v1 xs1,
    fun hm ⟨f, h0, h1⟩ => ⟨f, Kd.S_move h0 (fun k hk => hm k hk.1.1 hk.1.2), Kd.S_move h1 (fun k hk => hm k hk.1.1 hk.1.2)⟩⟩
theorem in_apart2 (h0 : Kd.S d e w1 w.heap.size (fun k => f k = 0) v0 xs0) (h1 : Kd.S d e w1 w.heap.size (fun k => f k = 1) v1 xs1) (hle : w0.heap.size ≤ w.heap.size) : (apart2 d e w0.heap.size w.heap.size w1.heap.size v0 xs0 v1 xs1).P w1 :=
  ⟨f, Kd.S_lower (Kd.S_mono (Kd.S_bound h0) (fun k hk => ⟨⟨hk.2.1, hk.2.2.1⟩, hk.1⟩)) hle, Kd.S_lower (Kd.S_mono (Kd.S_bound h1) (fun k hk => ⟨⟨hk.2.1, hk.2.2.1⟩, hk.1⟩)) hle⟩
theorem apart2_0 (h : (apart2 d e b lo hi v0 xs0 v1 xs1).P w) : (ownS d e b lo hi v0 xs0).P w := by
  obtain ⟨f, h0, h1⟩ := h
  exact Kd.S_mono h0 (fun _ hk => hk.1)
theorem apart2_1 (h : (apart2 d e b lo hi v0 xs0 v1 xs1).P w) : (ownS d e b lo hi v1 xs1).P w := by
  obtain ⟨f, h0, h1⟩ := h
  exact Kd.S_mono h1 (fun _ hk => hk.1)
theorem apart2_once (h : (apart2 d e b lo hi (.slice A0 n0 c0) xs0 (.slice A1 n1 c1) xs1).P w) (hd : Once d s cnt) :
    ∃ L0 L1, RowLv w s A0 n0 L0 ∧ RowLv w s A1 n1 L1 ∧ (L0 ++ L1).Nodup ∧ L0.length = (xs0.map cnt).sum ∧ L1.length = (xs1.map cnt).sum ∧ (∀ p, p ∈ L0 → (lo ≤ p.block ∧ p.block < hi) ∧ b ≤ p.block) ∧ ∀ p, p ∈ L1 → (lo ≤ p.block ∧ p.block < hi) ∧ b ≤ p.block := by
  obtain ⟨f, h0, h1⟩ := h
  obtain ⟨B0, e0, L0, q0, r0, d0, l0, m0⟩ := hd.row (Kd.S_bound h0)
  obtain ⟨B1, e1, L1, q1, r1, d1, l1, m1⟩ := hd.row (Kd.S_bound h1)
  injection q0 with qa qb qc
  subst qa qb qc
  injection q1 with qa qb qc
  subst qa qb qc
  refine ⟨L0, L1, r0, r1, List.nodup_append.2 ⟨d0, d1, fun p hp q hq e => ?_⟩, l0, l1, fun p hp => ⟨(m0 p hp).1.1, (m0 p hp).2.1⟩, fun p hp => ⟨(m1 p hp).1.1, (m1 p hp).2.1⟩⟩
  subst e
  have a := (m0 p hp).1.2
  have b := (m1 p hq).1.2
  omega
/-- A row without elements is of any kind. -/
theorem S_none {ok ok' : Nat → Prop} {v : Value} (h : Kd.S d e w b ok v []) (h' : ∀ k, v.ownBlock = some k → ok' k) : Kd.S d e w b ok' v [] := by
  obtain ⟨f, h0, inner, ho, hr⟩ := h
  exact ⟨f, h', inner, ho, hr.1, fun j p hj => by simp at hj⟩
end
end Go.Proofs.Ytlpginalgdbopaa.XClass
