/- General lemmas: a row that came of a call is a slice. No conditions. -/
import Derived.Test.YtlpginalgdbopaaWMore
namespace Go.Proofs.Ytlpginalgdbopaa.XShape
open Go.RowKit Go.Proofs.YtlpginalgdbopaaW.PrintWords Go.Proofs.YtlpginalgdbopaaW.PrintLast Go.Proofs.YtlpginalgdbopaaW.PrintMore
variable {α : Type} {d : Kd α} {e : Nat} {w : World} {base : Nat} {ok : Nat → Prop} {v : Value} {xs : List α}
theorem R_shape (h : Aside0 (Kd.R d e w base ok v xs)) : ∃ A n c, v = Value.slice A n c := by
  obtain ⟨A, c, h1, _⟩ := Kd.R_reads h.out; exact ⟨_, _, _, h1⟩
theorem S_shape (h : Aside0 (Kd.S d e w base ok v xs)) : ∃ A n c, v = Value.slice A n c := by
  obtain ⟨A, c, h1, _⟩ := Kd.S_reads h.out; exact ⟨_, _, _, h1⟩
theorem N_shape (h : Aside0 (Kd.N d e w base ok v xs)) : ∃ A n c, v = Value.slice A n c := by
  obtain ⟨A, c, h1, _⟩ := Kd.N_reads h.out; exact ⟨_, _, _, h1⟩
theorem wrap_pow (n : Nat) : wrap64 (2 ^ n) = wrap64 (2 ^ min n 64) := by
  by_cases h : n ≤ 64
  · rw [Nat.min_eq_left h]
  · rw [Nat.min_eq_right (by omega)]
    have e : (2 : Int) ^ n = 2 ^ 64 * 2 ^ (n - 64) := by rw [← Int.pow_add, Nat.add_sub_cancel' (by omega)]
    rw [e]
    generalize (2 : Int) ^ (n - 64) = m
    unfold wrap64
    omega
end Go.Proofs.Ytlpginalgdbopaa.XShape
