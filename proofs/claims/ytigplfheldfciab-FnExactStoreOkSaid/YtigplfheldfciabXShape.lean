/- General lemmas: a row that came of a call is a slice. No conditions. -/
import Derived.Test.YtigplfheldfciabWMore
namespace Go.Proofs.Ytigplfheldfciab.XShape
open Go.RowKit Go.Proofs.YtigplfheldfciabW.PrintWords Go.Proofs.YtigplfheldfciabW.PrintLast Go.Proofs.YtigplfheldfciabW.PrintMore
variable {α : Type} {d : Kd α} {e : Nat} {w : World} {base : Nat} {ok : Nat → Prop} {v : Value} {xs : List α}
theorem R_shape (h : Aside0 (Kd.R d e w base ok v xs)) : ∃ A n c, v = Value.slice A n c := by
  obtain ⟨A, c, h1, _⟩ := Kd.R_reads h.out; exact ⟨_, _, _, h1⟩
theorem S_shape (h : Aside0 (Kd.S d e w base ok v xs)) : ∃ A n c, v = Value.slice A n c := by
  obtain ⟨A, c, h1, _⟩ := Kd.S_reads h.out; exact ⟨_, _, _, h1⟩
theorem N_shape (h : Aside0 (Kd.N d e w base ok v xs)) : ∃ A n c, v = Value.slice A n c := by
  obtain ⟨A, c, h1, _⟩ := Kd.N_reads h.out; exact ⟨_, _, _, h1⟩
end Go.Proofs.Ytigplfheldfciab.XShape
