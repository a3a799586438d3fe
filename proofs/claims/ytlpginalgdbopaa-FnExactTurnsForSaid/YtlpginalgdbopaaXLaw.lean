/- General lemmas: facts that hang on an interval of blocks of their own; what a straight walk knows of its world. No conditions. -/
import Derived.Test.YtlpginalgdbopaaWMore
namespace Go.Proofs.Ytlpginalgdbopaa.XLaw
open Go.RowKit Go.Proofs.YtlpginalgdbopaaW.PrintWords Go.Proofs.YtlpginalgdbopaaW.PrintLast Go.Proofs.YtlpginalgdbopaaW.PrintMore
set_option linter.unusedVariables false
/-- A fact that hangs on the blocks lo .. hi - 1 alone. -/
structure Fct where
  lo : Nat
  hi : Nat
  P : World → Prop
  mv : ∀ {w w1 : World}, (∀ k, lo ≤ k → k < hi → w1.heap[k]? = w.heap[k]?) → P w → P w1
/-- Facts, the newest first, each below the one ahead of it. -/
def St (w : World) : Nat → List Fct → Prop
  | _, [] => True
  | top, f :: fs => f.lo ≤ f.hi ∧ f.hi ≤ top ∧ f.P w ∧ St w f.lo fs
theorem St.move {w w1 : World} : ∀ {fs : List Fct} {top : Nat}, (∀ k, k < top → w1.heap[k]? = w.heap[k]?) → St w top fs → St w1 top fs
  | [], _, _, _ => trivial
  | f :: fs, top, hm, ⟨h1, h2, h3, h4⟩ => ⟨h1, h2, f.mv (fun k _ hk => hm k (by omega)) h3, St.move (fun k hk => hm k (by omega)) h4⟩
theorem St.top {w : World} : ∀ {fs : List Fct} {t t' : Nat}, t ≤ t' → St w t fs → St w t' fs
  | [], _, _, _, _ => trivial
  | _ :: _, _, _, ht, ⟨h1, h2, h3, h4⟩ => ⟨h1, Nat.le_trans h2 ht, h3, h4⟩
theorem St.get {w : World} : ∀ {fs : List Fct} {top : Nat} (i : Nat) {f : Fct}, fs[i]? = some f → St w top fs → f.P w ∧ f.hi ≤ top
  | [], _, i, f, hi, _ => by simp at hi
  | g :: fs, top, 0, f, hi, ⟨h1, h2, h3, h4⟩ => by
    have e : g = f := by simpa using hi
    subst e
    exact ⟨h3, h2⟩
  | g :: fs, top, i + 1, f, hi, ⟨h1, h2, h3, h4⟩ => by
    have := St.get i (f := f) (by simpa using hi) h4
    exact ⟨this.1, by have := this.2; omega⟩
/-- Fact i is told anew, all that changes lies in its interval. -/
theorem St.put {w w1 : World} : ∀ {fs : List Fct} {top : Nat} (i : Nat) {f f' : Fct}, fs[i]? = some f → f'.lo = f.lo → f'.hi = f.hi → f'.P w1 →
    (∀ k, k < top → ¬ (f.lo ≤ k ∧ k < f.hi) → w1.heap[k]? = w.heap[k]?) → St w top fs → St w1 top (fs.set i f')
  | [], _, i, f, f', hi, _, _, _, _, _ => by simp at hi
  | g :: fs, top, 0, f, f', hi, e1, e2, hp, hm, ⟨h1, h2, h3, h4⟩ => by
    have e : g = f := by simpa using hi
    subst e
    exact ⟨by omega, by omega, hp, by rw [e1]; exact St.move (fun k hk => hm k (by omega) (by omega)) h4⟩
  | g :: fs, top, i + 1, f, f', hi, e1, e2, hp, hm, ⟨h1, h2, h3, h4⟩ => by
    have hi' : fs[i]? = some f := by simpa using hi
    have hb := (St.get i hi' h4).2
    exact ⟨h1, h2, g.mv (fun k hk hk2 => hm k (by omega) (by omega)) h3, St.put i hi' e1 e2 hp (fun k hk hn => hm k (by omega) hn) h4⟩
/-- What is known in a walk that began in w0. -/
structure Now (w0 w : World) (fs : List Fct) : Prop where
  b : Below w0.heap.size w0 w
  s : St w w.heap.size fs
section
variable {w0 w w1 : World} {fs : List Fct} {f f' : Fct}
theorem Now.start (w : World) : Now w w [] := ⟨Below.refl _ _, trivial⟩
theorem Now.size (h : Now w0 w fs) : w0.heap.size ≤ w.heap.size := h.b.size
theorem Now.below (h : Now w0 w fs) (hb : Below w.heap.size w w1) : Now w0 w1 fs :=
  ⟨h.b.trans (hb.mono h.b.size), St.top hb.size (St.move (fun k hk => hb.block k hk) h.s)⟩
theorem Now.alloc (h : Now w0 w fs) (o : Obj) : Now w0 (w.alloc o) fs := h.below (below_alloc (Below.refl _ _) o)
theorem Now.drew (h : Now w0 w fs) : Now w0 w.drew fs := h.below (below_drew (Below.refl _ _))
theorem Now.drewN (h : Now w0 w fs) (n : Nat) : Now w0 (w.drewN n) fs := h.below (pw_below_drewN (Below.refl _ _) n)
theorem Now.push (h : Now w0 w fs) (hb : Below w.heap.size w w1) (hlo : f.lo = w.heap.size) (hhi : f.hi = w1.heap.size) (hp : f.P w1) : Now w0 w1 (f :: fs) :=
  ⟨h.b.trans (hb.mono h.b.size), by have := hb.size; omega, by omega, hp, by rw [hlo]; exact (h.below hb).s |> fun s => St.move (fun k hk => (hb.block k hk)) h.s⟩
theorem Now.get (h : Now w0 w fs) (i : Nat) (hi : fs[i]? = some f) : f.P w := (St.get i hi h.s).1
theorem Now.put (h : Now w0 w fs) (i : Nat) (hi : fs[i]? = some f) (hB : Below w0.heap.size w0 w1) (hk : Kept w w1 (fun k => f.lo ≤ k ∧ k < f.hi)) (e1 : f'.lo = f.lo) (e2 : f'.hi = f.hi) (hp : f'.P w1) : Now w0 w1 (fs.set i f') :=
  ⟨hB, St.top hk.1 (St.put i hi e1 e2 hp (fun k hlt hn => hk.2 k hlt hn) h.s)⟩
end
section
variable {α : Type} (d : Kd α) (e b lo hi : Nat) (v : Value) (xs : List α)
/-- A row of its own, all whose blocks lie in lo .. hi - 1. -/
def own : Fct := ⟨lo, hi, fun w => d.R e w b (fun k => lo ≤ k ∧ k < hi) v xs, fun hm h => Kd.R_move h (fun k hk => hm k hk.1 hk.2)⟩
/-- The same, its elements apart. -/
def ownS : Fct := ⟨lo, hi, fun w => Kd.S d e w b (fun k => lo ≤ k ∧ k < hi) v xs, fun hm h => Kd.S_move h (fun k hk => hm k hk.1 hk.2)⟩
/-- A struct of its own. -/
def ownM (x : α) (cs : List Value) : Fct := ⟨lo, hi, fun w => d.M w b (fun k => lo ≤ k ∧ k < hi) x cs, fun hm h => d.M_move (fun k hk => hm k hk.1 hk.2) h⟩
end
section
variable {α : Type} {d : Kd α} {e b lo hi : Nat} {v : Value} {xs : List α} {w0 w w1 : World} {fs : List Fct} {ok : Nat → Prop} {x : α} {cs : List Value}
theorem Now.new (h : Now w0 w fs) (ho : d.R e w1 w.heap.size ok v xs) (hb : Below w.heap.size w w1) : Now w0 w1 (own d e w0.heap.size w.heap.size w1.heap.size v xs :: fs) :=
  h.push hb rfl rfl (Kd.R_lower (Kd.R_mono (Kd.R_bound ho) (fun k hk => ⟨hk.2.1, hk.2.2.1⟩)) h.size)
theorem Now.newS (h : Now w0 w fs) (ho : Kd.S d e w1 w.heap.size ok v xs) (hb : Below w.heap.size w w1) : Now w0 w1 (ownS d e w0.heap.size w.heap.size w1.heap.size v xs :: fs) :=
  h.push hb rfl rfl (Kd.S_lower (Kd.S_mono (Kd.S_bound ho) (fun k hk => ⟨hk.2.1, hk.2.2.1⟩)) h.size)
theorem Now.newM (h : Now w0 w fs) (ho : d.M w1 w.heap.size ok x cs) (hb : Below w.heap.size w w1) : Now w0 w1 (ownM d w0.heap.size w.heap.size w1.heap.size x cs :: fs) :=
  h.push hb rfl rfl (d.M_lower h.size (d.M_mono (fun k hk => ⟨hk.2.1, hk.2.2.1⟩) (d.M_bound ho)))
/-- A row reads as the list. -/
theorem own_C {A : Option Addr} {n c : Nat} {w : World} (h : (own d e b lo hi (.slice A n c) xs).P w) : n = xs.length ∧ n ≤ c ∧ d.C w A xs.length xs := Kd.R_reads' h
theorem ownS_C {A : Option Addr} {n c : Nat} {w : World} (h : (ownS d e b lo hi (.slice A n c) xs).P w) : n = xs.length ∧ n ≤ c ∧ d.C w A xs.length xs := Kd.S_reads' h
theorem own_slice {w : World} (h : (own d e b lo hi v xs).P w) : ∃ A c, v = .slice A xs.length c := Kd.R_slice h
theorem ownS_slice {w : World} (h : (ownS d e b lo hi v xs).P w) : ∃ A c, v = .slice A xs.length c := Kd.S_slice h
end
section
variable {α : Type} {d : Kd α} {e : Nat} {v : Value} {xs : List α} {w0 w w1 : World} {fs : List Fct} {ok : Nat → Prop}
theorem Now.at_ (h : Now w0 w fs) (hb : Below w.heap.size w w1) : w0.heap.size ≤ w.heap.size ∧ Now w0 w fs := ⟨h.size, h⟩
theorem in_own (ho : d.R e w1 w.heap.size ok v xs) (hle : w0.heap.size ≤ w.heap.size) : (own d e w0.heap.size w.heap.size w1.heap.size v xs).P w1 :=
  Kd.R_lower (Kd.R_mono (Kd.R_bound ho) (fun k hk => ⟨hk.2.1, hk.2.2.1⟩)) hle
theorem in_ownS (ho : Kd.S d e w1 w.heap.size ok v xs) (hle : w0.heap.size ≤ w.heap.size) : (ownS d e w0.heap.size w.heap.size w1.heap.size v xs).P w1 :=
  Kd.S_lower (Kd.S_mono (Kd.S_bound ho) (fun k hk => ⟨hk.2.1, hk.2.2.1⟩)) hle
/-- Two facts of one call. -/
def Fct.and (f g : Fct) (h1 : g.lo = f.lo := by rfl) (h2 : g.hi = f.hi := by rfl) : Fct :=
  ⟨f.lo, f.hi, fun w => f.P w ∧ g.P w, fun hm h => ⟨f.mv hm h.1, g.mv (fun k a b => hm k (by omega) (by omega)) h.2⟩⟩
end
theorem Now.pick {w0 w : World} {fs : List Fct} {f F : Fct} (h : Now w0 w fs) (i : Nat) (hi : fs[i]? = some F) (hF : F.P w → f.P w) : f.P w := hF (h.get i hi)
/-- A box of a local variable. -/
def boxed (b : Nat) (o : Obj) : Fct := ⟨b, b + 1, fun w => w.heap[b]? = some o, fun hm h => (hm b (Nat.le_refl _) (Nat.lt_succ_self _)).trans h⟩
theorem Now.box {w0 w : World} {fs : List Fct} (h : Now w0 w fs) (o : Obj) : Now w0 (w.alloc o) (boxed w.heap.size o :: fs) :=
  h.push (below_alloc (Below.refl _ _) o) rfl (by show w.heap.size + 1 = (w.alloc o).heap.size; simp) (by show (w.alloc o).heap[w.heap.size]? = some o; unfold World.alloc; simp)
end Go.Proofs.Ytlpginalgdbopaa.XLaw
