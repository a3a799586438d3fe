/- The program's Heads hands back just what the reference's Heads hands back, for all arguments, in memory of its own, and leaves its argument alone. No conditions. -/
import Derived.Test.YtlpginalgdbopaaPFnExactHeadsx
namespace Go.Proofs.Ytlpginalgdbopaa.Pure
open Go.RowKit Go.Proofs.Ytlpginalgdbopaa.PFnExactHeads Go.Proofs.YtlpginalgdbopaaW.PrintWords Go.Proofs.YtlpginalgdbopaaW.PrintLast Go.Proofs.YtlpginalgdbopaaW.PrintMore
set_option linter.unusedVariables false
set_option linter.unusedSimpArgs false

theorem w64 {i : Int} (h0 : -9223372036854775808 ≤ i) (h : i ≤ 9223372036854775807) : wrap64 i = i := by unfold wrap64; omega
theorem rd_get (l : List Int) (i : Nat) (h : i < l.length) : rd l (i : Int) = l[i] := by simp [rd, List.getD_eq_getElem?_getD, h]


/-- x cut into h parts. -/
def headsOf (x : List Int) (h : Int) : List (List Int) × Bool :=
  if h = 1 ∧ x.length ≠ 0 then ([x], true)
  else if h = 2 ∧ x.length ≠ 0 ∧ x.length % 2 = 0 then ([x.take (x.length / 2), x.drop (x.length / 2)], true)
  else ([], false)
theorem headsOf_one (x : List Int) (hx : x.length ≠ 0) : headsOf x 1 = ([x], true) := by unfold headsOf; rw [if_pos ⟨rfl, hx⟩]
theorem headsOf_two (x : List Int) (m : Nat) (hm : x.length = 2 * m) (h0 : m ≠ 0) : headsOf x 2 = ([x.take m, x.drop m], true) := by
  unfold headsOf; rw [if_neg (by omega), if_pos ⟨rfl, by omega, by omega⟩, show x.length / 2 = m by omega]
theorem headsOf_no (x : List Int) (h : Int) (hn : ¬ (h = 1 ∧ x.length ≠ 0)) (hn2 : ¬ (h = 2 ∧ x.length ≠ 0 ∧ x.length % 2 = 0)) : headsOf x h = ([], false) := by
  unfold headsOf; rw [if_neg hn, if_neg hn2]
theorem w64_0 : wrap64 0 = 0 := w64 (by omega) (by omega)
theorem w64_1 : wrap64 1 = 1 := w64 (by omega) (by omega)
theorem impl_heads (x : List Int) (h : Int) (hl : x.length ≤ 1048576) (k : Nat) (hk : 10 < k) : impl_Heads.f k x h = some (headsOf x h) := by
  obtain ⟨k, rfl⟩ : ∃ m, k = m + 1 + 1 + 1 + 1 := ⟨k - 4, by omega⟩
  unfold impl_Heads.f impl_in.f
  by_cases h1 : h = 1
  · subst h1
    rw [if_pos (by omega)]
    simp only [Option.bind_some]
    rw [if_pos (by decide)]
    by_cases hx : x.length = 0
    · rw [if_pos (by omega), headsOf_no x 1 (by omega) (by omega)]; simp [impl_Heads.j0]
    · rw [if_neg (by omega), if_neg (by omega), headsOf_one x hx]
      simp only [impl_Heads.j0]
      rw [if_neg (by simp), if_neg (by omega), Int.ediv_one, w64 (i := (x.length : Int)) (by omega) (by omega)]
      rw [impl_Heads.l0]
      simp only [Int.zero_add]
      rw [if_pos (by omega), if_pos (by omega), w64 (i := (x.length : Int)) (by omega) (by omega), if_pos (by omega), if_pos (by omega)]
      unfold slices_Clone_int_int.f
      rw [if_pos (by simp; omega)]
      simp only [Option.bind_some]
      rw [if_pos (by simp), impl_Heads.l0, if_neg (by omega)]
      simp
  · by_cases h2 : h = 2
    · subst h2
      rw [if_pos (by omega)]
      simp only [Option.bind_some]
      rw [if_pos (by decide)]
      by_cases hx : x.length = 0
      · rw [if_pos (by omega), headsOf_no x 2 (by omega) (by omega)]; simp [impl_Heads.j0]
      · rw [if_neg (by omega), if_neg (by omega)]
        by_cases he : x.length % 2 = 0
        · obtain ⟨m, hm⟩ : ∃ m, x.length = 2 * m := ⟨x.length / 2, by omega⟩
          rw [headsOf_two x m hm (by omega)]
          simp only [impl_Heads.j0]
          rw [if_neg (by simp; omega), if_neg (by omega), show ((x.length : Int) / 2) = (m : Int) by omega, w64 (i := (m : Int)) (by omega) (by omega)]
          rw [impl_Heads.l0]
          simp only [Int.zero_add]
          rw [if_pos (by omega), if_pos (by omega), w64 (i := (m : Int)) (by omega) (by omega), if_pos (by omega), if_pos (by omega)]
          unfold slices_Clone_int_int.f
          rw [if_pos (by simp; omega)]
          simp only [Option.bind_some]
          rw [if_pos (by simp), impl_Heads.l0, if_pos (by omega), if_pos (by omega), w64 (i := (m : Int) + m) (by omega) (by omega), if_pos (by omega), if_pos (by omega)]
          unfold slices_Clone_int_int.f
          rw [if_pos (by simp; omega)]
          simp only [Option.bind_some]
          rw [if_pos (by simp), impl_Heads.l0, if_neg (by omega)]
          simp only [Int.toNat_natCast, Int.toNat_zero, List.drop_zero, List.nil_append, List.cons_append]
          rw [show ((m : Int) + m).toNat = x.length by omega, List.take_length]
        · rw [headsOf_no x 2 (by omega) (by omega)]
          simp only [impl_Heads.j0]
          rw [if_pos (by simp; omega)]
    · rw [headsOf_no x h (by omega) (by omega)]
      by_cases h3 : h ≥ 1
      · rw [if_pos h3, decide_eq_false (by omega)]; simp [impl_Heads.j0]
      · rw [if_neg h3]; simp [impl_Heads.j0]
theorem spec_heads (x : List Int) (h : Int) (hl : x.length ≤ 1048576) (k : Nat) (hk : 10 < k) : spec_Heads.f k x h = some (headsOf x h) := by
  obtain ⟨k, rfl⟩ : ∃ m, k = m + 1 + 1 + 1 + 1 := ⟨k - 4, by omega⟩
  unfold spec_Heads.f
  rw [Option.bind_some]
  by_cases h1 : h = 1
  · subst h1
    rw [if_pos rfl]
    by_cases hx : x.length = 0
    · rw [if_pos (by omega), headsOf_no x 1 (by omega) (by omega)]; simp [spec_Heads.j0]
    · rw [if_neg (by omega), if_neg (by omega), headsOf_one x hx]
      simp only [spec_Heads.j0]
      rw [if_neg (by simp), if_neg (by omega), Int.ediv_one, w64 (i := (x.length : Int)) (by omega) (by omega)]
      rw [spec_Heads.l0, if_pos (by omega), Option.bind_some, Int.zero_mul, w64_0, Int.zero_add, Int.zero_add, w64_1]
      rw [if_pos (by omega), w64 (i := (x.length : Int)) (by omega) (by omega), if_pos (by omega), if_pos (by omega), if_pos (by simp; omega), if_pos (by simp), spec_Heads.l0, if_neg (by omega)]
      simp
  · rw [if_neg h1]
    by_cases h2 : h = 2
    · subst h2
      rw [if_pos rfl]
      by_cases hx : x.length = 0
      · rw [if_pos (by omega), headsOf_no x 2 (by omega) (by omega)]; simp [spec_Heads.j0]
      · rw [if_neg (by omega), if_neg (by omega)]
        by_cases he : x.length % 2 = 0
        · obtain ⟨m, hm⟩ : ∃ m, x.length = 2 * m := ⟨x.length / 2, by omega⟩
          rw [headsOf_two x m hm (by omega)]
          simp only [spec_Heads.j0]
          rw [if_neg (by simp; omega), if_neg (by omega), show ((x.length : Int) / 2) = (m : Int) by omega, w64 (i := (m : Int)) (by omega) (by omega)]
          rw [spec_Heads.l0, if_pos (by omega), Option.bind_some, Int.zero_mul, w64_0, Int.zero_add, Int.zero_add, w64_1]
          rw [if_pos (by omega), w64 (i := (m : Int)) (by omega) (by omega), if_pos (by omega), if_pos (by omega), if_pos (by simp; omega), if_pos (by simp), spec_Heads.l0, if_pos (by omega)]
          rw [Option.bind_some, Int.one_mul, show (1 : Int) + 1 = 2 from rfl, show wrap64 2 = 2 from w64 (by omega) (by omega)]
          rw [w64 (i := (m : Int)) (by omega) (by omega), if_pos (by omega), w64 (i := (m : Int) + m) (by omega) (by omega), if_pos (by omega), if_pos (by omega), if_pos (by simp; omega), if_pos (by simp), spec_Heads.l0, if_neg (by omega)]
          simp only [Int.toNat_natCast, Int.toNat_zero, List.drop_zero, List.nil_append, List.cons_append]
          rw [show ((m : Int) + m).toNat = x.length by omega, List.take_length]
        · rw [headsOf_no x 2 (by omega) (by omega)]
          simp only [spec_Heads.j0]
          rw [if_pos (by simp; omega)]
    · rw [if_neg h2, headsOf_no x h (by omega) (by omega)]
      simp [spec_Heads.j0]

theorem getD_int {α : Type} (l : List α) (z : α) (i : Nat) (h : i < l.length) : l.getD (i : Int).toNat z = l[i] := by simp [List.getD_eq_getElem?_getD, h]
/-- what the parts of a list come to. -/
def sumS {α : Type} (s : α → Nat) : List α → Nat
  | [] => 0
  | x :: l => s x + sumS s l
theorem sumS_le {α : Type} (s : α → Nat) : ∀ (l : List α) (x : α), x ∈ l → s x ≤ sumS s l
  | [], _, h => by cases h
  | y :: l, x, h => by
    have e : sumS s (y :: l) = s y + sumS s l := rfl
    rcases List.mem_cons.mp h with g | g
    · rw [g, e]; omega
    · have := sumS_le s l x g; rw [e]; omega
theorem sumS_cons {α : Type} (s : α → Nat) (x : α) (l : List α) : sumS s (x :: l) = s x + sumS s l := rfl
/-- a list's size: its length and its parts'. -/
def szL {α : Type} (s : α → Nat) (l : List α) : Nat := l.length + sumS s l
/-- how a size is taken off: none is left, or the rest. -/
def lessS (n : Int) (s : Nat) : Option Int := some (if n < (s : Int) then -1 else n - (s : Int))
theorem sz_then {p : Option Int} {G : Int → Option Int} {n : Int} {a b : Nat} (h : p = lessS n a) (h0 : 0 ≤ n) (hG : (a : Int) ≤ n → G (n - a) = lessS (n - a) b) :
    (p.bind fun t => if t < 0 then some (-1) else G t) = lessS n (a + b) := by
  rw [h]; unfold lessS; rw [Option.bind_some]
  by_cases c : n < (a : Int)
  · rw [if_pos c, if_pos (by omega), if_pos (by omega)]
  · rw [if_neg c, if_neg (by omega), hG (by omega)]
    unfold lessS
    by_cases d : n - (a : Int) < (b : Int)
    · rw [if_pos d, if_pos (by omega)]
    · rw [if_neg d, if_neg (by omega)]; congr 1; omega
theorem sz_end {p : Option Int} {n : Int} {a : Nat} (h : p = lessS n a) (h0 : 0 ≤ n) : (p.bind fun t => if t < 0 then some (-1) else some t) = lessS n a := by
  have := sz_then (G := fun t => some t) (b := 0) h h0 (fun g => by unfold lessS; rw [if_neg (by omega)]; congr 1; omega)
  simpa using this
theorem sz_law {p : Option Int} {G : Int → Option Bool} {n : Int} {a : Nat} (h : p = lessS n a) (hG : (a : Int) ≤ n → G (n - a) = some true) :
    (p.bind fun t => if t < 0 then some true else G t) = some true := by
  rw [h]; unfold lessS; rw [Option.bind_some]
  by_cases c : n < (a : Int)
  · rw [if_pos c, if_pos (by omega)]
  · rw [if_neg c, if_neg (by omega), hG (by omega)]
section
variable {α : Type} (z : α) (F : Nat → List α → Int → Int → Option Int) (E : Nat → α → Int → Option Int) (s : α → Nat) (ok : α → Prop)
theorem sz_from (hF : ∀ k xs n i, F (k + 1) xs n i = if i < (xs.length : Int) then (if 0 ≤ i then ((E k (xs.getD i.toNat z) n).bind fun t => (if t < 0 then (some (-1)) else (F k xs t (wrap64 (i + 1))))) else none) else some n)
    (hE : ∀ k x n, ok x → s x < k → 0 ≤ n → n ≤ 1048576 → E k x n = lessS n (s x)) (xs : List α) (hl : xs.length ≤ 9223372036854775807) (hok : ∀ x ∈ xs, ok x) (d : Nat) :
    ∀ (k i : Nat) (n : Int), i ≤ xs.length → xs.length - i = d → d + sumS s (xs.drop i) < k → 0 ≤ n → n ≤ 1048576 → F k xs n (i : Int) = lessS n (sumS s (xs.drop i)) := by
  induction d with
  | zero =>
    intro k i n hi hd hk h0 h1
    obtain ⟨k, rfl⟩ : ∃ m, k = m + 1 := ⟨k - 1, by omega⟩
    rw [hF, if_neg (by omega), List.drop_of_length_le (by omega)]
    unfold lessS sumS; rw [if_neg (by omega)]; simp
  | succ d ih =>
    intro k i n hi hd hk h0 h1
    obtain ⟨k, rfl⟩ : ∃ m, k = m + 1 := ⟨k - 1, by omega⟩
    have hlt : i < xs.length := by omega
    rw [List.drop_eq_getElem_cons hlt, sumS_cons] at hk ⊢
    rw [hF, if_pos (by omega), if_pos (by omega), getD_int xs z i hlt]
    refine sz_then (hE k xs[i] n (hok _ (List.getElem_mem hlt)) (by omega) h0 h1) h0 fun g => ?_
    rw [w64 (by omega) (by omega), show ((i : Int) + 1) = ((i + 1 : Nat) : Int) by omega]
    exact ih k (i + 1) _ (by omega) (by omega) (by omega) (by omega) (by omega)
/-- the size of a list is taken off. -/
theorem sz_list (hF : ∀ k xs n i, F (k + 1) xs n i = if i < (xs.length : Int) then (if 0 ≤ i then ((E k (xs.getD i.toNat z) n).bind fun t => (if t < 0 then (some (-1)) else (F k xs t (wrap64 (i + 1))))) else none) else some n)
    (hE : ∀ k x n, ok x → s x < k → 0 ≤ n → n ≤ 1048576 → E k x n = lessS n (s x)) (k : Nat) (xs : List α) (n : Int) (hok : xs.length ≤ 9223372036854775807 ∧ ∀ x ∈ xs, ok x) (hk : szL s xs < k) (h0 : 0 ≤ n) (h1 : n ≤ 1048576) :
    (if (wrap64 (n - (xs.length : Int))) < 0 then (some (-1)) else (F k xs (wrap64 (n - (xs.length : Int))) 0)) = lessS n (szL s xs) := by
  have hl := hok.1
  rw [w64 (i := n - (xs.length : Int)) (by omega) (by omega)]
  unfold szL at hk ⊢
  by_cases c : n - (xs.length : Int) < 0
  · rw [if_pos c]; unfold lessS; rw [if_pos (by omega)]
  · rw [if_neg c]
    have := sz_from z F E s ok hF hE xs (by omega) hok.2 xs.length k 0 (n - xs.length) (by omega) (by omega) (by rw [List.drop_zero]; omega) (by omega) (by omega)
    rw [List.drop_zero] at this
    rw [show (0 : Int) = ((0 : Nat) : Int) from rfl, this]
    unfold lessS
    by_cases d : n - (xs.length : Int) < (sumS s xs : Int)
    · rw [if_pos d, if_pos (by omega)]
    · rw [if_neg d, if_neg (by omega)]; congr 1; omega
end
section
variable {α β γ : Type} (z : α) (zb : β) (F : Nat → List α → List β → Int → Option (List β)) (E : Nat → α → Option γ) (c : γ → β) (g : α → β) (s : α → Nat) (ok : α → Prop)
theorem to_from2 (hF : ∀ k xs ys i, F (k + 1) xs ys i = if i < (xs.length : Int) then (if 0 ≤ i then ((E k (xs.getD i.toNat z)).bind fun t => (if i < (ys.length : Int) then (F k xs (ys.set (i : Int).toNat (c t)) (wrap64 (i + 1))) else none)) else none) else some ys)
    (hE : ∀ k x, ok x → s x < k → ∃ t, E k x = some t ∧ c t = g x) (xs : List α) (hl : xs.length ≤ 9223372036854775807) (hok : ∀ x ∈ xs, ok x) (d : Nat) :
    ∀ (k i : Nat), i ≤ xs.length → xs.length - i = d → d + sumS s (xs.drop i) < k → F k xs ((xs.take i).map g ++ List.replicate (xs.length - i) zb) (i : Int) = some (xs.map g) := by
  induction d with
  | zero =>
    intro k i hi hd hk
    obtain ⟨k, rfl⟩ : ∃ m, k = m + 1 := ⟨k - 1, by omega⟩
    rw [hF, if_neg (by omega), List.take_of_length_le (by omega), hd]; simp
  | succ d ih =>
    intro k i hi hd hk
    obtain ⟨k, rfl⟩ : ∃ m, k = m + 1 := ⟨k - 1, by omega⟩
    have hlt : i < xs.length := by omega
    rw [List.drop_eq_getElem_cons hlt, sumS_cons] at hk
    obtain ⟨t, e1, e2⟩ := hE k xs[i] (hok _ (List.getElem_mem hlt)) (by omega)
    rw [hF, if_pos (by omega), if_pos (by omega), getD_int xs z i hlt, e1, Option.bind_some, if_pos (by simp; omega), w64 (by omega) (by omega), show ((i : Int) + 1) = ((i + 1 : Nat) : Int) by omega, e2]
    have e : ((xs.take i).map g ++ List.replicate (xs.length - i) zb).set (i : Int).toNat (g xs[i]) = (xs.take (i + 1)).map g ++ List.replicate (xs.length - (i + 1)) zb := by
      rw [Int.toNat_natCast, List.set_append_right _ _ (by simp; omega), show xs.length - i = (xs.length - (i + 1)) + 1 by omega, List.replicate_succ, List.length_map, List.length_take, Nat.min_eq_left (by omega), Nat.sub_self, List.set_cons_zero, List.take_succ_eq_append_getElem hlt, List.map_append, List.append_assoc]
      rfl
    rw [e]
    exact ih k (i + 1) (by omega) (by omega) (by omega)
/-- a list is turned into one of the other kind, part by part. -/
theorem to_list (hF : ∀ k xs ys i, F (k + 1) xs ys i = if i < (xs.length : Int) then (if 0 ≤ i then ((E k (xs.getD i.toNat z)).bind fun t => (if i < (ys.length : Int) then (F k xs (ys.set (i : Int).toNat (c t)) (wrap64 (i + 1))) else none)) else none) else some ys)
    (hE : ∀ k x, ok x → s x < k → ∃ t, E k x = some t ∧ c t = g x) (M : Nat) (k : Nat) (xs : List α) (hok : xs.length ≤ 9223372036854775807 ∧ ∀ x ∈ xs, ok x) (hM : xs.length ≤ M) (hk : szL s xs < k) :
    (if 0 ≤ (xs.length : Int) then (if ((xs.length : Int) : Int).toNat ≤ M then (F k xs (List.replicate ((xs.length : Int) : Int).toNat zb) 0) else none) else none) = some (xs.map g) := by
  rw [if_pos (by omega), if_pos (by omega), Int.toNat_natCast]
  unfold szL at hk
  have := to_from2 z zb F E c g s ok hF hE xs hok.1 hok.2 xs.length k 0 (by omega) (by omega) (by rw [List.drop_zero]; omega)
  simpa using this
end
section
variable {α : Type} (z : α) (F : Nat → List α → List α → Int → Option Bool) (E : Nat → α → Option Bool) (s : α → Nat)
theorem eq_from2 (hF : ∀ k xs i, F (k + 1) xs xs i = if i < (xs.length : Int) then (if 0 ≤ i then (if i < (xs.length : Int) then ((E k (xs.getD i.toNat z)).bind fun t => (if t = true then (F k xs xs (wrap64 (i + 1))) else (some false))) else none) else none) else some true)
    (xs : List α) (hE : ∀ k, ∀ x ∈ xs, s x < k → E k x = some true) (hl : xs.length ≤ 9223372036854775807) (d : Nat) :
    ∀ (k i : Nat), i ≤ xs.length → xs.length - i = d → d + sumS s (xs.drop i) < k → F k xs xs (i : Int) = some true := by
  induction d with
  | zero =>
    intro k i hi hd hk
    obtain ⟨k, rfl⟩ : ∃ m, k = m + 1 := ⟨k - 1, by omega⟩
    rw [hF, if_neg (by omega)]
  | succ d ih =>
    intro k i hi hd hk
    obtain ⟨k, rfl⟩ : ∃ m, k = m + 1 := ⟨k - 1, by omega⟩
    have hlt : i < xs.length := by omega
    rw [List.drop_eq_getElem_cons hlt, sumS_cons] at hk
    rw [hF, if_pos (by omega), if_pos (by omega), if_pos (by omega), getD_int xs z i hlt, hE k xs[i] (List.getElem_mem hlt) (by omega), Option.bind_some, if_pos rfl, w64 (by omega) (by omega), show ((i : Int) + 1) = ((i + 1 : Nat) : Int) by omega]
    exact ih k (i + 1) (by omega) (by omega) (by omega)
/-- a list is its own like, part by part. -/
theorem eq_list (hF : ∀ k xs i, F (k + 1) xs xs i = if i < (xs.length : Int) then (if 0 ≤ i then (if i < (xs.length : Int) then ((E k (xs.getD i.toNat z)).bind fun t => (if t = true then (F k xs xs (wrap64 (i + 1))) else (some false))) else none) else none) else some true)
    (k : Nat) (xs : List α) (hE : ∀ k, ∀ x ∈ xs, s x < k → E k x = some true) (hl : xs.length ≤ 9223372036854775807) (hk : szL s xs < k) :
    (if (xs.length : Int) = (xs.length : Int) then (F k xs xs 0) else (some false)) = some true := by
  rw [if_pos rfl]
  unfold szL at hk
  exact eq_from2 z F E s hF xs hE hl xs.length k 0 (by omega) (by omega) (by rw [List.drop_zero]; omega)
end

theorem to_from (l : List Int) (hl : l.length ≤ 9223372036854775806) (d : Nat) : ∀ (k i : Nat), i ≤ l.length → l.length - i = d → d < k →
    laws_toIntS.l0 k l (l.take i ++ List.replicate (l.length - i) 0) (i : Int) = some l := by
  induction d with
  | zero =>
    intro k i hi' hd hk
    obtain ⟨k, rfl⟩ : ∃ m, k = m + 1 := ⟨k - 1, by omega⟩
    simp only [laws_toIntS.l0]; rw [if_neg (by omega), List.take_of_length_le (by omega), hd]; simp
  | succ d ih =>
    intro k i hi' hd hk
    obtain ⟨k, rfl⟩ : ∃ m, k = m + 1 := ⟨k - 1, by omega⟩
    have hlt : i < l.length := by omega
    simp only [laws_toIntS.l0]
    rw [if_pos (by omega), if_pos (by omega), if_pos (by simp; omega), rd_get l i hlt, w64 (by omega) (by omega), show ((i : Int) + 1) = ((i + 1 : Nat) : Int) by omega]
    have e : (l.take i ++ List.replicate (l.length - i) (0 : Int)).set (i : Int).toNat l[i] = l.take (i + 1) ++ List.replicate (l.length - (i + 1)) 0 := by
      rw [Int.toNat_natCast, List.set_append_right _ _ (by simp; omega), show l.length - i = (l.length - (i + 1)) + 1 by omega, List.replicate_succ, List.length_take, Nat.min_eq_left (by omega), Nat.sub_self, List.set_cons_zero, List.take_succ_eq_append_getElem hlt, List.append_assoc]
      rfl
    rw [e]
    exact ih k (i + 1) (by omega) (by omega) (by omega)
/-- laws.toIntS: a copy. -/
theorem to_tells (l : List Int) (hl : l.length ≤ 35184372088832) (k : Nat) (hk : l.length < k) : laws_toIntS.f k l = some l := by
  unfold laws_toIntS.f
  rw [if_pos (by omega), if_pos (by simpa using hl), Int.toNat_natCast]
  have := to_from l (by omega) l.length k 0 (by omega) (by omega) hk
  simpa using this


theorem eq_from (a b : List Int) (hl : a.length ≤ 9223372036854775806) (hab : a.length = b.length) (d : Nat) : ∀ (k i : Nat), i ≤ a.length → a.length - i = d → d < k →
    laws_eqIntS.l0 k a b (i : Int) = some (decide (a.drop i = b.drop i)) := by
  induction d with
  | zero =>
    intro k i hi' hd hk
    obtain ⟨k, rfl⟩ : ∃ m, k = m + 1 := ⟨k - 1, by omega⟩
    rw [List.drop_of_length_le (by omega), List.drop_of_length_le (by omega)]
    simp only [laws_eqIntS.l0]; rw [if_neg (by omega)]; simp
  | succ d ih =>
    intro k i hi' hd hk
    obtain ⟨k, rfl⟩ : ∃ m, k = m + 1 := ⟨k - 1, by omega⟩
    have hlt : i < a.length := by omega
    have hltb : i < b.length := by omega
    simp only [laws_eqIntS.l0]
    rw [if_pos (by omega), if_pos (by omega), if_pos (by omega), rd_get a i hlt, rd_get b i hltb, List.drop_eq_getElem_cons hlt, List.drop_eq_getElem_cons hltb]
    by_cases h : a[i] = b[i]
    · rw [if_pos h, w64 (by omega) (by omega), show ((i : Int) + 1) = ((i + 1 : Nat) : Int) by omega, ih k (i + 1) (by omega) (by omega) (by omega)]
      congr 1
      rw [decide_eq_decide]
      simp only [h, List.cons.injEq, true_and]
    · rw [if_neg h, decide_eq_false (fun e => h (List.cons.inj e).1)]
/-- laws.eqIntS: equal lists. -/
theorem eq_tells (a b : List Int) (hl : a.length ≤ 9223372036854775806) (k : Nat) (hk : a.length < k) : laws_eqIntS.f k a b = some (decide (a = b)) := by
  unfold laws_eqIntS.f
  by_cases h : a.length = b.length
  · rw [if_pos (by omega)]
    have := eq_from a b hl h a.length k 0 (by omega) (by omega) hk
    simpa using this
  · rw [if_neg (by omega), decide_eq_false]
    intro e; rw [e] at h; exact h rfl


def mIntss : List (List Int) → Nat := szL (fun l => l.length)
theorem eqIntSS_same (k : Nat) (x : List (List Int)) (h : mIntss x ≤ 9000000) (hk : mIntss x < k) : laws_eqIntSS.f k x x = some true :=
  eq_list [] laws_eqIntSS.l0 (fun k x => laws_eqIntS.f k x x) (fun l => l.length) (fun _ _ _ => rfl) k x (fun k y hy h' => by
    have := sumS_le (fun l : List Int => l.length) x y hy
    have e : mIntss x = x.length + sumS (fun l => l.length) x := rfl
    rw [eq_tells y y (by omega) k h', decide_eq_true rfl]) (by have e : mIntss x = x.length + sumS (fun l => l.length) x := rfl; omega) hk

theorem headsOf_size (x : List Int) (h : Int) (hs : List (List Int)) (ok : Bool) (e : headsOf x h = (hs, ok)) : mIntss hs ≤ x.length + 2 ∧ (hs.map List.length).sum ≤ x.length := by
  unfold headsOf at e
  split at e
  · injection e with e1 e2; subst e1; simp [mIntss, szL, sumS]; omega
  · split at e
    · injection e with e1 e2; subst e1; simp [mIntss, szL, sumS]; omega
    · injection e with e1 e2; subst e1; simp [mIntss, szL, sumS]


end Go.Proofs.Ytlpginalgdbopaa.Pure
