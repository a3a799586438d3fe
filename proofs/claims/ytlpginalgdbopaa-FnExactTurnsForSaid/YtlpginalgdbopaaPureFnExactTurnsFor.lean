/- The program's TurnsFor hands back just what the reference's TurnsFor hands back, for all arguments, in memory of its own. No conditions. -/
import Derived.Test.YtlpginalgdbopaaPFnExactTurnsForx
namespace Go.Proofs.Ytlpginalgdbopaa.Pure
open Go.RowKit Go.Proofs.Ytlpginalgdbopaa.PFnExactTurnsFor Go.Proofs.YtlpginalgdbopaaW.PrintWords Go.Proofs.YtlpginalgdbopaaW.PrintLast Go.Proofs.YtlpginalgdbopaaW.PrintMore
set_option linter.unusedVariables false
set_option linter.unusedSimpArgs false

theorem w64 {i : Int} (h0 : -9223372036854775808 ≤ i) (h : i ≤ 9223372036854775807) : wrap64 i = i := by unfold wrap64; omega
theorem rd_get (l : List Int) (i : Nat) (h : i < l.length) : rd l (i : Int) = l[i] := by simp [rd, List.getD_eq_getElem?_getD, h]


def cosAt (p k : Nat) : Int := 128 - 2 * (((p * (k + 1)) % 64 : Nat) : Int)
def sinAt (p k : Nat) : Int := (((8 * p + 16 * k) % 128 : Nat) : Int)
def rowOf (f : Nat → Nat → Int) (n p : Nat) : List Int := (List.range n).map (f p)
def rowsOf (f : Nat → Nat → Int) (n c : Nat) : List (List Int) := (List.range c).map (rowOf f n)
theorem range_succ_map {α : Type} (f : Nat → α) (n : Nat) : (List.range (n + 1)).map f = (List.range n).map f ++ [f n] := by rw [List.range_succ, List.map_append]; rfl
theorem cos_at (p k : Nat) (hp : p ≤ 24) (hk : k ≤ 4) : wrap64 (128 - (wrap64 (2 * (Int.tmod (wrap64 ((p : Int) * (wrap64 ((k : Int) + 1)))) 64)))) = cosAt p k := by
  have h1 : p * (k + 1) ≤ 24 * 5 := Nat.mul_le_mul hp (by omega)
  rw [w64 (i := (k : Int) + 1) (by omega) (by omega), show (k : Int) + 1 = ((k + 1 : Nat) : Int) by omega, show (p : Int) * ((k + 1 : Nat) : Int) = ((p * (k + 1) : Nat) : Int) by rw [Int.natCast_mul], w64 (i := ((p * (k + 1) : Nat) : Int)) (by omega) (by omega)]
  unfold cosAt
  generalize p * (k + 1) = q
  rw [Int.tmod_eq_emod_of_nonneg (by omega), w64 (i := 2 * ((q : Int) % 64)) (by omega) (by omega), w64 (by omega) (by omega)]
  omega
theorem sin_at (p k : Nat) (hp : p ≤ 24) (hk : k ≤ 4) : Int.tmod (wrap64 ((wrap64 (8 * (p : Int))) + (wrap64 (16 * (k : Int))))) 128 = sinAt p k := by
  rw [w64 (i := 8 * (p : Int)) (by omega) (by omega), w64 (i := 16 * (k : Int)) (by omega) (by omega), w64 (by omega) (by omega), Int.tmod_eq_emod_of_nonneg (by omega)]
  unfold sinAt; omega
theorem cos_bd (p k : Nat) : -128 ≤ cosAt p k ∧ cosAt p k ≤ 128 := by unfold cosAt; omega
theorem sin_bd (p k : Nat) : -128 ≤ sinAt p k ∧ sinAt p k ≤ 128 := by unfold sinAt; omega
theorem turns_row (n c p : Nat) (hn : n ≤ 4) (hp : p ≤ 24) (P Q : List (List Int)) (hP : P.length ≤ 24) (hQ : Q.length ≤ 24) : ∀ d i k, i + d = n → d < k →
    impl_TurnsFor.l1 k (n : Int) (p : Int) (rowOf cosAt i p) (rowOf sinAt i p) (c : Int) (p : Int) (n : Int) (i : Int) P Q = impl_TurnsFor.l0 (k - d - 1) (n : Int) (c : Int) ((p + 1 : Nat) : Int) (P ++ [rowOf cosAt n p]) (Q ++ [rowOf sinAt n p])
  | 0, i, k, h1, h2 => by
    obtain ⟨k, rfl⟩ : ∃ m, k = m + 1 := ⟨k - 1, by omega⟩
    obtain rfl : i = n := by omega
    rw [impl_TurnsFor.l1, if_neg (by omega), if_pos (by omega), if_pos (by omega), w64 (i := (p : Int) + 1) (by omega) (by omega), show (p : Int) + 1 = ((p + 1 : Nat) : Int) by omega]
    rfl
  | d + 1, i, k, h1, h2 => by
    obtain ⟨k, rfl⟩ : ∃ m, k = m + 1 := ⟨k - 1, by omega⟩
    rw [impl_TurnsFor.l1, if_pos (by omega), if_pos (by simp [rowOf]; omega), if_pos (by simp [rowOf]; omega), cos_at p i hp (by omega), sin_at p i hp (by omega), w64 (i := (i : Int) + 1) (by omega) (by omega), show (i : Int) + 1 = ((i + 1 : Nat) : Int) by omega,
      show rowOf cosAt i p ++ [cosAt p i] = rowOf cosAt (i + 1) p from (range_succ_map _ _).symm, show rowOf sinAt i p ++ [sinAt p i] = rowOf sinAt (i + 1) p from (range_succ_map _ _).symm, turns_row n c p hn hp P Q hP hQ d (i + 1) k (by omega) (by omega)]
    rw [show k + 1 - (d + 1) - 1 = k - d - 1 by omega]
theorem turns_rows (n c : Nat) (hn : n ≤ 4) (hc : c ≤ 24) : ∀ d p k, p + d = c → d * (n + 2) < k →
    impl_TurnsFor.l0 k (n : Int) (c : Int) (p : Int) (rowsOf cosAt n p) (rowsOf sinAt n p) = some (rowsOf cosAt n c, rowsOf sinAt n c, true)
  | 0, p, k, h1, h2 => by
    obtain ⟨k, rfl⟩ : ∃ m, k = m + 1 := ⟨k - 1, by omega⟩
    obtain rfl : p = c := by omega
    rw [impl_TurnsFor.l0, if_neg (by omega)]
  | d + 1, p, k, h1, h2 => by
    have h3 : (d + 1) * (n + 2) = d * (n + 2) + (n + 2) := Nat.succ_mul _ _
    obtain ⟨k, rfl⟩ : ∃ m, k = m + 1 := ⟨k - 1, by omega⟩
    have e := turns_row n c p hn (by omega) (rowsOf cosAt n p) (rowsOf sinAt n p) (by simp [rowsOf]; omega) (by simp [rowsOf]; omega) n 0 k (by omega) (by omega)
    rw [impl_TurnsFor.l0, if_pos (by omega)]
    have e0 : impl_TurnsFor.l1 k (n : Int) (p : Int) [] [] (c : Int) (p : Int) (n : Int) 0 (rowsOf cosAt n p) (rowsOf sinAt n p) = _ := e
    rw [e0, show rowsOf cosAt n p ++ [rowOf cosAt n p] = rowsOf cosAt n (p + 1) from (range_succ_map _ _).symm, show rowsOf sinAt n p ++ [rowOf sinAt n p] = rowsOf sinAt n (p + 1) from (range_succ_map _ _).symm]
    exact turns_rows n c hn hc d (p + 1) (k - n - 1) (by omega) (by omega)
theorem impl_turnsFor (n c : Nat) (h1 : 1 ≤ n) (hn : n ≤ 4) (h4 : 4 ≤ c) (hc : c ≤ 24) (k : Nat) (hk : 200 < k) : impl_TurnsFor.f k (c : Int) (n : Int) = some (rowsOf cosAt n c, rowsOf sinAt n c, true) := by
  obtain ⟨j, rfl⟩ : ∃ m, k = m + 1 := ⟨k - 1, by omega⟩
  unfold impl_TurnsFor.f impl_in.f
  rw [if_pos (by omega), Option.bind_some, if_pos (by simp; omega), if_pos (by omega), Option.bind_some, decide_eq_true (by omega)]
  simp only [impl_TurnsFor.j0]
  rw [if_neg (by simp)]
  have hm : c * (n + 2) ≤ 24 * 6 := Nat.mul_le_mul hc (by omega)
  exact turns_rows n c hn hc c 0 j (by omega) (by omega)

theorem all_from (lo hi : Int) (l : List Int) (hl : l.length ≤ 9223372036854775806) (d : Nat) : ∀ (k i : Nat), i ≤ l.length → l.length - i = d → d < k →
    spec_l05All.l0 k l lo hi (i : Int) = some ((l.drop i).all fun x => decide (lo ≤ x) && decide (x ≤ hi)) := by
  induction d with
  | zero =>
    intro k i hi' hd hk
    obtain ⟨k, rfl⟩ : ∃ m, k = m + 1 := ⟨k - 1, by omega⟩
    rw [List.drop_of_length_le (by omega)]
    simp only [spec_l05All.l0]; rw [if_neg (by omega)]; rfl
  | succ d ih =>
    intro k i hi' hd hk
    obtain ⟨k, rfl⟩ : ∃ m, k = m + 1 := ⟨k - 1, by omega⟩
    have hlt : i < l.length := by omega
    simp only [spec_l05All.l0]
    rw [if_pos (by omega), if_pos (by omega), rd_get l i hlt, List.drop_eq_getElem_cons hlt, List.all_cons]
    unfold spec_l01In.f
    by_cases h1 : l[i] ≥ lo
    · rw [if_pos h1]
      simp only [Option.bind_some]
      by_cases h2 : l[i] ≤ hi
      · rw [decide_eq_true h2, if_pos rfl, w64 (by omega) (by omega), show ((i : Int) + 1) = ((i + 1 : Nat) : Int) by omega, ih k (i + 1) (by omega) (by omega) (by omega)]
        simp [h1]
      · rw [decide_eq_false h2]; simp
    · rw [if_neg h1]; simp only [Option.bind_some]; rw [decide_eq_false h1]; simp
/-- spec.l05All: all within. -/
theorem all_tells (lo hi : Int) (l : List Int) (hl : l.length ≤ 9223372036854775806) (k : Nat) (hk : l.length < k) : spec_l05All.f k l lo hi = some (l.all fun x => decide (lo ≤ x) && decide (x ≤ hi)) := by
  unfold spec_l05All.f
  have := all_from lo hi l hl l.length k 0 (by omega) (by omega) hk
  rw [List.drop_zero] at this
  exact this


theorem getD_int {α : Type} (l : List α) (z : α) (i : Nat) (h : i < l.length) : l.getD (i : Int).toNat z = l[i] := by simp [List.getD_eq_getElem?_getD, h]
/-- what the parts of a list come to. -/
def sumS {α : Type} (s : α → Nat) : List α → Nat
  | [] => 0
  | x :: l => s x + sumS s l
theorem sumS_le {α : Type} (s : α → Nat) : ∀ (l : List α) (x : α), x ∈ l → s x ≤ sumS s l
  | [], _, h => by cases h
  | y :: l, x, h => by
    have e : sumS s (y :: l) = s y + sumS s l := rfl
    rcases List.mem_cons.mp h with g | g
    · rw [g, e]; omega
    · have := sumS_le s l x g; rw [e]; omega
theorem sumS_cons {α : Type} (s : α → Nat) (x : α) (l : List α) : sumS s (x :: l) = s x + sumS s l := rfl
/-- a list's size: its length and its parts'. -/
def szL {α : Type} (s : α → Nat) (l : List α) : Nat := l.length + sumS s l
/-- how a size is taken off: none is left, or the rest. -/
def lessS (n : Int) (s : Nat) : Option Int := some (if n < (s : Int) then -1 else n - (s : Int))
theorem sz_then {p : Option Int} {G : Int → Option Int} {n : Int} {a b : Nat} (h : p = lessS n a) (h0 : 0 ≤ n) (hG : (a : Int) ≤ n → G (n - a) = lessS (n - a) b) :
    (p.bind fun t => if t < 0 then some (-1) else G t) = lessS n (a + b) := by
  rw [h]; unfold lessS; rw [Option.bind_some]
  by_cases c : n < (a : Int)
  · rw [if_pos c, if_pos (by omega), if_pos (by omega)]
  · rw [if_neg c, if_neg (by omega), hG (by omega)]
    unfold lessS
    by_cases d : n - (a : Int) < (b : Int)
    · rw [if_pos d, if_pos (by omega)]
    · rw [if_neg d, if_neg (by omega)]; congr 1; omega
theorem sz_end {p : Option Int} {n : Int} {a : Nat} (h : p = lessS n a) (h0 : 0 ≤ n) : (p.bind fun t => if t < 0 then some (-1) else some t) = lessS n a := by
  have := sz_then (G := fun t => some t) (b := 0) h h0 (fun g => by unfold lessS; rw [if_neg (by omega)]; congr 1; omega)
  simpa using this
theorem sz_law {p : Option Int} {G : Int → Option Bool} {n : Int} {a : Nat} (h : p = lessS n a) (hG : (a : Int) ≤ n → G (n - a) = some true) :
    (p.bind fun t => if t < 0 then some true else G t) = some true := by
  rw [h]; unfold lessS; rw [Option.bind_some]
  by_cases c : n < (a : Int)
  · rw [if_pos c, if_pos (by omega)]
  · rw [if_neg c, if_neg (by omega), hG (by omega)]
section
variable {α : Type} (z : α) (F : Nat → List α → Int → Int → Option Int) (E : Nat → α → Int → Option Int) (s : α → Nat) (ok : α → Prop)
theorem sz_from (hF : ∀ k xs n i, F (k + 1) xs n i = if i < (xs.length : Int) then (if 0 ≤ i then ((E k (xs.getD i.toNat z) n).bind fun t => (if t < 0 then (some (-1)) else (F k xs t (wrap64 (i + 1))))) else none) else some n)
    (hE : ∀ k x n, ok x → s x < k → 0 ≤ n → n ≤ 1048576 → E k x n = lessS n (s x)) (xs : List α) (hl : xs.length ≤ 9223372036854775807) (hok : ∀ x ∈ xs, ok x) (d : Nat) :
    ∀ (k i : Nat) (n : Int), i ≤ xs.length → xs.length - i = d → d + sumS s (xs.drop i) < k → 0 ≤ n → n ≤ 1048576 → F k xs n (i : Int) = lessS n (sumS s (xs.drop i)) := by
  induction d with
  | zero =>
    intro k i n hi hd hk h0 h1
    obtain ⟨k, rfl⟩ : ∃ m, k = m + 1 := ⟨k - 1, by omega⟩
    rw [hF, if_neg (by omega), List.drop_of_length_le (by omega)]
    unfold lessS sumS; rw [if_neg (by omega)]; simp
  | succ d ih =>
    intro k i n hi hd hk h0 h1
    obtain ⟨k, rfl⟩ : ∃ m, k = m + 1 := ⟨k - 1, by omega⟩
    have hlt : i < xs.length := by omega
    rw [List.drop_eq_getElem_cons hlt, sumS_cons] at hk ⊢
    rw [hF, if_pos (by omega), if_pos (by omega), getD_int xs z i hlt]
    refine sz_then (hE k xs[i] n (hok _ (List.getElem_mem hlt)) (by omega) h0 h1) h0 fun g => ?_
    rw [w64 (by omega) (by omega), show ((i : Int) + 1) = ((i + 1 : Nat) : Int) by omega]
    exact ih k (i + 1) _ (by omega) (by omega) (by omega) (by omega) (by omega)
/-- the size of a list is taken off. -/
theorem sz_list (hF : ∀ k xs n i, F (k + 1) xs n i = if i < (xs.length : Int) then (if 0 ≤ i then ((E k (xs.getD i.toNat z) n).bind fun t => (if t < 0 then (some (-1)) else (F k xs t (wrap64 (i + 1))))) else none) else some n)
    (hE : ∀ k x n, ok x → s x < k → 0 ≤ n → n ≤ 1048576 → E k x n = lessS n (s x)) (k : Nat) (xs : List α) (n : Int) (hok : xs.length ≤ 9223372036854775807 ∧ ∀ x ∈ xs, ok x) (hk : szL s xs < k) (h0 : 0 ≤ n) (h1 : n ≤ 1048576) :
    (if (wrap64 (n - (xs.length : Int))) < 0 then (some (-1)) else (F k xs (wrap64 (n - (xs.length : Int))) 0)) = lessS n (szL s xs) := by
  have hl := hok.1
  rw [w64 (i := n - (xs.length : Int)) (by omega) (by omega)]
  unfold szL at hk ⊢
  by_cases c : n - (xs.length : Int) < 0
  · rw [if_pos c]; unfold lessS; rw [if_pos (by omega)]
  · rw [if_neg c]
    have := sz_from z F E s ok hF hE xs (by omega) hok.2 xs.length k 0 (n - xs.length) (by omega) (by omega) (by rw [List.drop_zero]; omega) (by omega) (by omega)
    rw [List.drop_zero] at this
    rw [show (0 : Int) = ((0 : Nat) : Int) from rfl, this]
    unfold lessS
    by_cases d : n - (xs.length : Int) < (sumS s xs : Int)
    · rw [if_pos d, if_pos (by omega)]
    · rw [if_neg d, if_neg (by omega)]; congr 1; omega
end
section
variable {α β γ : Type} (z : α) (zb : β) (F : Nat → List α → List β → Int → Option (List β)) (E : Nat → α → Option γ) (c : γ → β) (g : α → β) (s : α → Nat) (ok : α → Prop)
theorem to_from2 (hF : ∀ k xs ys i, F (k + 1) xs ys i = if i < (xs.length : Int) then (if 0 ≤ i then ((E k (xs.getD i.toNat z)).bind fun t => (if i < (ys.length : Int) then (F k xs (ys.set (i : Int).toNat (c t)) (wrap64 (i + 1))) else none)) else none) else some ys)
    (hE : ∀ k x, ok x → s x < k → ∃ t, E k x = some t ∧ c t = g x) (xs : List α) (hl : xs.length ≤ 9223372036854775807) (hok : ∀ x ∈ xs, ok x) (d : Nat) :
    ∀ (k i : Nat), i ≤ xs.length → xs.length - i = d → d + sumS s (xs.drop i) < k → F k xs ((xs.take i).map g ++ List.replicate (xs.length - i) zb) (i : Int) = some (xs.map g) := by
  induction d with
  | zero =>
    intro k i hi hd hk
    obtain ⟨k, rfl⟩ : ∃ m, k = m + 1 := ⟨k - 1, by omega⟩
    rw [hF, if_neg (by omega), List.take_of_length_le (by omega), hd]; simp
  | succ d ih =>
    intro k i hi hd hk
    obtain ⟨k, rfl⟩ : ∃ m, k = m + 1 := ⟨k - 1, by omega⟩
    have hlt : i < xs.length := by omega
    rw [List.drop_eq_getElem_cons hlt, sumS_cons] at hk
    obtain ⟨t, e1, e2⟩ := hE k xs[i] (hok _ (List.getElem_mem hlt)) (by omega)
    rw [hF, if_pos (by omega), if_pos (by omega), getD_int xs z i hlt, e1, Option.bind_some, if_pos (by simp; omega), w64 (by omega) (by omega), show ((i : Int) + 1) = ((i + 1 : Nat) : Int) by omega, e2]
    have e : ((xs.take i).map g ++ List.replicate (xs.length - i) zb).set (i : Int).toNat (g xs[i]) = (xs.take (i + 1)).map g ++ List.replicate (xs.length - (i + 1)) zb := by
      rw [Int.toNat_natCast, List.set_append_right _ _ (by simp; omega), show xs.length - i = (xs.length - (i + 1)) + 1 by omega, List.replicate_succ, List.length_map, List.length_take, Nat.min_eq_left (by omega), Nat.sub_self, List.set_cons_zero, List.take_succ_eq_append_getElem hlt, List.map_append, List.append_assoc]
      rfl
    rw [e]
    exact ih k (i + 1) (by omega) (by omega) (by omega)
/-- a list is turned into one of the other kind, part by part. -/
theorem to_list (hF : ∀ k xs ys i, F (k + 1) xs ys i = if i < (xs.length : Int) then (if 0 ≤ i then ((E k (xs.getD i.toNat z)).bind fun t => (if i < (ys.length : Int) then (F k xs (ys.set (i : Int).toNat (c t)) (wrap64 (i + 1))) else none)) else none) else some ys)
    (hE : ∀ k x, ok x → s x < k → ∃ t, E k x = some t ∧ c t = g x) (M : Nat) (k : Nat) (xs : List α) (hok : xs.length ≤ 9223372036854775807 ∧ ∀ x ∈ xs, ok x) (hM : xs.length ≤ M) (hk : szL s xs < k) :
    (if 0 ≤ (xs.length : Int) then (if ((xs.length : Int) : Int).toNat ≤ M then (F k xs (List.replicate ((xs.length : Int) : Int).toNat zb) 0) else none) else none) = some (xs.map g) := by
  rw [if_pos (by omega), if_pos (by omega), Int.toNat_natCast]
  unfold szL at hk
  have := to_from2 z zb F E c g s ok hF hE xs hok.1 hok.2 xs.length k 0 (by omega) (by omega) (by rw [List.drop_zero]; omega)
  simpa using this
end
section
variable {α : Type} (z : α) (F : Nat → List α → List α → Int → Option Bool) (E : Nat → α → Option Bool) (s : α → Nat)
theorem eq_from2 (hF : ∀ k xs i, F (k + 1) xs xs i = if i < (xs.length : Int) then (if 0 ≤ i then (if i < (xs.length : Int) then ((E k (xs.getD i.toNat z)).bind fun t => (if t = true then (F k xs xs (wrap64 (i + 1))) else (some false))) else none) else none) else some true)
    (xs : List α) (hE : ∀ k, ∀ x ∈ xs, s x < k → E k x = some true) (hl : xs.length ≤ 9223372036854775807) (d : Nat) :
    ∀ (k i : Nat), i ≤ xs.length → xs.length - i = d → d + sumS s (xs.drop i) < k → F k xs xs (i : Int) = some true := by
  induction d with
  | zero =>
    intro k i hi hd hk
    obtain ⟨k, rfl⟩ : ∃ m, k = m + 1 := ⟨k - 1, by omega⟩
    rw [hF, if_neg (by omega)]
  | succ d ih =>
    intro k i hi hd hk
    obtain ⟨k, rfl⟩ : ∃ m, k = m + 1 := ⟨k - 1, by omega⟩
    have hlt : i < xs.length := by omega
    rw [List.drop_eq_getElem_cons hlt, sumS_cons] at hk
    rw [hF, if_pos (by omega), if_pos (by omega), if_pos (by omega), getD_int xs z i hlt, hE k xs[i] (List.getElem_mem hlt) (by omega), Option.bind_some, if_pos rfl, w64 (by omega) (by omega), show ((i : Int) + 1) = ((i + 1 : Nat) : Int) by omega]
    exact ih k (i + 1) (by omega) (by omega) (by omega)
/-- a list is its own like, part by part. -/
theorem eq_list (hF : ∀ k xs i, F (k + 1) xs xs i = if i < (xs.length : Int) then (if 0 ≤ i then (if i < (xs.length : Int) then ((E k (xs.getD i.toNat z)).bind fun t => (if t = true then (F k xs xs (wrap64 (i + 1))) else (some false))) else none) else none) else some true)
    (k : Nat) (xs : List α) (hE : ∀ k, ∀ x ∈ xs, s x < k → E k x = some true) (hl : xs.length ≤ 9223372036854775807) (hk : szL s xs < k) :
    (if (xs.length : Int) = (xs.length : Int) then (F k xs xs 0) else (some false)) = some true := by
  rw [if_pos rfl]
  unfold szL at hk
  exact eq_from2 z F E s hF xs hE hl xs.length k 0 (by omega) (by omega) (by rw [List.drop_zero]; omega)
end

theorem eq_from (a b : List Int) (hl : a.length ≤ 9223372036854775806) (hab : a.length = b.length) (d : Nat) : ∀ (k i : Nat), i ≤ a.length → a.length - i = d → d < k →
    laws_eqIntS.l0 k a b (i : Int) = some (decide (a.drop i = b.drop i)) := by
  induction d with
  | zero =>
    intro k i hi' hd hk
    obtain ⟨k, rfl⟩ : ∃ m, k = m + 1 := ⟨k - 1, by omega⟩
    rw [List.drop_of_length_le (by omega), List.drop_of_length_le (by omega)]
    simp only [laws_eqIntS.l0]; rw [if_neg (by omega)]; simp
  | succ d ih =>
    intro k i hi' hd hk
    obtain ⟨k, rfl⟩ : ∃ m, k = m + 1 := ⟨k - 1, by omega⟩
    have hlt : i < a.length := by omega
    have hltb : i < b.length := by omega
    simp only [laws_eqIntS.l0]
    rw [if_pos (by omega), if_pos (by omega), if_pos (by omega), rd_get a i hlt, rd_get b i hltb, List.drop_eq_getElem_cons hlt, List.drop_eq_getElem_cons hltb]
    by_cases h : a[i] = b[i]
    · rw [if_pos h, w64 (by omega) (by omega), show ((i : Int) + 1) = ((i + 1 : Nat) : Int) by omega, ih k (i + 1) (by omega) (by omega) (by omega)]
      congr 1
      rw [decide_eq_decide]
      simp only [h, List.cons.injEq, true_and]
    · rw [if_neg h, decide_eq_false (fun e => h (List.cons.inj e).1)]
/-- laws.eqIntS: equal lists. -/
theorem eq_tells (a b : List Int) (hl : a.length ≤ 9223372036854775806) (k : Nat) (hk : a.length < k) : laws_eqIntS.f k a b = some (decide (a = b)) := by
  unfold laws_eqIntS.f
  by_cases h : a.length = b.length
  · rw [if_pos (by omega)]
    have := eq_from a b hl h a.length k 0 (by omega) (by omega) hk
    simpa using this
  · rw [if_neg (by omega), decide_eq_false]
    intro e; rw [e] at h; exact h rfl


def mIntss : List (List Int) → Nat := szL (fun l => l.length)
theorem eqIntSS_same (k : Nat) (x : List (List Int)) (h : mIntss x ≤ 9000000) (hk : mIntss x < k) : laws_eqIntSS.f k x x = some true :=
  eq_list [] laws_eqIntSS.l0 (fun k x => laws_eqIntS.f k x x) (fun l => l.length) (fun _ _ _ => rfl) k x (fun k y hy h' => by
    have := sumS_le (fun l : List Int => l.length) x y hy
    have e : mIntss x = x.length + sumS (fun l => l.length) x := rfl
    rw [eq_tells y y (by omega) k h', decide_eq_true rfl]) (by have e : mIntss x = x.length + sumS (fun l => l.length) x := rfl; omega) hk

theorem mIntss_eq (x : List (List Int)) : mIntss x = x.length + sumS (fun l => l.length) x := rfl
theorem sumS_map_sum (x : List (List Int)) : sumS (fun l : List Int => l.length) x = (x.map List.length).sum := by
  induction x with
  | nil => rfl
  | cons a x ih => rw [sumS_cons, ih, List.map_cons, List.sum_cons]

theorem rowsOf_at (f : Nat → Nat → Int) (n c p : Nat) (h : p < c) : rd_L1 (rowsOf f n c) (p : Int) = rowOf f n p := by
  unfold rd_L1 rowsOf
  simp [List.getD_eq_getElem?_getD, h]
theorem rowOf_len (f : Nat → Nat → Int) (n p : Nat) : (rowOf f n p).length = n := by simp [rowOf]
theorem rowsOf_len (f : Nat → Nat → Int) (n c : Nat) : (rowsOf f n c).length = c := by simp [rowsOf]
theorem rowOf_all (f : Nat → Nat → Int) (hf : ∀ p k, -128 ≤ f p k ∧ f p k ≤ 128) (n p : Nat) : ((rowOf f n p).all fun x => decide (-128 ≤ x) && decide (x ≤ 128)) = true := by
  rw [List.all_eq_true]
  intro x hx
  obtain ⟨k, _, rfl⟩ := List.mem_map.mp hx
  simp [hf p k]
theorem spec_turnsOk_from (n c : Nat) (h1 : 1 ≤ n) (hn : n ≤ 4) (hc : c ≤ 24) : ∀ d p k, p + d = c → d + 10 < k →
    spec_TurnsOk.l0 k (c : Int) (n : Int) (p : Int) (rowsOf cosAt n c) (rowsOf sinAt n c) = some true
  | 0, p, k, h1, h2 => by
    obtain ⟨k, rfl⟩ : ∃ m, k = m + 1 := ⟨k - 1, by omega⟩
    rw [spec_TurnsOk.l0, if_neg (by omega)]
  | d + 1, p, k, h1', h2 => by
    obtain ⟨k, rfl⟩ : ∃ m, k = m + 1 := ⟨k - 1, by omega⟩
    rw [spec_TurnsOk.l0, if_pos (by omega), if_pos (by omega), if_pos (by rw [rowsOf_len]; omega), rowsOf_at cosAt n c p (by omega), if_pos (by rw [rowOf_len]), if_pos (by rw [rowsOf_len]; omega), rowsOf_at sinAt n c p (by omega), if_pos (by rw [rowOf_len]),
      all_tells (-128) 128 _ (by rw [rowOf_len]; omega) k (by rw [rowOf_len]; omega), rowOf_all cosAt cos_bd, Option.bind_some, if_pos rfl, all_tells (-128) 128 _ (by rw [rowOf_len]; omega) k (by rw [rowOf_len]; omega), rowOf_all sinAt sin_bd, Option.bind_some, if_pos rfl,
      w64 (i := (p : Int) + 1) (by omega) (by omega), show (p : Int) + 1 = ((p + 1 : Nat) : Int) by omega]
    exact spec_turnsOk_from n c h1 hn hc d (p + 1) k (by omega) (by omega)
theorem spec_turnsOk (n c : Nat) (h1 : 1 ≤ n) (hn : n ≤ 4) (h4 : 4 ≤ c) (hc : c ≤ 24) (k : Nat) (hk : 50 < k) : spec_TurnsOk.f k (rowsOf cosAt n c) (rowsOf sinAt n c) (c : Int) (n : Int) = some true := by
  obtain ⟨k, rfl⟩ : ∃ m, k = m + 1 := ⟨k - 1, by omega⟩
  unfold spec_TurnsOk.f spec_l01In.f
  rw [if_pos (by omega), Option.bind_some, if_pos (by simp; omega), if_pos (by omega), Option.bind_some, if_pos (by simp; omega), if_pos (by rw [rowsOf_len]), spec_TurnsOk.j0, if_neg (by rw [rowsOf_len]; simp)]
  exact spec_turnsOk_from n c h1 hn hc c 0 k (by omega) (by omega)
theorem spec_turns_row (n c p : Nat) (hn : n ≤ 4) (hp : p ≤ 24) (P Q : List (List Int)) (hP : P.length ≤ 24) (hQ : Q.length ≤ 24) : ∀ d i k, i + d = n → d < k →
    spec_TurnsFor.l1 k (c : Int) (n : Int) (p : Int) (rowOf cosAt i p) (rowOf sinAt i p) (i : Int) P Q = spec_TurnsFor.l0 (k - d - 1) (c : Int) (n : Int) ((p + 1 : Nat) : Int) (P ++ [rowOf cosAt n p]) (Q ++ [rowOf sinAt n p])
  | 0, i, k, h1, h2 => by
    obtain ⟨k, rfl⟩ : ∃ m, k = m + 1 := ⟨k - 1, by omega⟩
    obtain rfl : i = n := by omega
    rw [spec_TurnsFor.l1, if_neg (by omega), if_pos (by omega), if_pos (by omega), w64 (i := (p : Int) + 1) (by omega) (by omega), show (p : Int) + 1 = ((p + 1 : Nat) : Int) by omega]
    rfl
  | d + 1, i, k, h1, h2 => by
    obtain ⟨k, rfl⟩ : ∃ m, k = m + 1 := ⟨k - 1, by omega⟩
    rw [spec_TurnsFor.l1, if_pos (by omega), if_pos (by rw [rowOf_len]; omega), if_pos (by rw [rowOf_len]; omega), cos_at p i hp (by omega), sin_at p i hp (by omega), w64 (i := (i : Int) + 1) (by omega) (by omega), show (i : Int) + 1 = ((i + 1 : Nat) : Int) by omega,
      show rowOf cosAt i p ++ [cosAt p i] = rowOf cosAt (i + 1) p from (range_succ_map _ _).symm, show rowOf sinAt i p ++ [sinAt p i] = rowOf sinAt (i + 1) p from (range_succ_map _ _).symm, spec_turns_row n c p hn hp P Q hP hQ d (i + 1) k (by omega) (by omega)]
    rw [show k + 1 - (d + 1) - 1 = k - d - 1 by omega]
theorem spec_turns_rows (n c : Nat) (h1' : 1 ≤ n) (hn : n ≤ 4) (h4 : 4 ≤ c) (hc : c ≤ 24) : ∀ d p k, p + d = c → d * (n + 2) + 60 < k →
    spec_TurnsFor.l0 k (c : Int) (n : Int) (p : Int) (rowsOf cosAt n p) (rowsOf sinAt n p) = some (rowsOf cosAt n c, rowsOf sinAt n c, true)
  | 0, p, k, h1, h2 => by
    obtain ⟨k, rfl⟩ : ∃ m, k = m + 1 := ⟨k - 1, by omega⟩
    obtain rfl : p = c := by omega
    rw [spec_TurnsFor.l0, if_neg (by omega), spec_turnsOk n p h1' hn h4 hc k (by omega), Option.bind_some]
  | d + 1, p, k, h1, h2 => by
    have h3 : (d + 1) * (n + 2) = d * (n + 2) + (n + 2) := Nat.succ_mul _ _
    obtain ⟨k, rfl⟩ : ∃ m, k = m + 1 := ⟨k - 1, by omega⟩
    have e := spec_turns_row n c p hn (by omega) (rowsOf cosAt n p) (rowsOf sinAt n p) (by rw [rowsOf_len]; omega) (by rw [rowsOf_len]; omega) n 0 k (by omega) (by omega)
    rw [spec_TurnsFor.l0, if_pos (by omega)]
    have e0 : spec_TurnsFor.l1 k (c : Int) (n : Int) (p : Int) [] [] 0 (rowsOf cosAt n p) (rowsOf sinAt n p) = _ := e
    rw [e0, show rowsOf cosAt n p ++ [rowOf cosAt n p] = rowsOf cosAt n (p + 1) from (range_succ_map _ _).symm, show rowsOf sinAt n p ++ [rowOf sinAt n p] = rowsOf sinAt n (p + 1) from (range_succ_map _ _).symm]
    exact spec_turns_rows n c h1' hn h4 hc d (p + 1) (k - n - 1) (by omega) (by omega)
theorem spec_turnsFor (n c : Nat) (h1 : 1 ≤ n) (hn : n ≤ 4) (h4 : 4 ≤ c) (hc : c ≤ 24) (k : Nat) (hk : 300 < k) : spec_TurnsFor.f k (c : Int) (n : Int) = some (rowsOf cosAt n c, rowsOf sinAt n c, true) := by
  obtain ⟨j, rfl⟩ : ∃ m, k = m + 1 := ⟨k - 1, by omega⟩
  unfold spec_TurnsFor.f spec_l01In.f
  rw [if_pos (by omega), Option.bind_some, if_pos (by simp; omega), if_pos (by omega), Option.bind_some, decide_eq_true (by omega)]
  simp only [spec_TurnsFor.j0]
  rw [if_neg (by simp)]
  have hm : c * (n + 2) ≤ 24 * 6 := Nat.mul_le_mul hc (by omega)
  exact spec_turns_rows n c h1 hn h4 hc c 0 j (by omega) (by omega)
def inTurns (a b : Int) : Prop := (4 ≤ a ∧ a ≤ 24) ∧ 1 ≤ b ∧ b ≤ 4
theorem no_turns (a b : Int) (h : ¬ inTurns a b) (k : Nat) : impl_TurnsFor.f (k + 1) a b = some ([], [], false) ∧ spec_TurnsFor.f (k + 1) a b = some ([], [], false) := by
  unfold impl_TurnsFor.f spec_TurnsFor.f impl_in.f spec_l01In.f
  by_cases h1 : a ≥ 4
  · rw [if_pos h1, Option.bind_some, Option.bind_some]
    by_cases h2 : a ≤ 24
    · rw [decide_eq_true h2, if_pos rfl, if_pos rfl]
      by_cases h3 : b ≥ 1
      · have h4 : ¬ b ≤ 4 := fun h4 => h ⟨⟨h1, h2⟩, h3, h4⟩
        rw [if_pos h3, Option.bind_some, Option.bind_some, decide_eq_false h4]; simp [impl_TurnsFor.j0, spec_TurnsFor.j0]
      · rw [if_neg h3]; simp [impl_TurnsFor.j0, spec_TurnsFor.j0]
    · rw [decide_eq_false h2]; simp [impl_TurnsFor.j0, spec_TurnsFor.j0]
  · rw [if_neg h1]; simp [impl_TurnsFor.j0, spec_TurnsFor.j0]
theorem rowsOf_size (f : Nat → Nat → Int) (n c : Nat) (hn : n ≤ 4) : ∀ c, mIntss (rowsOf f n c) ≤ c * 5 ∧ ((rowsOf f n c).map List.length).sum ≤ c * 4
  | 0 => by simp [rowsOf, mIntss, szL, sumS]
  | c + 1 => by
    have ih := rowsOf_size f n c hn c
    have e : rowsOf f n (c + 1) = rowsOf f n c ++ [rowOf f n c] := range_succ_map _ _
    have e2 := mIntss_eq (rowsOf f n (c + 1))
    have e3 := mIntss_eq (rowsOf f n c)
    rw [sumS_map_sum] at e2 e3
    rw [e2, e, List.map_append, List.sum_append, List.length_append]
    simp only [List.map_cons, List.map_nil, List.sum_cons, List.sum_nil, List.length_cons, List.length_nil, rowOf_len]
    omega


end Go.Proofs.Ytlpginalgdbopaa.Pure
