/- The program's TableOk returns what the reference's TableOk returns, and leaves its arguments alone, for all arguments. No conditions. -/
import Derived.Test.YtigplfheldfciabPFnExactTableOkx
namespace Go.Proofs.Ytigplfheldfciab.Pure
open Go.RowKit Go.Proofs.Ytigplfheldfciab.PFnExactTableOk Go.Proofs.YtigplfheldfciabW.PrintWords Go.Proofs.YtigplfheldfciabW.PrintLast Go.Proofs.YtigplfheldfciabW.PrintMore
set_option linter.unusedVariables false
set_option linter.unusedSimpArgs false

theorem w64 {i : Int} (h0 : -9223372036854775808 ≤ i) (h : i ≤ 9223372036854775807) : wrap64 i = i := by unfold wrap64; omega
theorem rd_get (l : List Int) (i : Nat) (h : i < l.length) : rd l (i : Int) = l[i] := by simp [rd, List.getD_eq_getElem?_getD, h]


theorem all_from (lo hi : Int) (l : List Int) (hl : l.length ≤ 9223372036854775806) (d : Nat) : ∀ (k i : Nat), i ≤ l.length → l.length - i = d → d < k →
    spec_l05All.l0 k l lo hi (i : Int) = some ((l.drop i).all fun x => decide (lo ≤ x) && decide (x ≤ hi)) := by
  induction d with
  | zero =>
    intro k i hi' hd hk
    obtain ⟨k, rfl⟩ : ∃ m, k = m + 1 := ⟨k - 1, by omega⟩
    rw [List.drop_of_length_le (by omega)]
    simp only [spec_l05All.l0]; rw [if_neg (by omega)]; rfl
  | succ d ih =>
    intro k i hi' hd hk
    obtain ⟨k, rfl⟩ : ∃ m, k = m + 1 := ⟨k - 1, by omega⟩
    have hlt : i < l.length := by omega
    simp only [spec_l05All.l0]
    rw [if_pos (by omega), if_pos (by omega), rd_get l i hlt, List.drop_eq_getElem_cons hlt, List.all_cons]
    unfold spec_l01In.f
    by_cases h1 : l[i] ≥ lo
    · rw [if_pos h1]
      simp only [Option.bind_some]
      by_cases h2 : l[i] ≤ hi
      · rw [decide_eq_true h2, if_pos rfl, w64 (by omega) (by omega), show ((i : Int) + 1) = ((i + 1 : Nat) : Int) by omega, ih k (i + 1) (by omega) (by omega) (by omega)]
        simp [h1]
      · rw [decide_eq_false h2]; simp
    · rw [if_neg h1]; simp only [Option.bind_some]; rw [decide_eq_false h1]; simp
/-- spec.l05All: all within. -/
theorem all_tells (lo hi : Int) (l : List Int) (hl : l.length ≤ 9223372036854775806) (k : Nat) (hk : l.length < k) : spec_l05All.f k l lo hi = some (l.all fun x => decide (lo ≤ x) && decide (x ≤ hi)) := by
  unfold spec_l05All.f
  have := all_from lo hi l hl l.length k 0 (by omega) (by omega) hk
  rw [List.drop_zero] at this
  exact this


def poolB (l : List Int) : Bool := decide (l.length ≤ 16) && l.all fun x => decide (0 ≤ x) && decide (x ≤ 20)
theorem spec_pool (l : List Int) (hl : l.length ≤ 9223372036854775806) (k : Nat) (hk : l.length < k) : spec_PoolOk.f k l = some (poolB l) := by
  unfold spec_PoolOk.f poolB
  by_cases h : l.length ≤ 16
  · rw [if_pos (by omega), all_tells 0 20 l hl k hk]; simp [h]
  · rw [if_neg (by omega)]; simp [h]
theorem impl_pool (l : List Int) : impl_PoolOk.f l = some (poolB l) := by
  unfold impl_PoolOk.f poolB impl_allIn.f
  by_cases h : l.length ≤ 16
  · rw [if_pos (by omega)]; simp [h]
  · rw [if_neg (by omega)]; simp [h]

theorem getD_int {α : Type} (l : List α) (z : α) (i : Nat) (h : i < l.length) : l.getD (i : Int).toNat z = l[i] := by simp [List.getD_eq_getElem?_getD, h]
/-- what the parts of a list come to. -/
def sumS {α : Type} (s : α → Nat) : List α → Nat
  | [] => 0
  | x :: l => s x + sumS s l
theorem sumS_le {α : Type} (s : α → Nat) : ∀ (l : List α) (x : α), x ∈ l → s x ≤ sumS s l
  | [], _, h => by cases h
  | y :: l, x, h => by
    have e : sumS s (y :: l) = s y + sumS s l := rfl
    rcases List.mem_cons.mp h with g | g
    · rw [g, e]; omega
    · have := sumS_le s l x g; rw [e]; omega
theorem sumS_cons {α : Type} (s : α → Nat) (x : α) (l : List α) : sumS s (x :: l) = s x + sumS s l := rfl
/-- a list's size: its length and its parts'. -/
def szL {α : Type} (s : α → Nat) (l : List α) : Nat := l.length + sumS s l
/-- how a size is taken off: none is left, or the rest. -/
def lessS (n : Int) (s : Nat) : Option Int := some (if n < (s : Int) then -1 else n - (s : Int))
theorem sz_then {p : Option Int} {G : Int → Option Int} {n : Int} {a b : Nat} (h : p = lessS n a) (h0 : 0 ≤ n) (hG : (a : Int) ≤ n → G (n - a) = lessS (n - a) b) :
    (p.bind fun t => if t < 0 then some (-1) else G t) = lessS n (a + b) := by
  rw [h]; unfold lessS; rw [Option.bind_some]
  by_cases c : n < (a : Int)
  · rw [if_pos c, if_pos (by omega), if_pos (by omega)]
  · rw [if_neg c, if_neg (by omega), hG (by omega)]
    unfold lessS
    by_cases d : n - (a : Int) < (b : Int)
    · rw [if_pos d, if_pos (by omega)]
    · rw [if_neg d, if_neg (by omega)]; congr 1; omega
theorem sz_end {p : Option Int} {n : Int} {a : Nat} (h : p = lessS n a) (h0 : 0 ≤ n) : (p.bind fun t => if t < 0 then some (-1) else some t) = lessS n a := by
  have := sz_then (G := fun t => some t) (b := 0) h h0 (fun g => by unfold lessS; rw [if_neg (by omega)]; congr 1; omega)
  simpa using this
theorem sz_law {p : Option Int} {G : Int → Option Bool} {n : Int} {a : Nat} (h : p = lessS n a) (hG : (a : Int) ≤ n → G (n - a) = some true) :
    (p.bind fun t => if t < 0 then some true else G t) = some true := by
  rw [h]; unfold lessS; rw [Option.bind_some]
  by_cases c : n < (a : Int)
  · rw [if_pos c, if_pos (by omega)]
  · rw [if_neg c, if_neg (by omega), hG (by omega)]
section
variable {α : Type} (z : α) (F : Nat → List α → Int → Int → Option Int) (E : Nat → α → Int → Option Int) (s : α → Nat) (ok : α → Prop)
theorem sz_from (hF : ∀ k xs n i, F (k + 1) xs n i = if i < (xs.length : Int) then (if 0 ≤ i then ((E k (xs.getD i.toNat z) n).bind fun t => (if t < 0 then (some (-1)) else (F k xs t (wrap64 (i + 1))))) else none) else some n)
    (hE : ∀ k x n, ok x → s x < k → 0 ≤ n → n ≤ 1048576 → E k x n = lessS n (s x)) (xs : List α) (hl : xs.length ≤ 9223372036854775807) (hok : ∀ x ∈ xs, ok x) (d : Nat) :
    ∀ (k i : Nat) (n : Int), i ≤ xs.length → xs.length - i = d → d + sumS s (xs.drop i) < k → 0 ≤ n → n ≤ 1048576 → F k xs n (i : Int) = lessS n (sumS s (xs.drop i)) := by
  induction d with
  | zero =>
    intro k i n hi hd hk h0 h1
    obtain ⟨k, rfl⟩ : ∃ m, k = m + 1 := ⟨k - 1, by omega⟩
    rw [hF, if_neg (by omega), List.drop_of_length_le (by omega)]
    unfold lessS sumS; rw [if_neg (by omega)]; simp
  | succ d ih =>
    intro k i n hi hd hk h0 h1
    obtain ⟨k, rfl⟩ : ∃ m, k = m + 1 := ⟨k - 1, by omega⟩
    have hlt : i < xs.length := by omega
    rw [List.drop_eq_getElem_cons hlt, sumS_cons] at hk ⊢
    rw [hF, if_pos (by omega), if_pos (by omega), getD_int xs z i hlt]
    refine sz_then (hE k xs[i] n (hok _ (List.getElem_mem hlt)) (by omega) h0 h1) h0 fun g => ?_
    rw [w64 (by omega) (by omega), show ((i : Int) + 1) = ((i + 1 : Nat) : Int) by omega]
    exact ih k (i + 1) _ (by omega) (by omega) (by omega) (by omega) (by omega)
/-- the size of a list is taken off. -/
theorem sz_list (hF : ∀ k xs n i, F (k + 1) xs n i = if i < (xs.length : Int) then (if 0 ≤ i then ((E k (xs.getD i.toNat z) n).bind fun t => (if t < 0 then (some (-1)) else (F k xs t (wrap64 (i + 1))))) else none) else some n)
    (hE : ∀ k x n, ok x → s x < k → 0 ≤ n → n ≤ 1048576 → E k x n = lessS n (s x)) (k : Nat) (xs : List α) (n : Int) (hok : xs.length ≤ 9223372036854775807 ∧ ∀ x ∈ xs, ok x) (hk : szL s xs < k) (h0 : 0 ≤ n) (h1 : n ≤ 1048576) :
    (if (wrap64 (n - (xs.length : Int))) < 0 then (some (-1)) else (F k xs (wrap64 (n - (xs.length : Int))) 0)) = lessS n (szL s xs) := by
  have hl := hok.1
  rw [w64 (i := n - (xs.length : Int)) (by omega) (by omega)]
  unfold szL at hk ⊢
  by_cases c : n - (xs.length : Int) < 0
  · rw [if_pos c]; unfold lessS; rw [if_pos (by omega)]
  · rw [if_neg c]
    have := sz_from z F E s ok hF hE xs (by omega) hok.2 xs.length k 0 (n - xs.length) (by omega) (by omega) (by rw [List.drop_zero]; omega) (by omega) (by omega)
    rw [List.drop_zero] at this
    rw [show (0 : Int) = ((0 : Nat) : Int) from rfl, this]
    unfold lessS
    by_cases d : n - (xs.length : Int) < (sumS s xs : Int)
    · rw [if_pos d, if_pos (by omega)]
    · rw [if_neg d, if_neg (by omega)]; congr 1; omega
end
section
variable {α β γ : Type} (z : α) (zb : β) (F : Nat → List α → List β → Int → Option (List β)) (E : Nat → α → Option γ) (c : γ → β) (g : α → β) (s : α → Nat) (ok : α → Prop)
theorem to_from2 (hF : ∀ k xs ys i, F (k + 1) xs ys i = if i < (xs.length : Int) then (if 0 ≤ i then ((E k (xs.getD i.toNat z)).bind fun t => (if i < (ys.length : Int) then (F k xs (ys.set (i : Int).toNat (c t)) (wrap64 (i + 1))) else none)) else none) else some ys)
    (hE : ∀ k x, ok x → s x < k → ∃ t, E k x = some t ∧ c t = g x) (xs : List α) (hl : xs.length ≤ 9223372036854775807) (hok : ∀ x ∈ xs, ok x) (d : Nat) :
    ∀ (k i : Nat), i ≤ xs.length → xs.length - i = d → d + sumS s (xs.drop i) < k → F k xs ((xs.take i).map g ++ List.replicate (xs.length - i) zb) (i : Int) = some (xs.map g) := by
  induction d with
  | zero =>
    intro k i hi hd hk
    obtain ⟨k, rfl⟩ : ∃ m, k = m + 1 := ⟨k - 1, by omega⟩
    rw [hF, if_neg (by omega), List.take_of_length_le (by omega), hd]; simp
  | succ d ih =>
    intro k i hi hd hk
    obtain ⟨k, rfl⟩ : ∃ m, k = m + 1 := ⟨k - 1, by omega⟩
    have hlt : i < xs.length := by omega
    rw [List.drop_eq_getElem_cons hlt, sumS_cons] at hk
    obtain ⟨t, e1, e2⟩ := hE k xs[i] (hok _ (List.getElem_mem hlt)) (by omega)
    rw [hF, if_pos (by omega), if_pos (by omega), getD_int xs z i hlt, e1, Option.bind_some, if_pos (by simp; omega), w64 (by omega) (by omega), show ((i : Int) + 1) = ((i + 1 : Nat) : Int) by omega, e2]
    have e : ((xs.take i).map g ++ List.replicate (xs.length - i) zb).set (i : Int).toNat (g xs[i]) = (xs.take (i + 1)).map g ++ List.replicate (xs.length - (i + 1)) zb := by
      rw [Int.toNat_natCast, List.set_append_right _ _ (by simp; omega), show xs.length - i = (xs.length - (i + 1)) + 1 by omega, List.replicate_succ, List.length_map, List.length_take, Nat.min_eq_left (by omega), Nat.sub_self, List.set_cons_zero, List.take_succ_eq_append_getElem hlt, List.map_append, List.append_assoc]
      rfl
    rw [e]
    exact ih k (i + 1) (by omega) (by omega) (by omega)
/-- a list is turned into one of the other kind, part by part. -/
theorem to_list (hF : ∀ k xs ys i, F (k + 1) xs ys i = if i < (xs.length : Int) then (if 0 ≤ i then ((E k (xs.getD i.toNat z)).bind fun t => (if i < (ys.length : Int) then (F k xs (ys.set (i : Int).toNat (c t)) (wrap64 (i + 1))) else none)) else none) else some ys)
    (hE : ∀ k x, ok x → s x < k → ∃ t, E k x = some t ∧ c t = g x) (M : Nat) (k : Nat) (xs : List α) (hok : xs.length ≤ 9223372036854775807 ∧ ∀ x ∈ xs, ok x) (hM : xs.length ≤ M) (hk : szL s xs < k) :
    (if 0 ≤ (xs.length : Int) then (if ((xs.length : Int) : Int).toNat ≤ M then (F k xs (List.replicate ((xs.length : Int) : Int).toNat zb) 0) else none) else none) = some (xs.map g) := by
  rw [if_pos (by omega), if_pos (by omega), Int.toNat_natCast]
  unfold szL at hk
  have := to_from2 z zb F E c g s ok hF hE xs hok.1 hok.2 xs.length k 0 (by omega) (by omega) (by rw [List.drop_zero]; omega)
  simpa using this
end
section
variable {α : Type} (z : α) (F : Nat → List α → List α → Int → Option Bool) (E : Nat → α → Option Bool) (s : α → Nat)
theorem eq_from2 (hF : ∀ k xs i, F (k + 1) xs xs i = if i < (xs.length : Int) then (if 0 ≤ i then (if i < (xs.length : Int) then ((E k (xs.getD i.toNat z)).bind fun t => (if t = true then (F k xs xs (wrap64 (i + 1))) else (some false))) else none) else none) else some true)
    (xs : List α) (hE : ∀ k, ∀ x ∈ xs, s x < k → E k x = some true) (hl : xs.length ≤ 9223372036854775807) (d : Nat) :
    ∀ (k i : Nat), i ≤ xs.length → xs.length - i = d → d + sumS s (xs.drop i) < k → F k xs xs (i : Int) = some true := by
  induction d with
  | zero =>
    intro k i hi hd hk
    obtain ⟨k, rfl⟩ : ∃ m, k = m + 1 := ⟨k - 1, by omega⟩
    rw [hF, if_neg (by omega)]
  | succ d ih =>
    intro k i hi hd hk
    obtain ⟨k, rfl⟩ : ∃ m, k = m + 1 := ⟨k - 1, by omega⟩
    have hlt : i < xs.length := by omega
    rw [List.drop_eq_getElem_cons hlt, sumS_cons] at hk
    rw [hF, if_pos (by omega), if_pos (by omega), if_pos (by omega), getD_int xs z i hlt, hE k xs[i] (List.getElem_mem hlt) (by omega), Option.bind_some, if_pos rfl, w64 (by omega) (by omega), show ((i : Int) + 1) = ((i + 1 : Nat) : Int) by omega]
    exact ih k (i + 1) (by omega) (by omega) (by omega)
/-- a list is its own like, part by part. -/
theorem eq_list (hF : ∀ k xs i, F (k + 1) xs xs i = if i < (xs.length : Int) then (if 0 ≤ i then (if i < (xs.length : Int) then ((E k (xs.getD i.toNat z)).bind fun t => (if t = true then (F k xs xs (wrap64 (i + 1))) else (some false))) else none) else none) else some true)
    (k : Nat) (xs : List α) (hE : ∀ k, ∀ x ∈ xs, s x < k → E k x = some true) (hl : xs.length ≤ 9223372036854775807) (hk : szL s xs < k) :
    (if (xs.length : Int) = (xs.length : Int) then (F k xs xs 0) else (some false)) = some true := by
  rw [if_pos rfl]
  unfold szL at hk
  exact eq_from2 z F E s hF xs hE hl xs.length k 0 (by omega) (by omega) (by rw [List.drop_zero]; omega)
end

/-- the pages are of their size, and the free ones are empty. -/
def pagesB : List Int → List (List S60) → Bool
  | r :: rs, p :: ps => decide (p.length ≤ 4) && (decide (r ≠ 0) || decide (p.length = 0)) && pagesB rs ps
  | _, _ => true
def storeB (r : List Int) (p : List (List S60)) : Bool := poolB r && decide (p.length = r.length) && pagesB r p
theorem spec_store_from (r : List Int) (p : List (List S60)) (hr : p.length = r.length) (hl : p.length ≤ 9223372036854775806) (d : Nat) : ∀ (k i : Nat), i ≤ p.length → p.length - i = d → d < k →
    spec_StoreOk.l0 k (i : Int) r p = some (pagesB (r.drop i) (p.drop i)) ∧ impl_StoreOk.l0 k p (p.length : Int) (i : Int) r p = some (pagesB (r.drop i) (p.drop i)) := by
  induction d with
  | zero =>
    intro k i hi hd hk
    obtain ⟨k, rfl⟩ : ∃ m, k = m + 1 := ⟨k - 1, by omega⟩
    rw [List.drop_of_length_le (show r.length ≤ i by omega), List.drop_of_length_le (show p.length ≤ i by omega)]
    constructor
    · simp only [spec_StoreOk.l0]; rw [if_neg (by omega)]; rfl
    · simp only [impl_StoreOk.l0]; rw [if_neg (by omega)]; rfl
  | succ d ih =>
    intro k i hi hd hk
    obtain ⟨k, rfl⟩ : ∃ m, k = m + 1 := ⟨k - 1, by omega⟩
    have hlt : i < p.length := by omega
    have hltr : i < r.length := by omega
    obtain ⟨i1, i2⟩ := ih k (i + 1) (by omega) (by omega) (by omega)
    have ep : ∀ xs : List (List S60), (h : i < xs.length) → rd_L11 xs (i : Int) = xs[i] := fun xs h => getD_int xs [] i h
    have e1 : ∀ x : Int, (i : Int) + 1 = ((i + 1 : Nat) : Int) := fun _ => by omega
    have cP : pagesB (r.drop i) (p.drop i) = (decide (p[i].length ≤ 4) && (decide (r[i] ≠ 0) || decide (p[i].length = 0)) && pagesB (r.drop (i + 1)) (p.drop (i + 1))) := by
      rw [List.drop_eq_getElem_cons hlt, List.drop_eq_getElem_cons hltr]; rfl
    rw [cP]
    simp only [spec_StoreOk.l0, impl_StoreOk.l0]
    rw [ep p hlt, rd_get r i hltr, w64 (i := (i : Int) + 1) (by omega) (by omega), e1 0, i1, i2]
    rw [if_pos (show (i : Int) < (p.length : Int) by omega), if_pos (show (0 : Int) ≤ (i : Int) by omega), if_pos (show (i : Int) < (p.length : Int) by omega), if_pos (show (i : Int) < (r.length : Int) by omega), if_pos (show (0 : Int) ≤ (i : Int) by omega), if_pos (show (i : Int) < (p.length : Int) by omega)]
    by_cases c1 : p[i].length ≤ 4
    · rw [if_neg (show ¬ (p[i].length : Int) > 4 by omega), decide_eq_true c1]
      by_cases c2 : r[i] = 0
      · rw [if_pos c2, decide_eq_false (show ¬ r[i] ≠ 0 by simpa using c2)]
        by_cases c3 : p[i].length = 0
        · rw [if_neg (show ¬ (p[i].length : Int) > 0 by omega), decide_eq_true c3]; exact ⟨rfl, rfl⟩
        · rw [if_pos (show (p[i].length : Int) > 0 by omega), decide_eq_false c3]; exact ⟨rfl, rfl⟩
      · rw [if_neg c2, decide_eq_true (show r[i] ≠ 0 from c2)]; exact ⟨rfl, rfl⟩
    · rw [if_pos (show (p[i].length : Int) > 4 by omega), decide_eq_false c1]; exact ⟨rfl, rfl⟩
theorem bne_nat (a b : Nat) : ((a : Int) != (b : Int)) = !decide (a = b) := by
  by_cases h : a = b
  · rw [h]; simp
  · have : ¬ (a : Int) = (b : Int) := by omega
    simp [bne, h, this]
theorem spec_store (r : List Int) (p : List (List S60)) (hr : r.length ≤ 1048576) (hp : p.length ≤ 1048576) (k : Nat) (hk : r.length + p.length + 5 < k) : spec_StoreOk.f k r p = some (storeB r p) := by
  obtain ⟨j, rfl⟩ : ∃ m, k = m + 1 := ⟨k - 1, by omega⟩
  unfold spec_StoreOk.f storeB
  rw [spec_pool r (by omega) _ (by omega), Option.bind_some, bne_nat]
  by_cases c : poolB r = true
  · rw [if_pos c, c]
    by_cases e : p.length = r.length
    · rw [decide_eq_true e]
      simp only [spec_StoreOk.j0]
      have := (spec_store_from r p e (by omega) p.length j 0 (by omega) (by omega) (by omega)).1
      rw [if_neg (by simp)]
      simpa using this
    · rw [decide_eq_false e]; simp only [spec_StoreOk.j0]; rw [if_pos (by simp)]; rfl
  · rw [if_neg c, Bool.eq_false_iff.mpr c]; simp only [spec_StoreOk.j0]; rw [if_pos trivial]; rfl
theorem impl_store (r : List Int) (p : List (List S60)) (hp : p.length ≤ 1048576) (k : Nat) (hk : r.length + p.length + 5 < k) : impl_StoreOk.f k r p = some (storeB r p) := by
  obtain ⟨j, rfl⟩ : ∃ m, k = m + 1 := ⟨k - 1, by omega⟩
  unfold impl_StoreOk.f storeB
  rw [impl_pool r, Option.bind_some, bne_nat]
  by_cases c : poolB r = true
  · rw [if_pos c, c]
    by_cases e : p.length = r.length
    · rw [decide_eq_true e]
      simp only [impl_StoreOk.j0]
      have := (spec_store_from r p e (by omega) p.length j 0 (by omega) (by omega) (by omega)).2
      rw [if_neg (by simp)]
      simpa using this
    · rw [decide_eq_false e]; simp only [impl_StoreOk.j0]; rw [if_pos (by simp)]; rfl
  · rw [if_neg c, Bool.eq_false_iff.mpr c]; simp only [impl_StoreOk.j0]; rw [if_pos trivial]; rfl

/-- numbers below n, no two alike, are at most n. -/
theorem pigeon : ∀ (n : Nat) (l : List Nat), l.Nodup → (∀ x ∈ l, x < n) → l.length ≤ n
  | 0, l, _, h => by
    cases l with
    | nil => exact Nat.le_refl _
    | cons x l => exact absurd (h x (List.mem_cons_self ..)) (by omega)
  | n + 1, l, hd, h => by
    have h1 := pigeon n (l.erase n) (hd.erase n) (fun x hx => by
      have g := (hd.mem_erase_iff).mp hx
      have := h x g.2
      have := g.1
      omega)
    have h2 : l.length ≤ (l.erase n).length + 1 := by
      rw [List.length_erase]; split <;> omega
    omega

/-- how many pages so many tokens need. -/
def needN (c : Int) : Int := if c ≤ 0 then 0 else (c - 1) / 4 + 1
theorem need_many (c : Int) (h : c > 64) : 17 ≤ needN c := by unfold needN; rw [if_neg (by omega)]; omega
theorem spec_need (c : Int) (h1 : 0 ≤ c) (h2 : c ≤ 9223372036854775807) : spec_NeedPages.f c = some (needN c) := by
  unfold spec_NeedPages.f needN
  by_cases g : c ≤ 0
  · rw [if_pos g, if_pos g]
  · rw [if_neg g, if_neg g, w64 (i := c - 1) (by omega) (by omega), Int.tdiv_eq_ediv_of_nonneg (by omega), w64 (i := (c - 1) / 4) (by omega) (by omega), w64 (by omega) (by omega)]
theorem impl_need (c : Int) (h1 : 0 ≤ c) (h2 : c ≤ 9223372036854775807) : impl_NeedPages.f c = some (needN c) := by
  unfold impl_NeedPages.f needN
  by_cases g : c ≤ 0
  · rw [if_pos g, if_pos g]
  · rw [if_neg g, if_neg g, w64 (i := c - 1) (by omega) (by omega), Int.tdiv_eq_ediv_of_nonneg (by omega), w64 (i := (c - 1) / 4) (by omega) (by omega), w64 (by omega) (by omega)]

def scanB (f : Nat → Bool) : Nat → Nat → Bool
  | _, 0 => true
  | i, d + 1 => f i && scanB f (i + 1) d
theorem scanB_at (f : Nat → Bool) : ∀ d i, scanB f i d = true → ∀ j, i ≤ j → j < i + d → f j = true
  | 0, i, _, j, h1, h2 => by omega
  | d + 1, i, h, j, h1, h2 => by
    have h' : (f i && scanB f (i + 1) d) = true := h
    rw [Bool.and_eq_true] at h'
    by_cases e : i = j
    · rw [← e]; exact h'.1
    · exact scanB_at f d (i + 1) h'.2 j (by omega) (by omega)
abbrev rdP (p : List (List S60)) (x : Int) : List S60 := rd_L11 p x
/-- a table's page at a place is right. -/
def pgB (r : List Int) (p : List (List S60)) (t : List Int) (c : Int) (i : Nat) : Bool :=
  decide (0 ≤ rd t i) && decide (rd t i ≤ (r.length : Int) - 1) && decide (rd r (rd t i) ≠ 0) && decide (rd t i ∉ t.take i) && decide (mn 4 (c - (i : Int) * 4) ≤ ((rdP p (rd t i)).length : Int))
theorem l1_step (r : List Int) (p : List (List S60)) (t : List Int) (c x : Int) (i j : Nat) (hj : j < i) (hi : i < t.length) (hl : t.length ≤ 1048576) (k : Nat) :
    spec_TableOk.l1 (k + 1) (i : Int) x (j : Int) r p t c = if rd t (j : Int) = x then some false else spec_TableOk.l1 k (i : Int) x ((j + 1 : Nat) : Int) r p t c := by
  simp only [spec_TableOk.l1]
  rw [if_pos (show (j : Int) < (i : Int) by omega), if_pos (show (0 : Int) ≤ (j : Int) by omega), if_pos (show (j : Int) < (t.length : Int) by omega), w64 (i := (j : Int) + 1) (by omega) (by omega), show (j : Int) + 1 = ((j + 1 : Nat) : Int) by omega]
theorem l1_from (r : List Int) (p : List (List S60)) (t : List Int) (c x : Int) (i : Nat) (hi : i < t.length) (hl : t.length ≤ 1048576) :
    ∀ d m j, j ≤ i → i - j = d → spec_TableOk.l1 (d + m + 1) (i : Int) x (j : Int) r p t c = if x ∈ (t.take i).drop j then some false else spec_TableOk.l1 (m + 1) (i : Int) x (i : Int) r p t c
  | 0, m, j, h1, h2 => by
    obtain rfl : j = i := by omega
    rw [List.drop_of_length_le (by rw [List.length_take]; omega), if_neg (by simp), Nat.zero_add]
  | d + 1, m, j, h1, h2 => by
    have hj : j < i := by omega
    rw [show d + 1 + m + 1 = (d + m + 1) + 1 by omega, l1_step r p t c x i j hj hi hl, l1_from r p t c x i hi hl d m (j + 1) (by omega) (by omega), rd_get t j (by omega)]
    have e : (t.take i).drop j = t[j] :: (t.take i).drop (j + 1) := by
      rw [List.drop_eq_getElem_cons (by rw [List.length_take]; omega), List.getElem_take]
    rw [e]
    by_cases g : t[j] = x
    · rw [if_pos g, if_pos (by rw [g]; exact List.mem_cons_self ..)]
    · rw [if_neg g]
      by_cases g2 : x ∈ (t.take i).drop (j + 1)
      · rw [if_pos g2, if_pos (List.mem_cons_of_mem _ g2)]
      · rw [if_neg g2, if_neg (fun h => by rcases List.mem_cons.mp h with h | h; exact g h.symm; exact g2 h)]
theorem l1_end (r : List Int) (p : List (List S60)) (t : List Int) (c x : Int) (i : Nat) (hi : i < t.length) (hl : t.length ≤ 1048576) (hc : 0 ≤ c) (hc2 : c ≤ 9223372036854775807) (hx0 : 0 ≤ x) (hx1 : x < (p.length : Int)) (m : Nat) :
    spec_TableOk.l1 (m + 1) (i : Int) x (i : Int) r p t c = if mn 4 (c - (i : Int) * 4) ≤ ((rdP p x).length : Int) then spec_TableOk.l0 m ((i + 1 : Nat) : Int) r p t c else some false := by
  simp only [spec_TableOk.l1]
  rw [if_neg (show ¬ (i : Int) < (i : Int) by omega), w64 (i := (i : Int) * 4) (by omega) (by omega), w64 (i := c - (i : Int) * 4) (by omega) (by omega), w64 (i := (i : Int) + 1) (by omega) (by omega), show (i : Int) + 1 = ((i + 1 : Nat) : Int) by omega, if_pos hx0, if_pos hx1, if_pos hx0, if_pos hx1]
  unfold mn
  by_cases g : c - (i : Int) * 4 > 4
  · rw [if_pos g, if_neg (show ¬ c - (i : Int) * 4 < 4 by omega)]
    by_cases q : ((rdP p x).length : Int) < 4
    · rw [if_pos q, if_neg (by omega)]
    · rw [if_neg q, if_pos (by omega)]
  · rw [if_neg g]
    by_cases g3 : c - (i : Int) * 4 < 4
    · rw [if_pos g3]
      by_cases q : ((rdP p x).length : Int) < c - (i : Int) * 4
      · rw [if_pos q, if_neg (by omega)]
      · rw [if_neg q, if_pos (by omega)]
    · rw [if_neg g3]
      by_cases q : ((rdP p x).length : Int) < c - (i : Int) * 4
      · rw [if_pos q, if_neg (by omega)]
      · rw [if_neg q, if_pos (by omega)]
theorem in_tells (a b c : Int) : spec_l01In.f a b c = some (decide (b ≤ a) && decide (a ≤ c)) := by
  unfold spec_l01In.f
  by_cases h : a ≥ b
  · rw [if_pos h, decide_eq_true (show b ≤ a from h)]; rfl
  · rw [if_neg h, decide_eq_false (show ¬ b ≤ a from h)]; rfl
theorem impl_in_tells (a b c : Int) : impl_in.f a b c = some (decide (b ≤ a) && decide (a ≤ c)) := by
  unfold impl_in.f
  by_cases h : a ≥ b
  · rw [if_pos h, decide_eq_true (show b ≤ a from h)]; rfl
  · rw [if_neg h, decide_eq_false (show ¬ b ≤ a from h)]; rfl
theorem spec_scan (r : List Int) (p : List (List S60)) (t : List Int) (c : Int) (hr : p.length = r.length) (hrl : r.length ≤ 16) (hl : t.length ≤ 1048576) (hc : 0 ≤ c) (hc2 : c ≤ 9223372036854775807) :
    ∀ d k i, i ≤ t.length → t.length - i = d → d * (t.length + 4) < k → spec_TableOk.l0 k (i : Int) r p t c = some (scanB (pgB r p t c) i d)
  | 0, k, i, h1, h2, h3 => by
    obtain ⟨k, rfl⟩ : ∃ m, k = m + 1 := ⟨k - 1, by omega⟩
    simp only [spec_TableOk.l0]; rw [if_neg (by omega)]; rfl
  | d + 1, k, i, h1, h2, h3 => by
    have hk : (d + 1) * (t.length + 4) = d * (t.length + 4) + (t.length + 4) := by rw [Nat.succ_mul]
    obtain ⟨m, rfl⟩ : ∃ m, k = (i + m + 1) + 1 + 1 := ⟨k - i - 3, by omega⟩
    have hi : i < t.length := by omega
    have ih := spec_scan r p t c hr hrl hl hc hc2 d m (i + 1) (by omega) (by omega) (by omega)
    show spec_TableOk.l0 (i + m + 1 + 1 + 1) (i : Int) r p t c = some (pgB r p t c i && scanB (pgB r p t c) (i + 1) d)
    unfold pgB
    have hj : ∀ (x : Int), 0 ≤ x → x < (p.length : Int) → spec_TableOk.j2 (i + m + 1 + 1) (i : Int) x (rd r x == 0) r p t c = if rd r x = 0 then some false else (if x ∈ t.take i then some false else if mn 4 (c - (i : Int) * 4) ≤ ((rdP p x).length : Int) then some (scanB (pgB r p t c) (i + 1) d) else some false) := by
      intro x hx0 hx1
      have e := l1_from r p t c x i hi hl i m 0 (by omega) (by omega)
      rw [List.drop_zero, l1_end r p t c x i hi hl hc hc2 hx0 hx1, ih] at e
      simp only [spec_TableOk.j2]
      by_cases g : rd r x = 0
      · rw [if_pos g, if_pos (by rw [g]; rfl)]
      · rw [if_neg g, if_neg (by simpa using g)]; exact e
    have hj2 : ∀ (x : Int), spec_TableOk.j2 (i + m + 1 + 1) (i : Int) x true r p t c = some false := by
      intro x; simp only [spec_TableOk.j2]; rfl
    generalize hx : rd t (i : Int) = x
    have hl0 : ∀ K, spec_TableOk.l0 (K + 1) (i : Int) r p t c = if 0 ≤ x ∧ x ≤ (r.length : Int) - 1 then spec_TableOk.j2 K (i : Int) x (rd r x == 0) r p t c else spec_TableOk.j2 K (i : Int) x true r p t c := by
      intro K
      simp only [spec_TableOk.l0]
      rw [if_pos (show (i : Int) < (t.length : Int) by omega), if_pos (show (0 : Int) ≤ (i : Int) by omega), hx, in_tells, Option.bind_some, w64 (i := (r.length : Int) - 1) (by omega) (by omega)]
      by_cases g1 : 0 ≤ x
      · by_cases g2 : x ≤ (r.length : Int) - 1
        · rw [decide_eq_true g1, decide_eq_true g2, if_pos (by rfl), if_pos g1, if_pos (show x < (r.length : Int) by omega), if_pos ⟨g1, g2⟩]
        · rw [decide_eq_true g1, decide_eq_false g2, if_neg (by simp), if_neg (fun h => g2 h.2)]
      · rw [decide_eq_false g1, if_neg (by simp), if_neg (fun h => g1 h.1)]
    rw [hl0]
    by_cases g1 : 0 ≤ x
    · by_cases g2 : x ≤ (r.length : Int) - 1
      · rw [if_pos ⟨g1, g2⟩, hj x g1 (by omega), decide_eq_true g1, decide_eq_true g2]
        by_cases g3 : rd r x = 0
        · rw [if_pos g3, decide_eq_false (show ¬ rd r x ≠ 0 by simpa using g3)]; rfl
        · rw [if_neg g3, decide_eq_true (show rd r x ≠ 0 from g3)]
          by_cases g4 : x ∈ t.take i
          · rw [if_pos g4, decide_eq_false (show ¬ x ∉ t.take i by simpa using g4)]; rfl
          · rw [if_neg g4, decide_eq_true (show x ∉ t.take i from g4)]
            by_cases g5 : mn 4 (c - (i : Int) * 4) ≤ ((rdP p x).length : Int)
            · rw [if_pos g5, decide_eq_true g5]; rfl
            · rw [if_neg g5, decide_eq_false g5]; rfl
      · rw [if_neg (fun h => g2 h.2), hj2, decide_eq_false g2, Bool.and_false]; rfl
    · rw [if_neg (fun h => g1 h.1), hj2, decide_eq_false g1]; rfl
theorem index_from (l : List Int) (x : Int) (hl : l.length ≤ 1048576) : ∀ d k i, i ≤ l.length → l.length - i = d → d < k →
    ∃ q, slices_Index_int_int.l0 k l x (l.length : Int) (i : Int) = some q ∧ (decide (q ≥ 0)) = decide (x ∈ l.drop i)
  | 0, k, i, h1, h2, h3 => by
    obtain ⟨k, rfl⟩ : ∃ m, k = m + 1 := ⟨k - 1, by omega⟩
    refine ⟨-1, ?_, ?_⟩
    · simp only [slices_Index_int_int.l0]; rw [if_neg (by omega)]
    · rw [List.drop_of_length_le (by omega)]; rfl
  | d + 1, k, i, h1, h2, h3 => by
    obtain ⟨k, rfl⟩ : ∃ m, k = m + 1 := ⟨k - 1, by omega⟩
    have hi : i < l.length := by omega
    obtain ⟨q, hq1, hq2⟩ := index_from l x hl d k (i + 1) (by omega) (by omega) (by omega)
    simp only [slices_Index_int_int.l0]
    rw [if_pos (show (i : Int) < (l.length : Int) by omega), if_pos (show (0 : Int) ≤ (i : Int) by omega), if_pos (show (i : Int) < (l.length : Int) by omega), rd_get l i hi, w64 (i := (i : Int) + 1) (by omega) (by omega), show (i : Int) + 1 = ((i + 1 : Nat) : Int) by omega, hq1, List.drop_eq_getElem_cons hi]
    by_cases g : x = l[i]
    · refine ⟨i, if_pos g, ?_⟩
      rw [decide_eq_true (show (i : Int) ≥ 0 by omega), decide_eq_true (by rw [← g]; exact List.mem_cons_self ..)]
    · refine ⟨q, if_neg g, ?_⟩
      rw [hq2, decide_eq_decide]
      exact ⟨fun h => List.mem_cons_of_mem _ h, fun h => by rcases List.mem_cons.mp h with h | h; exact absurd h g; exact h⟩
theorem contains_tells (l : List Int) (x : Int) (hl : l.length ≤ 1048576) (k : Nat) (hk : l.length < k) : slices_Contains_int_int.f k l x = some (decide (x ∈ l)) := by
  obtain ⟨q, h1, h2⟩ := index_from l x hl l.length k 0 (by omega) (by omega) (by omega)
  rw [List.drop_zero] at h2
  have h3 : slices_Index_int_int.f k l x = some q := h1
  unfold slices_Contains_int_int.f
  rw [h3, Option.bind_some, h2]
theorem impl_scan (r : List Int) (p : List (List S60)) (t : List Int) (c : Int) (hr : p.length = r.length) (hrl : r.length ≤ 16) (hl : t.length ≤ 1048576) (hc : 0 ≤ c) (hc2 : c ≤ 9223372036854775807) :
    ∀ d k i, i ≤ t.length → t.length - i = d → d + t.length + 1 < k → impl_tableOk.l0 k t (t.length : Int) (i : Int) r p t c = some (scanB (pgB r p t c) i d)
  | 0, k, i, h1, h2, h3 => by
    obtain ⟨k, rfl⟩ : ∃ m, k = m + 1 := ⟨k - 1, by omega⟩
    simp only [impl_tableOk.l0]; rw [if_neg (by omega)]; rfl
  | d + 1, k, i, h1, h2, h3 => by
    obtain ⟨k, rfl⟩ : ∃ m, k = m + 1 := ⟨k - 1, by omega⟩
    have hi : i < t.length := by omega
    have ih := impl_scan r p t c hr hrl hl hc hc2 d k (i + 1) (by omega) (by omega) (by omega)
    show impl_tableOk.l0 (k + 1) t (t.length : Int) (i : Int) r p t c = some (pgB r p t c i && scanB (pgB r p t c) (i + 1) d)
    unfold pgB
    generalize hx : rd t (i : Int) = x
    simp only [impl_tableOk.l0]
    unfold impl_lastCells.f
    rw [if_pos (show (i : Int) < (t.length : Int) by omega), if_pos (show (0 : Int) ≤ (i : Int) by omega), if_pos (show (i : Int) < (t.length : Int) by omega), hx, impl_in_tells, Option.bind_some, w64 (i := (r.length : Int) - 1) (by omega) (by omega), if_pos (show (i : Int) ≤ (t.length : Int) by omega), Int.toNat_natCast, contains_tells (t.take i) x (by rw [List.length_take]; omega) k (by rw [List.length_take]; omega), Option.bind_some, Option.bind_some,
      w64 (i := (i : Int) * 4) (by omega) (by omega), w64 (i := c - (i : Int) * 4) (by omega) (by omega), w64 (i := (i : Int) + 1) (by omega) (by omega), show (i : Int) + 1 = ((i + 1 : Nat) : Int) by omega, ih]
    by_cases g1 : 0 ≤ x
    · by_cases g2 : x ≤ (r.length : Int) - 1
      · rw [decide_eq_true g1, decide_eq_true g2, if_pos (by rfl), if_pos g1, if_pos (show x < (r.length : Int) by omega)]
        by_cases g3 : rd r x = 0
        · rw [if_pos g3, decide_eq_false (show ¬ rd r x ≠ 0 by simpa using g3)]; rfl
        · rw [if_neg g3, decide_eq_true (show rd r x ≠ 0 from g3)]
          by_cases g4 : x ∈ t.take i
          · rw [decide_eq_true g4, if_pos rfl, decide_eq_false (show ¬ x ∉ t.take i by simpa using g4)]; rfl
          · rw [decide_eq_false g4, if_neg (by simp), decide_eq_true (show x ∉ t.take i from g4), if_pos (show x < (p.length : Int) by omega)]
            by_cases g5 : mn 4 (c - (i : Int) * 4) ≤ ((rdP p x).length : Int)
            · rw [if_neg (show ¬ ((rdP p x).length : Int) < mn 4 (c - (i : Int) * 4) by omega), decide_eq_true g5]; rfl
            · rw [if_pos (show ((rdP p x).length : Int) < mn 4 (c - (i : Int) * 4) by omega), decide_eq_false g5]; rfl
      · rw [decide_eq_true g1, decide_eq_false g2, if_neg (by simp)]; rfl
    · rw [decide_eq_false g1, if_neg (by simp)]; rfl
/-- pages that are right are no two alike, and no more than there are. -/
theorem scan_few (r : List Int) (p : List (List S60)) (t : List Int) (c : Int) (h : scanB (pgB r p t c) 0 t.length = true) : t.length ≤ r.length := by
  have hat : ∀ j, j < t.length → 0 ≤ rd t (j : Int) ∧ rd t (j : Int) ≤ (r.length : Int) - 1 ∧ rd t (j : Int) ∉ t.take j := by
    intro j hj
    have := scanB_at _ _ _ h j (by omega) (by omega)
    unfold pgB at this
    simp only [Bool.and_eq_true, decide_eq_true_eq] at this
    exact ⟨this.1.1.1.1, this.1.1.1.2, this.1.2⟩
  have hn : ∀ j, j ≤ t.length → ((t.take j).map Int.toNat).Nodup := by
    intro j
    induction j with
    | zero => intro _; simp
    | succ j ih =>
      intro hj
      have hjl : j < t.length := by omega
      obtain ⟨a1, a2, a3⟩ := hat j hjl
      rw [rd_get t j hjl] at a1 a2 a3
      rw [List.take_succ_eq_append_getElem hjl, List.map_append, List.nodup_append]
      refine ⟨ih (by omega), by simp, ?_⟩
      intro x hx y hy
      simp only [List.map_cons, List.map_nil, List.mem_singleton] at hy
      obtain ⟨z, hz, rfl⟩ := List.mem_map.mp hx
      intro e
      obtain ⟨q, hq, hqz⟩ := List.mem_take_iff_getElem.mp hz
      have hq1 : q < t.length := by omega
      obtain ⟨b1, _, _⟩ := hat q hq1
      rw [rd_get t q hq1] at b1
      rw [hqz] at b1
      have : z = t[j] := by omega
      rw [this] at hz
      exact a3 hz
  have h1 := hn t.length (by omega)
  rw [List.take_length] at h1
  have h2 := pigeon r.length (t.map Int.toNat) h1 (fun x hx => by
    obtain ⟨z, hz, rfl⟩ := List.mem_map.mp hx
    obtain ⟨q, hq, rfl⟩ := List.getElem_of_mem hz
    obtain ⟨b1, b2, _⟩ := hat q hq
    rw [rd_get t q hq] at b1 b2
    omega)
  rw [List.length_map] at h2
  exact h2
def tableB (r : List Int) (p : List (List S60)) (t : List Int) (c : Int) : Bool :=
  storeB r p && decide (0 ≤ c) && decide ((t.length : Int) = needN c) && scanB (pgB r p t c) 0 t.length
theorem bne_int (a b : Int) : (a != b) = !decide (a = b) := by
  by_cases h : a = b
  · rw [h]; simp
  · simp [bne, h]
theorem spec_table (r : List Int) (p : List (List S60)) (t : List Int) (c : Int) (hr : r.length ≤ 1048576) (hp : p.length ≤ 1048576) (hl : t.length ≤ 1048576) (hc1 : -9223372036854775808 ≤ c) (hc2 : c ≤ 9223372036854775807) (k : Nat) (hk : t.length * (t.length + 4) + r.length + p.length + 8 < k) :
    spec_TableOk.f k r p t c = some (tableB r p t c) := by
  obtain ⟨j, rfl⟩ : ∃ m, k = m + 1 := ⟨k - 1, by omega⟩
  have hf : spec_TableOk.j0 (j + 1) true r p t c = some false := by simp only [spec_TableOk.j0]; rfl
  unfold spec_TableOk.f tableB
  rw [spec_store r p hr hp _ (by omega), Option.bind_some]
  by_cases g : storeB r p = true
  · have g' := g
    unfold storeB poolB at g'
    simp only [Bool.and_eq_true, decide_eq_true_eq] at g'
    rw [if_pos g, g]
    by_cases c0 : c < 0
    · rw [if_pos c0, hf, decide_eq_false (show ¬ 0 ≤ c by omega)]; rfl
    · rw [if_neg c0, spec_need c (by omega) hc2, Option.bind_some, decide_eq_true (show 0 ≤ c by omega), bne_int]
      by_cases e : (t.length : Int) = needN c
      · rw [decide_eq_true e]
        simp only [spec_TableOk.j0]
        rw [if_neg (by simp)]
        have := spec_scan r p t c g'.1.2 g'.1.1.1 hl (by omega) hc2 t.length j 0 (by omega) (by omega) (by omega)
        simpa using this
      · rw [decide_eq_false e]
        have : spec_TableOk.j0 (j + 1) (!false) r p t c = some false := hf
        rw [this]; rfl
  · rw [if_neg g, hf, Bool.eq_false_iff.mpr g]; rfl
theorem impl_table (r : List Int) (p : List (List S60)) (t : List Int) (c : Int) (hr : r.length ≤ 1048576) (hp : p.length ≤ 1048576) (hl : t.length ≤ 1048576) (hc1 : -9223372036854775808 ≤ c) (hc2 : c ≤ 9223372036854775807) (k : Nat) (hk : 2 * t.length + r.length + p.length + 8 < k) :
    impl_TableOk.f k r p t c = some (tableB r p t c) := by
  obtain ⟨j, rfl⟩ : ∃ m, k = m + 1 := ⟨k - 1, by omega⟩
  have hf : impl_tableOk.j0 (j + 1) true r p t c = some false := by simp only [impl_tableOk.j0]; rfl
  unfold impl_TableOk.f tableB
  rw [impl_store r p hp _ (by omega), Option.bind_some]
  by_cases g : storeB r p = true
  · have g' := g
    unfold storeB poolB at g'
    simp only [Bool.and_eq_true, decide_eq_true_eq] at g'
    rw [if_pos g, g]
    unfold impl_tableOk.f
    by_cases c0 : c < 0
    · rw [if_pos c0, hf, decide_eq_false (show ¬ 0 ≤ c by omega)]; rfl
    · rw [if_neg c0, decide_eq_true (show 0 ≤ c by omega)]
      by_cases c64 : c > 64
      · rw [if_pos c64, hf, Option.bind_some]
        by_cases e : (t.length : Int) = needN c
        · rw [decide_eq_true e]
          by_cases s : scanB (pgB r p t c) 0 t.length = true
          · have h1 := scan_few r p t c s
            have h2 := g'.1.1.1
            have h3 := need_many c c64
            omega
          · rw [Bool.eq_false_iff.mpr s]; rfl
        · rw [decide_eq_false e]; rfl
      · rw [if_neg c64, impl_need c (by omega) hc2, Option.bind_some, bne_int]
        by_cases e : (t.length : Int) = needN c
        · rw [decide_eq_true e]
          simp only [impl_tableOk.j0]
          rw [if_neg (by simp)]
          have := impl_scan r p t c g'.1.2 g'.1.1.1 hl (by omega) hc2 t.length j 0 (by omega) (by omega) (by omega)
          have h0 : ((0 : Nat) : Int) = 0 := rfl
          rw [h0] at this
          rw [this, Option.bind_some]; rfl
        · rw [decide_eq_false e]
          have : impl_tableOk.j0 (j + 1) (!false) r p t c = some false := hf
          rw [this]; rfl
  · rw [if_neg g, Bool.eq_false_iff.mpr g]; rfl

def mPart (x : S194) : Nat := x.f1.length
def mParts : List S194 → Nat := szL mPart
def mPartss : List (List S194) → Nat := szL mParts
def mCell (x : S55) : Nat := mPartss x.f0 + mPartss x.f1
def mCells : List S55 → Nat := szL mCell
theorem szInts_tells (l : List Int) (hl : l.length ≤ 9223372036854775807) (n : Int) (h0 : 0 ≤ n) (h1 : n ≤ 1048576) : laws_szIntS.f l n = lessS n l.length := by
  unfold laws_szIntS.f lessS
  rw [w64 (i := n - (l.length : Int)) (by omega) (by omega)]
  by_cases c : n < (l.length : Int)
  · rw [if_pos c, if_pos (by omega)]
  · rw [if_neg c, if_neg (by omega)]
theorem szPart_m (k : Nat) (x : S194) (n : Int) (ok : okT194 x) (_ : mPart x < k) (h0 : 0 ≤ n) (h1 : n ≤ 1048576) : laws_szPart.f x.f0 x.f1 n = lessS n (mPart x) :=
  sz_end (szInts_tells _ ok.2.1 n h0 h1) h0
theorem szParts_m (k : Nat) (x : List S194) (n : Int) (ok : okT169 x) (hk : mParts x < k) (h0 : 0 ≤ n) (h1 : n ≤ 1048576) : laws_szPartS.f k x n = lessS n (mParts x) :=
  sz_list z194 laws_szPartS.l0 (fun _ x n => laws_szPart.f x.f0 x.f1 n) mPart okT194 (fun _ _ _ _ => rfl) szPart_m k x n ok hk h0 h1
theorem szPartss_m (k : Nat) (x : List (List S194)) (n : Int) (ok : okT53 x) (hk : mPartss x < k) (h0 : 0 ≤ n) (h1 : n ≤ 1048576) : laws_szPartSS.f k x n = lessS n (mPartss x) :=
  sz_list [] laws_szPartSS.l0 laws_szPartS.f mParts okT169 (fun _ _ _ _ => rfl) szParts_m k x n ok hk h0 h1
theorem szCell_m (k : Nat) (x : S55) (n : Int) (ok : okT55 x) (hk : mCell x < k) (h0 : 0 ≤ n) (h1 : n ≤ 1048576) : laws_szCell.f k x.f0 x.f1 n = lessS n (mCell x) := by
  have h : mCell x = mPartss x.f0 + mPartss x.f1 := rfl
  exact sz_then (szPartss_m k x.f0 n ok.1 (by omega) h0 h1) h0 fun g => sz_end (szPartss_m k x.f1 _ ok.2 (by omega) (by omega) (by omega)) (by omega)
theorem szCells_m (k : Nat) (x : List S55) (n : Int) (ok : okT163 x) (hk : mCells x < k) (h0 : 0 ≤ n) (h1 : n ≤ 1048576) : laws_szCellS.f k x n = lessS n (mCells x) :=
  sz_list z55 laws_szCellS.l0 (fun k x n => laws_szCell.f k x.f0 x.f1 n) mCell okT55 (fun _ _ _ _ => rfl) szCell_m k x n ok hk h0 h1

def mCellss : List (List S55) → Nat := szL mCells
def mStore (x : S25) : Nat := x.f0.length + mCellss x.f1
theorem szCellss_m (k : Nat) (x : List (List S55)) (n : Int) (ok : okT23 x) (hk : mCellss x < k) (h0 : 0 ≤ n) (h1 : n ≤ 1048576) : laws_szCellSS.f k x n = lessS n (mCellss x) :=
  sz_list [] laws_szCellSS.l0 laws_szCellS.f mCells okT163 (fun _ _ _ _ => rfl) szCells_m k x n ok hk h0 h1
theorem szStore_m (k : Nat) (x : S25) (n : Int) (ok : okT25 x) (hk : mStore x < k) (h0 : 0 ≤ n) (h1 : n ≤ 1048576) : laws_szStore.f k x.f0 x.f1 n = lessS n (mStore x) := by
  have h : mStore x = x.f0.length + mCellss x.f1 := rfl
  exact sz_then (szInts_tells x.f0 ok.1.1 n h0 h1) h0 fun g => sz_end (szCellss_m k x.f1 _ ok.2 (by omega) (by omega) (by omega)) (by omega)

theorem to_from (l : List Int) (hl : l.length ≤ 9223372036854775806) (d : Nat) : ∀ (k i : Nat), i ≤ l.length → l.length - i = d → d < k →
    laws_toIntS.l0 k l (l.take i ++ List.replicate (l.length - i) 0) (i : Int) = some l := by
  induction d with
  | zero =>
    intro k i hi' hd hk
    obtain ⟨k, rfl⟩ : ∃ m, k = m + 1 := ⟨k - 1, by omega⟩
    simp only [laws_toIntS.l0]; rw [if_neg (by omega), List.take_of_length_le (by omega), hd]; simp
  | succ d ih =>
    intro k i hi' hd hk
    obtain ⟨k, rfl⟩ : ∃ m, k = m + 1 := ⟨k - 1, by omega⟩
    have hlt : i < l.length := by omega
    simp only [laws_toIntS.l0]
    rw [if_pos (by omega), if_pos (by omega), if_pos (by simp; omega), rd_get l i hlt, w64 (by omega) (by omega), show ((i : Int) + 1) = ((i + 1 : Nat) : Int) by omega]
    have e : (l.take i ++ List.replicate (l.length - i) (0 : Int)).set (i : Int).toNat l[i] = l.take (i + 1) ++ List.replicate (l.length - (i + 1)) 0 := by
      rw [Int.toNat_natCast, List.set_append_right _ _ (by simp; omega), show l.length - i = (l.length - (i + 1)) + 1 by omega, List.replicate_succ, List.length_take, Nat.min_eq_left (by omega), Nat.sub_self, List.set_cons_zero, List.take_succ_eq_append_getElem hlt, List.append_assoc]
      rfl
    rw [e]
    exact ih k (i + 1) (by omega) (by omega) (by omega)
/-- laws.toIntS: a copy. -/
theorem to_tells (l : List Int) (hl : l.length ≤ 35184372088832) (k : Nat) (hk : l.length < k) : laws_toIntS.f k l = some l := by
  unfold laws_toIntS.f
  rw [if_pos (by omega), if_pos (by simpa using hl), Int.toNat_natCast]
  have := to_from l (by omega) l.length k 0 (by omega) (by omega) hk
  simpa using this


def gPart (x : S194) : S177 := ⟨x.f0, x.f1⟩
def gParts : List S194 → List S177 := List.map gPart
def gPartss : List (List S194) → List (List S177) := List.map gParts
def gCell (x : S55) : S60 := ⟨gPartss x.f0, gPartss x.f1⟩
def gCells : List S55 → List S60 := List.map gCell
-- what is small enough: its size is within the budget
def inPart (x : S194) : Prop := mPart x ≤ 1048576
theorem in_list {α : Type} {s : α → Nat} {l : List α} (h : szL s l ≤ 1048576) : l.length ≤ 9223372036854775807 ∧ ∀ x ∈ l, s x ≤ 1048576 := by
  unfold szL at h; exact ⟨by omega, fun x hx => by have := sumS_le s l x hx; omega⟩
theorem toPart_m (k : Nat) (x : S194) (h : mPart x ≤ 1048576) (hk : mPart x < k) : ∃ t, laws_toPart.f k x.f0 x.f1 = some t ∧ (⟨t.1, t.2⟩ : S177) = gPart x := by
  refine ⟨(x.f0, x.f1), ?_, rfl⟩
  have g : x.f1.length = mPart x := rfl
  unfold laws_toPart.f
  rw [to_tells x.f1 (by omega) k (by omega), Option.bind_some]
theorem toParts_m (k : Nat) (x : List S194) (h : mParts x ≤ 1048576) (hk : mParts x < k) : ∃ t, laws_toPartS.f k x = some t ∧ t = gParts x :=
  ⟨_, to_list z194 z177 laws_toPartS.l0 (fun k x => laws_toPart.f k x.f0 x.f1) (fun t => ⟨t.1, t.2⟩) gPart mPart (fun x => mPart x ≤ 1048576) (fun _ _ _ _ => rfl) toPart_m _ k x (in_list h) (by have := (show szL mPart x ≤ 1048576 from h); unfold szL at this; omega) hk, rfl⟩
theorem toPartss_m (k : Nat) (x : List (List S194)) (h : mPartss x ≤ 1048576) (hk : mPartss x < k) : ∃ t, laws_toPartSS.f k x = some t ∧ t = gPartss x :=
  ⟨_, to_list [] [] laws_toPartSS.l0 laws_toPartS.f (fun t => t) gParts mParts (fun x => mParts x ≤ 1048576) (fun _ _ _ _ => rfl) toParts_m _ k x (in_list h) (by have := (show szL mParts x ≤ 1048576 from h); unfold szL at this; omega) hk, rfl⟩
theorem toCell_m (k : Nat) (x : S55) (h : mCell x ≤ 1048576) (hk : mCell x < k) : ∃ t, laws_toCell.f k x.f0 x.f1 = some t ∧ (⟨t.1, t.2⟩ : S60) = gCell x := by
  have g : mCell x = mPartss x.f0 + mPartss x.f1 := rfl
  obtain ⟨t0, e0, rfl⟩ := toPartss_m k x.f0 (by omega) (by omega)
  obtain ⟨t1, e1, rfl⟩ := toPartss_m k x.f1 (by omega) (by omega)
  refine ⟨(gPartss x.f0, gPartss x.f1), ?_, rfl⟩
  unfold laws_toCell.f
  rw [e0, Option.bind_some, e1, Option.bind_some]
theorem toCells_m (k : Nat) (x : List S55) (h : mCells x ≤ 1048576) (hk : mCells x < k) : ∃ t, laws_toCellS.f k x = some t ∧ t = gCells x :=
  ⟨_, to_list z55 z60 laws_toCellS.l0 (fun k x => laws_toCell.f k x.f0 x.f1) (fun t => ⟨t.1, t.2⟩) gCell mCell (fun x => mCell x ≤ 1048576) (fun _ _ _ _ => rfl) toCell_m _ k x (in_list h) (by have := (show szL mCell x ≤ 1048576 from h); unfold szL at this; omega) hk, rfl⟩

def gCellss : List (List S55) → List (List S60) := List.map gCells
theorem toCellss_m (k : Nat) (x : List (List S55)) (h : mCellss x ≤ 1048576) (hk : mCellss x < k) : ∃ t, laws_toCellSS.f k x = some t ∧ t = gCellss x :=
  ⟨_, to_list [] [] laws_toCellSS.l0 laws_toCellS.f (fun t => t) gCells mCells (fun x => mCells x ≤ 1048576) (fun _ _ _ _ => rfl) toCells_m _ k x (in_list h) (by have := (show szL mCells x ≤ 1048576 from h); unfold szL at this; omega) hk, rfl⟩
theorem toStore_m (k : Nat) (x : S25) (h : mStore x ≤ 1048576) (hk : mStore x < k) : laws_toStore.f k x.f0 x.f1 = some (x.f0, gCellss x.f1) := by
  have g : mStore x = x.f0.length + mCellss x.f1 := rfl
  obtain ⟨t1, e1, rfl⟩ := toCellss_m k x.f1 (by omega) (by omega)
  unfold laws_toStore.f
  rw [to_tells x.f0 (by omega) k (by omega), Option.bind_some, e1, Option.bind_some]

theorem eq_from (a b : List Int) (hl : a.length ≤ 9223372036854775806) (hab : a.length = b.length) (d : Nat) : ∀ (k i : Nat), i ≤ a.length → a.length - i = d → d < k →
    laws_eqIntS.l0 k a b (i : Int) = some (decide (a.drop i = b.drop i)) := by
  induction d with
  | zero =>
    intro k i hi' hd hk
    obtain ⟨k, rfl⟩ : ∃ m, k = m + 1 := ⟨k - 1, by omega⟩
    rw [List.drop_of_length_le (by omega), List.drop_of_length_le (by omega)]
    simp only [laws_eqIntS.l0]; rw [if_neg (by omega)]; simp
  | succ d ih =>
    intro k i hi' hd hk
    obtain ⟨k, rfl⟩ : ∃ m, k = m + 1 := ⟨k - 1, by omega⟩
    have hlt : i < a.length := by omega
    have hltb : i < b.length := by omega
    simp only [laws_eqIntS.l0]
    rw [if_pos (by omega), if_pos (by omega), if_pos (by omega), rd_get a i hlt, rd_get b i hltb, List.drop_eq_getElem_cons hlt, List.drop_eq_getElem_cons hltb]
    by_cases h : a[i] = b[i]
    · rw [if_pos h, w64 (by omega) (by omega), show ((i : Int) + 1) = ((i + 1 : Nat) : Int) by omega, ih k (i + 1) (by omega) (by omega) (by omega)]
      congr 1
      rw [decide_eq_decide]
      simp only [h, List.cons.injEq, true_and]
    · rw [if_neg h, decide_eq_false (fun e => h (List.cons.inj e).1)]
/-- laws.eqIntS: equal lists. -/
theorem eq_tells (a b : List Int) (hl : a.length ≤ 9223372036854775806) (k : Nat) (hk : a.length < k) : laws_eqIntS.f k a b = some (decide (a = b)) := by
  unfold laws_eqIntS.f
  by_cases h : a.length = b.length
  · rw [if_pos (by omega)]
    have := eq_from a b hl h a.length k 0 (by omega) (by omega) hk
    simpa using this
  · rw [if_neg (by omega), decide_eq_false]
    intro e; rw [e] at h; exact h rfl


theorem eqPart_tells (a b : Int) (x y : List Int) (hl : x.length ≤ 1048576) (k : Nat) (hk : x.length < k) : laws_eqPart.f k a x b y = some (decide (a = b) && decide (x = y)) := by
  unfold laws_eqPart.f
  by_cases h : a = b
  · rw [if_pos h, eq_tells x y (by omega) k hk, Option.bind_some, decide_eq_true h]
    by_cases g : x = y
    · rw [decide_eq_true g]; rfl
    · rw [decide_eq_false g]; rfl
  · rw [if_neg h, decide_eq_false h]; rfl
theorem eqPart_same (a : Int) (x : List Int) (hl : x.length ≤ 1048576) (k : Nat) (hk : x.length < k) : laws_eqPart.f k a x a x = some true := by
  rw [eqPart_tells a a x x hl k hk, decide_eq_true rfl, decide_eq_true rfl]; rfl

def iPart (x : S177) : Nat := x.f1.length
def iParts : List S177 → Nat := szL iPart
def iPartss : List (List S177) → Nat := szL iParts
def iCell (x : S60) : Nat := iPartss x.f0 + iPartss x.f1
def iCells : List S60 → Nat := szL iCell
theorem sumS_map {α β : Type} (g : α → β) (s : α → Nat) (t : β → Nat) (h : ∀ x, t (g x) = s x) : ∀ l : List α, sumS t (l.map g) = sumS s l
  | [] => rfl
  | x :: l => by rw [List.map_cons, sumS_cons, sumS_cons, h, sumS_map g s t h l]
theorem szL_map {α β : Type} (g : α → β) (s : α → Nat) (t : β → Nat) (h : ∀ x, t (g x) = s x) (l : List α) : szL t (l.map g) = szL s l := by unfold szL; rw [sumS_map g s t h, List.length_map]
theorem i_part (x : S194) : iPart (gPart x) = mPart x := rfl
theorem i_parts (x : List S194) : iParts (gParts x) = mParts x := szL_map gPart mPart iPart i_part x
theorem i_partss (x : List (List S194)) : iPartss (gPartss x) = mPartss x := szL_map gParts mParts iParts i_parts x
theorem i_cell (x : S55) : iCell (gCell x) = mCell x := by
  show iPartss (gPartss x.f0) + iPartss (gPartss x.f1) = mPartss x.f0 + mPartss x.f1; rw [i_partss, i_partss]
theorem i_cells (x : List S55) : iCells (gCells x) = mCells x := szL_map gCell mCell iCell i_cell x
theorem eqPart_i (k : Nat) (x : S177) (h : iPart x ≤ 1048576) (hk : iPart x < k) : laws_eqPart.f k x.f0 x.f1 x.f0 x.f1 = some true := eqPart_same x.f0 x.f1 h k hk
theorem eqParts_i (k : Nat) (x : List S177) (h : iParts x ≤ 1048576) (hk : iParts x < k) : laws_eqPartS.f k x x = some true :=
  eq_list z177 laws_eqPartS.l0 (fun k x => laws_eqPart.f k x.f0 x.f1 x.f0 x.f1) iPart (fun _ _ _ => rfl) k x (fun k y hy h' => eqPart_i k y ((in_list h).2 y hy) h') (in_list h).1 hk
theorem eqPartss_i (k : Nat) (x : List (List S177)) (h : iPartss x ≤ 1048576) (hk : iPartss x < k) : laws_eqPartSS.f k x x = some true :=
  eq_list [] laws_eqPartSS.l0 (fun k x => laws_eqPartS.f k x x) iParts (fun _ _ _ => rfl) k x (fun k y hy h' => eqParts_i k y ((in_list h).2 y hy) h') (in_list h).1 hk
theorem eqCell_i (k : Nat) (x : S60) (h : iCell x ≤ 1048576) (hk : iCell x < k) : laws_eqCell.f k x.f0 x.f1 x.f0 x.f1 = some true := by
  have g : iCell x = iPartss x.f0 + iPartss x.f1 := rfl
  unfold laws_eqCell.f
  rw [eqPartss_i k x.f0 (by omega) (by omega), Option.bind_some, if_pos rfl, eqPartss_i k x.f1 (by omega) (by omega), Option.bind_some, if_pos rfl]
theorem eqCells_i (k : Nat) (x : List S60) (h : iCells x ≤ 1048576) (hk : iCells x < k) : laws_eqCellS.f k x x = some true :=
  eq_list z60 laws_eqCellS.l0 (fun k x => laws_eqCell.f k x.f0 x.f1 x.f0 x.f1) iCell (fun _ _ _ => rfl) k x (fun k y hy h' => eqCell_i k y ((in_list h).2 y hy) h') (in_list h).1 hk

def iCellss : List (List S60) → Nat := szL iCells
theorem i_cellss (x : List (List S55)) : iCellss (gCellss x) = mCellss x := szL_map gCells mCells iCells i_cells x
theorem eqCellss_i (k : Nat) (x : List (List S60)) (h : iCellss x ≤ 1048576) (hk : iCellss x < k) : laws_eqCellSS.f k x x = some true :=
  eq_list [] laws_eqCellSS.l0 (fun k x => laws_eqCellS.f k x x) iCells (fun _ _ _ => rfl) k x (fun k y hy h' => eqCells_i k y ((in_list h).2 y hy) h') (in_list h).1 hk
theorem eqStore_i (k : Nat) (r : List Int) (x : List (List S60)) (h : r.length + iCellss x ≤ 1048576) (hk : r.length + iCellss x < k) : laws_eqStore.f k r x r x = some true := by
  unfold laws_eqStore.f
  rw [eq_tells r r (by omega) k (by omega), Option.bind_some, if_pos (by simp), eqCellss_i k x (by omega) (by omega), Option.bind_some, if_pos rfl]

def mTable (x : S35) : Nat := x.f0.length
theorem szTable_m (x : S35) (n : Int) (ok : okT35 x) (h0 : 0 ≤ n) (h1 : n ≤ 1048576) : laws_szTable.f x.f0 x.f1 n = lessS n (mTable x) :=
  sz_end (szInts_tells _ ok.1.1 n h0 h1) h0
theorem toTable_m (k : Nat) (x : S35) (h : mTable x ≤ 1048576) (hk : mTable x < k) : laws_toTable.f k x.f0 x.f1 = some (x.f0, x.f1) := by
  have g : mTable x = x.f0.length := rfl
  unfold laws_toTable.f
  rw [to_tells x.f0 (by omega) k (by omega), Option.bind_some]
theorem eqTable_i (k : Nat) (r : List Int) (c : Int) (h : r.length ≤ 1048576) (hk : r.length < k) : laws_eqTable.f k r c r c = some true := by
  unfold laws_eqTable.f
  rw [eq_tells r r (by omega) k hk, Option.bind_some, if_pos (by simp), if_pos rfl]

theorem FnExactTableOk : laws_FnExactTableOk.Pure := by
  intro x y hox hoy
  obtain ⟨k, hk⟩ : ∃ k : Nat, k = y.f0.length * (y.f0.length + 4) + 2 * y.f0.length + 4 * mStore x + 200 := ⟨_, rfl⟩
  refine ⟨k, ?_⟩
  unfold laws_FnExactTableOk.f
  refine sz_law (szStore_m k x 1048576 hox (by omega) (by omega) (by omega)) fun g => ?_
  refine sz_law (szTable_m y _ hoy (by omega) (by omega)) fun gy => ?_
  have g0 : mStore x = x.f0.length + mCellss x.f1 := rfl
  have gt : mTable y = y.f0.length := rfl
  have g1 : (gCellss x.f1).length ≤ mCellss x.f1 := by unfold gCellss mCellss szL; rw [List.length_map]; omega
  have g2 := i_cellss x.f1
  have hw := hoy.2
  have hw1 : -9223372036854775808 ≤ y.f1 ∧ y.f1 ≤ 9223372036854775807 := by
    have h : (decide ((-9223372036854775808 : Int) ≤ y.f1) && decide (y.f1 ≤ 9223372036854775807)) = true := hw
    rw [Bool.and_eq_true, decide_eq_true_eq, decide_eq_true_eq] at h; exact h
  rw [toStore_m k x (by omega) (by omega), Option.bind_some, toTable_m k y (by omega) (by omega), Option.bind_some, spec_table x.f0 (gCellss x.f1) y.f0 y.f1 (by omega) (by omega) (by omega) hw1.1 hw1.2 k (by omega), Option.bind_some, Option.bind_some, Option.bind_some, impl_table x.f0 (gCellss x.f1) y.f0 y.f1 (by omega) (by omega) (by omega) hw1.1 hw1.2 k (by omega), Option.bind_some, if_neg (by simp), Option.bind_some, eqStore_i k x.f0 (gCellss x.f1) (by omega) (by omega), Option.bind_some, if_pos rfl, Option.bind_some, eqTable_i k y.f0 y.f1 (by omega) (by omega), Option.bind_some, if_pos rfl]

end Go.Proofs.Ytigplfheldfciab.Pure
