/- The program's Vocab returns what the reference's Vocab returns, and leaves its argument alone, for all arguments. No conditions. -/
import Derived.Test.YtacbkcofcbglhaaGFnExactVocab1
namespace Go.Proofs.Ytacbkcofcbglhaa.Pure
open Go.RowKit Go.Proofs.Ytacbkcofcbglhaa.PFnExactVocab Go.Proofs.YtacbkcofcbglhaaW.PrintWords Go.Proofs.YtacbkcofcbglhaaW.PrintLast Go.Proofs.YtacbkcofcbglhaaW.PrintMore
set_option linter.unusedVariables false
set_option linter.unusedSimpArgs false

theorem w64 {i : Int} (h0 : -9223372036854775808 ≤ i) (h : i ≤ 9223372036854775807) : wrap64 i = i := by unfold wrap64; omega
theorem rd_get (l : List Int) (i : Nat) (h : i < l.length) : rd l (i : Int) = l[i] := by simp [rd, List.getD_eq_getElem?_getD, h]


theorem getD_int {α : Type} (l : List α) (z : α) (i : Nat) (h : i < l.length) : l.getD (i : Int).toNat z = l[i] := by simp [List.getD_eq_getElem?_getD, h]
/-- what the parts of a list come to. -/
def sumS {α : Type} (s : α → Nat) : List α → Nat
  | [] => 0
  | x :: l => s x + sumS s l
theorem sumS_le {α : Type} (s : α → Nat) : ∀ (l : List α) (x : α), x ∈ l → s x ≤ sumS s l
  | [], _, h => by cases h
  | y :: l, x, h => by
    have e : sumS s (y :: l) = s y + sumS s l := rfl
    rcases List.mem_cons.mp h with g | g
    · rw [g, e]; omega
    · have := sumS_le s l x g; rw [e]; omega
theorem sumS_cons {α : Type} (s : α → Nat) (x : α) (l : List α) : sumS s (x :: l) = s x + sumS s l := rfl
theorem sumS_append {α : Type} (s : α → Nat) : ∀ (l m : List α), sumS s (l ++ m) = sumS s l + sumS s m
  | [], m => by show sumS s m = 0 + sumS s m; omega
  | x :: l, m => by rw [List.cons_append, sumS_cons, sumS_cons, sumS_append s l m]; omega
theorem sumS_take {α : Type} (s : α → Nat) (z : α) (l : List α) (j : Nat) (h : j < l.length) : sumS s (l.take (j + 1)) = sumS s (l.take j) + s (l.getD (j : Int).toNat z) := by
  rw [List.take_succ_eq_append_getElem h, sumS_append, getD_int l z j h]; rfl
theorem sumS_take_le {α : Type} (s : α → Nat) (l : List α) (j : Nat) : sumS s (l.take j) ≤ sumS s l := by
  have := sumS_append s (l.take j) (l.drop j); rw [List.take_append_drop] at this; omega
/-- a list's size: its length and its parts'. -/
def szL {α : Type} (s : α → Nat) (l : List α) : Nat := l.length + sumS s l
/-- how a size is taken off: none is left, or the rest. -/
def lessS (n : Int) (s : Nat) : Option Int := some (if n < (s : Int) then -1 else n - (s : Int))
theorem sz_then {p : Option Int} {G : Int → Option Int} {n : Int} {a b : Nat} (h : p = lessS n a) (h0 : 0 ≤ n) (hG : (a : Int) ≤ n → G (n - a) = lessS (n - a) b) :
    (p.bind fun t => if t < 0 then some (-1) else G t) = lessS n (a + b) := by
  rw [h]; unfold lessS; rw [Option.bind_some]
  by_cases c : n < (a : Int)
  · rw [if_pos c, if_pos (by omega), if_pos (by omega)]
  · rw [if_neg c, if_neg (by omega), hG (by omega)]
    unfold lessS
    by_cases d : n - (a : Int) < (b : Int)
    · rw [if_pos d, if_pos (by omega)]
    · rw [if_neg d, if_neg (by omega)]; congr 1; omega
theorem sz_end {p : Option Int} {n : Int} {a : Nat} (h : p = lessS n a) (h0 : 0 ≤ n) : (p.bind fun t => if t < 0 then some (-1) else some t) = lessS n a := by
  have := sz_then (G := fun t => some t) (b := 0) h h0 (fun g => by unfold lessS; rw [if_neg (by omega)]; congr 1; omega)
  simpa using this
theorem sz_law {p : Option Int} {G : Int → Option Bool} {n : Int} {a : Nat} (h : p = lessS n a) (hG : (a : Int) ≤ n → G (n - a) = some true) :
    (p.bind fun t => if t < 0 then some true else G t) = some true := by
  rw [h]; unfold lessS; rw [Option.bind_some]
  by_cases c : n < (a : Int)
  · rw [if_pos c, if_pos (by omega)]
  · rw [if_neg c, if_neg (by omega), hG (by omega)]
section
variable {α : Type} (z : α) (F : Nat → List α → Int → Int → Option Int) (E : Nat → α → Int → Option Int) (s : α → Nat) (ok : α → Prop)
theorem sz_from (hF : ∀ k xs n i, F (k + 1) xs n i = if i < (xs.length : Int) then (if 0 ≤ i then ((E k (xs.getD i.toNat z) n).bind fun t => (if t < 0 then (some (-1)) else (F k xs t (wrap64 (i + 1))))) else none) else some n)
    (hE : ∀ k x n, ok x → s x < k → 0 ≤ n → n ≤ 1048576 → E k x n = lessS n (s x)) (xs : List α) (hl : xs.length ≤ 9223372036854775807) (hok : ∀ x ∈ xs, ok x) (d : Nat) :
    ∀ (k i : Nat) (n : Int), i ≤ xs.length → xs.length - i = d → d + sumS s (xs.drop i) < k → 0 ≤ n → n ≤ 1048576 → F k xs n (i : Int) = lessS n (sumS s (xs.drop i)) := by
  induction d with
  | zero =>
    intro k i n hi hd hk h0 h1
    obtain ⟨k, rfl⟩ : ∃ m, k = m + 1 := ⟨k - 1, by omega⟩
    rw [hF, if_neg (by omega), List.drop_of_length_le (by omega)]
    unfold lessS sumS; rw [if_neg (by omega)]; simp
  | succ d ih =>
    intro k i n hi hd hk h0 h1
    obtain ⟨k, rfl⟩ : ∃ m, k = m + 1 := ⟨k - 1, by omega⟩
    have hlt : i < xs.length := by omega
    rw [List.drop_eq_getElem_cons hlt, sumS_cons] at hk ⊢
    rw [hF, if_pos (by omega), if_pos (by omega), getD_int xs z i hlt]
    refine sz_then (hE k xs[i] n (hok _ (List.getElem_mem hlt)) (by omega) h0 h1) h0 fun g => ?_
    rw [w64 (by omega) (by omega), show ((i : Int) + 1) = ((i + 1 : Nat) : Int) by omega]
    exact ih k (i + 1) _ (by omega) (by omega) (by omega) (by omega) (by omega)
/-- the size of a list is taken off. -/
theorem sz_list (hF : ∀ k xs n i, F (k + 1) xs n i = if i < (xs.length : Int) then (if 0 ≤ i then ((E k (xs.getD i.toNat z) n).bind fun t => (if t < 0 then (some (-1)) else (F k xs t (wrap64 (i + 1))))) else none) else some n)
    (hE : ∀ k x n, ok x → s x < k → 0 ≤ n → n ≤ 1048576 → E k x n = lessS n (s x)) (k : Nat) (xs : List α) (n : Int) (hok : xs.length ≤ 9223372036854775807 ∧ ∀ x ∈ xs, ok x) (hk : szL s xs < k) (h0 : 0 ≤ n) (h1 : n ≤ 1048576) :
    (if (wrap64 (n - (xs.length : Int))) < 0 then (some (-1)) else (F k xs (wrap64 (n - (xs.length : Int))) 0)) = lessS n (szL s xs) := by
  have hl := hok.1
  rw [w64 (i := n - (xs.length : Int)) (by omega) (by omega)]
  unfold szL at hk ⊢
  by_cases c : n - (xs.length : Int) < 0
  · rw [if_pos c]; unfold lessS; rw [if_pos (by omega)]
  · rw [if_neg c]
    have := sz_from z F E s ok hF hE xs (by omega) hok.2 xs.length k 0 (n - xs.length) (by omega) (by omega) (by rw [List.drop_zero]; omega) (by omega) (by omega)
    rw [List.drop_zero] at this
    rw [show (0 : Int) = ((0 : Nat) : Int) from rfl, this]
    unfold lessS
    by_cases d : n - (xs.length : Int) < (sumS s xs : Int)
    · rw [if_pos d, if_pos (by omega)]
    · rw [if_neg d, if_neg (by omega)]; congr 1; omega
end
section
variable {α β γ : Type} (z : α) (zb : β) (F : Nat → List α → List β → Int → Option (List β)) (E : Nat → α → Option γ) (c : γ → β) (g : α → β) (s : α → Nat) (ok : α → Prop)
theorem to_from2 (hF : ∀ k xs ys i, F (k + 1) xs ys i = if i < (xs.length : Int) then (if 0 ≤ i then ((E k (xs.getD i.toNat z)).bind fun t => (if i < (ys.length : Int) then (F k xs (ys.set (i : Int).toNat (c t)) (wrap64 (i + 1))) else none)) else none) else some ys)
    (hE : ∀ k x, ok x → s x < k → ∃ t, E k x = some t ∧ c t = g x) (xs : List α) (hl : xs.length ≤ 9223372036854775807) (hok : ∀ x ∈ xs, ok x) (d : Nat) :
    ∀ (k i : Nat), i ≤ xs.length → xs.length - i = d → d + sumS s (xs.drop i) < k → F k xs ((xs.take i).map g ++ List.replicate (xs.length - i) zb) (i : Int) = some (xs.map g) := by
  induction d with
  | zero =>
    intro k i hi hd hk
    obtain ⟨k, rfl⟩ : ∃ m, k = m + 1 := ⟨k - 1, by omega⟩
    rw [hF, if_neg (by omega), List.take_of_length_le (by omega), hd]; simp
  | succ d ih =>
    intro k i hi hd hk
    obtain ⟨k, rfl⟩ : ∃ m, k = m + 1 := ⟨k - 1, by omega⟩
    have hlt : i < xs.length := by omega
    rw [List.drop_eq_getElem_cons hlt, sumS_cons] at hk
    obtain ⟨t, e1, e2⟩ := hE k xs[i] (hok _ (List.getElem_mem hlt)) (by omega)
    rw [hF, if_pos (by omega), if_pos (by omega), getD_int xs z i hlt, e1, Option.bind_some, if_pos (by simp; omega), w64 (by omega) (by omega), show ((i : Int) + 1) = ((i + 1 : Nat) : Int) by omega, e2]
    have e : ((xs.take i).map g ++ List.replicate (xs.length - i) zb).set (i : Int).toNat (g xs[i]) = (xs.take (i + 1)).map g ++ List.replicate (xs.length - (i + 1)) zb := by
      rw [Int.toNat_natCast, List.set_append_right _ _ (by simp; omega), show xs.length - i = (xs.length - (i + 1)) + 1 by omega, List.replicate_succ, List.length_map, List.length_take, Nat.min_eq_left (by omega), Nat.sub_self, List.set_cons_zero, List.take_succ_eq_append_getElem hlt, List.map_append, List.append_assoc]
      rfl
    rw [e]
    exact ih k (i + 1) (by omega) (by omega) (by omega)
/-- a list is turned into one of the other kind, part by part. -/
theorem to_list (hF : ∀ k xs ys i, F (k + 1) xs ys i = if i < (xs.length : Int) then (if 0 ≤ i then ((E k (xs.getD i.toNat z)).bind fun t => (if i < (ys.length : Int) then (F k xs (ys.set (i : Int).toNat (c t)) (wrap64 (i + 1))) else none)) else none) else some ys)
    (hE : ∀ k x, ok x → s x < k → ∃ t, E k x = some t ∧ c t = g x) (M : Nat) (k : Nat) (xs : List α) (hok : xs.length ≤ 9223372036854775807 ∧ ∀ x ∈ xs, ok x) (hM : xs.length ≤ M) (hk : szL s xs < k) :
    (if 0 ≤ (xs.length : Int) then (if ((xs.length : Int) : Int).toNat ≤ M then (F k xs (List.replicate ((xs.length : Int) : Int).toNat zb) 0) else none) else none) = some (xs.map g) := by
  rw [if_pos (by omega), if_pos (by omega), Int.toNat_natCast]
  unfold szL at hk
  have := to_from2 z zb F E c g s ok hF hE xs hok.1 hok.2 xs.length k 0 (by omega) (by omega) (by rw [List.drop_zero]; omega)
  simpa using this
end
section
variable {α : Type} (z : α) (F : Nat → List α → List α → Int → Option Bool) (E : Nat → α → Option Bool) (s : α → Nat)
theorem eq_from2 (hF : ∀ k xs i, F (k + 1) xs xs i = if i < (xs.length : Int) then (if 0 ≤ i then (if i < (xs.length : Int) then ((E k (xs.getD i.toNat z)).bind fun t => (if t = true then (F k xs xs (wrap64 (i + 1))) else (some false))) else none) else none) else some true)
    (xs : List α) (hE : ∀ k, ∀ x ∈ xs, s x < k → E k x = some true) (hl : xs.length ≤ 9223372036854775807) (d : Nat) :
    ∀ (k i : Nat), i ≤ xs.length → xs.length - i = d → d + sumS s (xs.drop i) < k → F k xs xs (i : Int) = some true := by
  induction d with
  | zero =>
    intro k i hi hd hk
    obtain ⟨k, rfl⟩ : ∃ m, k = m + 1 := ⟨k - 1, by omega⟩
    rw [hF, if_neg (by omega)]
  | succ d ih =>
    intro k i hi hd hk
    obtain ⟨k, rfl⟩ : ∃ m, k = m + 1 := ⟨k - 1, by omega⟩
    have hlt : i < xs.length := by omega
    rw [List.drop_eq_getElem_cons hlt, sumS_cons] at hk
    rw [hF, if_pos (by omega), if_pos (by omega), if_pos (by omega), getD_int xs z i hlt, hE k xs[i] (List.getElem_mem hlt) (by omega), Option.bind_some, if_pos rfl, w64 (by omega) (by omega), show ((i : Int) + 1) = ((i + 1 : Nat) : Int) by omega]
    exact ih k (i + 1) (by omega) (by omega) (by omega)
/-- a list is its own like, part by part. -/
theorem eq_list (hF : ∀ k xs i, F (k + 1) xs xs i = if i < (xs.length : Int) then (if 0 ≤ i then (if i < (xs.length : Int) then ((E k (xs.getD i.toNat z)).bind fun t => (if t = true then (F k xs xs (wrap64 (i + 1))) else (some false))) else none) else none) else some true)
    (k : Nat) (xs : List α) (hE : ∀ k, ∀ x ∈ xs, s x < k → E k x = some true) (hl : xs.length ≤ 9223372036854775807) (hk : szL s xs < k) :
    (if (xs.length : Int) = (xs.length : Int) then (F k xs xs 0) else (some false)) = some true := by
  rw [if_pos rfl]
  unfold szL at hk
  exact eq_from2 z F E s hF xs hE hl xs.length k 0 (by omega) (by omega) (by rw [List.drop_zero]; omega)
end

theorem szInts_tells (l : List Int) (hl : l.length ≤ 9223372036854775807) (n : Int) (h0 : 0 ≤ n) (h1 : n ≤ 1048576) : laws_szIntS.f l n = lessS n l.length := by
  unfold laws_szIntS.f lessS
  rw [w64 (i := n - (l.length : Int)) (by omega) (by omega)]
  by_cases c : n < (l.length : Int)
  · rw [if_pos c, if_pos (by omega)]
  · rw [if_neg c, if_neg (by omega)]

theorem to_from (l : List Int) (hl : l.length ≤ 9223372036854775806) (d : Nat) : ∀ (k i : Nat), i ≤ l.length → l.length - i = d → d < k →
    laws_toIntS.l0 k l (l.take i ++ List.replicate (l.length - i) 0) (i : Int) = some l := by
  induction d with
  | zero =>
    intro k i hi' hd hk
    obtain ⟨k, rfl⟩ : ∃ m, k = m + 1 := ⟨k - 1, by omega⟩
    simp only [laws_toIntS.l0]; rw [if_neg (by omega), List.take_of_length_le (by omega), hd]; simp
  | succ d ih =>
    intro k i hi' hd hk
    obtain ⟨k, rfl⟩ : ∃ m, k = m + 1 := ⟨k - 1, by omega⟩
    have hlt : i < l.length := by omega
    simp only [laws_toIntS.l0]
    rw [if_pos (by omega), if_pos (by omega), if_pos (by simp; omega), rd_get l i hlt, w64 (by omega) (by omega), show ((i : Int) + 1) = ((i + 1 : Nat) : Int) by omega]
    have e : (l.take i ++ List.replicate (l.length - i) (0 : Int)).set (i : Int).toNat l[i] = l.take (i + 1) ++ List.replicate (l.length - (i + 1)) 0 := by
      rw [Int.toNat_natCast, List.set_append_right _ _ (by simp; omega), show l.length - i = (l.length - (i + 1)) + 1 by omega, List.replicate_succ, List.length_take, Nat.min_eq_left (by omega), Nat.sub_self, List.set_cons_zero, List.take_succ_eq_append_getElem hlt, List.append_assoc]
      rfl
    rw [e]
    exact ih k (i + 1) (by omega) (by omega) (by omega)
/-- laws.toIntS: a copy. -/
theorem to_tells (l : List Int) (hl : l.length ≤ 35184372088832) (k : Nat) (hk : l.length < k) : laws_toIntS.f k l = some l := by
  unfold laws_toIntS.f
  rw [if_pos (by omega), if_pos (by simpa using hl), Int.toNat_natCast]
  have := to_from l (by omega) l.length k 0 (by omega) (by omega) hk
  simpa using this


theorem eq_from (a b : List Int) (hl : a.length ≤ 9223372036854775806) (hab : a.length = b.length) (d : Nat) : ∀ (k i : Nat), i ≤ a.length → a.length - i = d → d < k →
    laws_eqIntS.l0 k a b (i : Int) = some (decide (a.drop i = b.drop i)) := by
  induction d with
  | zero =>
    intro k i hi' hd hk
    obtain ⟨k, rfl⟩ : ∃ m, k = m + 1 := ⟨k - 1, by omega⟩
    rw [List.drop_of_length_le (by omega), List.drop_of_length_le (by omega)]
    simp only [laws_eqIntS.l0]; rw [if_neg (by omega)]; simp
  | succ d ih =>
    intro k i hi' hd hk
    obtain ⟨k, rfl⟩ : ∃ m, k = m + 1 := ⟨k - 1, by omega⟩
    have hlt : i < a.length := by omega
    have hltb : i < b.length := by omega
    simp only [laws_eqIntS.l0]
    rw [if_pos (by omega), if_pos (by omega), if_pos (by omega), rd_get a i hlt, rd_get b i hltb, List.drop_eq_getElem_cons hlt, List.drop_eq_getElem_cons hltb]
    by_cases h : a[i] = b[i]
    · rw [if_pos h, w64 (by omega) (by omega), show ((i : Int) + 1) = ((i + 1 : Nat) : Int) by omega, ih k (i + 1) (by omega) (by omega) (by omega)]
      congr 1
      rw [decide_eq_decide]
      simp only [h, List.cons.injEq, true_and]
    · rw [if_neg h, decide_eq_false (fun e => h (List.cons.inj e).1)]
/-- laws.eqIntS: equal lists. -/
theorem eq_tells (a b : List Int) (hl : a.length ≤ 9223372036854775806) (k : Nat) (hk : a.length < k) : laws_eqIntS.f k a b = some (decide (a = b)) := by
  unfold laws_eqIntS.f
  by_cases h : a.length = b.length
  · rw [if_pos (by omega)]
    have := eq_from a b hl h a.length k 0 (by omega) (by omega) hk
    simpa using this
  · rw [if_neg (by omega), decide_eq_false]
    intro e; rw [e] at h; exact h rfl


def mIntss : List (List Int) → Nat := szL (fun l => l.length)
theorem eqIntSS_same (k : Nat) (x : List (List Int)) (h : mIntss x ≤ 9000000) (hk : mIntss x < k) : laws_eqIntSS.f k x x = some true :=
  eq_list [] laws_eqIntSS.l0 (fun k x => laws_eqIntS.f k x x) (fun l => l.length) (fun _ _ _ => rfl) k x (fun k y hy h' => by
    have := sumS_le (fun l : List Int => l.length) x y hy
    have e : mIntss x = x.length + sumS (fun l => l.length) x := rfl
    rw [eq_tells y y (by omega) k h', decide_eq_true rfl]) (by have e : mIntss x = x.length + sumS (fun l => l.length) x := rfl; omega) hk

theorem mIntss_eq (x : List (List Int)) : mIntss x = x.length + sumS (fun l => l.length) x := rfl
theorem sumS_map_sum (x : List (List Int)) : sumS (fun l : List Int => l.length) x = (x.map List.length).sum := by
  induction x with
  | nil => rfl
  | cons a x ih => rw [sumS_cons, ih, List.map_cons, List.sum_cons]


theorem szIntSS_less (k : Nat) (x : List (List Int)) (n : Int) (hx : x.length ≤ 9223372036854775807) (hxx : ∀ y ∈ x, y.length ≤ 9223372036854775807) (hk : mIntss x < k) (h0 : 0 ≤ n) (h1 : n ≤ 1048576) : laws_szIntSS.f k x n = lessS n (mIntss x) :=
  sz_list [] laws_szIntSS.l0 (fun _ y n => laws_szIntS.f y n) (fun l => l.length) (fun y => y.length ≤ 9223372036854775807) (fun _ _ _ _ => rfl) (fun _ y n hy _ h0 h1 => by
    unfold laws_szIntS.f lessS
    rw [w64 (by omega) (by omega)]
    by_cases c : n - (y.length : Int) < 0
    · rw [if_pos c, if_pos (by omega)]
    · rw [if_neg c, if_neg (by omega)]) k x n ⟨hx, hxx⟩ hk h0 h1
theorem toIntSS_same (k : Nat) (x : List (List Int)) (h : mIntss x ≤ 9000000) (hk : mIntss x < k) : laws_toIntSS.f k x = some x := by
  have e := mIntss_eq x
  have := to_list [] [] laws_toIntSS.l0 (fun k y => laws_toIntS.f k y) id id (fun l : List Int => l.length) (fun y => y.length ≤ 9000000) (fun _ _ _ _ => rfl) (fun k y hy h' => ⟨y, to_tells y (by omega) k h', rfl⟩) 11728124029610 k x ⟨by omega, fun y hy => by have := sumS_le (fun l : List Int => l.length) x y hy; omega⟩ (by omega) hk
  unfold laws_toIntSS.f
  rw [List.map_id] at this
  exact this

def mMerges (x : List S129) : Nat := x.length
def mMatrix (x : S27) : Nat := mIntss x.f1 + mIntss x.f2
def mTurns (x : S29) : Nat := mIntss x.f0 + mIntss x.f1
def mLayer (x : S44) : Nat := x.f0.length + (mMatrix x.f1 + (mMatrix x.f2 + (mMatrix x.f3 + (mMatrix x.f4 + (x.f5.length + (mMatrix x.f6 + mMatrix x.f7))))))
def mLayers : List S44 → Nat := szL mLayer
def mModel (x : S31) : Nat := mMerges x.f3 + (mIntss x.f4 + (mLayers x.f5 + (x.f6.length + (mMatrix x.f7 + mTurns x.f8))))
def gMerge (x : S129) : S112 := ⟨x.f0, x.f1⟩
def gMerges : List S129 → List S112 := List.map gMerge
def gMatrix (x : S27) : S36 := ⟨x.f0, x.f1, x.f2, x.f3, x.f4⟩
def gLayer (x : S44) : S48 := ⟨x.f0, gMatrix x.f1, gMatrix x.f2, gMatrix x.f3, gMatrix x.f4, x.f5, gMatrix x.f6, gMatrix x.f7⟩
def gLayers : List S44 → List S48 := List.map gLayer
/-- what is left of n when s is taken off. -/
def lessV (n : Int) (s : Nat) : Int := if n < (s : Int) then -1 else n - (s : Int)
theorem lessV_lt {n : Int} {s : Nat} (h : n < (s : Int)) : lessV n s = -1 := if_pos h
theorem lessV_ge {n : Int} {s : Nat} (h : ¬ n < (s : Int)) : lessV n s = n - (s : Int) := if_neg h
theorem szIntss_ok (k : Nat) (x : List (List Int)) (n : Int) (ok : okT23 x) (hk : mIntss x < k) (h0 : 0 ≤ n) (h1 : n ≤ 1048576) : laws_szIntSS.f k x n = lessS n (mIntss x) :=
  szIntSS_less k x n ok.1 (fun y hy => (ok.2 y hy).1) hk h0 h1
theorem szMerges_m (x : List S129) (n : Int) (hl : x.length ≤ 9223372036854775807) (h0 : 0 ≤ n) (h1 : n ≤ 1048576) : laws_szMergeS.f x n = lessS n (mMerges x) := by
  unfold laws_szMergeS.f lessS mMerges
  rw [w64 (i := n - (x.length : Int)) (by omega) (by omega)]
  by_cases c : n < (x.length : Int)
  · rw [if_pos c, if_pos (by omega)]
  · rw [if_neg c, if_neg (by omega)]
theorem szMatrix_m (k : Nat) (x : S27) (n : Int) (ok : okT27 x) (hk : mMatrix x < k) (h0 : 0 ≤ n) (h1 : n ≤ 1048576) : laws_szMatrix.f k x.f0 x.f1 x.f2 x.f3 x.f4 n = lessS n (mMatrix x) := by
  have h : mMatrix x = mIntss x.f1 + mIntss x.f2 := rfl
  exact sz_then (szIntss_ok k x.f1 n ok.2.1 (by omega) h0 h1) h0 fun g => sz_end (szIntss_ok k x.f2 _ ok.2.2.1 (by omega) (by omega) (by omega)) (by omega)
theorem szTurns_m (k : Nat) (x : S29) (n : Int) (ok : okT29 x) (hk : mTurns x < k) (h0 : 0 ≤ n) (h1 : n ≤ 1048576) : laws_szTurns.f k x.f0 x.f1 n = lessS n (mTurns x) := by
  have h : mTurns x = mIntss x.f0 + mIntss x.f1 := rfl
  exact sz_then (szIntss_ok k x.f0 n ok.1 (by omega) h0 h1) h0 fun g => sz_end (szIntss_ok k x.f1 _ ok.2 (by omega) (by omega) (by omega)) (by omega)
theorem toMerges_m (k : Nat) (x : List S129) (h : mMerges x ≤ 1048576) (hk : mMerges x < k) : laws_toMergeS.f k x = some (gMerges x) := by
  have e : szL (fun _ : S129 => 0) x = x.length := by
    have : ∀ l : List S129, sumS (fun _ => 0) l = 0 := fun l => by induction l with | nil => rfl | cons a l ih => rw [sumS_cons, ih]
    unfold szL; rw [this]; rfl
  unfold mMerges at h hk
  exact to_list z129 z112 laws_toMergeS.l0 (fun _ x => laws_toMerge.f x.f0 x.f1) (fun t => ⟨t.1, t.2⟩) gMerge (fun _ => 0) (fun _ => True) (fun _ _ _ _ => rfl) (fun _ x _ _ => ⟨(x.f0, x.f1), rfl, rfl⟩) _ k x ⟨by omega, fun _ _ => trivial⟩ (by omega) (by omega)
theorem toMatrix_m (k : Nat) (x : S27) (h : mMatrix x ≤ 1048576) (hk : mMatrix x < k) : laws_toMatrix.f k x.f0 x.f1 x.f2 x.f3 x.f4 = some (x.f0, x.f1, x.f2, x.f3, x.f4) := by
  have g : mMatrix x = mIntss x.f1 + mIntss x.f2 := rfl
  unfold laws_toMatrix.f
  rw [toIntSS_same k x.f1 (by omega) (by omega), Option.bind_some, toIntSS_same k x.f2 (by omega) (by omega), Option.bind_some]
theorem toTurns_m (k : Nat) (x : S29) (h : mTurns x ≤ 1048576) (hk : mTurns x < k) : laws_toTurns.f k x.f0 x.f1 = some (x.f0, x.f1) := by
  have g : mTurns x = mIntss x.f0 + mIntss x.f1 := rfl
  unfold laws_toTurns.f
  rw [toIntSS_same k x.f0 (by omega) (by omega), Option.bind_some, toIntSS_same k x.f1 (by omega) (by omega), Option.bind_some]
def iMatrix (x : S36) : Nat := mIntss x.f1 + mIntss x.f2
def iLayer (x : S48) : Nat := x.f0.length + (iMatrix x.f1 + (iMatrix x.f2 + (iMatrix x.f3 + (iMatrix x.f4 + (x.f5.length + (iMatrix x.f6 + iMatrix x.f7))))))
def iLayers : List S48 → Nat := szL iLayer
theorem sumS_map' {α β : Type} (g : α → β) (s : α → Nat) (t : β → Nat) (h : ∀ x, t (g x) = s x) : ∀ l : List α, sumS t (l.map g) = sumS s l
  | [] => rfl
  | x :: l => by rw [List.map_cons, sumS_cons, sumS_cons, h, sumS_map' g s t h l]
theorem i_layer (x : S44) : iLayer (gLayer x) = mLayer x := rfl
theorem i_layers (x : List S44) : iLayers (gLayers x) = mLayers x := by unfold iLayers mLayers gLayers szL; rw [sumS_map' gLayer mLayer iLayer i_layer, List.length_map]
theorem eqMatrix_i (k : Nat) (x : S36) (h : iMatrix x ≤ 1048576) (hk : iMatrix x < k) : laws_eqMatrix.f k x.f0 x.f1 x.f2 x.f3 x.f4 x.f0 x.f1 x.f2 x.f3 x.f4 = some true := by
  have g : iMatrix x = mIntss x.f1 + mIntss x.f2 := rfl
  unfold laws_eqMatrix.f
  rw [if_pos rfl, eqIntSS_same k x.f1 (by omega) (by omega), Option.bind_some, if_pos rfl, eqIntSS_same k x.f2 (by omega) (by omega), Option.bind_some, if_pos rfl, if_pos rfl, if_pos rfl]
theorem eqTurns_i (k : Nat) (p q : List (List Int)) (h : mIntss p + mIntss q ≤ 1048576) (hk : mIntss p + mIntss q < k) : laws_eqTurns.f k p q p q = some true := by
  unfold laws_eqTurns.f
  rw [eqIntSS_same k p (by omega) (by omega), Option.bind_some, if_pos rfl, eqIntSS_same k q (by omega) (by omega), Option.bind_some, if_pos rfl]
theorem eqInts_i (k : Nat) (x : List Int) (h : x.length ≤ 1048576) (hk : x.length < k) : laws_eqIntS.f k x x = some true := by rw [eq_tells x x (by omega) k hk, decide_eq_true rfl]
theorem eqMerges_i (k : Nat) (x : List S112) (h : x.length ≤ 1048576) (hk : x.length < k) : laws_eqMergeS.f k x x = some true := by
  have e : szL (fun _ : S112 => 0) x = x.length := by
    have : ∀ l : List S112, sumS (fun _ => 0) l = 0 := fun l => by induction l with | nil => rfl | cons a l ih => rw [sumS_cons, ih]
    unfold szL; rw [this]; rfl
  exact eq_list z112 laws_eqMergeS.l0 (fun _ x => laws_eqMerge.f x.f0 x.f1 x.f0 x.f1) (fun _ => 0) (fun _ _ _ => rfl) k x (fun k y _ _ => by unfold laws_eqMerge.f; rw [if_pos rfl, if_pos rfl]) (by omega) (by omega)

theorem szLayer_g (k : Nat) (x : S44) (n : Int) (ok : okT44 x) (hk : mLayer x < k) (h0 : 0 ≤ n) (h1 : n ≤ 1048576) : laws_szLayer.g k x n = lessS n (mLayer x) := by
  have h : mLayer x = x.f0.length + (mMatrix x.f1 + (mMatrix x.f2 + (mMatrix x.f3 + (mMatrix x.f4 + (x.f5.length + (mMatrix x.f6 + mMatrix x.f7)))))) := rfl
  obtain ⟨o0, o1, o2, o3, o4, o5, o6, o7⟩ := ok
  unfold laws_szLayer.g
  rw [h]
  exact sz_then (szInts_tells x.f0 o0.1 n h0 h1) h0 fun g0 => sz_then (szMatrix_m k x.f1 _ o1 (by omega) (by omega) (by omega)) (by omega) fun g1 => sz_then (szMatrix_m k x.f2 _ o2 (by omega) (by omega) (by omega)) (by omega) fun g2 =>
    sz_then (szMatrix_m k x.f3 _ o3 (by omega) (by omega) (by omega)) (by omega) fun g3 => sz_then (szMatrix_m k x.f4 _ o4 (by omega) (by omega) (by omega)) (by omega) fun g4 => sz_then (szInts_tells x.f5 o5.1 _ (by omega) (by omega)) (by omega) fun g5 =>
    sz_then (szMatrix_m k x.f6 _ o6 (by omega) (by omega) (by omega)) (by omega) fun g6 => sz_end (szMatrix_m k x.f7 _ o7 (by omega) (by omega) (by omega)) (by omega)
theorem szLayers_from (l : List S44) (hl : l.length ≤ 9223372036854775807) (hok : ∀ x ∈ l, okT44 x) (d : Nat) : ∀ (k i : Nat) (n : Int), i ≤ l.length → l.length - i = d → d + sumS mLayer (l.drop i) < k → 0 ≤ n → n ≤ 1048576 →
    (laws_szLayerS.l0 l k n (i : Int)).bind (fun o => match o with | .inl r_ => some r_ | .inr ⟨a, _⟩ => some a) = lessS n (sumS mLayer (l.drop i)) := by
  induction d with
  | zero =>
    intro k i n hi hd hk h0 h1
    obtain ⟨k, rfl⟩ : ∃ m, k = m + 1 := ⟨k - 1, by omega⟩
    rw [List.drop_of_length_le (by omega)]
    unfold laws_szLayerS.l0 laws_szLayerS.b0
    rw [if_neg (by omega)]
    show some n = some (if n < 0 then -1 else n - 0)
    rw [if_neg (by omega)]; simp
  | succ d ih =>
    intro k i n hi hd hk h0 h1
    obtain ⟨k, rfl⟩ : ∃ m, k = m + 1 := ⟨k - 1, by omega⟩
    have hlt : i < l.length := by omega
    rw [List.drop_eq_getElem_cons hlt, sumS_cons] at hk ⊢
    unfold laws_szLayerS.l0 laws_szLayerS.b0
    rw [if_pos (by omega), if_pos (by omega), getD_int l _ i hlt, szLayer_g k l[i] n (hok _ (List.getElem_mem hlt)) (by omega) h0 h1]
    unfold lessS
    rw [Option.bind_some]
    by_cases c : n < (mLayer l[i] : Int)
    · rw [if_pos c, if_pos (by omega), if_pos (by omega)]; rfl
    · rw [if_neg c, if_neg (by omega), w64 (by omega) (by omega), show ((i : Int) + 1) = ((i + 1 : Nat) : Int) by omega, ih k (i + 1) _ (by omega) (by omega) (by omega) (by omega) (by omega)]
      unfold lessS
      by_cases e : n - (mLayer l[i] : Int) < (sumS mLayer (l.drop (i + 1)) : Int)
      · rw [if_pos e, if_pos (by omega)]
      · rw [if_neg e, if_neg (by omega)]; congr 1; omega
theorem szLayers_g (k : Nat) (l : List S44) (n : Int) (ok : okT24 l) (hk : mLayers l < k) (h0 : 0 ≤ n) (h1 : n ≤ 1048576) : laws_szLayerS.g k l n = lessS n (mLayers l) := by
  have hl := ok.1
  unfold mLayers szL at hk ⊢
  unfold laws_szLayerS.g
  rw [w64 (i := n - (l.length : Int)) (by omega) (by omega)]
  by_cases c : n - (l.length : Int) < 0
  · rw [if_pos c]; unfold lessS; rw [if_pos (by omega)]
  · rw [if_neg c]
    have := szLayers_from l hl ok.2 l.length k 0 (n - l.length) (by omega) (by omega) (by rw [List.drop_zero]; omega) (by omega) (by omega)
    rw [List.drop_zero] at this
    rw [show (0 : Int) = ((0 : Nat) : Int) from rfl]
    refine this.trans ?_
    unfold lessS
    by_cases e : n - (l.length : Int) < (sumS mLayer l : Int)
    · rw [if_pos e, if_pos (by omega)]
    · rw [if_neg e, if_neg (by omega)]; congr 1; omega
theorem szModel_g (k : Nat) (x : S31) (n : Int) (ok : okT31 x) (hk : mModel x < k) (h0 : 0 ≤ n) (h1 : n ≤ 1048576) : laws_szModel.g k x n = lessS n (mModel x) := by
  have h : mModel x = mMerges x.f3 + (mIntss x.f4 + (mLayers x.f5 + (x.f6.length + (mMatrix x.f7 + mTurns x.f8)))) := rfl
  obtain ⟨o0, o1, o2, o3, o4, o5, o6, o7, o8⟩ := ok
  unfold laws_szModel.g
  rw [h]
  exact sz_then (szMerges_m x.f3 n o3.1 h0 h1) h0 fun g0 => sz_then (szIntss_ok k x.f4 _ o4 (by omega) (by omega) (by omega)) (by omega) fun g1 => sz_then (szLayers_g k x.f5 _ o5 (by omega) (by omega) (by omega)) (by omega) fun g2 =>
    sz_then (szInts_tells x.f6 o6.1 _ (by omega) (by omega)) (by omega) fun g3 => sz_then (szMatrix_m k x.f7 _ o7 (by omega) (by omega) (by omega)) (by omega) fun g4 => sz_end (szTurns_m k x.f8 _ o8 (by omega) (by omega) (by omega)) (by omega)
theorem toLayer_g (k : Nat) (x : S44) (h : mLayer x ≤ 1048576) (hk : mLayer x < k) : laws_toLayer.g k x = some (gLayer x) := by
  have g : mLayer x = x.f0.length + (mMatrix x.f1 + (mMatrix x.f2 + (mMatrix x.f3 + (mMatrix x.f4 + (x.f5.length + (mMatrix x.f6 + mMatrix x.f7)))))) := rfl
  unfold laws_toLayer.g
  rw [to_tells x.f0 (by omega) k (by omega), Option.bind_some, toMatrix_m k x.f1 (by omega) (by omega), Option.bind_some, toMatrix_m k x.f2 (by omega) (by omega), Option.bind_some, toMatrix_m k x.f3 (by omega) (by omega), Option.bind_some, toMatrix_m k x.f4 (by omega) (by omega), Option.bind_some,
    to_tells x.f5 (by omega) k (by omega), Option.bind_some, toMatrix_m k x.f6 (by omega) (by omega), Option.bind_some, toMatrix_m k x.f7 (by omega) (by omega), Option.bind_some]
  rfl
theorem toLayers_from (l : List S44) (hl : l.length ≤ 9223372036854775807) (hs : ∀ x ∈ l, mLayer x ≤ 1048576) (d : Nat) : ∀ (k i : Nat), i ≤ l.length → l.length - i = d → d + sumS mLayer (l.drop i) < k →
    ∃ j, laws_toLayerS.l0 l k (i : Int) ((l.take i).map gLayer ++ List.replicate (l.length - i) o48) = some (j, l.map gLayer) := by
  induction d with
  | zero =>
    intro k i hi hd hk
    obtain ⟨k, rfl⟩ : ∃ m, k = m + 1 := ⟨k - 1, by omega⟩
    unfold laws_toLayerS.l0 laws_toLayerS.b0
    rw [if_neg (by omega), List.take_of_length_le (by omega), hd]; simp
  | succ d ih =>
    intro k i hi hd hk
    obtain ⟨k, rfl⟩ : ∃ m, k = m + 1 := ⟨k - 1, by omega⟩
    have hlt : i < l.length := by omega
    rw [List.drop_eq_getElem_cons hlt, sumS_cons] at hk
    unfold laws_toLayerS.l0 laws_toLayerS.b0
    rw [if_pos (by omega), if_pos (by omega), getD_int l _ i hlt, toLayer_g k l[i] (hs _ (List.getElem_mem hlt)) (by omega), Option.bind_some, if_pos (by simp; omega), w64 (by omega) (by omega), show ((i : Int) + 1) = ((i + 1 : Nat) : Int) by omega]
    have e : ((l.take i).map gLayer ++ List.replicate (l.length - i) o48).set (i : Int).toNat (gLayer l[i]) = (l.take (i + 1)).map gLayer ++ List.replicate (l.length - (i + 1)) o48 := by
      rw [Int.toNat_natCast, List.set_append_right _ _ (by simp; omega), show l.length - i = (l.length - (i + 1)) + 1 by omega, List.replicate_succ, List.length_map, List.length_take, Nat.min_eq_left (by omega), Nat.sub_self, List.set_cons_zero, List.take_succ_eq_append_getElem hlt, List.map_append, List.append_assoc]
      rfl
    rw [e]
    exact ih k (i + 1) (by omega) (by omega) (by omega)
theorem toLayers_g (k : Nat) (l : List S44) (h : mLayers l ≤ 1048576) (hk : mLayers l < k) : laws_toLayerS.g k l = some (gLayers l) := by
  unfold mLayers szL at h hk
  obtain ⟨j, e⟩ := toLayers_from l (by omega) (fun x hx => by have := sumS_le mLayer l x hx; omega) l.length k 0 (by omega) (by omega) (by rw [List.drop_zero]; omega)
  unfold laws_toLayerS.g
  rw [if_pos ⟨by omega, by omega⟩, Int.toNat_natCast]
  simp only [List.take_zero, List.map_nil, List.nil_append, Nat.sub_zero] at e
  rw [show (0 : Int) = ((0 : Nat) : Int) from rfl, e]; rfl
def gModel (x : S31) : S39 := ⟨x.f0, x.f1, x.f2, gMerges x.f3, x.f4, gLayers x.f5, x.f6, gMatrix x.f7, ⟨x.f8.f0, x.f8.f1⟩⟩
theorem toModel_g (k : Nat) (x : S31) (h : mModel x ≤ 1048576) (hk : mModel x < k) : laws_toModel.g k x = some (gModel x) := by
  have g : mModel x = mMerges x.f3 + (mIntss x.f4 + (mLayers x.f5 + (x.f6.length + (mMatrix x.f7 + mTurns x.f8)))) := rfl
  unfold laws_toModel.g
  rw [toMerges_m k x.f3 (by omega) (by omega), Option.bind_some, toIntSS_same k x.f4 (by omega) (by omega), Option.bind_some, toLayers_g k x.f5 (by omega) (by omega), Option.bind_some, to_tells x.f6 (by omega) k (by omega), Option.bind_some,
    toMatrix_m k x.f7 (by omega) (by omega), Option.bind_some, toTurns_m k x.f8 (by omega) (by omega), Option.bind_some]
  rfl
theorem eqLayer_g (k : Nat) (x : S48) (h : iLayer x ≤ 1048576) (hk : iLayer x < k) : laws_eqLayer.g k x x = some true := by
  have g : iLayer x = x.f0.length + (iMatrix x.f1 + (iMatrix x.f2 + (iMatrix x.f3 + (iMatrix x.f4 + (x.f5.length + (iMatrix x.f6 + iMatrix x.f7)))))) := rfl
  unfold laws_eqLayer.g
  rw [eqInts_i k x.f0 (by omega) (by omega), Option.bind_some, if_pos rfl, eqMatrix_i k x.f1 (by omega) (by omega), Option.bind_some, if_pos rfl, eqMatrix_i k x.f2 (by omega) (by omega), Option.bind_some, if_pos rfl, eqMatrix_i k x.f3 (by omega) (by omega), Option.bind_some, if_pos rfl,
    eqMatrix_i k x.f4 (by omega) (by omega), Option.bind_some, if_pos rfl, eqInts_i k x.f5 (by omega) (by omega), Option.bind_some, if_pos rfl, eqMatrix_i k x.f6 (by omega) (by omega), Option.bind_some, if_pos rfl, eqMatrix_i k x.f7 (by omega) (by omega), Option.bind_some, if_pos rfl]
theorem eqLayers_from (l : List S48) (hl : l.length ≤ 9223372036854775807) (hs : ∀ x ∈ l, iLayer x ≤ 1048576) (d : Nat) : ∀ (k i : Nat), i ≤ l.length → l.length - i = d → d + sumS iLayer (l.drop i) < k →
    ∃ j, laws_eqLayerS.l0 l l k (i : Int) = some (.inr j) := by
  induction d with
  | zero =>
    intro k i hi hd hk
    obtain ⟨k, rfl⟩ : ∃ m, k = m + 1 := ⟨k - 1, by omega⟩
    unfold laws_eqLayerS.l0 laws_eqLayerS.b0
    rw [if_neg (by omega)]; exact ⟨_, rfl⟩
  | succ d ih =>
    intro k i hi hd hk
    obtain ⟨k, rfl⟩ : ∃ m, k = m + 1 := ⟨k - 1, by omega⟩
    have hlt : i < l.length := by omega
    rw [List.drop_eq_getElem_cons hlt, sumS_cons] at hk
    unfold laws_eqLayerS.l0 laws_eqLayerS.b0
    rw [if_pos (by omega), if_pos (by omega), if_pos (by omega), getD_int l _ i hlt, eqLayer_g k l[i] (hs _ (List.getElem_mem hlt)) (by omega), Option.bind_some, if_pos rfl, w64 (by omega) (by omega), show ((i : Int) + 1) = ((i + 1 : Nat) : Int) by omega]
    exact ih k (i + 1) (by omega) (by omega) (by omega)
theorem eqLayers_g (k : Nat) (l : List S48) (h : iLayers l ≤ 1048576) (hk : iLayers l < k) : laws_eqLayerS.g k l l = some true := by
  unfold iLayers szL at h hk
  obtain ⟨j, e⟩ := eqLayers_from l (by omega) (fun x hx => by have := sumS_le iLayer l x hx; omega) l.length k 0 (by omega) (by omega) (by rw [List.drop_zero]; omega)
  unfold laws_eqLayerS.g
  rw [if_pos rfl, show (0 : Int) = ((0 : Nat) : Int) from rfl, e]; rfl
def iModel (x : S39) : Nat := x.f3.length + (mIntss x.f4 + (iLayers x.f5 + (x.f6.length + (iMatrix x.f7 + (mIntss x.f8.f0 + mIntss x.f8.f1)))))
theorem i_model (x : S31) : iModel (gModel x) = mModel x := by
  show (x.f3.map gMerge).length + (mIntss x.f4 + (iLayers (gLayers x.f5) + (x.f6.length + (mMatrix x.f7 + mTurns x.f8)))) = _
  rw [i_layers, List.length_map]; rfl
theorem eqModel_g (k : Nat) (x : S39) (h : iModel x ≤ 1048576) (hk : iModel x < k) : laws_eqModel.g k x x = some true := by
  unfold iModel at h hk
  unfold laws_eqModel.g
  rw [if_pos rfl, if_pos rfl, if_pos rfl, eqMerges_i k x.f3 (by omega) (by omega), Option.bind_some, if_pos rfl, eqIntSS_same k x.f4 (by omega) (by omega), Option.bind_some, if_pos rfl, eqLayers_g k x.f5 (by omega) (by omega), Option.bind_some, if_pos rfl,
    eqInts_i k x.f6 (by omega) (by omega), Option.bind_some, if_pos rfl, eqMatrix_i k x.f7 (by omega) (by omega), Option.bind_some, if_pos rfl, eqTurns_i k x.f8.f0 x.f8.f1 (by omega) (by omega), Option.bind_some, if_pos rfl]

theorem FnExactVocab : laws_FnExactVocab.Pure := by
  intro x ok
  obtain ⟨k, hk⟩ : ∃ k : Nat, k = mModel x + 1 := ⟨_, rfl⟩
  refine ⟨k, ?_⟩
  unfold laws_FnExactVocab.g
  rw [szModel_g k x 1048576 ok (by omega) (by omega) (by omega)]
  unfold lessS
  rw [Option.bind_some]
  by_cases c : (1048576 : Int) < (mModel x : Int)
  · rw [if_pos c, if_pos (by omega)]
  · rw [if_neg c, if_neg (by omega)]
    have g := toModel_g k x (by omega) (by omega)
    have e := eqModel_g k (gModel x) (by rw [i_model]; omega) (by rw [i_model]; omega)
    have a : spec_Vocab.g k (gModel x) = some (wrap64 (256 + ((gModel x).f3.length : Int))) := rfl
    have b : impl_Vocab.g k (gModel x) = some (wrap64 (256 + ((gModel x).f3.length : Int))) := rfl
    rw [g, Option.bind_some, a, Option.bind_some, Option.bind_some, b, Option.bind_some, if_pos rfl, Option.bind_some, e, Option.bind_some, if_pos rfl]

end Go.Proofs.Ytacbkcofcbglhaa.Pure
