/- The program's KeyValue returns what the reference's KeyValue returns, leaves its arguments alone, and shares no memory, for all arguments. No conditions. -/
import Derived.Test.YtoccifnjhbibcaaGreatGFnExactKeyValue5
namespace Go.Proofs.YtoccifnjhbibcaaGreat.Pure
open Go.RowKit Go.Proofs.YtoccifnjhbibcaaGreat.PFnExactKeyValue Go.Proofs.YtoccifnjhbibcaaGreatW.PrintWords Go.Proofs.YtoccifnjhbibcaaGreatW.PrintLast Go.Proofs.YtoccifnjhbibcaaGreatW.PrintMore
set_option linter.unusedVariables false
set_option linter.unusedSimpArgs false
theorem k1_ {n k : Nat} (h : n < k) : ∃ m, k = m + 1 := ⟨k - 1, by omega⟩
theorem w64 {i : Int} (h0 : -9223372036854775808 ≤ i) (h : i ≤ 9223372036854775807) : wrap64 i = i := by unfold wrap64; omega
theorem rd_get (l : List Int) (i : Nat) (h : i < l.length) : rd l (i : Int) = l[i] := by simp [rd, List.getD_eq_getElem?_getD, h]
theorem getD_int {α : Type} (l : List α) (z : α) (i : Nat) (h : i < l.length) : l.getD (i : Int).toNat z = l[i] := by simp [List.getD_eq_getElem?_getD, h]
def sumS {α : Type} (s : α → Nat) : List α → Nat
 | [] => 0
 | x :: l => s x + sumS s l
theorem sumS_le {α : Type} (s : α → Nat) : ∀ (l : List α) (x : α), x ∈ l → s x ≤ sumS s l
 | [], _, h => by cases h
 | y :: l, x, h => by
   have e : sumS s (y :: l) = s y + sumS s l := rfl
   rcases List.mem_cons.mp h with g | g
   · rw [g, e]; omega
   · have := sumS_le s l x g; rw [e]; omega
theorem sumS_cons {α : Type} (s : α → Nat) (x : α) (l : List α) : sumS s (x :: l) = s x + sumS s l := rfl
def szL {α : Type} (s : α → Nat) (l : List α) : Nat := l.length + sumS s l
def lessS (n : Int) (s : Nat) : Option Int := some (if n < (s : Int) then -1 else n - (s : Int))
theorem sz_then {p : Option Int} {G : Int → Option Int} {n : Int} {a b : Nat} (h : p = lessS n a) (h0 : 0 ≤ n) (hG : (a : Int) ≤ n → G (n - a) = lessS (n - a) b) :
   (p.bind fun t => if t < 0 then some (-1) else G t) = lessS n (a + b) := by
 rw [h]; unfold lessS; rw [Option.bind_some]
 by_cases c : n < (a : Int)
 · rw [if_pos c, if_pos (by omega), if_pos (by omega)]
 · rw [if_neg c, if_neg (by omega), hG (by omega)]
   unfold lessS
   by_cases d : n - (a : Int) < (b : Int)
   · rw [if_pos d, if_pos (by omega)]
   · rw [if_neg d, if_neg (by omega)]; congr 1; omega
theorem sz_end {p : Option Int} {n : Int} {a : Nat} (h : p = lessS n a) (h0 : 0 ≤ n) : (p.bind fun t => if t < 0 then some (-1) else some t) = lessS n a := by
 have := sz_then (G := fun t => some t) (b := 0) h h0 (fun g => by unfold lessS; rw [if_neg (by omega)]; congr 1; omega)
 simpa using this
theorem all_from (lo hi : Int) (l : List Int) (hl : l.length ≤ 9223372036854775806) (d : Nat) : ∀ (k i : Nat), i ≤ l.length → l.length - i = d → d < k →
   (spec_l05All.l0 l lo hi k (i : Int)).bind (fun o => match o with | .inl r_ => some r_ | .inr _ => some true) = some ((l.drop i).all fun x => decide (lo ≤ x) && decide (x ≤ hi)) := by
 induction d with
 | zero =>
   intro k i hi' hd hk
   obtain ⟨k, rfl⟩ := k1_ hk
   rw [List.drop_of_length_le (by omega)]
   unfold spec_l05All.l0 spec_l05All.b0; rw [if_neg (by omega)]; rfl
 | succ d ih =>
   intro k i hi' hd hk
   obtain ⟨k, rfl⟩ := k1_ hk
   have hlt : i < l.length := by omega
   unfold spec_l05All.l0 spec_l05All.b0
   rw [if_pos (by omega), if_pos (by omega), getD_int l 0 i hlt, List.drop_eq_getElem_cons hlt, List.all_cons]
   unfold spec_l01In.f
   by_cases h1 : l[i] ≥ lo
   · rw [if_pos h1]
     simp only [Option.bind_some]
     by_cases h2 : l[i] ≤ hi
     · rw [decide_eq_true h2, if_pos rfl, w64 (by omega) (by omega), show ((i : Int) + 1) = ((i + 1 : Nat) : Int) by omega, ih k (i + 1) (by omega) (by omega) (by omega)]
       simp [h1]
     · rw [decide_eq_false h2]; simp
   · rw [if_neg h1]; simp only [Option.bind_some]; rw [decide_eq_false h1]; simp
theorem all_tells (lo hi : Int) (l : List Int) (hl : l.length ≤ 9223372036854775806) (k : Nat) (hk : l.length < k) : spec_l05All.g k l lo hi = some (l.all fun x => decide (lo ≤ x) && decide (x ≤ hi)) := by
 unfold spec_l05All.g
 have := all_from lo hi l hl l.length k 0 (by omega) (by omega) hk
 rw [List.drop_zero] at this
 exact this
def floorZ (a b : Int) : Int := a.tdiv b + (if a.tmod b < 0 then -1 else 0)
theorem tdiv_bd (a b : Int) (hb : 0 < b) (m : Int) (h0 : -m ≤ a) (h1 : a ≤ m) : -m ≤ a.tdiv b ∧ a.tdiv b ≤ m := by
 rcases Int.le_total 0 a with h | h
 · have e := Int.tdiv_eq_ediv_of_nonneg h (b := b)
   have e1 := Int.ediv_nonneg h (Int.le_of_lt hb)
   have e2 : a / b ≤ a := Int.ediv_le_self b h
   omega
 · have h' : 0 ≤ -a := by omega
   have e := Int.tdiv_eq_ediv_of_nonneg h' (b := b)
   have e1 := Int.ediv_nonneg h' (Int.le_of_lt hb)
   have e2 : -a / b ≤ -a := Int.ediv_le_self b h'
   rw [Int.neg_tdiv] at e
   omega
theorem impl_floor (a b : Int) (hb : 0 < b) (h0 : -1000000000000 ≤ a) (h1 : a ≤ 1000000000000) (k : Nat) (hk : 1 < k) : impl_FloorDiv.f k a b = some (floorZ a b) := by
 obtain ⟨k, rfl⟩ : ∃ m, k = m + 1 := ⟨k - 1, by omega⟩
 have hd := tdiv_bd a b hb 1000000000000 h0 h1
 unfold impl_FloorDiv.f impl_in.f
 rw [if_neg (by omega), if_pos (by omega), decide_eq_true h1, Option.bind_some, impl_FloorDiv.j0, if_neg (by simp), if_neg (by omega), w64 (i := a.tdiv b) (by omega) (by omega), w64 (i := a.tdiv b - 1) (by omega) (by omega)]
 unfold floorZ
 by_cases h : a.tmod b < 0
 · rw [if_pos h, if_pos h]; rfl
 · rw [if_neg h, if_neg h, Int.add_zero]
theorem spec_floor (a b : Int) (hb : 0 < b) (h0 : -4000000000000000000 ≤ a) (h1 : a ≤ 4000000000000000000) : spec_l03Floor.f a b = some (floorZ a b) := by
 have hd := tdiv_bd a b hb 4000000000000000000 h0 h1
 unfold spec_l03Floor.f floorZ
 rw [if_neg (by omega), w64 (i := a.tdiv b) (by omega) (by omega), w64 (i := a.tdiv b - 1) (by omega) (by omega)]
 by_cases h : a.tmod b < 0
 · rw [if_pos h, if_pos h]; rfl
 · rw [if_neg h, if_neg h, Int.add_zero]
def clampZ (x m : Int) : Int := if x > m then m else if x < -m then -m else x
theorem impl_clamp (x m : Int) (h : 0 ≤ m) (h2 : m ≤ 1000000000) : impl_Clamp.f x m = some (clampZ x m) := by
 unfold impl_Clamp.f clampZ mx mn
 rw [if_neg (by omega), w64 (by omega) (by omega)]
 congr 1
 repeat' split
 all_goals omega
theorem spec_clamp (x m : Int) (h : 0 ≤ m) (h2 : m ≤ 1000000000) : spec_l03Clamp.f x m = some (clampZ x m) := by
 unfold spec_l03Clamp.f clampZ
 rw [w64 (by omega) (by omega)]
 split
 · rfl
 · split <;> rfl
def vecB (x : List Int) : Bool := decide (1 ≤ x.length) && decide (x.length ≤ 8) && x.all fun z => decide (-127 ≤ z) && decide (z ≤ 127)
theorem mul_bd (a b : Int) (m : Int) (ha : -m ≤ a) (ha2 : a ≤ m) (hb : -m ≤ b) (hb2 : b ≤ m) : -(m * m) ≤ a * b ∧ a * b ≤ m * m := by
 have h1 : 0 ≤ (m - a) * (m + b) := Int.mul_nonneg (by omega) (by omega)
 have h2 : 0 ≤ (m + a) * (m - b) := Int.mul_nonneg (by omega) (by omega)
 have h3 : 0 ≤ (m - a) * (m - b) := Int.mul_nonneg (by omega) (by omega)
 have h4 : 0 ≤ (m + a) * (m + b) := Int.mul_nonneg (by omega) (by omega)
 simp only [Int.sub_mul, Int.mul_sub, Int.add_mul, Int.mul_add] at h1 h2 h3 h4
 rw [Int.mul_comm m b] at h1 h2 h3 h4
 omega
theorem getD_rd (l : List Int) (i : Nat) : l.getD (i : Int).toNat 0 = rd l (i : Int) := rfl
theorem w_up (i : Nat) (h : i ≤ 9000000000000000000) : wrap64 ((i : Int) + 1) = ((i + 1 : Nat) : Int) := by rw [w64 (by omega) (by omega)]; omega
def sumF (F : Nat → Int) : Nat → Int
 | 0 => 0
 | n + 1 => sumF F n + F n
theorem sumF_bd (F : Nat → Int) (B : Int) (n : Nat) (hF : ∀ i, i < n → -B ≤ F i ∧ F i ≤ B) : ∀ m, m ≤ n → -(B * (m : Int)) ≤ sumF F m ∧ sumF F m ≤ B * (m : Int)
 | 0, _ => by simp [sumF]
 | m + 1, hm => by
   have ih := sumF_bd F B n hF m (by omega)
   have h := hF m (by omega)
   rw [sumF, show ((m + 1 : Nat) : Int) = (m : Int) + 1 by omega, Int.mul_add]
   omega
theorem sumLoop_from {α : Type} (n : Nat) (F : Nat → Int) (B : Int) (hB : B * (n : Int) ≤ 4000000000000000000) (hn : n ≤ 1000000000) (hF : ∀ i, i < n → -B ≤ F i ∧ F i ≤ B) (c : Nat) (L : Nat → Int → Int → Option α) (e : Int → α)
   (hS : ∀ k s (i : Nat), c < k → i < n → L (k + 1) s (i : Int) = L k (wrap64 (s + F i)) (wrap64 ((i : Int) + 1))) (hE : ∀ k s, L (k + 1) s (n : Int) = some (e s)) (d : Nat) :
   ∀ (i k : Nat), i + d = n → d + c < k → L k (sumF F i) (i : Int) = some (e (sumF F n)) := by
 induction d with
 | zero =>
   intro i k hi hk
   obtain ⟨k, rfl⟩ := k1_ hk
   obtain rfl : i = n := by omega
   rw [hE]
 | succ d ih =>
   intro i k hi hk
   obtain ⟨k, rfl⟩ := k1_ hk
   have b0 := sumF_bd F B n hF (i + 1) (by omega)
   have hB0 : 0 ≤ B := by have := hF i (by omega); omega
   have b2 : B * ((i + 1 : Nat) : Int) ≤ B * (n : Int) := Int.mul_le_mul_of_nonneg_left (by omega) hB0
   rw [hS k _ i (by omega) (by omega), show sumF F i + F i = sumF F (i + 1) from rfl, w64 (i := sumF F (i + 1)) (by omega) (by omega), w_up i (by omega)]
   exact ih (i + 1) k (by omega) (by omega)
theorem sumLoop {α : Type} (n : Nat) (F : Nat → Int) (B : Int) (hB : B * (n : Int) ≤ 4000000000000000000) (hn : n ≤ 1000000000) (hF : ∀ i, i < n → -B ≤ F i ∧ F i ≤ B) (c : Nat) (L : Nat → Int → Int → Option α) (e : Int → α)
   (hS : ∀ k s (i : Nat), c < k → i < n → L (k + 1) s (i : Int) = L k (wrap64 (s + F i)) (wrap64 ((i : Int) + 1))) (hE : ∀ k s, L (k + 1) s (n : Int) = some (e s)) (k : Nat) (hk : n + c < k) : L k 0 0 = some (e (sumF F n)) :=
 sumLoop_from n F B hB hn hF c L e hS hE n 0 k (by omega) hk
theorem rowLoop_from {α β : Type} (n : Nat) (hn : n ≤ 1000000000) (f : Nat → β) (c : Nat) (L : Nat → List β → Int → Option α) (e : List β → α)
   (hS : ∀ k xs (i : Nat), c < k → i < n → xs.length = i → L (k + 1) xs (i : Int) = L k (xs ++ [f i]) (wrap64 ((i : Int) + 1))) (hE : ∀ k xs, L (k + 1) xs (n : Int) = some (e xs)) (d : Nat) :
   ∀ (i k : Nat), i + d = n → d + c < k → L k ((List.range i).map f) (i : Int) = some (e ((List.range n).map f)) := by
 induction d with
 | zero =>
   intro i k hi hk
   obtain ⟨k, rfl⟩ := k1_ hk
   obtain rfl : i = n := by omega
   rw [hE]
 | succ d ih =>
   intro i k hi hk
   obtain ⟨k, rfl⟩ := k1_ hk
   have er : (List.range i).map f ++ [f i] = (List.range (i + 1)).map f := by rw [List.range_succ, List.map_append]; rfl
   rw [hS k _ i (by omega) (by omega) (by simp), er, w_up i (by omega)]
   exact ih (i + 1) k (by omega) (by omega)
theorem rowLoop {α β : Type} (n : Nat) (hn : n ≤ 1000000000) (f : Nat → β) (c : Nat) (L : Nat → List β → Int → Option α) (e : List β → α)
   (hS : ∀ k xs (i : Nat), c < k → i < n → xs.length = i → L (k + 1) xs (i : Int) = L k (xs ++ [f i]) (wrap64 ((i : Int) + 1))) (hE : ∀ k xs, L (k + 1) xs (n : Int) = some (e xs)) (k : Nat) (hk : n + c < k) : L k [] 0 = some (e ((List.range n).map f)) :=
 rowLoop_from n hn f c L e hS hE n 0 k (by omega) hk
theorem in_i (a lo hi : Int) : impl_in.f a lo hi = some (decide (lo ≤ a ∧ a ≤ hi)) := by
 unfold impl_in.f
 by_cases h : a ≥ lo
 · rw [if_pos h]; congr 1; simp only [eq_iff_iff, decide_eq_decide]; omega
 · rw [if_neg h]; congr 1; symm; rw [decide_eq_false_iff_not]; omega
theorem in_s (a lo hi : Int) : spec_l01In.f a lo hi = some (decide (lo ≤ a ∧ a ≤ hi)) := by
 unfold spec_l01In.f
 by_cases h : a ≥ lo
 · rw [if_pos h]; congr 1; simp only [eq_iff_iff, decide_eq_decide]; omega
 · rw [if_neg h]; congr 1; symm; rw [decide_eq_false_iff_not]; omega
def allZ (lo hi : Int) (x : List Int) : Bool := x.all fun z => decide (lo ≤ z) && decide (z ≤ hi)
theorem allZ_mem {lo hi : Int} {x : List Int} (h : allZ lo hi x = true) : ∀ z ∈ x, lo ≤ z ∧ z ≤ hi := by
 unfold allZ at h
 simp only [List.all_eq_true, Bool.and_eq_true, decide_eq_true_eq] at h
 exact h
theorem allZ_of {lo hi : Int} {x : List Int} (h : ∀ z ∈ x, lo ≤ z ∧ z ≤ hi) : allZ lo hi x = true := by
 unfold allZ
 simp only [List.all_eq_true, Bool.and_eq_true, decide_eq_true_eq]
 exact h
theorem all_s (lo hi : Int) (x : List Int) (hl : x.length ≤ 1048576) (k : Nat) (hk : 1048576 < k) : spec_l05All.g k x lo hi = some (allZ lo hi x) := all_tells lo hi x (by omega) k (by omega)
theorem all_i (lo hi : Int) (x : List Int) : impl_allIn.f x lo hi = some (allZ lo hi x) := rfl
theorem rd_in {lo hi : Int} {x : List Int} (h : ∀ z ∈ x, lo ≤ z ∧ z ≤ hi) (i : Nat) (hi' : i < x.length) : lo ≤ rd x (i : Int) ∧ rd x (i : Int) ≤ hi := by
 rw [rd_get x i hi']; exact h _ (List.getElem_mem hi')
theorem root_from (n : Int) (hn : 0 ≤ n) (hn2 : n ≤ 1000000000000) (d : Nat) : ∀ (lo hi : Int), 0 ≤ lo → lo < hi → hi ≤ 1000001 → (hi - lo).toNat ≤ d → n < hi * hi → (1 ≤ lo ∨ True) →
   ∃ r q, (∀ k, d < k → impl_Root.l0 n k lo hi = some (r, q)) ∧ (∀ k, d < k → spec_Root.l0 n k lo hi = some (r, q)) ∧ (1 ≤ n → 1 ≤ r) ∧ 0 ≤ r ∧ r ≤ 1000001 := by
 induction d with
 | zero => intro lo hi h0 h1 h2 h3; omega
 | succ d ih =>
   intro lo hi h0 h1 h2 h3 h4 _
   by_cases c : hi - lo > 1
   · have em : Int.tdiv (lo + hi) 2 = (lo + hi) / 2 := Int.tdiv_eq_ediv_of_nonneg (by omega)
     have hm0 : lo < (lo + hi) / 2 := by omega
     have hm1 : (lo + hi) / 2 < hi := by omega
     have hsq := mul_bd ((lo + hi) / 2) ((lo + hi) / 2) 1000001 (by omega) (by omega) (by omega) (by omega)
     by_cases g : (lo + hi) / 2 * ((lo + hi) / 2) ≤ n
     · obtain ⟨r, q, e1, e2, e3, e4⟩ := ih ((lo + hi) / 2) hi (by omega) (by omega) (by omega) (by omega) h4 (.inr trivial)
       refine ⟨r, q, fun k hk => ?_, fun k hk => ?_, e3, e4⟩
       all_goals obtain ⟨k, rfl⟩ : ∃ m, k = m + 1 := ⟨k - 1, by omega⟩
       · show impl_Root.b0 n _ k lo hi = _
         unfold impl_Root.b0
         rw [w64 (i := hi - lo) (by omega) (by omega), if_pos c, w64 (i := lo + hi) (by omega) (by omega), em, w64 (i := (lo + hi) / 2) (by omega) (by omega), w64 (i := (lo + hi) / 2 * ((lo + hi) / 2)) (by omega) (by omega), if_pos g]
         exact e1 k (by omega)
       · show spec_Root.b0 n _ k lo hi = _
         unfold spec_Root.b0
         rw [w64 (i := hi - lo) (by omega) (by omega), if_pos c, w64 (i := lo + hi) (by omega) (by omega), em, w64 (i := (lo + hi) / 2) (by omega) (by omega), w64 (i := (lo + hi) / 2 * ((lo + hi) / 2)) (by omega) (by omega), if_pos g]
         exact e2 k (by omega)
     · obtain ⟨r, q, e1, e2, e3, e4⟩ := ih lo ((lo + hi) / 2) (by omega) (by omega) (by omega) (by omega) (by omega) (.inr trivial)
       refine ⟨r, q, fun k hk => ?_, fun k hk => ?_, e3, e4⟩
       all_goals obtain ⟨k, rfl⟩ : ∃ m, k = m + 1 := ⟨k - 1, by omega⟩
       · show impl_Root.b0 n _ k lo hi = _
         unfold impl_Root.b0
         rw [w64 (i := hi - lo) (by omega) (by omega), if_pos c, w64 (i := lo + hi) (by omega) (by omega), em, w64 (i := (lo + hi) / 2) (by omega) (by omega), w64 (i := (lo + hi) / 2 * ((lo + hi) / 2)) (by omega) (by omega), if_neg g]
         exact e1 k (by omega)
       · show spec_Root.b0 n _ k lo hi = _
         unfold spec_Root.b0
         rw [w64 (i := hi - lo) (by omega) (by omega), if_pos c, w64 (i := lo + hi) (by omega) (by omega), em, w64 (i := (lo + hi) / 2) (by omega) (by omega), w64 (i := (lo + hi) / 2 * ((lo + hi) / 2)) (by omega) (by omega), if_neg g]
         exact e2 k (by omega)
   · refine ⟨lo, hi, fun k hk => ?_, fun k hk => ?_, fun h => ?_, h0, by omega⟩
     · obtain ⟨k, rfl⟩ : ∃ m, k = m + 1 := ⟨k - 1, by omega⟩
       show impl_Root.b0 n _ k lo hi = _
       unfold impl_Root.b0
       rw [w64 (i := hi - lo) (by omega) (by omega), if_neg c]
     · obtain ⟨k, rfl⟩ : ∃ m, k = m + 1 := ⟨k - 1, by omega⟩
       show spec_Root.b0 n _ k lo hi = _
       unfold spec_Root.b0
       rw [w64 (i := hi - lo) (by omega) (by omega), if_neg c]
     · refine Classical.byContradiction fun hc => ?_
       obtain rfl : lo = 0 := by omega
       obtain rfl : hi = 1 := by omega
       omega
theorem root_ex (n : Int) (hn : 0 ≤ n) (hn2 : n ≤ 1000000000000) : ∃ r, (∀ k, 1000001 < k → impl_Root.g k n = some r) ∧ (∀ k, 1000001 < k → spec_Root.g k n = some r) ∧ (1 ≤ n → 1 ≤ r) ∧ 0 ≤ r ∧ r ≤ 1000001 := by
 obtain ⟨r, q, e1, e2, e3⟩ := root_from n hn hn2 1000001 0 1000001 (by omega) (by omega) (by omega) (by omega) (by omega) (.inr trivial)
 refine ⟨r, fun k hk => ?_, fun k hk => ?_, e3⟩
 · unfold impl_Root.g
   rw [in_i, Option.bind_some, if_pos (by simp; omega), e1 k hk, Option.bind_some]
 · unfold spec_Root.g
   rw [in_s, Option.bind_some, if_pos (by simp; omega), e2 k hk, Option.bind_some]
open Classical in
noncomputable def rootOf (n : Int) : Int := if h : 0 ≤ n ∧ n ≤ 1000000000000 then (root_ex n h.1 h.2).choose else 0
theorem impl_root (n : Int) (hn : 0 ≤ n) (hn2 : n ≤ 1000000000000) (k : Nat) (hk : 1000001 < k) : impl_Root.g k n = some (rootOf n) := by
 unfold rootOf; rw [dif_pos ⟨hn, hn2⟩]; exact (root_ex n hn hn2).choose_spec.1 k hk
theorem spec_root (n : Int) (hn : 0 ≤ n) (hn2 : n ≤ 1000000000000) (k : Nat) (hk : 1000001 < k) : spec_Root.g k n = some (rootOf n) := by
 unfold rootOf; rw [dif_pos ⟨hn, hn2⟩]; exact (root_ex n hn hn2).choose_spec.2.1 k hk
theorem root_bd (n : Int) (hn : 1 ≤ n) (hn2 : n ≤ 1000000000000) : 1 ≤ rootOf n ∧ rootOf n ≤ 1000001 := by
 unfold rootOf; rw [dif_pos ⟨by omega, hn2⟩]
 have := (root_ex n (by omega) hn2).choose_spec.2.2
 exact ⟨this.1 hn, this.2.2⟩
def normB (x g : List Int) : Bool := decide (1 ≤ x.length ∧ x.length ≤ 8) && decide (g.length = x.length) && allZ (-1000) 1000 x && allZ 0 127 g
def normM (x : List Int) : Int := floorZ (sumF (fun i => rd x (i : Int)) x.length) (x.length : Int)
def normQ (x : List Int) : Int := sumF (fun i => (rd x (i : Int) - normM x) * (rd x (i : Int) - normM x)) x.length
noncomputable def normS (x : List Int) : Int := rootOf (normQ x / (x.length : Int) + 1)
noncomputable def normT (x g : List Int) (i : Nat) : Int := clampZ (floorZ ((rd x (i : Int) - normM x) * rd g (i : Int)) (normS x)) 127
noncomputable def normL (x g : List Int) : List Int := (List.range x.length).map (normT x g)
noncomputable def normOf (x g : List Int) : List Int × Bool := if normB x g then (normL x g, true) else ([], false)
structure NormOk (x g : List Int) : Prop where
 n1 : 1 ≤ x.length
 n8 : x.length ≤ 8
 gl : g.length = x.length
 xb : ∀ i, i < x.length → -1000 ≤ rd x (i : Int) ∧ rd x (i : Int) ≤ 1000
 gb : ∀ i, i < x.length → 0 ≤ rd g (i : Int) ∧ rd g (i : Int) ≤ 127
 m : -1000 ≤ normM x ∧ normM x ≤ 1000
 q : 0 ≤ normQ x ∧ normQ x ≤ 32000000
 s : 1 ≤ normS x ∧ normS x ≤ 1000001
theorem floorZ_div (a b : Int) (hb : 0 < b) : floorZ a b = a / b := by
 unfold floorZ
 by_cases hn : 0 ≤ a
 · rw [Int.tdiv_eq_ediv_of_nonneg hn, Int.tmod_eq_emod_of_nonneg hn, if_neg (by have := Int.emod_nonneg a (show b ≠ 0 by omega); omega), Int.add_zero]
 · have e1 := Int.tdiv_eq_ediv_of_nonneg (a := -a) (by omega) (b := b)
   have e2 := Int.tmod_eq_emod_of_nonneg (a := -a) (b := b) (by omega)
   rw [Int.neg_tdiv] at e1
   rw [Int.neg_tmod] at e2
   have d1 := Int.mul_ediv_add_emod (-a) b
   have d2 := Int.mul_ediv_add_emod a b
   have r0 := Int.emod_nonneg (-a) (show b ≠ 0 by omega)
   have r1 := Int.emod_lt_of_pos (-a) hb
   have r2 := Int.emod_nonneg a (show b ≠ 0 by omega)
   have r3 := Int.emod_lt_of_pos a hb
   have key : b * (-a / b + a / b) = -((-a) % b + a % b) := by rw [Int.mul_add]; omega
   generalize -a / b = p at *
   generalize a / b = q at *
   generalize -a % b = u at *
   generalize a % b = v at *
   by_cases c : u = 0
   · subst c
     rw [if_neg (by omega)]
     have : p + q = 0 := by
       rcases Int.lt_trichotomy (p + q) 0 with h | h | h
       · have : b * (p + q) ≤ b * (-1) := Int.mul_le_mul_of_nonneg_left (by omega) (by omega)
         omega
       · exact h
       · have : b * 1 ≤ b * (p + q) := Int.mul_le_mul_of_nonneg_left (by omega) (by omega)
         omega
     omega
   · rw [if_pos (by omega)]
     have : p + q = -1 := by
       rcases Int.lt_trichotomy (p + q) (-1) with h | h | h
       · have : b * (p + q) ≤ b * (-2) := Int.mul_le_mul_of_nonneg_left (by omega) (by omega)
         omega
       · exact h
       · have : b * 0 ≤ b * (p + q) := Int.mul_le_mul_of_nonneg_left (by omega) (by omega)
         omega
     omega
theorem norm_ok (x g : List Int) (h : normB x g = true) : NormOk x g := by
 unfold normB at h
 simp only [Bool.and_eq_true, decide_eq_true_eq] at h
 obtain ⟨⟨⟨⟨h1, h2⟩, h3⟩, h4⟩, h5⟩ := h
 have hx := fun i hi => rd_in (allZ_mem h4) i hi
 have hg := fun i hi => rd_in (allZ_mem h5) i hi
 have sb := sumF_bd (fun i => rd x (i : Int)) 1000 x.length hx x.length (Nat.le_refl _)
 have hm : -1000 ≤ normM x ∧ normM x ≤ 1000 := by
   unfold normM
   rw [floorZ_div _ _ (by omega)]
   exact ⟨Int.le_ediv_of_mul_le (by omega) (by omega), by
     have := Int.ediv_le_ediv (a := sumF (fun i => rd x (i : Int)) x.length) (b := 1000 * (x.length : Int)) (c := (x.length : Int)) (by omega) sb.2
     rw [Int.mul_ediv_cancel _ (by omega)] at this
     exact this⟩
 have sq : ∀ i, i < x.length → 0 ≤ (rd x (i : Int) - normM x) * (rd x (i : Int) - normM x) ∧ (rd x (i : Int) - normM x) * (rd x (i : Int) - normM x) ≤ 4000000 := fun i hi => by
   have hi' := hx i hi
   have := mul_bd (rd x (i : Int) - normM x) (rd x (i : Int) - normM x) 2000 (by omega) (by omega) (by omega) (by omega)
   have h0 : 0 ≤ (rd x (i : Int) - normM x) * (rd x (i : Int) - normM x) := by
     rcases Int.le_total 0 (rd x (i : Int) - normM x) with h | h
     · exact Int.mul_nonneg h h
     · have := Int.mul_nonneg (show 0 ≤ -(rd x (i : Int) - normM x) by omega) (show 0 ≤ -(rd x (i : Int) - normM x) by omega)
       rw [Int.neg_mul_neg] at this
       exact this
   omega
 have hq0 : ∀ n, n ≤ x.length → 0 ≤ sumF (fun i => (rd x (i : Int) - normM x) * (rd x (i : Int) - normM x)) n := fun n => by
   induction n with
   | zero => intro _; exact Int.le_refl _
   | succ n ih => intro hn; rw [sumF]; have := ih (by omega); have := (sq n (by omega)).1; omega
 have qb := sumF_bd (fun i => (rd x (i : Int) - normM x) * (rd x (i : Int) - normM x)) 4000000 x.length (fun i hi => by have := sq i hi; omega) x.length (Nat.le_refl _)
 have hq : 0 ≤ normQ x ∧ normQ x ≤ 32000000 := ⟨hq0 _ (Nat.le_refl _), by unfold normQ; omega⟩
 have hd : 0 ≤ normQ x / (x.length : Int) ∧ normQ x / (x.length : Int) ≤ 32000000 := ⟨Int.ediv_nonneg hq.1 (by omega), Int.le_trans (Int.ediv_le_self _ hq.1) hq.2⟩
 exact ⟨h1, h2, h3, hx, fun i hi => hg i (by omega), hm, hq, root_bd _ (by omega) (by omega)⟩
theorem norm_len (x g : List Int) : (normL x g).length = x.length := by simp [normL]
theorem clamp127 (x : Int) : -127 ≤ clampZ x 127 ∧ clampZ x 127 ≤ 127 := by unfold clampZ; split <;> (try split) <;> omega
theorem norm_in (x g : List Int) : ∀ z ∈ normL x g, -127 ≤ z ∧ z ≤ 127 := fun z hz => by
 obtain ⟨i, _, rfl⟩ := List.mem_map.1 hz
 exact clamp127 _
theorem norm_prod (x g : List Int) (h : NormOk x g) (i : Nat) (hi : i < x.length) : -254000 ≤ (rd x (i : Int) - normM x) * rd g (i : Int) ∧ (rd x (i : Int) - normM x) * rd g (i : Int) ≤ 254000 := by
 have a := h.xb i hi
 have b := h.gb i hi
 have m := h.m
 have e1 : 0 ≤ (2000 - (rd x (i : Int) - normM x)) * rd g (i : Int) := Int.mul_nonneg (by omega) (by omega)
 have e2 : 0 ≤ (2000 + (rd x (i : Int) - normM x)) * rd g (i : Int) := Int.mul_nonneg (by omega) (by omega)
 rw [Int.sub_mul] at e1
 rw [Int.add_mul] at e2
 omega
theorem impl_norm (x g : List Int) (k : Nat) (hk : 2000000 < k) : impl_Norm.g k x g = some (normOf x g) := by
 unfold impl_Norm.g normOf
 rw [in_i, Option.bind_some]
 by_cases h1 : 1 ≤ x.length ∧ x.length ≤ 8
 · rw [if_pos (by simp; omega)]
   by_cases h2 : g.length = x.length
   · rw [if_pos (by omega), all_i, Option.bind_some]
     by_cases h3 : allZ (-1000) 1000 x = true
     · rw [if_pos h3, all_i, Option.bind_some]
       by_cases h4 : allZ 0 127 g = true
       · have hb : normB x g = true := by unfold normB; rw [h3, h4, decide_eq_true h1, decide_eq_true h2]; rfl
         have ok := norm_ok x g hb
         have m := ok.m
         have q := ok.q
         have s := ok.s
         have n8 := ok.n8
         have sb := sumF_bd (fun i => rd x (i : Int)) 1000 x.length ok.xb x.length (Nat.le_refl _)
         rw [if_pos h4, if_pos hb, sumLoop x.length (fun i => rd x (i : Int)) 1000 (by omega) (by omega) ok.xb 0 (impl_Norm.l2 x) (fun s => (s, (x.length : Int))) (fun k s i hk hi => by
           show impl_Norm.b2 _ _ k _ _ = _
           unfold impl_Norm.b2
           rw [if_pos (by omega), if_pos (by omega), getD_rd]) (fun k s => by
           show impl_Norm.b2 _ _ k _ _ = _
           unfold impl_Norm.b2
           rw [if_neg (by omega)]) k (by omega), Option.bind_some, impl_floor _ _ (by omega) (by omega) (by omega) k (by omega), Option.bind_some]
         show ((impl_Norm.l1 x (normM x) k 0 0).bind _) = _
         have sq : ∀ i, i < x.length → -4000000 ≤ (rd x (i : Int) - normM x) * (rd x (i : Int) - normM x) ∧ (rd x (i : Int) - normM x) * (rd x (i : Int) - normM x) ≤ 4000000 := fun i hi => by
           have := ok.xb i hi
           exact mul_bd _ _ 2000 (by omega) (by omega) (by omega) (by omega)
         rw [sumLoop x.length (fun i => (rd x (i : Int) - normM x) * (rd x (i : Int) - normM x)) 4000000 (by omega) (by omega) sq 0 (impl_Norm.l1 x (normM x)) (fun s => (s, (x.length : Int))) (fun k s i hk hi => by
           have h := ok.xb i hi
           have h' := sq i hi
           show impl_Norm.b1 _ _ _ k _ _ = _
           unfold impl_Norm.b1
           rw [if_pos (by omega), if_pos (by omega), getD_rd, w64 (i := rd x (i : Int) - normM x) (by omega) (by omega), w64 (i := (rd x (i : Int) - normM x) * (rd x (i : Int) - normM x)) (by omega) (by omega)]) (fun k s => by
           show impl_Norm.b1 _ _ _ k _ _ = _
           unfold impl_Norm.b1
           rw [if_neg (by omega)]) k (by omega), Option.bind_some]
         show ((impl_FloorDiv.f k (normQ x) (x.length : Int)).bind _) = _
         have hd : 0 ≤ normQ x / (x.length : Int) ∧ normQ x / (x.length : Int) ≤ 32000000 := ⟨Int.ediv_nonneg q.1 (by omega), Int.le_trans (Int.ediv_le_self _ q.1) q.2⟩
         rw [impl_floor _ _ (by omega) (by omega) (by omega) k (by omega), Option.bind_some, floorZ_div _ _ (by omega), w64 (i := normQ x / (x.length : Int) + 1) (by omega) (by omega), impl_root _ (by omega) (by omega) k (by omega), Option.bind_some]
         show ((impl_Norm.l0 x g (normM x) (normS x) k [] 0).bind _) = _
         rw [rowLoop x.length (by omega) (normT x g) 2 (impl_Norm.l0 x g (normM x) (normS x)) (fun r => (r, (x.length : Int))) (fun k r i hk hi hr => by
           have h := ok.xb i hi
           have h' := norm_prod x g ok i hi
           have gl := ok.gl
           show impl_Norm.b0 _ _ _ _ _ k _ _ = _
           unfold impl_Norm.b0
           rw [if_pos (by omega), if_pos (by omega), if_pos (by omega), getD_rd, getD_rd, w64 (i := rd x (i : Int) - normM x) (by omega) (by omega), w64 (i := (rd x (i : Int) - normM x) * rd g (i : Int)) (by omega) (by omega), impl_floor _ _ (by omega) (by omega) (by omega) k (by omega), Option.bind_some, impl_clamp _ 127 (by omega) (by omega), Option.bind_some, if_pos (by omega)]; rfl) (fun k s => by
           show impl_Norm.b0 _ _ _ _ _ k _ _ = _
           unfold impl_Norm.b0
           rw [if_neg (by omega)]) k (by omega), Option.bind_some]; rfl
       · rw [if_neg h4, if_neg (fun hb => h4 (by unfold normB at hb; simp only [Bool.and_eq_true] at hb; exact hb.2))]
     · rw [if_neg h3, if_neg (fun hb => h3 (by unfold normB at hb; simp only [Bool.and_eq_true] at hb; exact hb.1.2))]
   · rw [if_neg (by omega), if_neg (fun hb => h2 (by unfold normB at hb; simp only [Bool.and_eq_true, decide_eq_true_eq] at hb; exact hb.1.1.2))]
 · rw [if_neg (by simp; omega), if_neg (fun hb => h1 (by unfold normB at hb; simp only [Bool.and_eq_true, decide_eq_true_eq] at hb; exact hb.1.1.1))]
theorem spec_norm (x g : List Int) (hx : x.length ≤ 1048576) (hgl : g.length ≤ 1048576) (k : Nat) (hk : 2000000 < k) : spec_Norm.g k x g = some (normOf x g) := by
 unfold spec_Norm.g normOf
 rw [in_s, Option.bind_some]
 by_cases h1 : 1 ≤ x.length ∧ x.length ≤ 8
 · rw [if_pos (by simp; omega)]
   by_cases h2 : g.length = x.length
   · rw [if_pos (by omega), all_s _ _ _ hx k (by omega), Option.bind_some]
     by_cases h3 : allZ (-1000) 1000 x = true
     · rw [if_pos h3, all_s _ _ _ hgl k (by omega), Option.bind_some]
       by_cases h4 : allZ 0 127 g = true
       · have hb : normB x g = true := by unfold normB; rw [h3, h4, decide_eq_true h1, decide_eq_true h2]; rfl
         have ok := norm_ok x g hb
         have m := ok.m
         have q := ok.q
         have s := ok.s
         have n8 := ok.n8
         have sb := sumF_bd (fun i => rd x (i : Int)) 1000 x.length ok.xb x.length (Nat.le_refl _)
         rw [if_pos h4, if_pos hb, sumLoop x.length (fun i => rd x (i : Int)) 1000 (by omega) (by omega) ok.xb 0 (spec_Norm.l2 x) (fun s => (s, (x.length : Int))) (fun k s i hk hi => by
           show spec_Norm.b2 _ _ k _ _ = _
           unfold spec_Norm.b2
           rw [if_pos (by omega), if_pos (by omega), getD_rd]) (fun k s => by
           show spec_Norm.b2 _ _ k _ _ = _
           unfold spec_Norm.b2
           rw [if_neg (by omega)]) k (by omega), Option.bind_some, spec_floor _ _ (by omega) (by omega) (by omega), Option.bind_some]
         show ((spec_Norm.l1 x (normM x) k 0 0).bind _) = _
         have sq : ∀ i, i < x.length → -4000000 ≤ (rd x (i : Int) - normM x) * (rd x (i : Int) - normM x) ∧ (rd x (i : Int) - normM x) * (rd x (i : Int) - normM x) ≤ 4000000 := fun i hi => by
           have := ok.xb i hi
           exact mul_bd _ _ 2000 (by omega) (by omega) (by omega) (by omega)
         rw [sumLoop x.length (fun i => (rd x (i : Int) - normM x) * (rd x (i : Int) - normM x)) 4000000 (by omega) (by omega) sq 0 (spec_Norm.l1 x (normM x)) (fun s => (s, (x.length : Int))) (fun k s i hk hi => by
           have h := ok.xb i hi
           have h' := sq i hi
           show spec_Norm.b1 _ _ _ k _ _ = _
           unfold spec_Norm.b1
           rw [if_pos (by omega), if_pos (by omega), getD_rd, w64 (i := rd x (i : Int) - normM x) (by omega) (by omega), w64 (i := (rd x (i : Int) - normM x) * (rd x (i : Int) - normM x)) (by omega) (by omega)]) (fun k s => by
           show spec_Norm.b1 _ _ _ k _ _ = _
           unfold spec_Norm.b1
           rw [if_neg (by omega)]) k (by omega), Option.bind_some, if_pos (by omega)]
         show ((spec_Root.g k (wrap64 ((wrap64 (Int.tdiv (normQ x) (x.length : Int))) + 1))).bind _) = _
         have hd : 0 ≤ normQ x / (x.length : Int) ∧ normQ x / (x.length : Int) ≤ 32000000 := ⟨Int.ediv_nonneg q.1 (by omega), Int.le_trans (Int.ediv_le_self _ q.1) q.2⟩
         rw [Int.tdiv_eq_ediv_of_nonneg q.1, w64 (i := normQ x / (x.length : Int)) (by omega) (by omega), w64 (i := normQ x / (x.length : Int) + 1) (by omega) (by omega), spec_root _ (by omega) (by omega) k (by omega), Option.bind_some]
         show ((spec_Norm.l0 x g (normM x) (normS x) k [] 0).bind _) = _
         rw [rowLoop x.length (by omega) (normT x g) 2 (spec_Norm.l0 x g (normM x) (normS x)) (fun r => (r, (x.length : Int))) (fun k r i hk hi hr => by
           have h := ok.xb i hi
           have h' := norm_prod x g ok i hi
           have gl := ok.gl
           show spec_Norm.b0 _ _ _ _ _ k _ _ = _
           unfold spec_Norm.b0
           rw [if_pos (by omega), if_pos (by omega), if_pos (by omega), getD_rd, getD_rd, w64 (i := rd x (i : Int) - normM x) (by omega) (by omega), w64 (i := (rd x (i : Int) - normM x) * rd g (i : Int)) (by omega) (by omega), spec_floor _ _ (by omega) (by omega) (by omega), Option.bind_some, spec_clamp _ 127 (by omega) (by omega), Option.bind_some, if_pos (by omega)]; rfl) (fun k s => by
           show spec_Norm.b0 _ _ _ _ _ k _ _ = _
           unfold spec_Norm.b0
           rw [if_neg (by omega)]) k (by omega), Option.bind_some]; rfl
       · rw [if_neg h4, if_neg (fun hb => h4 (by unfold normB at hb; simp only [Bool.and_eq_true] at hb; exact hb.2))]
     · rw [if_neg h3, if_neg (fun hb => h3 (by unfold normB at hb; simp only [Bool.and_eq_true] at hb; exact hb.1.2))]
   · rw [if_neg (by omega), if_neg (fun hb => h2 (by unfold normB at hb; simp only [Bool.and_eq_true, decide_eq_true_eq] at hb; exact hb.1.1.2))]
 · rw [if_neg (by simp; omega), if_neg (fun hb => h1 (by unfold normB at hb; simp only [Bool.and_eq_true, decide_eq_true_eq] at hb; exact hb.1.1.1))]
def widthB (n : Int) : Bool := decide (n = 4) || decide (n = 8)
theorem tmod4 (n : Int) (h0 : 4 ≤ n) (h1 : n ≤ 8) : (Int.tmod n 4 == 0) = widthB n := by
 have : n = 4 ∨ n = 5 ∨ n = 6 ∨ n = 7 ∨ n = 8 := by omega
 rcases this with rfl | rfl | rfl | rfl | rfl <;> rfl
theorem width_facts (n : Int) (h : widthB n = true) : n = 4 ∨ n = 8 := by
 unfold widthB at h; simpa using h
theorem width_no (n : Int) (h : ¬ (4 ≤ n ∧ n ≤ 8)) : widthB n = false := by
 unfold widthB; rw [decide_eq_false (by omega), decide_eq_false (by omega)]; rfl
def rowB (r s : List Int) : Bool := widthB (r.length : Int) && (r.all fun z => decide (-8 ≤ z) && decide (z ≤ 7)) && decide ((s.length : Int) = (r.length : Int) / 4) && s.all fun z => decide (1 ≤ z) && decide (z ≤ 127)
theorem row_facts (r s : List Int) (h : rowB r s = true) : (r.length = 4 ∨ r.length = 8) ∧ (∀ z ∈ r, -8 ≤ z ∧ z ≤ 7) ∧ s.length = r.length / 4 ∧ ∀ z ∈ s, 1 ≤ z ∧ z ≤ 127 := by
 unfold rowB at h
 simp only [Bool.and_eq_true, List.all_eq_true, decide_eq_true_eq] at h
 have := width_facts _ h.1.1.1
 exact ⟨by omega, h.1.1.2, by omega, h.2⟩
def sumTo (r s x : List Int) : Nat → Int
 | 0 => 0
 | n + 1 => sumTo r s x n + rd s ((n / 4 : Nat) : Int) * rd r (n : Int) * rd x (n : Int)
theorem prod_bd (a b c A B C : Int) (ha : -A ≤ a) (ha2 : a ≤ A) (hb : -B ≤ b) (hb2 : b ≤ B) (hc : -C ≤ c) (hc2 : c ≤ C) (A0 : 0 ≤ A) (B0 : 0 ≤ B) (C0 : 0 ≤ C) :
   (-(A * B) ≤ a * b ∧ a * b ≤ A * B) ∧ -(A * B * C) ≤ a * b * c ∧ a * b * c ≤ A * B * C := by
 have key : ∀ (p q P Q : Int), -P ≤ p → p ≤ P → -Q ≤ q → q ≤ Q → -(P * Q) ≤ p * q ∧ p * q ≤ P * Q := by
   intro p q P Q h1 h2 h3 h4
   have e1 : 0 ≤ (P - p) * (Q + q) := Int.mul_nonneg (by omega) (by omega)
   have e2 : 0 ≤ (P + p) * (Q - q) := Int.mul_nonneg (by omega) (by omega)
   have e3 : 0 ≤ (P - p) * (Q - q) := Int.mul_nonneg (by omega) (by omega)
   have e4 : 0 ≤ (P + p) * (Q + q) := Int.mul_nonneg (by omega) (by omega)
   simp only [Int.sub_mul, Int.mul_sub, Int.add_mul, Int.mul_add] at e1 e2 e3 e4
   omega
 have h1 := key a b A B ha ha2 hb hb2
 exact ⟨h1, key (a * b) c (A * B) C h1.1 h1.2 hc hc2⟩
theorem rd_mem (l : List Int) (i : Nat) (h : i < l.length) : rd l (i : Int) ∈ l := by rw [rd_get l i h]; exact List.getElem_mem h
theorem term_bd (r s x : List Int) (h : rowB r s = true) (hx : ∀ z ∈ x, -127 ≤ z ∧ z ≤ 127) (hl : x.length = r.length) (i : Nat) (hi : i < r.length) :
   (-1016 ≤ rd s ((i / 4 : Nat) : Int) * rd r (i : Int) ∧ rd s ((i / 4 : Nat) : Int) * rd r (i : Int) ≤ 1016) ∧ -129032 ≤ rd s ((i / 4 : Nat) : Int) * rd r (i : Int) * rd x (i : Int) ∧ rd s ((i / 4 : Nat) : Int) * rd r (i : Int) * rd x (i : Int) ≤ 129032 := by
 obtain ⟨h1, h2, h3, h4⟩ := row_facts r s h
 have a := h4 _ (rd_mem s (i / 4) (by omega))
 have b := h2 _ (rd_mem r i hi)
 have c := hx _ (rd_mem x i (by omega))
 have := prod_bd (rd s ((i / 4 : Nat) : Int)) (rd r (i : Int)) (rd x (i : Int)) 127 8 127 (by omega) (by omega) (by omega) (by omega) (by omega) (by omega) (by omega) (by omega) (by omega)
 simpa using this
theorem sum_bd (r s x : List Int) (h : rowB r s = true) (hx : ∀ z ∈ x, -127 ≤ z ∧ z ≤ 127) (hl : x.length = r.length) : ∀ n, n ≤ r.length → -(129032 * (n : Int)) ≤ sumTo r s x n ∧ sumTo r s x n ≤ 129032 * (n : Int)
 | 0, _ => by unfold sumTo; omega
 | n + 1, hn => by
   have ih := sum_bd r s x h hx hl n (by omega)
   have ht := (term_bd r s x h hx hl n (by omega)).2
   unfold sumTo
   omega
theorem tdiv4 (i : Nat) : Int.tdiv (i : Int) 4 = ((i / 4 : Nat) : Int) := by
 rw [Int.tdiv_eq_ediv_of_nonneg (by omega)]; omega
theorem impl_width (n : Int) : impl_isWidth.f n = some (widthB n) := by
 unfold impl_isWidth.f impl_in.f
 by_cases h1 : n ≥ 4
 · rw [if_pos h1, Option.bind_some]
   by_cases h2 : n ≤ 8
   · rw [decide_eq_true h2, if_pos rfl, tmod4 n h1 h2]
   · rw [decide_eq_false h2, if_neg (by simp), width_no n (by omega)]
 · rw [if_neg h1, Option.bind_some, if_neg (by simp), width_no n (by omega)]
theorem impl_row (r s : List Int) (hr : r.length ≤ 9223372036854775807) {k : Nat} : impl_rowOk.g k r s = some (rowB r s) := by
 unfold impl_rowOk.g impl_allIn.f rowB
 rw [impl_width, Option.bind_some, Int.tdiv_eq_ediv_of_nonneg (by omega), w64 (i := (r.length : Int) / 4) (by omega) (by omega)]
 cases h1 : widthB (r.length : Int) with
 | false => rfl
 | true =>
   rw [if_pos rfl, Option.bind_some]
   cases h2 : r.all fun z => decide (-8 ≤ z) && decide (z ≤ 7) with
   | false => simp
   | true =>
     rw [if_pos rfl]
     by_cases h3 : (s.length : Int) = (r.length : Int) / 4
     · rw [if_pos h3, Option.bind_some, decide_eq_true h3]; rfl
     · rw [if_neg h3, decide_eq_false h3]; rfl
def matB (w : Int) (R S : List (List Int)) (m h : Int) : Bool := widthB w && decide (R.length ≤ 300) && decide (S.length = R.length) && decide (0 ≤ m) && decide (m ≤ 65536) && decide (0 ≤ h) && decide (h ≤ 24) && (List.range R.length).all fun i => decide (((R.getD i []).length : Int) = w) && rowB (R.getD i []) (S.getD i [])
theorem mat_facts (w : Int) (R S : List (List Int)) (m h : Int) (g : matB w R S m h = true) : (w = 4 ∨ w = 8) ∧ R.length ≤ 300 ∧ S.length = R.length ∧ 0 ≤ m ∧ m ≤ 65536 ∧ 0 ≤ h ∧ h ≤ 24 ∧ ∀ i, i < R.length → ((R.getD i []).length : Int) = w ∧ rowB (R.getD i []) (S.getD i []) = true := by
 unfold matB at g
 simp only [Bool.and_eq_true, List.all_eq_true, decide_eq_true_eq, List.mem_range] at g
 exact ⟨width_facts _ g.1.1.1.1.1.1.1, g.1.1.1.1.1.1.2, g.1.1.1.1.1.2, g.1.1.1.1.2, g.1.1.1.2, g.1.1.2, g.1.2, fun i hi => g.2 i hi⟩
theorem all_range_from (P : Nat → Bool) (n i : Nat) (h : i < n) : ((List.range n).drop i).all P = (P i && ((List.range n).drop (i + 1)).all P) := by
 rw [List.drop_eq_getElem_cons (by simpa using h), List.all_cons, List.getElem_range]
theorem impl_mat_from (w : Int) (R S : List (List Int)) (m h : Int) (hl : R.length ≤ 300) (hs : S.length = R.length) (hlen : ∀ r ∈ R, r.length ≤ 9223372036854775807) (d : Nat) : ∀ (k i : Nat), i + d = R.length → d < k →
   (impl_MatrixOk.l0 ⟨w, R, S, m, h⟩ k (i : Int)).bind (fun o => match o with | .inl r_ => some r_ | .inr _ => some true) = some (((List.range R.length).drop i).all fun i => decide (((R.getD i []).length : Int) = w) && rowB (R.getD i []) (S.getD i [])) := by
 induction d with
 | zero =>
   intro k i hi hk
   obtain ⟨k, rfl⟩ := k1_ hk
   unfold impl_MatrixOk.l0 impl_MatrixOk.b0
   dsimp only
   rw [if_neg (by omega), List.drop_of_length_le (by simp; omega)]; rfl
 | succ d ih =>
   intro k i hi hk
   obtain ⟨k, rfl⟩ := k1_ hk
   have hmem : (R.getD i []).length ≤ 9223372036854775807 := hlen _ (by rw [List.getD_eq_getElem?_getD, List.getElem?_eq_getElem (by omega)]; exact List.getElem_mem _)
   unfold impl_MatrixOk.l0 impl_MatrixOk.b0
   dsimp only
   rw [if_pos (by omega), if_pos (by omega), all_range_from _ _ i (by omega), Int.toNat_natCast]
   by_cases h1 : ((R.getD i []).length : Int) = w
   · rw [if_pos h1, if_pos (by omega), decide_eq_true h1, impl_row _ _ hmem, Option.bind_some, w64 (by omega) (by omega), show ((i : Int) + 1) = ((i + 1 : Nat) : Int) by omega]
     cases hr : rowB (R.getD i []) (S.getD i []) with
     | true => rw [if_pos rfl, ih k (i + 1) (by omega) (by omega)]; rfl
     | false => rfl
   · rw [if_neg h1, decide_eq_false h1]; rfl
theorem impl_mat (w : Int) (R S : List (List Int)) (m h : Int) (hR : R.length ≤ 9223372036854775807) (hlen : ∀ r ∈ R, r.length ≤ 9223372036854775807) (k : Nat) (hk : 310 < k) : impl_MatrixOk.g k ⟨w, R, S, m, h⟩ = some (matB w R S m h) := by
 unfold impl_MatrixOk.g impl_in.f matB
 dsimp only
 rw [impl_width, Option.bind_some]
 cases h1 : widthB w with
 | false => rfl
 | true =>
   rw [if_pos rfl]
   by_cases h2 : R.length ≤ 300
   · rw [if_neg (by omega), decide_eq_true h2]
     by_cases h3 : S.length = R.length
     · rw [if_pos (by omega), decide_eq_true h3]
       by_cases h4 : 0 ≤ m
       · rw [if_pos h4, Option.bind_some, decide_eq_true h4]
         by_cases h5 : m ≤ 65536
         · rw [decide_eq_true h5, if_pos rfl]
           by_cases h6 : 0 ≤ h
           · rw [if_pos h6, Option.bind_some, decide_eq_true h6]
             by_cases h7 : h ≤ 24
             · rw [decide_eq_true h7, if_pos rfl]
               have := impl_mat_from w R S m h h2 h3 hlen R.length k 0 (by omega) (by omega)
               rw [List.drop_zero] at this
               exact this
             · rw [decide_eq_false h7]; rfl
           · rw [if_neg h6, Option.bind_some, decide_eq_false h6]; rfl
         · rw [decide_eq_false h5]; rfl
       · rw [if_neg h4, Option.bind_some, decide_eq_false h4]; rfl
     · rw [if_neg (by omega), decide_eq_false h3]; rfl
   · rw [if_pos (by omega), decide_eq_false h2]; rfl
def pw (s : Int) : Int := 2 ^ s.toNat
theorem pw_pos (s : Int) : 0 < pw s := by unfold pw; exact Int.pow_pos (by omega)
theorem pw_succ (n : Nat) : pw ((n : Int) + 1) = 2 * pw (n : Int) := by
 unfold pw
 rw [show ((n : Int) + 1).toNat = n + 1 by omega, Int.pow_succ, Int.mul_comm, Int.toNat_natCast]
theorem pw_bd (s : Int) (h : s ≤ 24) : pw s ≤ 16777216 := by
 unfold pw
 have : (2 : Nat) ^ s.toNat ≤ 2 ^ 24 := Nat.pow_le_pow_right (by omega) (by omega)
 have h2 : ((2 ^ s.toNat : Nat) : Int) ≤ ((2 ^ 24 : Nat) : Int) := Int.ofNat_le.2 this
 rw [Int.natCast_pow] at h2
 exact h2
theorem pow_from (n : Nat) (hn : n ≤ 24) (d : Nat) : ∀ (k i : Nat), i + d = n → d < k → spec_l03Pow.l0 k (n : Int) (pw (i : Int)) (i : Int) = some (pw (n : Int)) := by
 induction d with
 | zero =>
   intro k i h hk
   obtain ⟨k, rfl⟩ := k1_ hk
   obtain rfl : i = n := by omega
   rw [spec_l03Pow.l0, if_neg (by omega)]
 | succ d ih =>
   intro k i h hk
   obtain ⟨k, rfl⟩ := k1_ hk
   have h1 := pw_bd (i : Int) (by omega)
   have h2 := pw_pos (i : Int)
   rw [spec_l03Pow.l0, if_pos (by omega), w64 (i := 2 * pw (i : Int)) (by omega) (by omega), w64 (i := (i : Int) + 1) (by omega) (by omega), ← pw_succ]
   exact ih k (i + 1) (by omega) (by omega)
theorem spec_pow (n : Int) (h0 : 0 ≤ n) (h1 : n ≤ 24) (k : Nat) (hk : 24 < k) : spec_l03Pow.f k n = some (pw n) := by
 obtain ⟨n, rfl⟩ := Int.eq_ofNat_of_zero_le h0
 unfold spec_l03Pow.f
 exact pow_from n (by omega) n k 0 (by omega) (by omega)
theorem shl_pw (n : Int) (h0 : 0 ≤ n) (h1 : n ≤ 24) : shl .i64 1 n = pw n := by
 have h2 := pw_bd n h1
 have h3 := pw_pos n
 unfold shl
 rw [show min n.toNat IntKind.i64.bits = n.toNat by rw [Nat.min_eq_left]; show n.toNat ≤ 64; omega, Int.one_mul, IntKind.wrap_i64]
 unfold pw at *
 omega
def msz (x m s : Int) : Int := floorZ (x * m + (pw s).tdiv 2) (pw s)
theorem half_bd (s : Int) (h : s ≤ 24) : 0 ≤ (pw s).tdiv 2 ∧ (pw s).tdiv 2 ≤ 8388608 := by
 have h1 := pw_bd s h
 have h2 := pw_pos s
 rw [Int.tdiv_eq_ediv_of_nonneg (by omega)]
 omega
theorem spec_ms (x m s : Int) (x0 : -10000000 ≤ x) (x1 : x ≤ 10000000) (m0 : 0 ≤ m) (m1 : m ≤ 65536) (s0 : 0 ≤ s) (s1 : s ≤ 24) (hp : -700000000000 ≤ x * m) (hp2 : x * m ≤ 700000000000) (k : Nat) (hk : 30 < k) : spec_MulShift.f k x m s = some (msz x m s) := by
 obtain ⟨k, rfl⟩ : ∃ m, k = m + 1 := ⟨k - 1, by omega⟩
 have h1 := half_bd s s1
 have h2 := pw_pos s
 have h3 := pw_bd s s1
 unfold spec_MulShift.f spec_l01In.f
 rw [if_pos (by omega), decide_eq_true x1, Option.bind_some, if_pos rfl, if_pos (by omega), decide_eq_true m1, Option.bind_some, if_pos rfl, if_pos (by omega), decide_eq_true s1, Option.bind_some, spec_MulShift.j0, if_neg (by simp), spec_pow s s0 s1 k (by omega), Option.bind_some, Option.bind_some, w64 (i := x * m) (by omega) (by omega), w64 (i := (pw s).tdiv 2) (by omega) (by omega), w64 (i := x * m + (pw s).tdiv 2) (by omega) (by omega), spec_floor _ _ h2 (by omega) (by omega), Option.bind_some]
 rfl
theorem impl_ms (x m s : Int) (x0 : -10000000 ≤ x) (x1 : x ≤ 10000000) (m0 : 0 ≤ m) (m1 : m ≤ 65536) (s0 : 0 ≤ s) (s1 : s ≤ 24) (hp : -700000000000 ≤ x * m) (hp2 : x * m ≤ 700000000000) (k : Nat) (hk : 2 < k) : impl_MulShift.f k x m s = some (msz x m s) := by
 have h1 := half_bd s s1
 have h2 := pw_pos s
 have h3 := pw_bd s s1
 unfold impl_MulShift.f impl_in.f
 rw [if_pos (by omega), decide_eq_true x1, Option.bind_some, if_pos rfl, if_pos (by omega), decide_eq_true m1, Option.bind_some, if_pos rfl, if_pos (by omega), decide_eq_true s1, Option.bind_some, if_pos rfl, if_pos s0, shl_pw s s0 s1, w64 (i := x * m) (by omega) (by omega), w64 (i := (pw s).tdiv 2) (by omega) (by omega), w64 (i := x * m + (pw s).tdiv 2) (by omega) (by omega), impl_floor _ _ h2 (by omega) (by omega) k (by omega), Option.bind_some]
 rfl
def sumsOf (R S : List (List Int)) (x : List Int) (n : Nat) : List Int := (List.range n).map fun i => sumTo (R.getD i []) (S.getD i []) x (R.getD i []).length
theorem sumsOf_len (R S : List (List Int)) (x : List Int) (n : Nat) : (sumsOf R S x n).length = n := by simp [sumsOf]
theorem xm_bd (z m : Int) (hz : -1032256 ≤ z) (hz2 : z ≤ 1032256) (m0 : 0 ≤ m) (m1 : m ≤ 65536) : -700000000000 ≤ z * m ∧ z * m ≤ 700000000000 := by
 have := (prod_bd z m 0 1032256 65536 0 (by omega) (by omega) (by omega) (by omega) (by omega) (by omega) (by omega) (by omega) (by omega)).1
 omega
theorem sums_in (w : Int) (R S : List (List Int)) (m h : Int) (g : matB w R S m h = true) (x : List Int) (hx : ∀ z ∈ x, -127 ≤ z ∧ z ≤ 127) (hl : (x.length : Int) = w) : ∀ z ∈ sumsOf R S x R.length, -1032256 ≤ z ∧ z ≤ 1032256 := by
 obtain ⟨f1, f2, f3, f4, f5, f6, f7, f8⟩ := mat_facts w R S m h g
 intro z hz
 unfold sumsOf at hz
 obtain ⟨i, hi, rfl⟩ := List.mem_map.1 hz
 obtain ⟨g1, g2⟩ := f8 i (List.mem_range.1 hi)
 have := sum_bd _ _ x g2 hx (by omega) (R.getD i []).length (Nat.le_refl _)
 omega
theorem spec_width (n : Int) : spec_l05Width.f n = some (widthB n) := by
 unfold spec_l05Width.f spec_l01In.f
 by_cases h1 : n ≥ 4
 · rw [if_pos h1, Option.bind_some]
   by_cases h2 : n ≤ 8
   · rw [decide_eq_true h2, if_pos rfl, tmod4 n h1 h2]
   · rw [decide_eq_false h2, if_neg (by simp), width_no n (by omega)]
 · rw [if_neg h1, Option.bind_some, if_neg (by simp), width_no n (by omega)]
theorem spec_row (r s : List Int) (hr : r.length ≤ 9223372036854775806) (hs : s.length ≤ 9223372036854775806) (k : Nat) (hk : r.length + s.length < k) : spec_l05Fits.g k r s = some (rowB r s) := by
 unfold spec_l05Fits.g rowB
 rw [spec_width, Option.bind_some, Int.tdiv_eq_ediv_of_nonneg (by omega), w64 (i := (r.length : Int) / 4) (by omega) (by omega), all_tells _ _ r hr k (by omega), all_tells _ _ s hs k (by omega)]
 cases h1 : widthB (r.length : Int) with
 | false => rfl
 | true =>
   rw [if_pos rfl, Option.bind_some]
   cases h2 : r.all fun z => decide (-8 ≤ z) && decide (z ≤ 7) with
   | false => simp
   | true =>
     rw [if_pos rfl]
     by_cases h3 : (s.length : Int) = (r.length : Int) / 4
     · rw [if_pos h3, Option.bind_some, decide_eq_true h3]; rfl
     · rw [if_neg h3, decide_eq_false h3]; rfl
def wstTo (r s : List Int) : Nat → Int
 | 0 => 0
 | n + 1 => wstTo r s n + rd s ((n / 4 : Nat) : Int) * 127 * ((rd r (n : Int)).natAbs : Int)
def wst (r s : List Int) : Int := if rowB r s = true then wstTo r s r.length else 0
theorem wst_term (r s : List Int) (h : rowB r s = true) (i : Nat) (hi : i < r.length) : 0 ≤ rd s ((i / 4 : Nat) : Int) * 127 ∧ rd s ((i / 4 : Nat) : Int) * 127 ≤ 16129 ∧ ((rd r (i : Int)).natAbs : Int) ≤ 8 ∧ 0 ≤ rd s ((i / 4 : Nat) : Int) * 127 * ((rd r (i : Int)).natAbs : Int) ∧ rd s ((i / 4 : Nat) : Int) * 127 * ((rd r (i : Int)).natAbs : Int) ≤ 129032 := by
 obtain ⟨h1, h2, h3, h4⟩ := row_facts r s h
 have a := h4 _ (rd_mem s (i / 4) (by omega))
 have b := h2 _ (rd_mem r i hi)
 have c : ((rd r (i : Int)).natAbs : Int) ≤ 8 := by omega
 have p0 : 0 ≤ rd s ((i / 4 : Nat) : Int) * 127 := by omega
 have p1 : rd s ((i / 4 : Nat) : Int) * 127 ≤ 16129 := by omega
 refine ⟨p0, p1, c, Int.mul_nonneg p0 (by omega), ?_⟩
 calc rd s ((i / 4 : Nat) : Int) * 127 * ((rd r (i : Int)).natAbs : Int) ≤ 16129 * ((rd r (i : Int)).natAbs : Int) := Int.mul_le_mul_of_nonneg_right p1 (by omega)
   _ ≤ 129032 := by omega
theorem wst_bd (r s : List Int) (h : rowB r s = true) : ∀ n, n ≤ r.length → 0 ≤ wstTo r s n ∧ wstTo r s n ≤ 129032 * (n : Int)
 | 0, _ => by unfold wstTo; omega
 | n + 1, hn => by
   have ih := wst_bd r s h n (by omega)
   obtain ⟨_, _, _, ht⟩ := wst_term r s h n (by omega)
   unfold wstTo
   omega
theorem spec_abs (x : Int) (h0 : -8 ≤ x) (h1 : x ≤ 7) : spec_l05Abs.f x = some (x.natAbs : Int) := by
 unfold spec_l05Abs.f
 by_cases c : x < 0
 · rw [if_pos c, w64 (by omega) (by omega)]; congr 1; omega
 · rw [if_neg c]; congr 1; omega
theorem getD_mem (R : List (List Int)) (i : Nat) (h : i < R.length) : R.getD i [] ∈ R := by rw [List.getD_eq_getElem?_getD, List.getElem?_eq_getElem h]; exact List.getElem_mem _
def lowB (R S : List (List Int)) (i : Nat) : Bool := ((List.range R.length).drop i).all fun i => decide (wst (R.getD i []) (S.getD i []) ≤ 600000)
def fitB (w : Int) (R S : List (List Int)) (m h a b : Int) : Bool := matB w R S m h && (decide (w = a) && (decide ((R.length : Int) = b) && lowB R S 0))
theorem spec_wst_from (r s : List Int) (h : rowB r s = true) (d : Nat) : ∀ (k i : Nat), i + d = r.length → d < k → spec_Worst.l0 r s k (wstTo r s i) (i : Int) = some (wstTo r s r.length, (r.length : Int)) := by
 obtain ⟨h1, h2, h3, h4⟩ := row_facts r s h
 induction d with
 | zero =>
   intro k i hi hk
   obtain ⟨k, rfl⟩ := k1_ hk
   obtain rfl : i = r.length := by omega
   unfold spec_Worst.l0 spec_Worst.b0
   rw [if_neg (by omega)]
 | succ d ih =>
   intro k i hi hk
   obtain ⟨k, rfl⟩ := k1_ hk
   obtain ⟨t1, t2, t3, t4, t5⟩ := wst_term r s h i (by omega)
   have hs := wst_bd r s h i (by omega)
   have b := h2 _ (rd_mem r i (by omega))
   unfold spec_Worst.l0 spec_Worst.b0
   rw [if_pos (by omega), tdiv4, w64 (i := ((i / 4 : Nat) : Int)) (by omega) (by omega), if_pos (by omega), if_pos (by omega)]
   show ((spec_l05Abs.f (rd r (i : Int))).bind fun t => spec_Worst.l0 r s k (wrap64 (wstTo r s i + wrap64 (wrap64 (rd s ((i / 4 : Nat) : Int) * 127) * t))) _) = _
   rw [spec_abs _ b.1 b.2, Option.bind_some, w64 (i := rd s ((i / 4 : Nat) : Int) * 127) (by omega) (by omega), w64 (i := rd s ((i / 4 : Nat) : Int) * 127 * _) (by omega) (by omega), w64 (i := wstTo r s i + _) (by omega) (by omega), w64 (i := (i : Int) + 1) (by omega) (by omega), show ((i : Int) + 1) = ((i + 1 : Nat) : Int) by omega]
   exact ih k (i + 1) (by omega) (by omega)
theorem impl_absW (x : Int) (h0 : -8 ≤ x) (h1 : x ≤ 7) : (if x < wrap64 (0 - x) then wrap64 (0 - x) else x) = (x.natAbs : Int) := by
 rw [w64 (by omega) (by omega)]
 by_cases c : x < 0 - x
 · rw [if_pos c]; omega
 · rw [if_neg c]; omega
theorem impl_wst_from (r s : List Int) (h : rowB r s = true) (d : Nat) : ∀ (k i : Nat), i + d = r.length → d < k → impl_Worst.l0 r s k (wstTo r s i) (i : Int) = some (wstTo r s r.length, (r.length : Int)) := by
 obtain ⟨h1, h2, h3, h4⟩ := row_facts r s h
 induction d with
 | zero =>
   intro k i hi hk
   obtain ⟨k, rfl⟩ := k1_ hk
   obtain rfl : i = r.length := by omega
   unfold impl_Worst.l0 impl_Worst.b0
   rw [if_neg (by omega)]
 | succ d ih =>
   intro k i hi hk
   obtain ⟨k, rfl⟩ := k1_ hk
   obtain ⟨t1, t2, t3, t4, t5⟩ := wst_term r s h i (by omega)
   have hs := wst_bd r s h i (by omega)
   have b := h2 _ (rd_mem r i (by omega))
   unfold impl_Worst.l0 impl_Worst.b0
   rw [if_pos (by omega), if_pos (by omega), tdiv4, w64 (i := ((i / 4 : Nat) : Int)) (by omega) (by omega), if_pos (by omega)]
   show impl_Worst.l0 r s k (wrap64 (wstTo r s i + wrap64 (wrap64 (rd s ((i / 4 : Nat) : Int) * 127) * (if rd r (i : Int) < wrap64 (0 - rd r (i : Int)) then wrap64 (0 - rd r (i : Int)) else rd r (i : Int))))) _ = _
   rw [impl_absW _ b.1 b.2, w64 (i := rd s ((i / 4 : Nat) : Int) * 127) (by omega) (by omega), w64 (i := rd s ((i / 4 : Nat) : Int) * 127 * _) (by omega) (by omega), w64 (i := wstTo r s i + _) (by omega) (by omega), w64 (i := (i : Int) + 1) (by omega) (by omega), show ((i : Int) + 1) = ((i + 1 : Nat) : Int) by omega]
   exact ih k (i + 1) (by omega) (by omega)
theorem spec_wst (r s : List Int) (hr : r.length ≤ 9223372036854775806) (hs : s.length ≤ 9223372036854775806) (k : Nat) (hk : r.length + s.length < k) (hk2 : 10 < k) : spec_Worst.g k r s = some (wst r s) := by
 unfold spec_Worst.g wst
 rw [spec_row r s hr hs k hk, Option.bind_some]
 by_cases h : rowB r s = true
 · obtain ⟨h1, h2, h3, h4⟩ := row_facts r s h
   have e : spec_Worst.l0 r s k 0 0 = _ := spec_wst_from r s h r.length k 0 (by omega) (by omega)
   rw [if_pos h, if_pos h, e]; rfl
 · rw [if_neg h, if_neg h]
theorem impl_wst (r s : List Int) (hr : r.length ≤ 9223372036854775807) (k : Nat) (hk2 : 10 < k) : impl_Worst.g k r s = some (wst r s) := by
 unfold impl_Worst.g wst
 rw [impl_row r s hr, Option.bind_some]
 by_cases h : rowB r s = true
 · obtain ⟨h1, h2, h3, h4⟩ := row_facts r s h
   have e : impl_Worst.l0 r s k 0 0 = _ := impl_wst_from r s h r.length k 0 (by omega) (by omega)
   rw [if_pos h, if_pos h, e]; rfl
 · rw [if_neg h, if_neg h]
theorem spec_mat_from (w : Int) (R S : List (List Int)) (m h : Int) (hl : R.length ≤ 300) (hs : S.length = R.length) (hR : ∀ r ∈ R, r.length ≤ 1048576) (hS : ∀ r ∈ S, r.length ≤ 1048576) (d : Nat) : ∀ (k i : Nat), i + d = R.length → d + 2097153 < k →
   (spec_MatrixOk.l0 ⟨w, R, S, m, h⟩ k (i : Int)).bind (fun o => match o with | .inl r_ => some r_ | .inr _ => some true) = some (((List.range R.length).drop i).all fun i => decide (((R.getD i []).length : Int) = w) && rowB (R.getD i []) (S.getD i [])) := by
 induction d with
 | zero =>
   intro k i hi hk
   obtain ⟨k, rfl⟩ := k1_ hk
   unfold spec_MatrixOk.l0 spec_MatrixOk.b0
   dsimp only
   rw [if_neg (by omega), List.drop_of_length_le (by simp; omega)]; rfl
 | succ d ih =>
   intro k i hi hk
   obtain ⟨k, rfl⟩ := k1_ hk
   have m1 := hR _ (getD_mem R i (by omega))
   have m2 := hS _ (getD_mem S i (by omega))
   unfold spec_MatrixOk.l0 spec_MatrixOk.b0
   dsimp only
   rw [if_pos (by omega), if_pos (by omega), all_range_from _ _ i (by omega), Int.toNat_natCast]
   by_cases h1 : ((R.getD i []).length : Int) = w
   · rw [if_pos h1, if_pos (by omega), decide_eq_true h1, spec_row _ _ (by omega) (by omega) k (by omega), Option.bind_some, w64 (by omega) (by omega), show ((i : Int) + 1) = ((i + 1 : Nat) : Int) by omega]
     cases hr : rowB (R.getD i []) (S.getD i []) with
     | true => rw [if_pos rfl, ih k (i + 1) (by omega) (by omega)]; rfl
     | false => rfl
   · rw [if_neg h1, decide_eq_false h1]; rfl
theorem spec_mat (w : Int) (R S : List (List Int)) (m h : Int) (hR : ∀ r ∈ R, r.length ≤ 1048576) (hS : ∀ r ∈ S, r.length ≤ 1048576) (k : Nat) (hk : 3000000 < k) : spec_MatrixOk.g k ⟨w, R, S, m, h⟩ = some (matB w R S m h) := by
 unfold spec_MatrixOk.g spec_l01In.f matB
 dsimp only
 rw [spec_width, Option.bind_some]
 cases h1 : widthB w with
 | false => rfl
 | true =>
   rw [if_pos rfl]
   by_cases h2 : R.length ≤ 300
   · rw [if_neg (by omega), decide_eq_true h2]
     by_cases h3 : S.length = R.length
     · rw [if_pos (by omega), decide_eq_true h3]
       by_cases h4 : 0 ≤ m
       · rw [if_pos h4, Option.bind_some, decide_eq_true h4]
         by_cases h5 : m ≤ 65536
         · rw [decide_eq_true h5, if_pos rfl]
           by_cases h6 : 0 ≤ h
           · rw [if_pos h6, Option.bind_some, decide_eq_true h6]
             by_cases h7 : h ≤ 24
             · rw [decide_eq_true h7, if_pos rfl]
               have := spec_mat_from w R S m h h2 h3 hR hS R.length k 0 (by omega) (by omega)
               rw [List.drop_zero] at this
               exact this
             · rw [decide_eq_false h7]; rfl
           · rw [if_neg h6, Option.bind_some, decide_eq_false h6]; rfl
         · rw [decide_eq_false h5]; rfl
       · rw [if_neg h4, Option.bind_some, decide_eq_false h4]; rfl
     · rw [if_neg (by omega), decide_eq_false h3]; rfl
   · rw [if_pos (by omega), decide_eq_false h2]; rfl
theorem spec_low_from (w : Int) (R S : List (List Int)) (m h : Int) (hl : R.length ≤ 300) (hs : S.length = R.length) (hR : ∀ r ∈ R, r.length ≤ 1048576) (hS : ∀ r ∈ S, r.length ≤ 1048576) (d : Nat) : ∀ (k i : Nat) (x : Int), i + d = R.length → d + 2097153 < k →
   ∃ v j, spec_l10Worst.l0 ⟨w, R, S, m, h⟩ k x (i : Int) = some (v, j) ∧ (v ≤ 600000 ↔ x ≤ 600000 ∧ lowB R S i = true) := by
 induction d with
 | zero =>
   intro k i x hi hk
   obtain ⟨k, rfl⟩ := k1_ hk
   unfold spec_l10Worst.l0 spec_l10Worst.b0
   dsimp only
   rw [if_neg (by omega)]
   exact ⟨x, _, rfl, by unfold lowB; rw [List.drop_of_length_le (by simp; omega)]; simp⟩
 | succ d ih =>
   intro k i x hi hk
   obtain ⟨k, rfl⟩ := k1_ hk
   have m1 := hR _ (getD_mem R i (by omega))
   have m2 := hS _ (getD_mem S i (by omega))
   unfold spec_l10Worst.l0 spec_l10Worst.b0
   dsimp only
   rw [if_pos (by omega), if_pos (by omega), if_pos (by omega), Int.toNat_natCast, spec_wst _ _ (by omega) (by omega) k (by omega) (by omega), Option.bind_some, w64 (by omega) (by omega), show ((i : Int) + 1) = ((i + 1 : Nat) : Int) by omega]
   have e : lowB R S i = (decide (wst (R.getD i []) (S.getD i []) ≤ 600000) && lowB R S (i + 1)) := by unfold lowB; rw [all_range_from _ _ i (by omega)]
   rw [e, Bool.and_eq_true, decide_eq_true_eq]
   by_cases c : wst (R.getD i []) (S.getD i []) > x
   · rw [if_pos c, Option.bind_some]
     obtain ⟨v, j, h1, h2⟩ := ih k (i + 1) (wst (R.getD i []) (S.getD i [])) (by omega) (by omega)
     exact ⟨v, j, h1, by rw [h2]; constructor <;> intro g <;> (obtain ⟨g1, g2⟩ := g; first | exact ⟨by omega, g1, g2⟩ | exact ⟨g2.1, g2.2⟩)⟩
   · rw [if_neg c, Option.bind_some]
     obtain ⟨v, j, h1, h2⟩ := ih k (i + 1) x (by omega) (by omega)
     exact ⟨v, j, h1, by rw [h2]; constructor <;> intro g <;> (obtain ⟨g1, g2⟩ := g; first | exact ⟨g1, by omega, g2⟩ | exact ⟨g1, g2.2⟩)⟩
theorem impl_low_from (w : Int) (R S : List (List Int)) (m h : Int) (hl : R.length ≤ 300) (hs : S.length = R.length) (hR : ∀ r ∈ R, r.length ≤ 1048576) (d : Nat) : ∀ (k i : Nat), i + d = R.length → d + 20 < k →
   (impl_withinBudget.l0 ⟨w, R, S, m, h⟩ k (i : Int)).bind (fun o => match o with | .inl r_ => some r_ | .inr _ => some true) = some (lowB R S i) := by
 induction d with
 | zero =>
   intro k i hi hk
   obtain ⟨k, rfl⟩ := k1_ hk
   unfold impl_withinBudget.l0 impl_withinBudget.b0
   dsimp only
   rw [if_neg (by omega)]
   unfold lowB; rw [List.drop_of_length_le (by simp; omega)]; rfl
 | succ d ih =>
   intro k i hi hk
   obtain ⟨k, rfl⟩ := k1_ hk
   have m1 := hR _ (getD_mem R i (by omega))
   unfold impl_withinBudget.l0 impl_withinBudget.b0
   dsimp only
   rw [if_pos (by omega), if_pos (by omega), if_pos (by omega), Int.toNat_natCast, impl_wst _ _ (by omega) k (by omega), Option.bind_some, w64 (by omega) (by omega), show ((i : Int) + 1) = ((i + 1 : Nat) : Int) by omega]
   have e : lowB R S i = (decide (wst (R.getD i []) (S.getD i []) ≤ 600000) && lowB R S (i + 1)) := by unfold lowB; rw [all_range_from _ _ i (by omega)]
   rw [e]
   by_cases c : wst (R.getD i []) (S.getD i []) > 600000
   · rw [if_pos c, decide_eq_false (by omega)]; rfl
   · rw [if_neg c, decide_eq_true (by omega), Bool.true_and, ih k (i + 1) (by omega) (by omega)]
theorem spec_fit (w : Int) (R S : List (List Int)) (m h a b : Int) (hR : ∀ r ∈ R, r.length ≤ 1048576) (hS : ∀ r ∈ S, r.length ≤ 1048576) (k : Nat) (hk : 3000000 < k) : spec_l10Matrix.g k ⟨w, R, S, m, h⟩ a b = some (fitB w R S m h a b) := by
 unfold spec_l10Matrix.g fitB
 dsimp only
 rw [spec_mat w R S m h hR hS k hk, Option.bind_some]
 by_cases h1 : matB w R S m h = true
 · obtain ⟨f1, f2, f3, _⟩ := mat_facts w R S m h h1
   rw [if_pos h1, h1, Bool.true_and]
   by_cases h2 : w = a
   · rw [if_pos h2, decide_eq_true h2, Bool.true_and]
     by_cases h3 : (R.length : Int) = b
     · rw [if_pos h3, decide_eq_true h3, Bool.true_and]
       obtain ⟨v, j, e1, e2⟩ := spec_low_from w R S m h f2 f3 hR hS R.length k 0 0 (by omega) (by omega)
       unfold spec_l10Worst.g
       rw [show (0 : Int) = ((0 : Nat) : Int) from rfl] at e1 ⊢
       rw [e1, Option.bind_some, Option.bind_some]
       congr 1
       cases g : lowB R S 0 with
       | true => exact decide_eq_true (e2.2 ⟨by omega, g⟩)
       | false => exact decide_eq_false (fun g2 => by have := (e2.1 g2).2; rw [g] at this; cases this)
     · rw [if_neg h3, decide_eq_false h3]; rfl
   · rw [if_neg h2, decide_eq_false h2]; rfl
 · rw [if_neg h1, Bool.eq_false_iff.mpr h1]; rfl
theorem impl_fit (w : Int) (R S : List (List Int)) (m h a b : Int) (hl : R.length ≤ 9223372036854775807) (hR : ∀ r ∈ R, r.length ≤ 1048576) (k : Nat) (hk : 1000 < k) : impl_withinBudget.g k ⟨w, R, S, m, h⟩ a b = some (fitB w R S m h a b) := by
 unfold impl_withinBudget.g fitB
 dsimp only
 rw [impl_mat w R S m h hl (fun r hr => by have := hR r hr; omega) k (by omega), Option.bind_some]
 by_cases h1 : matB w R S m h = true
 · obtain ⟨f1, f2, f3, _⟩ := mat_facts w R S m h h1
   rw [if_pos h1, h1, Bool.true_and]
   by_cases h2 : w = a
   · rw [if_pos h2, decide_eq_true h2, Bool.true_and]
     by_cases h3 : (R.length : Int) = b
     · rw [if_pos h3, decide_eq_true h3, Bool.true_and]
       exact impl_low_from w R S m h f2 f3 hR R.length k 0 (by omega) (by omega)
     · rw [if_neg h3, decide_eq_false h3]; rfl
   · rw [if_neg h2, decide_eq_false h2]; rfl
 · rw [if_neg h1, Bool.eq_false_iff.mpr h1]; rfl
def gainB (l : List Int) (n : Int) : Bool := if (l.length : Int) = n then l.all fun x => decide (0 ≤ x) && decide (x ≤ 127) else false
theorem impl_gainB (l : List Int) (n : Int) {k : Nat} : impl_GainOk.g k l n = some (gainB l n) := by
 unfold impl_GainOk.g impl_allIn.f gainB
 split <;> rfl
theorem spec_gainB (l : List Int) (n : Int) (hl : l.length ≤ 1048576) (k : Nat) (hk : l.length < k) : spec_GainOk.g k l n = some (gainB l n) := by
 unfold spec_GainOk.g gainB
 rw [all_tells 0 127 l (by omega) k hk]
 split <;> rfl
theorem szInts_tells (l : List Int) (hl : l.length ≤ 9223372036854775807) (n : Int) (h0 : 0 ≤ n) (h1 : n ≤ 1048576) {k : Nat} : laws_szIntS.g k l n = lessS n l.length := by
 unfold laws_szIntS.g lessS
 rw [w64 (i := n - (l.length : Int)) (by omega) (by omega)]
 by_cases c : n < (l.length : Int)
 · rw [if_pos (by omega), if_pos c]
 · rw [if_neg (by omega), if_neg c]
theorem to_from (l : List Int) (hl : l.length ≤ 9223372036854775806) (d : Nat) : ∀ (k i : Nat), i ≤ l.length → l.length - i = d → d < k →
   laws_toIntS.l0 l k (i : Int) (l.take i ++ List.replicate (l.length - i) 0) = some ((l.length : Int), l) := by
 induction d with
 | zero =>
   intro k i hi' hd hk
   obtain ⟨k, rfl⟩ := k1_ hk
   unfold laws_toIntS.l0 laws_toIntS.b0; rw [if_neg (by omega), List.take_of_length_le (by omega), hd, show (i : Int) = (l.length : Int) by omega]; simp
 | succ d ih =>
   intro k i hi' hd hk
   obtain ⟨k, rfl⟩ := k1_ hk
   have hlt : i < l.length := by omega
   unfold laws_toIntS.l0 laws_toIntS.b0
   rw [if_pos (by omega), if_pos (by omega), if_pos ⟨by omega, by simp; omega⟩, getD_int l 0 i hlt, w64 (by omega) (by omega), show ((i : Int) + 1) = ((i + 1 : Nat) : Int) by omega]
   have e : (l.take i ++ List.replicate (l.length - i) (0 : Int)).set (i : Int).toNat l[i] = l.take (i + 1) ++ List.replicate (l.length - (i + 1)) 0 := by
     rw [Int.toNat_natCast, List.set_append_right _ _ (by simp; omega), show l.length - i = (l.length - (i + 1)) + 1 by omega, List.replicate_succ, List.length_take, Nat.min_eq_left (by omega), Nat.sub_self, List.set_cons_zero, List.take_succ_eq_append_getElem hlt, List.append_assoc]
     rfl
   rw [e]
   exact ih k (i + 1) (by omega) (by omega) (by omega)
theorem to_tells (l : List Int) (hl : l.length < 4294967296) (k : Nat) (hk : l.length < k) : laws_toIntS.g k l = some l := by
 unfold laws_toIntS.g
 rw [if_pos (by omega), Int.toNat_natCast]
 have := to_from l (by omega) l.length k 0 (by omega) (by omega) hk
 have h0 : laws_toIntS.l0 l k 0 (List.replicate l.length 0) = some ((l.length : Int), l) := by simpa using this
 rw [h0]; rfl
theorem eq_from (a b : List Int) (hl : a.length ≤ 9223372036854775806) (hab : a.length = b.length) (d : Nat) : ∀ (k i : Nat), i ≤ a.length → a.length - i = d → d < k →
   (laws_eqIntS.l0 a b k (i : Int)).bind (fun o => match o with | .inl r_ => some r_ | .inr _ => some true) = some (decide (a.drop i = b.drop i)) := by
 induction d with
 | zero =>
   intro k i hi' hd hk
   obtain ⟨k, rfl⟩ := k1_ hk
   rw [List.drop_of_length_le (by omega), List.drop_of_length_le (by omega)]
   unfold laws_eqIntS.l0 laws_eqIntS.b0; rw [if_neg (by omega)]; simp
 | succ d ih =>
   intro k i hi' hd hk
   obtain ⟨k, rfl⟩ := k1_ hk
   have hlt : i < a.length := by omega
   have hltb : i < b.length := by omega
   unfold laws_eqIntS.l0 laws_eqIntS.b0
   rw [if_pos (by omega), if_pos (by omega), if_pos (by omega), getD_int a 0 i hlt, getD_int b 0 i hltb, List.drop_eq_getElem_cons hlt, List.drop_eq_getElem_cons hltb]
   by_cases h : a[i] = b[i]
   · rw [if_pos h, w64 (by omega) (by omega), show ((i : Int) + 1) = ((i + 1 : Nat) : Int) by omega, ih k (i + 1) (by omega) (by omega) (by omega)]
     congr 1
     rw [decide_eq_decide]
     simp only [h, List.cons.injEq, true_and]
   · rw [if_neg h, decide_eq_false (fun e => h (List.cons.inj e).1)]; rfl
theorem eq_tells (a b : List Int) (hl : a.length ≤ 9223372036854775806) (k : Nat) (hk : a.length < k) : laws_eqIntS.g k a b = some (decide (a = b)) := by
 unfold laws_eqIntS.g
 by_cases h : a.length = b.length
 · rw [if_pos (by omega)]
   have := eq_from a b hl h a.length k 0 (by omega) (by omega) hk
   rw [List.drop_zero, List.drop_zero] at this
   exact this
 · rw [if_neg (by omega), decide_eq_false]
   intro e; rw [e] at h; exact h rfl
section
variable {α β : Type} (z : α) (zb : β) (l : List α) (L : Nat → Int → List β → Option (Int × List β)) (E : Nat → α → Option β) (g : α → β) (s : α → Nat)
theorem to_fromW (hL : ∀ k i xs, L (k + 1) i xs = if i < (l.length : Int) then (if 0 ≤ i ∧ i < (l.length : Int) then ((E k (l.getD i.toNat z)).bind fun t => (if 0 ≤ i ∧ i < ((xs.length : Nat) : Int) then (L k (wrap64 (i + 1)) (xs.set i.toNat t)) else none)) else none) else some (i, xs))
   (hE : ∀ k, ∀ x ∈ l, s x < k → E k x = some (g x)) (hl : l.length ≤ 9223372036854775807) (d : Nat) : ∀ (k i : Nat), i ≤ l.length → l.length - i = d → d + sumS s (l.drop i) < k →
   ∃ j, L k (i : Int) ((l.take i).map g ++ List.replicate (l.length - i) zb) = some (j, l.map g) := by
 induction d with
 | zero =>
   intro k i hi hd hk
   obtain ⟨k, rfl⟩ := k1_ hk
   rw [hL, if_neg (by omega), List.take_of_length_le (by omega), hd]; simp
 | succ d ih =>
   intro k i hi hd hk
   obtain ⟨k, rfl⟩ := k1_ hk
   have hlt : i < l.length := by omega
   rw [List.drop_eq_getElem_cons hlt, sumS_cons] at hk
   rw [hL, if_pos (by omega), if_pos (by omega), getD_int l _ i hlt, hE k l[i] (List.getElem_mem hlt) (by omega), Option.bind_some, if_pos (by simp; omega), w64 (by omega) (by omega), show ((i : Int) + 1) = ((i + 1 : Nat) : Int) by omega]
   have e : ((l.take i).map g ++ List.replicate (l.length - i) zb).set (i : Int).toNat (g l[i]) = (l.take (i + 1)).map g ++ List.replicate (l.length - (i + 1)) zb := by
     rw [Int.toNat_natCast, List.set_append_right _ _ (by simp; omega), show l.length - i = (l.length - (i + 1)) + 1 by omega, List.replicate_succ, List.length_map, List.length_take, Nat.min_eq_left (by omega), Nat.sub_self, List.set_cons_zero, List.take_succ_eq_append_getElem hlt, List.map_append, List.append_assoc]
     rfl
   rw [e]
   exact ih k (i + 1) (by omega) (by omega) (by omega)
theorem to_listW (hL : ∀ k i xs, L (k + 1) i xs = if i < (l.length : Int) then (if 0 ≤ i ∧ i < (l.length : Int) then ((E k (l.getD i.toNat z)).bind fun t => (if 0 ≤ i ∧ i < ((xs.length : Nat) : Int) then (L k (wrap64 (i + 1)) (xs.set i.toNat t)) else none)) else none) else some (i, xs))
   (hE : ∀ k, ∀ x ∈ l, s x < k → E k x = some (g x)) (hl : l.length < 4294967296) (k : Nat) (hk : szL s l < k) :
   (if 0 ≤ (l.length : Int) ∧ (l.length : Int) < 4294967296 then ((L k 0 (List.replicate (l.length : Int).toNat zb)).bind (fun o => (some o.2))) else none) = some (l.map g) := by
 unfold szL at hk
 obtain ⟨j, e⟩ := to_fromW z zb l L E g s hL hE (by omega) l.length k 0 (by omega) (by omega) (by rw [List.drop_zero]; omega)
 rw [if_pos ⟨by omega, by omega⟩, Int.toNat_natCast]
 simp only [List.take_zero, List.map_nil, List.nil_append, Nat.sub_zero] at e
 rw [show (0 : Int) = ((0 : Nat) : Int) from rfl, e]; rfl
end
section
variable {α : Type} (z : α) (l : List α) (L : Nat → Int → Option (Bool ⊕ Int)) (E : Nat → α → Option Bool) (s : α → Nat)
theorem eq_fromW (hL : ∀ k i, L (k + 1) i = if i < (l.length : Int) then (if 0 ≤ i ∧ i < (l.length : Int) then (if 0 ≤ i ∧ i < (l.length : Int) then ((E k (l.getD i.toNat z)).bind fun t => (if t = true then (L k (wrap64 (i + 1))) else (some (Sum.inl false)))) else none) else none) else some (Sum.inr i))
   (hE : ∀ k, ∀ x ∈ l, s x < k → E k x = some true) (hl : l.length ≤ 9223372036854775807) (d : Nat) : ∀ (k i : Nat), i ≤ l.length → l.length - i = d → d + sumS s (l.drop i) < k → ∃ j, L k (i : Int) = some (.inr j) := by
 induction d with
 | zero =>
   intro k i hi hd hk
   obtain ⟨k, rfl⟩ := k1_ hk
   rw [hL, if_neg (by omega)]; exact ⟨_, rfl⟩
 | succ d ih =>
   intro k i hi hd hk
   obtain ⟨k, rfl⟩ := k1_ hk
   have hlt : i < l.length := by omega
   rw [List.drop_eq_getElem_cons hlt, sumS_cons] at hk
   rw [hL, if_pos (by omega), if_pos (by omega), if_pos (by omega), getD_int l _ i hlt, hE k l[i] (List.getElem_mem hlt) (by omega), Option.bind_some, if_pos rfl, w64 (by omega) (by omega), show ((i : Int) + 1) = ((i + 1 : Nat) : Int) by omega]
   exact ih k (i + 1) (by omega) (by omega) (by omega)
theorem eq_listW (hL : ∀ k i, L (k + 1) i = if i < (l.length : Int) then (if 0 ≤ i ∧ i < (l.length : Int) then (if 0 ≤ i ∧ i < (l.length : Int) then ((E k (l.getD i.toNat z)).bind fun t => (if t = true then (L k (wrap64 (i + 1))) else (some (Sum.inl false)))) else none) else none) else some (Sum.inr i))
   (hE : ∀ k, ∀ x ∈ l, s x < k → E k x = some true) (hl : l.length ≤ 9223372036854775807) (k : Nat) (hk : szL s l < k) :
   (if (l.length : Int) = (l.length : Int) then ((L k 0).bind (fun o => match o with | .inl r_ => some r_ | .inr _ => (some true))) else (some false)) = some true := by
 unfold szL at hk
 obtain ⟨j, e⟩ := eq_fromW z l L E s hL hE hl l.length k 0 (by omega) (by omega) (by rw [List.drop_zero]; omega)
 rw [if_pos rfl, show (0 : Int) = ((0 : Nat) : Int) from rfl, e]; rfl
end
theorem szL_zero {α : Type} (l : List α) : szL (fun _ : α => 0) l = l.length := by
 have : ∀ l : List α, sumS (fun _ => 0) l = 0 := fun l => by induction l with | nil => rfl | cons a l ih => rw [sumS_cons, ih]
 unfold szL; rw [this]; rfl
section
variable {α : Type} (z : α) (l : List α) (L : Nat → Int → Int → Option (Int ⊕ (Int × Int))) (E : Nat → α → Int → Option Int) (s : α → Nat)
theorem sz_fromW (hL : ∀ k n i, L (k + 1) n i = if i < (l.length : Int) then (if 0 ≤ i ∧ i < (l.length : Int) then ((E k (l.getD i.toNat z) n).bind fun t => (if t < 0 then (some (Sum.inl (-1))) else (L k t (wrap64 (i + 1))))) else none) else some (Sum.inr (n, i)))
   (hE : ∀ k x n, x ∈ l → s x < k → 0 ≤ n → n ≤ 1048576 → E k x n = lessS n (s x)) (hl : l.length ≤ 9223372036854775807) (d : Nat) :
   ∀ (k i : Nat) (n : Int), i ≤ l.length → l.length - i = d → d + sumS s (l.drop i) < k → 0 ≤ n → n ≤ 1048576 → (L k n (i : Int)).bind (fun o => match o with | .inl r_ => some r_ | .inr ⟨m, _⟩ => some m) = lessS n (sumS s (l.drop i)) := by
 induction d with
 | zero =>
   intro k i n hi hd hk h0 h1
   obtain ⟨k, rfl⟩ : ∃ m, k = m + 1 := ⟨k - 1, by omega⟩
   rw [hL, if_neg (by omega), List.drop_of_length_le (by omega)]
   unfold lessS; rw [if_neg (by show ¬ n < ((0 : Nat) : Int); omega)]
   show some n = some (n - ((0 : Nat) : Int)); congr 1; omega
 | succ d ih =>
   intro k i n hi hd hk h0 h1
   obtain ⟨k, rfl⟩ : ∃ m, k = m + 1 := ⟨k - 1, by omega⟩
   have hlt : i < l.length := by omega
   rw [List.drop_eq_getElem_cons hlt, sumS_cons] at hk
   rw [List.drop_eq_getElem_cons hlt, sumS_cons, hL, if_pos (by omega), if_pos (by omega), getD_int l _ i hlt, hE k l[i] n (List.getElem_mem hlt) (by omega) h0 h1]
   unfold lessS
   rw [Option.bind_some]
   by_cases c : n < (s l[i] : Int)
   · rw [if_pos c, if_pos (by omega), if_pos (by omega)]; rfl
   · rw [if_neg c, if_neg (by omega), w64 (by omega) (by omega), show ((i : Int) + 1) = ((i + 1 : Nat) : Int) by omega, ih k (i + 1) _ (by omega) (by omega) (by omega) (by omega) (by omega)]
     unfold lessS
     by_cases e : n - (s l[i] : Int) < (sumS s (l.drop (i + 1)) : Int)
     · rw [if_pos e, if_pos (by omega)]
     · rw [if_neg e, if_neg (by omega)]; congr 1; omega
theorem sz_listW (hL : ∀ k n i, L (k + 1) n i = if i < (l.length : Int) then (if 0 ≤ i ∧ i < (l.length : Int) then ((E k (l.getD i.toNat z) n).bind fun t => (if t < 0 then (some (Sum.inl (-1))) else (L k t (wrap64 (i + 1))))) else none) else some (Sum.inr (n, i)))
   (hE : ∀ k x n, x ∈ l → s x < k → 0 ≤ n → n ≤ 1048576 → E k x n = lessS n (s x)) (hl : l.length ≤ 9223372036854775807) (k : Nat) (n : Int) (hk : szL s l < k) (h0 : 0 ≤ n) (h1 : n ≤ 1048576) :
   (if wrap64 (n - (l.length : Int)) < 0 then some (-1) else ((L k (wrap64 (n - (l.length : Int))) 0).bind (fun o => match o with | .inl r_ => some r_ | .inr ⟨m, _⟩ => some m))) = lessS n (szL s l) := by
 unfold szL at hk ⊢
 rw [w64 (i := n - (l.length : Int)) (by omega) (by omega)]
 unfold lessS
 by_cases c : n < (l.length : Int)
 · rw [if_pos (by omega), if_pos (by omega)]
 · have := sz_fromW z l L E s hL hE hl l.length k 0 (n - (l.length : Int)) (by omega) (by omega) (by rw [List.drop_zero]; omega) (by omega) (by omega)
   rw [List.drop_zero] at this
   rw [if_neg (by omega), show (0 : Int) = ((0 : Nat) : Int) from rfl, this]
   unfold lessS
   by_cases e : n - (l.length : Int) < (sumS s l : Int)
   · rw [if_pos e, if_pos (by omega)]
   · rw [if_neg e, if_neg (by omega)]; congr 1; omega
end
def mIntss : List (List Int) → Nat := szL (fun l => l.length)
theorem eqIntSS_same (k : Nat) (x : List (List Int)) (h : mIntss x ≤ 9000000) (hk : mIntss x < k) : laws_eqIntSS.g k x x = some true :=
 eq_listW [] x (laws_eqIntSS.l0 x x) (fun k y => laws_eqIntS.g k y y) (fun l => l.length) (fun _ _ => rfl) (fun k y hy h' => by
   have := sumS_le (fun l : List Int => l.length) x y hy
   have e : mIntss x = x.length + sumS (fun l => l.length) x := rfl
   rw [eq_tells y y (by omega) k h', decide_eq_true rfl]) (by have e : mIntss x = x.length + sumS (fun l => l.length) x := rfl; omega) k hk
theorem mIntss_eq (x : List (List Int)) : mIntss x = x.length + sumS (fun l => l.length) x := rfl
theorem szIntSS_less (k : Nat) (x : List (List Int)) (n : Int) (hx : x.length ≤ 9223372036854775807) (hxx : ∀ y ∈ x, y.length ≤ 9223372036854775807) (hk : mIntss x < k) (h0 : 0 ≤ n) (h1 : n ≤ 1048576) : laws_szIntSS.g k x n = lessS n (mIntss x) :=
 sz_listW [] x (laws_szIntSS.l0 x) (fun k y n => laws_szIntS.g k y n) (fun l => l.length) (fun _ _ _ => rfl) (fun k y n hy _ h0 h1 => szInts_tells y (hxx y hy) n h0 h1) hx k n hk h0 h1
theorem toIntSS_same (k : Nat) (x : List (List Int)) (h : mIntss x ≤ 9000000) (hk : mIntss x < k) : laws_toIntSS.g k x = some x := by
 have e := mIntss_eq x
 have := to_listW [] [] x (laws_toIntSS.l0 x) (fun k y => laws_toIntS.g k y) id (fun l : List Int => l.length) (fun _ _ _ => rfl) (fun k y hy h' => to_tells y (by have := sumS_le (fun l : List Int => l.length) x y hy; omega) k h') (by omega) k (by unfold szL; omega)
 rw [List.map_id] at this
 exact this
def mMatrix (x : S44) : Nat := mIntss x.f1 + mIntss x.f2
def mLayer (x : S215) : Nat := x.f0.length + (mMatrix x.f1 + (mMatrix x.f2 + (mMatrix x.f3 + (mMatrix x.f4 + (x.f5.length + (mMatrix x.f6 + mMatrix x.f7))))))
def gMatrix (x : S44) : S30 := ⟨x.f0, x.f1, x.f2, x.f3, x.f4⟩
def gLayer (x : S215) : S118 := ⟨x.f0, gMatrix x.f1, gMatrix x.f2, gMatrix x.f3, gMatrix x.f4, x.f5, gMatrix x.f6, gMatrix x.f7⟩
theorem toMatrix_m (k : Nat) (x : S44) (h : mMatrix x ≤ 1048576) (hk : mMatrix x < k) : laws_toMatrix.g k x = some (gMatrix x) := by
 have g : mMatrix x = mIntss x.f1 + mIntss x.f2 := rfl
 unfold laws_toMatrix.g
 rw [toIntSS_same k x.f1 (by omega) (by omega), Option.bind_some, toIntSS_same k x.f2 (by omega) (by omega), Option.bind_some]; rfl
def iMatrix (x : S30) : Nat := mIntss x.f1 + mIntss x.f2
def iLayer (x : S118) : Nat := x.f0.length + (iMatrix x.f1 + (iMatrix x.f2 + (iMatrix x.f3 + (iMatrix x.f4 + (x.f5.length + (iMatrix x.f6 + iMatrix x.f7))))))
theorem sumS_map' {α β : Type} (g : α → β) (s : α → Nat) (t : β → Nat) (h : ∀ x, t (g x) = s x) : ∀ l : List α, sumS t (l.map g) = sumS s l
 | [] => rfl
 | x :: l => by rw [List.map_cons, sumS_cons, sumS_cons, h, sumS_map' g s t h l]
theorem i_layer (x : S215) : iLayer (gLayer x) = mLayer x := rfl
theorem eqMatrix_i (k : Nat) (x : S30) (h : iMatrix x ≤ 1048576) (hk : iMatrix x < k) : laws_eqMatrix.g k x x = some true := by
 have g : iMatrix x = mIntss x.f1 + mIntss x.f2 := rfl
 unfold laws_eqMatrix.g
 rw [if_pos rfl, eqIntSS_same k x.f1 (by omega) (by omega), Option.bind_some, if_pos rfl, eqIntSS_same k x.f2 (by omega) (by omega), Option.bind_some, if_pos rfl, if_pos rfl, if_pos rfl]
theorem szIntss_ok (k : Nat) (x : List (List Int)) (n : Int) (ok : okT26 x) (hk : mIntss x < k) (h0 : 0 ≤ n) (h1 : n ≤ 1048576) : laws_szIntSS.g k x n = lessS n (mIntss x) :=
 szIntSS_less k x n ok.1 (fun y hy => (ok.2 y hy).1) hk h0 h1
theorem szMatrix_m (k : Nat) (x : S44) (n : Int) (ok : okT44 x) (hk : mMatrix x < k) (h0 : 0 ≤ n) (h1 : n ≤ 1048576) : laws_szMatrix.g k x n = lessS n (mMatrix x) := by
 have h : mMatrix x = mIntss x.f1 + mIntss x.f2 := rfl
 exact sz_then (szIntss_ok k x.f1 n ok.2.1 (by omega) h0 h1) h0 fun g => sz_end (szIntss_ok k x.f2 _ ok.2.2.1 (by omega) (by omega) (by omega)) (by omega)
theorem eqInts_i (k : Nat) (x : List Int) (h : x.length ≤ 1048576) (hk : x.length < k) : laws_eqIntS.g k x x = some true := by rw [eq_tells x x (by omega) k hk, decide_eq_true rfl]
theorem szLayer_g (k : Nat) (x : S215) (n : Int) (ok : okT215 x) (hk : mLayer x < k) (h0 : 0 ≤ n) (h1 : n ≤ 1048576) : laws_szLayer.g k x n = lessS n (mLayer x) := by
 have h : mLayer x = x.f0.length + (mMatrix x.f1 + (mMatrix x.f2 + (mMatrix x.f3 + (mMatrix x.f4 + (x.f5.length + (mMatrix x.f6 + mMatrix x.f7)))))) := rfl
 obtain ⟨o0, o1, o2, o3, o4, o5, o6, o7⟩ := ok
 unfold laws_szLayer.g
 rw [h]
 exact sz_then (szInts_tells x.f0 o0.1 n h0 h1) h0 fun g0 => sz_then (szMatrix_m k x.f1 _ o1 (by omega) (by omega) (by omega)) (by omega) fun g1 => sz_then (szMatrix_m k x.f2 _ o2 (by omega) (by omega) (by omega)) (by omega) fun g2 =>
   sz_then (szMatrix_m k x.f3 _ o3 (by omega) (by omega) (by omega)) (by omega) fun g3 => sz_then (szMatrix_m k x.f4 _ o4 (by omega) (by omega) (by omega)) (by omega) fun g4 => sz_then (szInts_tells x.f5 o5.1 _ (by omega) (by omega)) (by omega) fun g5 =>
   sz_then (szMatrix_m k x.f6 _ o6 (by omega) (by omega) (by omega)) (by omega) fun g6 => sz_end (szMatrix_m k x.f7 _ o7 (by omega) (by omega) (by omega)) (by omega)
theorem toLayer_g (k : Nat) (x : S215) (h : mLayer x ≤ 1048576) (hk : mLayer x < k) : laws_toLayer.g k x = some (gLayer x) := by
 have g : mLayer x = x.f0.length + (mMatrix x.f1 + (mMatrix x.f2 + (mMatrix x.f3 + (mMatrix x.f4 + (x.f5.length + (mMatrix x.f6 + mMatrix x.f7)))))) := rfl
 unfold laws_toLayer.g
 rw [to_tells x.f0 (by omega) k (by omega), Option.bind_some, toMatrix_m k x.f1 (by omega) (by omega), Option.bind_some, toMatrix_m k x.f2 (by omega) (by omega), Option.bind_some, toMatrix_m k x.f3 (by omega) (by omega), Option.bind_some, toMatrix_m k x.f4 (by omega) (by omega), Option.bind_some,
   to_tells x.f5 (by omega) k (by omega), Option.bind_some, toMatrix_m k x.f6 (by omega) (by omega), Option.bind_some, toMatrix_m k x.f7 (by omega) (by omega), Option.bind_some]
 rfl
theorem eqLayer_g (k : Nat) (x : S118) (h : iLayer x ≤ 1048576) (hk : iLayer x < k) : laws_eqLayer.g k x x = some true := by
 have g : iLayer x = x.f0.length + (iMatrix x.f1 + (iMatrix x.f2 + (iMatrix x.f3 + (iMatrix x.f4 + (x.f5.length + (iMatrix x.f6 + iMatrix x.f7)))))) := rfl
 unfold laws_eqLayer.g
 rw [eqInts_i k x.f0 (by omega) (by omega), Option.bind_some, if_pos rfl, eqMatrix_i k x.f1 (by omega) (by omega), Option.bind_some, if_pos rfl, eqMatrix_i k x.f2 (by omega) (by omega), Option.bind_some, if_pos rfl, eqMatrix_i k x.f3 (by omega) (by omega), Option.bind_some, if_pos rfl,
   eqMatrix_i k x.f4 (by omega) (by omega), Option.bind_some, if_pos rfl, eqInts_i k x.f5 (by omega) (by omega), Option.bind_some, if_pos rfl, eqMatrix_i k x.f6 (by omega) (by omega), Option.bind_some, if_pos rfl, eqMatrix_i k x.f7 (by omega) (by omega), Option.bind_some, if_pos rfl]
theorem mat_rows (x : S30) (h : iMatrix x ≤ 1048576) : x.f1.length ≤ 1048576 ∧ (∀ r ∈ x.f1, r.length ≤ 1048576) ∧ ∀ r ∈ x.f2, r.length ≤ 1048576 := by
 unfold iMatrix at h
 have e1 := mIntss_eq x.f1
 have e2 := mIntss_eq x.f2
 unfold szL at e1 e2
 refine ⟨by omega, fun r hr => ?_, fun r hr => ?_⟩
 · have := sumS_le (fun l : List Int => l.length) x.f1 r hr; omega
 · have := sumS_le (fun l : List Int => l.length) x.f2 r hr; omega
def mfit (x : S30) (a b : Int) : Bool := fitB x.f0 x.f1 x.f2 x.f3 x.f4 a b
theorem spec_mfit (x : S30) (a b : Int) (h : iMatrix x ≤ 1048576) (k : Nat) (hk : 3000000 < k) : spec_l10Matrix.g k x a b = some (mfit x a b) := by
 obtain ⟨h1, h2, h3⟩ := mat_rows x h
 exact spec_fit _ _ _ _ _ _ _ h2 h3 k hk
def layerB (x : S118) (n : Int) : Bool := gainB x.f0 n && (gainB x.f5 n && (widthB (x.f6.f1.length : Int) && (mfit x.f1 n n && (mfit x.f2 n n && (mfit x.f3 n n && (mfit x.f4 n n && (mfit x.f6 n (x.f6.f1.length : Int) && mfit x.f7 (x.f6.f1.length : Int) n)))))))
theorem mfit_width (x : S30) (a b : Int) (h : mfit x a b = true) : widthB a = true := by
 unfold mfit fitB at h
 simp only [Bool.and_eq_true, decide_eq_true_eq] at h
 obtain ⟨h1, h2, _⟩ := h
 unfold matB at h1
 simp only [Bool.and_eq_true] at h1
 rw [← h2]; exact h1.1.1.1.1.1.1.1
theorem if_and (a : Bool) (b : Option Bool) (c : Bool) (h : a = true → b = some c) : (if a = true then b else some false) = some (a && c) := by
 cases a with
 | false => rfl
 | true => rw [if_pos rfl, h rfl]; rfl
theorem bind_and (p : Option Bool) (a : Bool) (b : Option Bool) (c : Bool) (hp : p = some a) (h : a = true → b = some c) : (p.bind fun t => if t = true then b else some false) = some (a && c) := by
 rw [hp, Option.bind_some]; exact if_and a b c h
theorem spec_layer (x : S118) (n : Int) (h : iLayer x ≤ 1048576) (k : Nat) (hk : 3000000 < k) : spec_LayerOk.g k x n = some (layerB x n) := by
 have e : iLayer x = x.f0.length + (iMatrix x.f1 + (iMatrix x.f2 + (iMatrix x.f3 + (iMatrix x.f4 + (x.f5.length + (iMatrix x.f6 + iMatrix x.f7)))))) := rfl
 have g : spec_LayerOk.g k x n = some (widthB n && (widthB (x.f6.f1.length : Int) && (gainB x.f0 n && (gainB x.f5 n && (mfit x.f1 n n && (mfit x.f2 n n && (mfit x.f3 n n && (mfit x.f4 n n && (mfit x.f6 n (x.f6.f1.length : Int) && mfit x.f7 (x.f6.f1.length : Int) n))))))))) := by
   unfold spec_LayerOk.g
   refine bind_and _ _ _ _ (spec_width n) fun _ => bind_and _ _ _ _ (spec_width _) fun _ => bind_and _ _ _ _ (spec_gainB x.f0 n (by omega) k (by omega)) fun _ => bind_and _ _ _ _ (spec_gainB x.f5 n (by omega) k (by omega)) fun _ => bind_and _ _ _ _ (spec_mfit x.f1 n n (by omega) k hk) fun _ =>
     bind_and _ _ _ _ (spec_mfit x.f2 n n (by omega) k hk) fun _ => bind_and _ _ _ _ (spec_mfit x.f3 n n (by omega) k hk) fun _ => bind_and _ _ _ _ (spec_mfit x.f4 n n (by omega) k hk) fun _ => bind_and _ _ _ _ (spec_mfit x.f6 n _ (by omega) k hk) fun _ => ?_
   rw [spec_mfit x.f7 _ n (by omega) k hk, Option.bind_some]
 rw [g]
 unfold layerB
 congr 1
 cases h1 : mfit x.f1 n n with
 | false => simp
 | true => rw [mfit_width _ _ _ h1]; cases gainB x.f0 n <;> cases gainB x.f5 n <;> cases widthB (x.f6.f1.length : Int) <;> rfl
theorem impl_mfit (x : S30) (a b : Int) (h : iMatrix x ≤ 1048576) (k : Nat) (hk : 1000 < k) : impl_withinBudget.g k x a b = some (mfit x a b) := by
 obtain ⟨h1, h2, h3⟩ := mat_rows x h
 exact impl_fit _ _ _ _ _ _ _ (by omega) h2 k hk
theorem impl_four (x : S118) (n : Int) (h : iLayer x ≤ 1048576) (rest : Option Bool) (c : Bool) (hr : rest = some c) (k : Nat) (hk : 2000 < k) :
   (impl_LayerOk.l0 x n k 0).bind (fun o => match o with | .inl r_ => some r_ | .inr _ => rest) = some (mfit x.f1 n n && (mfit x.f2 n n && (mfit x.f3 n n && (mfit x.f4 n n && c)))) := by
 have e : iLayer x = x.f0.length + (iMatrix x.f1 + (iMatrix x.f2 + (iMatrix x.f3 + (iMatrix x.f4 + (x.f5.length + (iMatrix x.f6 + iMatrix x.f7)))))) := rfl
 obtain ⟨k, rfl⟩ : ∃ m, k = m + 5 := ⟨k - 5, by omega⟩
 have step : ∀ (k i : Nat) (m : S30) (d : Bool), i < 4 → [x.f1, x.f2, x.f3, x.f4].getD i o30 = m → iMatrix m ≤ 1048576 → 1000 < k →
     (impl_LayerOk.l0 x n k ((i + 1 : Nat) : Int)).bind (fun o => match o with | .inl r_ => some r_ | .inr _ => rest) = some d → (impl_LayerOk.l0 x n (k + 1) (i : Int)).bind (fun o => match o with | .inl r_ => some r_ | .inr _ => rest) = some (mfit m n n && d) := by
   intro k i m d hi hm hM hk hd
   unfold impl_LayerOk.l0 impl_LayerOk.b0
   rw [if_pos (by omega), if_pos (by omega), Int.toNat_natCast, hm, impl_mfit m n n hM k hk, Option.bind_some, w64 (by omega) (by omega), show ((i : Int) + 1) = ((i + 1 : Nat) : Int) by omega]
   cases mfit m n n with
   | false => rfl
   | true => rw [if_pos rfl, hd]; rfl
 refine step (k + 4) 0 x.f1 _ (by omega) rfl (by omega) (by omega) ?_
 refine step (k + 3) 1 x.f2 _ (by omega) rfl (by omega) (by omega) ?_
 refine step (k + 2) 2 x.f3 _ (by omega) rfl (by omega) (by omega) ?_
 refine step (k + 1) 3 x.f4 _ (by omega) rfl (by omega) (by omega) ?_
 unfold impl_LayerOk.l0 impl_LayerOk.b0
 rw [if_neg (by omega), hr]; rfl
theorem impl_layer (x : S118) (n : Int) (h : iLayer x ≤ 1048576) (k : Nat) (hk : 2000 < k) : impl_LayerOk.g k x n = some (layerB x n) := by
 have e : iLayer x = x.f0.length + (iMatrix x.f1 + (iMatrix x.f2 + (iMatrix x.f3 + (iMatrix x.f4 + (x.f5.length + (iMatrix x.f6 + iMatrix x.f7)))))) := rfl
 unfold impl_LayerOk.g layerB
 refine bind_and _ _ _ _ (impl_gainB x.f0 n) fun _ => bind_and _ _ _ _ (impl_gainB x.f5 n) fun _ => bind_and _ _ _ _ (impl_width _) fun _ => ?_
 refine impl_four x n h _ _ (bind_and _ _ _ _ (impl_mfit x.f6 n _ (by omega) k (by omega)) fun _ => ?_) k hk
 rw [impl_mfit x.f7 _ n (by omega) k (by omega), Option.bind_some]
structure MatOk (m : S30) : Prop where
 b : matB m.f0 m.f1 m.f2 m.f3 m.f4 = true
 w : m.f0 = 4 ∨ m.f0 = 8
 n : m.f1.length ≤ 300
 s : m.f2.length = m.f1.length
 m0 : 0 ≤ m.f3
 m1 : m.f3 ≤ 65536
 h0 : 0 ≤ m.f4
 h1 : m.f4 ≤ 24
 r : ∀ i, i < m.f1.length → ((m.f1.getD i []).length : Int) = m.f0 ∧ rowB (m.f1.getD i []) (m.f2.getD i []) = true
theorem matOk_of (m : S30) (h : matB m.f0 m.f1 m.f2 m.f3 m.f4 = true) : MatOk m := by
 obtain ⟨a, b, c, d, e, f, g, i⟩ := mat_facts _ _ _ _ _ h
 exact ⟨h, a, b, c, d, e, f, g, i⟩
theorem mfit_ok (m : S30) (a b : Int) (h : mfit m a b = true) : MatOk m ∧ m.f0 = a ∧ (m.f1.length : Int) = b := by
 unfold mfit fitB at h
 simp only [Bool.and_eq_true, decide_eq_true_eq] at h
 exact ⟨matOk_of m h.1, h.2.1, h.2.2.1⟩
def sumG (r s x : List Int) (j : Nat) : Int := rd s ((j / 4 : Nat) : Int) * rd r (j : Int) * rd x (j : Int)
theorem sumTo_F (r s x : List Int) : ∀ n, sumF (sumG r s x) n = sumTo r s x n
 | 0 => rfl
 | n + 1 => by rw [sumF, sumTo_F r s x n]; rfl
theorem impl_dot (r s x : List Int) (h : rowB r s = true) (hx : ∀ z ∈ x, -127 ≤ z ∧ z ≤ 127) (hl : x.length = r.length) (k : Nat) (hk : 10 < k) : impl_rowSum.g k r s x = some (sumTo r s x r.length) := by
 obtain ⟨h1, h2, h3, h4⟩ := row_facts r s h
 unfold impl_rowSum.g
 rw [sumLoop r.length (sumG r s x) 129032 (by omega) (by omega) (fun i hi => (term_bd r s x h hx hl i hi).2) 0 (impl_rowSum.l0 r s x) (fun t => (t, (r.length : Int))) (fun k t i hk hi => by
   have tb := term_bd r s x h hx hl i hi
   show impl_rowSum.b0 _ _ _ _ k _ _ = _
   unfold impl_rowSum.b0
   rw [tdiv4, w64 (i := ((i / 4 : Nat) : Int)) (by omega) (by omega), if_pos (by omega), if_pos (by omega), if_pos (by omega), if_pos (by omega), getD_rd, getD_rd, getD_rd, w64 (i := rd s ((i / 4 : Nat) : Int) * rd r (i : Int)) (by omega) (by omega), w64 (i := rd s ((i / 4 : Nat) : Int) * rd r (i : Int) * rd x (i : Int)) (by omega) (by omega)]; rfl) (fun k t => by
   show impl_rowSum.b0 _ _ _ _ k _ _ = _
   unfold impl_rowSum.b0
   rw [if_neg (by omega)]) k (by omega), Option.bind_some, sumTo_F]
theorem spec_dot (r s x : List Int) (h : rowB r s = true) (hx : ∀ z ∈ x, -127 ≤ z ∧ z ≤ 127) (hl : x.length = r.length) (k : Nat) (hk : 10 < k) : spec_l05Sum.g k r s x = some (sumTo r s x r.length) := by
 obtain ⟨h1, h2, h3, h4⟩ := row_facts r s h
 unfold spec_l05Sum.g
 rw [sumLoop r.length (sumG r s x) 129032 (by omega) (by omega) (fun i hi => (term_bd r s x h hx hl i hi).2) 0 (spec_l05Sum.l0 r s x) (fun t => (t, (r.length : Int))) (fun k t i hk hi => by
   have tb := term_bd r s x h hx hl i hi
   show spec_l05Sum.b0 _ _ _ _ k _ _ = _
   unfold spec_l05Sum.b0
   rw [tdiv4, w64 (i := ((i / 4 : Nat) : Int)) (by omega) (by omega), if_pos (by omega), if_pos (by omega), if_pos (by omega), if_pos (by omega), getD_rd, getD_rd, getD_rd, w64 (i := rd s ((i / 4 : Nat) : Int) * rd r (i : Int)) (by omega) (by omega), w64 (i := rd s ((i / 4 : Nat) : Int) * rd r (i : Int) * rd x (i : Int)) (by omega) (by omega)]; rfl) (fun k t => by
   show spec_l05Sum.b0 _ _ _ _ k _ _ = _
   unfold spec_l05Sum.b0
   rw [if_neg (by omega)]) k (by omega), Option.bind_some, sumTo_F]
def VecIn (w : Int) (x : List Int) : Prop := (x.length : Int) = w ∧ ∀ z ∈ x, -127 ≤ z ∧ z ≤ 127
def wideL (m : S30) (x : List Int) : List Int := sumsOf m.f1 m.f2 x m.f1.length
theorem wide_row (m : S30) (h : MatOk m) (x : List Int) (hx : VecIn m.f0 x) (i : Nat) (hi : i < m.f1.length) : rowB (m.f1.getD i []) (m.f2.getD i []) = true ∧ x.length = (m.f1.getD i []).length := by
 have := h.r i hi
 have := hx.1
 exact ⟨(h.r i hi).2, by omega⟩
theorem impl_wide_l0 (m : S30) (h : MatOk m) (x : List Int) (hx : VecIn m.f0 x) (k : Nat) (hk : 400 < k) : impl_wide.l0 m x k [] 0 = some (wideL m x, (m.f1.length : Int)) := by
 have hn := h.n
 have hs := h.s
 exact rowLoop m.f1.length (by omega) (fun i => sumTo (m.f1.getD i []) (m.f2.getD i []) x (m.f1.getD i []).length) 20 (impl_wide.l0 m x) (fun r => (r, (m.f1.length : Int))) (fun k r i hk hi hr => by
   obtain ⟨a, b⟩ := wide_row m h x hx i hi
   show impl_wide.b0 _ _ _ k _ _ = _
   unfold impl_wide.b0
   rw [if_pos (by omega), if_pos (by omega), if_pos (by omega), Int.toNat_natCast, impl_dot _ _ _ a hx.2 b k (by omega), Option.bind_some, if_pos (by omega)]) (fun k r => by
   show impl_wide.b0 _ _ _ k _ _ = _
   unfold impl_wide.b0
   rw [if_neg (by omega)]) k (by omega)
theorem impl_wideL (m : S30) (h : MatOk m) (hp : 0 < m.f1.length) (x : List Int) (hx : VecIn m.f0 x) (k : Nat) (hk : 400 < k) : impl_wide.g k m x = some (wideL m x, true) := by
 have h1 := hx.1
 unfold impl_wide.g
 rw [if_pos (by omega), if_pos h1, all_i, Option.bind_some, if_pos (allZ_of hx.2), impl_wide_l0 m h x hx k hk, Option.bind_some]
theorem spec_wideL (m : S30) (h : MatOk m) (hi : iMatrix m ≤ 1048576) (x : List Int) (hx : VecIn m.f0 x) (k : Nat) (hk : 3000000 < k) : spec_ApplyWide.g k m x = some (wideL m x, true) := by
 have hn := h.n
 have hs := h.s
 have h1 := hx.1
 have hw := h.w
 obtain ⟨r1, r2, r3⟩ := mat_rows m hi
 have e1 : spec_MatrixOk.g k (⟨m.f0, m.f1, m.f2, m.f3, m.f4⟩ : S30) = some true := by rw [spec_mat m.f0 m.f1 m.f2 m.f3 m.f4 r2 r3 k (by omega), h.b]
 unfold spec_ApplyWide.g
 rw [e1, Option.bind_some, if_pos rfl, if_pos h1, all_s _ _ _ (by omega) k (by omega), Option.bind_some, if_pos (allZ_of hx.2),
   rowLoop m.f1.length (by omega) (fun i => sumTo (m.f1.getD i []) (m.f2.getD i []) x (m.f1.getD i []).length) 20 (spec_ApplyWide.l0 m x) (fun r => (r, (m.f1.length : Int))) (fun k r i hk hi hr => by
   obtain ⟨a, b⟩ := wide_row m h x hx i hi
   show spec_ApplyWide.b0 _ _ _ k _ _ = _
   unfold spec_ApplyWide.b0
   rw [if_pos (by omega), if_pos (by omega), if_pos (by omega), Int.toNat_natCast, spec_dot _ _ _ a hx.2 b k (by omega), Option.bind_some, if_pos (by omega)]) (fun k r => by
   show spec_ApplyWide.b0 _ _ _ k _ _ = _
   unfold spec_ApplyWide.b0
   rw [if_neg (by omega)]) k (by omega), Option.bind_some]; rfl
theorem wide_len (m : S30) (x : List Int) : (wideL m x).length = m.f1.length := sumsOf_len _ _ _ _
theorem wide_in (m : S30) (h : MatOk m) (x : List Int) (hx : VecIn m.f0 x) (i : Nat) (hi : i < m.f1.length) : -1032256 ≤ rd (wideL m x) (i : Int) ∧ rd (wideL m x) (i : Int) ≤ 1032256 :=
 rd_in (sums_in m.f0 m.f1 m.f2 m.f3 m.f4 h.b x hx.2 hx.1) i (by rw [sumsOf_len]; exact hi)
def applyT (m : S30) (x : List Int) (i : Nat) : Int := clampZ (msz (rd (wideL m x) (i : Int)) m.f3 m.f4) 127
def applyL (m : S30) (x : List Int) : List Int := (List.range m.f1.length).map (applyT m x)
theorem apply_len (m : S30) (x : List Int) : (applyL m x).length = m.f1.length := by simp [applyL]
theorem apply_in (m : S30) (x : List Int) : ∀ z ∈ applyL m x, -127 ≤ z ∧ z ≤ 127 := fun z hz => by
 obtain ⟨i, _, rfl⟩ := List.mem_map.1 hz
 exact clamp127 _
theorem impl_narrowL (m : S30) (h : MatOk m) (x : List Int) (hx : VecIn m.f0 x) (k : Nat) (hk : 400 < k) : impl_narrow.g k m (wideL m x) = some (applyL m x) := by
 have hn := h.n
 have hl := wide_len m x
 unfold impl_narrow.g
 rw [rowLoop m.f1.length (by omega) (applyT m x) 20 (impl_narrow.l0 m (wideL m x)) (fun r => (r, (m.f1.length : Int))) (fun k r i hk hi hr => by
   have b := wide_in m h x hx i hi
   have c := xm_bd (rd (wideL m x) (i : Int)) m.f3 b.1 b.2 h.m0 h.m1
   show impl_narrow.b0 _ _ _ k _ _ = _
   unfold impl_narrow.b0
   rw [hl, if_pos (by omega), if_pos (by omega), getD_rd, impl_ms _ _ _ (by omega) (by omega) h.m0 h.m1 h.h0 h.h1 c.1 c.2 k (by omega), Option.bind_some, impl_clamp _ 127 (by omega) (by omega), Option.bind_some, if_pos (by omega)]; rfl) (fun k r => by
   show impl_narrow.b0 _ _ _ k _ _ = _
   unfold impl_narrow.b0
   rw [hl, if_neg (by omega)]) k (by omega), Option.bind_some]; rfl
theorem spec_applyL (m : S30) (h : MatOk m) (hi : iMatrix m ≤ 1048576) (x : List Int) (hx : VecIn m.f0 x) (k : Nat) (hk : 3000000 < k) : spec_Apply.g k m x = some (applyL m x, true) := by
 have hn := h.n
 have hl := wide_len m x
 have e := spec_wideL m h hi x hx k hk
 unfold spec_Apply.g
 rw [show (⟨m.f0, m.f1, m.f2, m.f3, m.f4⟩ : S30) = m from rfl, e, Option.bind_some,
   rowLoop m.f1.length (by omega) (applyT m x) 40 (spec_Apply.l0 m (wideL m x, true)) (fun r => (r, (m.f1.length : Int))) (fun k r i hk hi hr => by
   have b := wide_in m h x hx i hi
   have c := xm_bd (rd (wideL m x) (i : Int)) m.f3 b.1 b.2 h.m0 h.m1
   show spec_Apply.b0 _ _ _ k _ _ = _
   unfold spec_Apply.b0
   dsimp only
   rw [hl, if_pos (by omega), if_pos (by omega), getD_rd, spec_ms _ _ _ (by omega) (by omega) h.m0 h.m1 h.h0 h.h1 c.1 c.2 k (by omega), Option.bind_some, spec_clamp _ 127 (by omega) (by omega), Option.bind_some, if_pos (by omega)]; rfl) (fun k r => by
   show spec_Apply.b0 _ _ _ k _ _ = _
   unfold spec_Apply.b0
   dsimp only
   rw [hl, if_neg (by omega)]) k (by omega), Option.bind_some]; rfl
theorem impl_run_applyL (R : S157) (m : S30) (h : MatOk m) (hp : 0 < m.f1.length) (x : List Int) (hx : VecIn m.f0 x) (k : Nat) (hk : 400 < k) : impl_run_apply.g k R m x = some (applyL m x, true) := by
 unfold impl_run_apply.g
 rw [show (⟨m.f0, m.f1, m.f2, m.f3, m.f4⟩ : S30) = m from rfl, impl_wideL m h hp x hx k hk, Option.bind_some, if_pos rfl, Option.bind_some]
 dsimp only
 rw [impl_narrowL m h x hx k hk, Option.bind_some]
theorem abs_ex (x : Int) : ∃ a, spec_l05Abs.f x = some a := by unfold spec_l05Abs.f; split <;> exact ⟨_, rfl⟩
theorem sums_from (l : List Int) (ok : Bool) (hl : l.length ≤ 1000000) (d : Nat) : ∀ (i : Nat) (c : Int), i + d = l.length → ∃ c', ∀ k, d < k → spec_l17Sums.l0 (l, ok) k (i : Int) c = some ((l.length : Int), c') := by
 induction d with
 | zero =>
   intro i c hi
   refine ⟨c, fun k hk => ?_⟩
   obtain ⟨k, rfl⟩ : ∃ m, k = m + 1 := ⟨k - 1, by omega⟩
   show spec_l17Sums.b0 _ _ k _ _ = _
   unfold spec_l17Sums.b0
   dsimp only
   rw [if_neg (by omega), show (i : Int) = (l.length : Int) by omega]
 | succ d ih =>
   intro i c hi
   obtain ⟨a, ha⟩ := abs_ex (l.getD i 0)
   obtain ⟨c', e⟩ := ih (i + 1) (if a > c then a else c) (by omega)
   refine ⟨c', fun k hk => ?_⟩
   obtain ⟨k, rfl⟩ : ∃ m, k = m + 1 := ⟨k - 1, by omega⟩
   rw [← e k (by omega)]
   show spec_l17Sums.b0 _ _ k _ _ = _
   unfold spec_l17Sums.b0
   dsimp only
   rw [if_pos (by omega), if_pos (by omega), Int.toNat_natCast, ha, Option.bind_some, w_up i (by omega)]
   by_cases g : a > c
   · rw [if_pos g, if_pos g, Option.bind_some, Option.bind_some]
   · rw [if_neg g, if_neg g, Option.bind_some]
theorem spec_sums (t : S148) (m : S30) (h : MatOk m) (hi : iMatrix m ≤ 1048576) (x : List Int) (hx : VecIn m.f0 x) : ∃ t', ∀ k, 3000000 < k → spec_l17Sums.g k t m x = some t' := by
 have hn := h.n
 have hl := wide_len m x
 obtain ⟨c', e⟩ := sums_from (wideL m x) true (by omega) (wideL m x).length 0 t.f0 (by omega)
 refine ⟨⟨c', t.f1⟩, fun k hk => ?_⟩
 unfold spec_l17Sums.g
 have e' := e k (by omega)
 rw [show ((0 : Nat) : Int) = 0 from rfl] at e'
 rw [show (⟨m.f0, m.f1, m.f2, m.f3, m.f4⟩ : S30) = m from rfl, spec_wideL m h hi x hx k hk, Option.bind_some, e', Option.bind_some]
def t1 (a b c s : Int) : Int := clampZ (floorZ (a * c - b * s) 128) 127
def t2 (a b c s : Int) : Int := clampZ (floorZ (a * s + b * c) 128) 127
def okTurn (a b c s : Int) : Prop := (-127 ≤ a ∧ a ≤ 127) ∧ (-127 ≤ b ∧ b ≤ 127) ∧ (-128 ≤ c ∧ c ≤ 128) ∧ (-128 ≤ s ∧ s ≤ 128)
theorem mul_bd2 (a b : Int) (m n : Int) (h1 : -m ≤ a) (h2 : a ≤ m) (h3 : -n ≤ b) (h4 : b ≤ n) (hm : 0 ≤ m) (hn : 0 ≤ n) : -(m * n) ≤ a * b ∧ a * b ≤ m * n := by
 have h := Int.natAbs_mul a b
 have e1 : a.natAbs ≤ m.toNat := by omega
 have e2 : b.natAbs ≤ n.toNat := by omega
 have e3 : a.natAbs * b.natAbs ≤ m.toNat * n.toNat := Nat.mul_le_mul e1 e2
 have e4 : ((m.toNat * n.toNat : Nat) : Int) = m * n := by rw [Int.natCast_mul, Int.toNat_of_nonneg hm, Int.toNat_of_nonneg hn]
 omega
theorem turnable_yes (a b c s : Int) (h : okTurn a b c s) : impl_turnable.f a b c s = some true := by
 obtain ⟨⟨a1, a2⟩, ⟨b1, b2⟩, ⟨c1, c2⟩, s1, s2⟩ := h
 unfold impl_turnable.f impl_in.f
 rw [if_pos (by omega), Option.bind_some, if_pos (by simpa using a2), if_pos (by omega), Option.bind_some, if_pos (by simpa using b2), if_pos (by omega), Option.bind_some, if_pos (by simpa using c2), if_pos (by omega), Option.bind_some, decide_eq_true (by omega)]
theorem impl_turn (a b c s : Int) (h : okTurn a b c s) (k : Nat) (hk : 1 < k) : impl_Turn.f k a b c s = some (t1 a b c s, t2 a b c s) := by
 have h' := h
 obtain ⟨⟨a1, a2⟩, ⟨b1, b2⟩, ⟨c1, c2⟩, s1, s2⟩ := h
 have m1 := mul_bd2 a c 127 128 a1 a2 c1 c2 (by omega) (by omega)
 have m2 := mul_bd2 b s 127 128 b1 b2 s1 s2 (by omega) (by omega)
 have m3 := mul_bd2 a s 127 128 a1 a2 s1 s2 (by omega) (by omega)
 have m4 := mul_bd2 b c 127 128 b1 b2 c1 c2 (by omega) (by omega)
 unfold impl_Turn.f t1 t2
 rw [turnable_yes a b c s h', Option.bind_some, if_pos rfl, w64 (i := a * c) (by omega) (by omega), w64 (i := b * s) (by omega) (by omega), w64 (i := a * s) (by omega) (by omega), w64 (i := b * c) (by omega) (by omega), w64 (i := a * c - b * s) (by omega) (by omega), w64 (i := a * s + b * c) (by omega) (by omega),
   impl_floor (a * c - b * s) 128 (by omega) (by omega) (by omega) k hk, Option.bind_some, impl_clamp _ 127 (by omega) (by omega), Option.bind_some, impl_floor (a * s + b * c) 128 (by omega) (by omega) (by omega) k hk, Option.bind_some, impl_clamp _ 127 (by omega) (by omega), Option.bind_some]
theorem clampZ_bd (x : Int) : -127 ≤ clampZ x 127 ∧ clampZ x 127 ≤ 127 := by
 unfold clampZ
 repeat' split
 all_goals omega
def turned (h : Nat) (cs sn : List Int) : Nat → List Int → List Int
 | i, a :: b :: l => t1 a b (rd cs ((i % h / 2 : Nat) : Int)) (rd sn ((i % h / 2 : Nat) : Int)) :: t2 a b (rd cs ((i % h / 2 : Nat) : Int)) (rd sn ((i % h / 2 : Nat) : Int)) :: turned h cs sn (i + 2) l
 | _, _ => []
theorem turned_bd (h : Nat) (cs sn : List Int) : ∀ (m : Nat) (l : List Int) (i : Nat), l.length = 2 * m → (∀ z ∈ turned h cs sn i l, -127 ≤ z ∧ z ≤ 127) ∧ (turned h cs sn i l).length = l.length
 | 0, l, i, hl => by
   cases l with
   | nil => exact ⟨fun z hz => (by cases hz), rfl⟩
   | cons a l => simp at hl
 | m + 1, l, i, hl => by
   match l, hl with
   | a :: b :: l, hl =>
     obtain ⟨h1, h2⟩ := turned_bd h cs sn m l (i + 2) (by simp at hl; omega)
     refine ⟨fun z hz => ?_, by simp [turned, h2]⟩
     simp only [turned, List.mem_cons] at hz
     rcases hz with rfl | rfl | hz
     · exact clampZ_bd _
     · exact clampZ_bd _
     · exact h1 z hz
theorem half_of (g i : Nat) (hg : 1 ≤ g) : i % (2 * g) / 2 < g := by
 have h : i % (2 * g) < 2 * g := Nat.mod_lt _ (by omega)
 generalize i % (2 * g) = r at h ⊢
 omega
theorem half_w (g i : Nat) (hg : 1 ≤ g) (hg4 : g ≤ 4) : wrap64 (Int.tdiv (Int.tmod (i : Int) ((2 * g : Nat) : Int)) 2) = ((i % (2 * g) / 2 : Nat) : Int) := by
 have h := half_of g i hg
 rw [Int.tmod_eq_emod_of_nonneg (Int.natCast_nonneg _), ← Int.natCast_emod]
 generalize i % (2 * g) = r at h ⊢
 rw [Int.tdiv_eq_ediv_of_nonneg (by omega), w64 (by omega) (by omega)]; omega
theorem w_up1 (i : Nat) (h : i ≤ 100) : wrap64 ((i : Int) + 1) = ((i + 1 : Nat) : Int) := by rw [w64 (by omega) (by omega)]; omega
theorem w_up2 (i : Nat) (h : i ≤ 100) : wrap64 ((i : Int) + 2) = ((i + 2 : Nat) : Int) := by rw [w64 (by omega) (by omega)]; omega
def headsOf (x : List Int) (h : Int) : List (List Int) × Bool :=
 if h = 1 ∧ x.length ≠ 0 then ([x], true)
 else if h = 2 ∧ x.length ≠ 0 ∧ x.length % 2 = 0 then ([x.take (x.length / 2), x.drop (x.length / 2)], true)
 else ([], false)
theorem headsOf_one (x : List Int) (hx : x.length ≠ 0) : headsOf x 1 = ([x], true) := by unfold headsOf; rw [if_pos ⟨rfl, hx⟩]
theorem headsOf_two (x : List Int) (m : Nat) (hm : x.length = 2 * m) (h0 : m ≠ 0) : headsOf x 2 = ([x.take m, x.drop m], true) := by
 unfold headsOf; rw [if_neg (by omega), if_pos ⟨rfl, by omega, by omega⟩, show x.length / 2 = m by omega]
theorem w64_0 : wrap64 0 = 0 := w64 (by omega) (by omega)
theorem w64_1 : wrap64 1 = 1 := w64 (by omega) (by omega)
def fitsB (x : List Int) (s : Int) : Bool := x.all fun z => decide (-15 ≤ msz z 1 s) && decide (msz z 1 s ≤ 15)
def cutL (x : List Int) (s : Int) : List Int := x.map fun z => clampZ (msz z 1 s) 15
def leastS (x : List Int) : Nat → Int → Int
 | 0, s => s
 | d + 1, s => if fitsB x s = true then s else leastS x d (s + 1)
theorem leastS_bd (x : List Int) (d : Nat) : ∀ s, s ≤ leastS x d s ∧ leastS x d s ≤ s + d := by
 induction d with
 | zero => intro s; unfold leastS; omega
 | succ d ih => intro s; unfold leastS; have := ih (s + 1); split <;> omega
theorem vec_mem (x : List Int) (h : vecB x = true) : ∀ z ∈ x, -127 ≤ z ∧ z ≤ 127 := by
 unfold vecB at h
 simp only [Bool.and_eq_true, List.all_eq_true, decide_eq_true_eq] at h
 exact h.2
theorem vec_len (x : List Int) (h : vecB x = true) : 1 ≤ x.length ∧ x.length ≤ 8 := by
 unfold vecB at h
 simp only [Bool.and_eq_true, decide_eq_true_eq] at h
 exact h.1
theorem spec_turn (a b c s : Int) (h : okTurn a b c s) (k : Nat) (hk : 1 < k) : spec_Turn.f k a b c s = some (t1 a b c s, t2 a b c s) := by
 obtain ⟨⟨a1, a2⟩, ⟨b1, b2⟩, ⟨c1, c2⟩, s1, s2⟩ := h
 obtain ⟨k, rfl⟩ : ∃ m, k = m + 1 := ⟨k - 1, by omega⟩
 have m1 := mul_bd2 a c 127 128 a1 a2 c1 c2 (by omega) (by omega)
 have m2 := mul_bd2 b s 127 128 b1 b2 s1 s2 (by omega) (by omega)
 have m3 := mul_bd2 a s 127 128 a1 a2 s1 s2 (by omega) (by omega)
 have m4 := mul_bd2 b c 127 128 b1 b2 c1 c2 (by omega) (by omega)
 unfold spec_Turn.f t1 t2
 rw [in_s, Option.bind_some, if_pos (by simp; omega), in_s, Option.bind_some, if_pos (by simp; omega), in_s, Option.bind_some, if_pos (by simp; omega), in_s, Option.bind_some, decide_eq_true (show -128 ≤ s ∧ s ≤ 128 from ⟨s1, s2⟩), spec_Turn.j0, if_neg (by simp), w64 (i := a * c) (by omega) (by omega), w64 (i := b * s) (by omega) (by omega), w64 (i := a * s) (by omega) (by omega), w64 (i := b * c) (by omega) (by omega), w64 (i := a * c - b * s) (by omega) (by omega), w64 (i := a * s + b * c) (by omega) (by omega),
   spec_floor (a * c - b * s) 128 (by omega) (by omega) (by omega), Option.bind_some, spec_clamp _ 127 (by omega) (by omega), Option.bind_some, spec_floor (a * s + b * c) 128 (by omega) (by omega) (by omega), Option.bind_some, spec_clamp _ 127 (by omega) (by omega), Option.bind_some]
structure TurnAt (t : S32) (p g : Nat) : Prop where
 g1 : 1 ≤ g
 g4 : g ≤ 4
 p0 : p < t.f0.length
 p1 : p < t.f1.length
 cl : (t.f0.getD p []).length = g
 sl : (t.f1.getD p []).length = g
 cb : ∀ z ∈ t.f0.getD p [], -128 ≤ z ∧ z ≤ 128
 sb : ∀ z ∈ t.f1.getD p [], -128 ≤ z ∧ z ≤ 128
 l0 : t.f0.length ≤ 100
 l1 : t.f1.length ≤ 100
def turnU (cs sn x : List Int) (h i : Nat) : Int := t1 (rd x (i : Int)) (rd x ((i + 1 : Nat) : Int)) (rd cs ((i % h / 2 : Nat) : Int)) (rd sn ((i % h / 2 : Nat) : Int))
def turnV (cs sn x : List Int) (h i : Nat) : Int := t2 (rd x (i : Int)) (rd x ((i + 1 : Nat) : Int)) (rd cs ((i % h / 2 : Nat) : Int)) (rd sn ((i % h / 2 : Nat) : Int))
theorem turnLoop {α : Type} (h : Nat) (cs sn x : List Int) (hx : x.length ≤ 100) (c : Nat) (L : Nat → List Int → Int → Option α) (e : List Int → α)
   (hS : ∀ k xs (i : Nat), c < k → i + 1 < x.length → xs.length ≤ 100 → L (k + 1) xs (i : Int) = L k (xs ++ [turnU cs sn x h i, turnV cs sn x h i]) (wrap64 ((i : Int) + 2))) (hE : ∀ k xs, L (k + 1) xs (x.length : Int) = some (e xs)) :
   ∀ (m k i : Nat) (acc : List Int), i + 2 * m = x.length → acc.length = i → m + c < k → L k acc (i : Int) = some (e (acc ++ turned h cs sn i (x.drop i)))
 | 0, k, i, acc, h1, h2, h3 => by
   obtain ⟨k, rfl⟩ : ∃ m, k = m + 1 := ⟨k - 1, by omega⟩
   obtain rfl : i = x.length := by omega
   rw [hE, List.drop_of_length_le (by omega)]
   simp [turned]
 | m + 1, k, i, acc, h1, h2, h3 => by
   obtain ⟨k, rfl⟩ : ∃ m, k = m + 1 := ⟨k - 1, by omega⟩
   have hi : i < x.length := by omega
   have hi1 : i + 1 < x.length := by omega
   have ed : x.drop i = rd x (i : Int) :: rd x ((i + 1 : Nat) : Int) :: x.drop (i + 2) := by
     rw [List.drop_eq_getElem_cons hi, List.drop_eq_getElem_cons hi1, rd_get x i hi, rd_get x (i + 1) hi1]
   rw [hS k acc i (by omega) hi1 (by omega), w_up2 i (by omega), turnLoop h cs sn x hx c L e hS hE m k (i + 2) _ (by omega) (by simp; omega) (by omega), ed]
   simp [turned, turnU, turnV]
theorem turn_ok (t : S32) (p g : Nat) (h : TurnAt t p g) (x : List Int) (hxb : ∀ z ∈ x, -127 ≤ z ∧ z ≤ 127) (i : Nat) (hi : i + 1 < x.length) :
   okTurn (rd x (i : Int)) (rd x ((i + 1 : Nat) : Int)) (rd (t.f0.getD p []) ((i % (2 * g) / 2 : Nat) : Int)) (rd (t.f1.getD p []) ((i % (2 * g) / 2 : Nat) : Int)) := by
 have hq := half_of g i h.g1
 exact ⟨rd_in hxb i (by omega), rd_in hxb (i + 1) hi, rd_in h.cb _ (by rw [h.cl]; exact hq), rd_in h.sb _ (by rw [h.sl]; exact hq)⟩
def turnL (t : S32) (p g : Nat) (x : List Int) : List Int := turned (2 * g) (t.f0.getD p []) (t.f1.getD p []) 0 x
theorem tmod_two (g : Nat) : Int.tmod ((2 * g : Nat) : Int) 2 = 0 := by
 rw [Int.tmod_eq_emod_of_nonneg (Int.natCast_nonneg _)]; omega
theorem tmod_mul (n g m : Nat) (h : n = m * (2 * g)) : Int.tmod (n : Int) ((2 * g : Nat) : Int) = 0 := by
 subst h
 rw [Int.tmod_eq_emod_of_nonneg (Int.natCast_nonneg _), ← Int.natCast_emod, Nat.mul_mod_left]; rfl
theorem impl_turnStep (t : S32) (p g : Nat) (h : TurnAt t p g) (x : List Int) (hx : x.length ≤ 8) (hxb : ∀ z ∈ x, -127 ≤ z ∧ z ≤ 127) (k i : Nat) (xs : List Int) (hk : 1 < k) (hi1 : i + 1 < x.length) (hxs : xs.length ≤ 100) :
   impl_TurnAll.l0 t (p : Int) ((2 * g : Nat) : Int) x (k + 1) xs (i : Int) = impl_TurnAll.l0 t (p : Int) ((2 * g : Nat) : Int) x k (xs ++ [turnU (t.f0.getD p []) (t.f1.getD p []) x (2 * g) i, turnV (t.f0.getD p []) (t.f1.getD p []) x (2 * g) i]) (wrap64 ((i : Int) + 2)) := by
 have g1 := h.g1
 have g4 := h.g4
 have c1 : (i : Int) < (x.length : Int) := by omega
 have c2 : ((2 * g : Nat) : Int) ≠ 0 := by omega
 have c3 : 0 ≤ (i : Int) ∧ (i : Int) < (x.length : Int) := by omega
 have c4 : 0 ≤ ((i + 1 : Nat) : Int) ∧ ((i + 1 : Nat) : Int) < (x.length : Int) := by omega
 have wu : wrap64 ((i : Int) + 1) = ((i + 1 : Nat) : Int) := w_up1 i (by omega)
 have c8 : xs.length < 4294967296 := by omega
 have hw := half_w g i g1 g4
 have hq := half_of g i g1
 have c5 : (0 : Int) ≤ ((i % (2 * g) / 2 : Nat) : Int) := Int.natCast_nonneg _
 have c6 : 0 ≤ ((i % (2 * g) / 2 : Nat) : Int) ∧ ((i % (2 * g) / 2 : Nat) : Int) < ((t.f0.getD p []).length : Int) := ⟨c5, by rw [h.cl]; exact Int.ofNat_lt.mpr hq⟩
 have c7 : 0 ≤ ((i % (2 * g) / 2 : Nat) : Int) ∧ ((i % (2 * g) / 2 : Nat) : Int) < ((t.f1.getD p []).length : Int) := ⟨c5, by rw [h.sl]; exact Int.ofNat_lt.mpr hq⟩
 have ok := turn_ok t p g h x hxb i hi1
 show impl_TurnAll.b0 _ _ _ _ _ k _ _ = _
 unfold impl_TurnAll.b0
 rw [if_pos c1, if_pos c2, if_pos c3, wu, if_pos c4, hw, Int.toNat_natCast, if_pos c6, if_pos c7]
 show ((impl_turnable.f (rd x (i : Int)) (rd x ((i + 1 : Nat) : Int)) (rd (t.f0.getD p []) ((i % (2 * g) / 2 : Nat) : Int)) (rd (t.f1.getD p []) ((i % (2 * g) / 2 : Nat) : Int))).bind _) = _
 rw [turnable_yes _ _ _ _ ok, Option.bind_some, if_pos rfl]
 show ((impl_Turn.f k (rd x (i : Int)) (rd x ((i + 1 : Nat) : Int)) (rd (t.f0.getD p []) ((i % (2 * g) / 2 : Nat) : Int)) (rd (t.f1.getD p []) ((i % (2 * g) / 2 : Nat) : Int))).bind _) = _
 rw [impl_turn _ _ _ _ ok k hk, Option.bind_some, if_pos c8]; rfl
theorem impl_turnLoop (t : S32) (p g : Nat) (h : TurnAt t p g) (x : List Int) (hx : x.length ≤ 8) (q : Nat) (hq : x.length = 2 * q) (hxb : ∀ z ∈ x, -127 ≤ z ∧ z ≤ 127) (k : Nat) (hk : 400 < k) :
   impl_TurnAll.l0 t (p : Int) ((2 * g : Nat) : Int) x k [] 0 = some (.inr (turnL t p g x, (x.length : Int))) := by
 have := turnLoop (2 * g) (t.f0.getD p []) (t.f1.getD p []) x (by omega) 20 (impl_TurnAll.l0 t (p : Int) ((2 * g : Nat) : Int) x) (fun r => .inr (r, (x.length : Int))) (fun k xs i hk hi hxs => impl_turnStep t p g h x hx hxb k i xs (by omega) hi hxs) (fun k xs => by
   show impl_TurnAll.b0 _ _ _ _ _ k _ _ = _
   unfold impl_TurnAll.b0
   rw [if_neg (Int.lt_irrefl _)]) q k 0 [] (by omega) rfl (by omega)
 rw [List.nil_append, List.drop_zero] at this
 exact this
theorem impl_turnAll (t : S32) (p g : Nat) (h : TurnAt t p g) (x : List Int) (hx : x.length ≤ 8) (m : Nat) (hm : x.length = m * (2 * g)) (hxb : ∀ z ∈ x, -127 ≤ z ∧ z ≤ 127) (k : Nat) (hk : 400 < k) :
   impl_TurnAll.g k t (p : Int) ((2 * g : Nat) : Int) x = some (turnL t p g x, true) := by
 have g1 := h.g1
 have g4 := h.g4
 have p0 := h.p0
 have p1 := h.p1
 have cl := h.cl
 have sl := h.sl
 have l0 := h.l0
 have l1 := h.l1
 have e4 : wrap64 (Int.tdiv ((2 * g : Nat) : Int) 2) = (g : Int) := by rw [Int.tdiv_eq_ediv_of_nonneg (by omega), w64 (by omega) (by omega)]; omega
 have c0 : 2 ≤ ((2 * g : Nat) : Int) ∧ ((2 * g : Nat) : Int) ≤ 8 := by omega
 have c1 : ((2 * g : Nat) : Int) ≠ 0 := by omega
 have c2 : ¬ (x.length : Int) > 8 := by omega
 have c4 : 0 ≤ (p : Int) ∧ (p : Int) < (t.f0.length : Int) := by omega
 have c5 : 0 ≤ (p : Int) ∧ (p : Int) < (t.f1.length : Int) := by omega
 have c6 : ((t.f0.getD p []).length : Int) = (g : Int) := by omega
 have c7 : ((t.f1.getD p []).length : Int) = (g : Int) := by omega
 have c3 : (0 : Int) ≤ (p : Int) ∧ (p : Int) ≤ wrap64 ((if (t.f1.length : Int) < (t.f0.length : Int) then (t.f1.length : Int) else (t.f0.length : Int)) - 1) := by
   split <;> rw [w64 (by omega) (by omega)] <;> omega
 have e2 : Int.tmod ((2 * g : Nat) : Int) 2 = 0 := tmod_two g
 have e3 := tmod_mul x.length g m hm
 have el := impl_turnLoop t p g h x hx (m * g) (by rw [hm, Nat.mul_left_comm]) hxb k hk
 unfold impl_TurnAll.g
 rw [in_i, Option.bind_some, if_pos (decide_eq_true c0), e2, if_neg (by decide), if_pos c1, e3, if_pos rfl, if_neg c2, in_i, Option.bind_some, if_pos (decide_eq_true c3), if_pos c4, if_pos c5, Int.toNat_natCast, e4, if_pos c6, if_pos c7, el, Option.bind_some]
theorem spec_turnStep (t : S32) (p g : Nat) (h : TurnAt t p g) (x : List Int) (hx : x.length ≤ 8) (hxb : ∀ z ∈ x, -127 ≤ z ∧ z ≤ 127) (k i : Nat) (xs : List Int) (hk : 1 < k) (hi1 : i + 1 < x.length) (hxs : xs.length ≤ 100) :
   spec_TurnAll.l0 t (p : Int) ((2 * g : Nat) : Int) x (k + 1) xs (i : Int) = spec_TurnAll.l0 t (p : Int) ((2 * g : Nat) : Int) x k (xs ++ [turnU (t.f0.getD p []) (t.f1.getD p []) x (2 * g) i, turnV (t.f0.getD p []) (t.f1.getD p []) x (2 * g) i]) (wrap64 ((i : Int) + 2)) := by
 have g1 := h.g1
 have g4 := h.g4
 have c1 : (i : Int) < (x.length : Int) := by omega
 have c2 : ((2 * g : Nat) : Int) ≠ 0 := by omega
 have c3 : 0 ≤ (i : Int) ∧ (i : Int) < (x.length : Int) := by omega
 have c4 : 0 ≤ ((i + 1 : Nat) : Int) ∧ ((i + 1 : Nat) : Int) < (x.length : Int) := by omega
 have wu : wrap64 ((i : Int) + 1) = ((i + 1 : Nat) : Int) := w_up1 i (by omega)
 have c8 : xs.length < 4294967296 := by omega
 have hw := half_w g i g1 g4
 have hq := half_of g i g1
 have c5 : (0 : Int) ≤ ((i % (2 * g) / 2 : Nat) : Int) := Int.natCast_nonneg _
 have c6 : 0 ≤ ((i % (2 * g) / 2 : Nat) : Int) ∧ ((i % (2 * g) / 2 : Nat) : Int) < ((t.f0.getD p []).length : Int) := ⟨c5, by rw [h.cl]; exact Int.ofNat_lt.mpr hq⟩
 have c7 : 0 ≤ ((i % (2 * g) / 2 : Nat) : Int) ∧ ((i % (2 * g) / 2 : Nat) : Int) < ((t.f1.getD p []).length : Int) := ⟨c5, by rw [h.sl]; exact Int.ofNat_lt.mpr hq⟩
 have ok := turn_ok t p g h x hxb i hi1
 show spec_TurnAll.b0 _ _ _ _ _ k _ _ = _
 unfold spec_TurnAll.b0
 rw [if_pos c1, if_pos c2, if_pos c3, wu, if_pos c4, hw, Int.toNat_natCast, if_pos c6, if_pos c7]
 show ((spec_Turn.f k (rd x (i : Int)) (rd x ((i + 1 : Nat) : Int)) (rd (t.f0.getD p []) ((i % (2 * g) / 2 : Nat) : Int)) (rd (t.f1.getD p []) ((i % (2 * g) / 2 : Nat) : Int))).bind _) = _
 rw [spec_turn _ _ _ _ ok k hk, Option.bind_some, if_pos c8]; rfl
theorem spec_turnLoop (t : S32) (p g : Nat) (h : TurnAt t p g) (x : List Int) (hx : x.length ≤ 8) (q : Nat) (hq : x.length = 2 * q) (hxb : ∀ z ∈ x, -127 ≤ z ∧ z ≤ 127) (k : Nat) (hk : 400 < k) :
   spec_TurnAll.l0 t (p : Int) ((2 * g : Nat) : Int) x k [] 0 = some (turnL t p g x, (x.length : Int)) := by
 have := turnLoop (2 * g) (t.f0.getD p []) (t.f1.getD p []) x (by omega) 20 (spec_TurnAll.l0 t (p : Int) ((2 * g : Nat) : Int) x) (fun r => (r, (x.length : Int))) (fun k xs i hk hi hxs => spec_turnStep t p g h x hx hxb k i xs (by omega) hi hxs) (fun k xs => by
   show spec_TurnAll.b0 _ _ _ _ _ k _ _ = _
   unfold spec_TurnAll.b0
   rw [if_neg (Int.lt_irrefl _)]) q k 0 [] (by omega) rfl (by omega)
 rw [List.nil_append, List.drop_zero] at this
 exact this
theorem spec_turnAll (t : S32) (p g : Nat) (h : TurnAt t p g) (x : List Int) (hx : x.length ≤ 8) (m : Nat) (hm : x.length = m * (2 * g)) (hxb : ∀ z ∈ x, -127 ≤ z ∧ z ≤ 127) (k : Nat) (hk : 1048600 < k) :
   spec_TurnAll.g k t (p : Int) ((2 * g : Nat) : Int) x = some (turnL t p g x, true) := by
 have g1 := h.g1
 have g4 := h.g4
 have p0 := h.p0
 have p1 := h.p1
 have cl := h.cl
 have sl := h.sl
 have l0 := h.l0
 have l1 := h.l1
 have e4 : wrap64 (Int.tdiv ((2 * g : Nat) : Int) 2) = (g : Int) := by rw [Int.tdiv_eq_ediv_of_nonneg (by omega), w64 (by omega) (by omega)]; omega
 have c0 : 2 ≤ ((2 * g : Nat) : Int) ∧ ((2 * g : Nat) : Int) ≤ 8 := by omega
 have c1 : ((2 * g : Nat) : Int) ≠ 0 := by omega
 have c2 : ¬ (x.length : Int) > 8 := by omega
 have c4 : 0 ≤ (p : Int) ∧ (p : Int) < (t.f0.length : Int) := by omega
 have c5 : 0 ≤ (p : Int) ∧ (p : Int) < (t.f1.length : Int) := by omega
 have c6 : ((t.f0.getD p []).length : Int) = (g : Int) := by omega
 have c7 : ((t.f1.getD p []).length : Int) = (g : Int) := by omega
 have c3 : (0 : Int) ≤ (p : Int) ∧ (p : Int) ≤ wrap64 ((t.f0.length : Int) - 1) := by rw [w64 (by omega) (by omega)]; omega
 have c8 : ¬ (p : Int) ≥ (t.f1.length : Int) := by omega
 have a1 := all_s (-127) 127 x (by omega) k (by omega)
 have a2 := all_s (-128) 128 (t.f0.getD p []) (by omega) k (by omega)
 have a3 := all_s (-128) 128 (t.f1.getD p []) (by omega) k (by omega)
 have e2 : Int.tmod ((2 * g : Nat) : Int) 2 = 0 := tmod_two g
 have e3 := tmod_mul x.length g m hm
 have el := spec_turnLoop t p g h x hx (m * g) (by rw [hm, Nat.mul_left_comm]) hxb k (by omega)
 unfold spec_TurnAll.g
 rw [in_s, Option.bind_some, if_pos (decide_eq_true c0), e2, if_pos rfl, if_neg c2, if_pos c1, e3, if_pos rfl, in_s, Option.bind_some, if_pos (decide_eq_true c3), if_neg c8, if_pos c4, Int.toNat_natCast, e4, if_pos c6, if_pos c5, if_pos c7, a1, Option.bind_some, if_pos (allZ_of hxb), a2, Option.bind_some, if_pos (allZ_of h.cb), a3, Option.bind_some, if_pos (allZ_of h.sb), el, Option.bind_some]
theorem turnL_facts (t : S32) (p g : Nat) (x : List Int) (m : Nat) (hm : x.length = m * (2 * g)) : (∀ z ∈ turnL t p g x, -127 ≤ z ∧ z ≤ 127) ∧ (turnL t p g x).length = x.length :=
 turned_bd (2 * g) _ _ (m * g) x 0 (by rw [hm, Nat.mul_left_comm])
theorem impl_headsG (x : List Int) (h : Int) (s : Nat) (hs : 1 ≤ s) (hh : h = 1 ∨ h = 2) (hx : (x.length : Int) = h * (s : Int)) (hl : s ≤ 100) (k : Nat) (hk : 10 < k) : impl_Heads.g k x h = some (headsOf x h) := by
 obtain ⟨k, rfl⟩ : ∃ m, k = m + 1 + 1 + 1 := ⟨k - 3, by omega⟩
 unfold impl_Heads.g
 rw [in_i, Option.bind_some, if_pos (by simp; omega), if_neg (by rcases hh with rfl | rfl <;> omega), if_pos (by omega)]
 have clone : ∀ (k : Nat) (l : List Int), l.length ≤ 1000 → slices_Clone_int_int.g k l = some l := fun k l hl => by unfold slices_Clone_int_int.g; rw [if_pos (by omega)]
 rcases hh with rfl | rfl
 · have e : x.length = s := by omega
   rw [Int.tmod_one, if_pos rfl, if_pos (by omega), headsOf_one x (by omega)]
   show ((impl_Heads.b0 x 1 (impl_Heads.l0 x 1 (k + 1 + 1)) (k + 1 + 1) [] 0).bind _) = _
   unfold impl_Heads.b0
   rw [Int.tdiv_one, w64 (i := (x.length : Int)) (by omega) (by omega), Int.zero_add, w64 (i := (x.length : Int)) (by omega) (by omega), if_pos (by omega), if_pos (by omega), Int.toNat_zero, List.drop_zero, Int.toNat_natCast, List.take_length, clone _ _ (by omega), Option.bind_some, if_pos (by simp)]
   show ((impl_Heads.b0 x 1 (impl_Heads.l0 x 1 (k + 1)) (k + 1) [x] (x.length : Int)).bind _) = _
   unfold impl_Heads.b0
   rw [if_neg (by omega), Option.bind_some]
 · have e : x.length = 2 * s := by omega
   have ed : wrap64 (Int.tdiv (x.length : Int) 2) = (s : Int) := by rw [Int.tdiv_eq_ediv_of_nonneg (by omega), w64 (by omega) (by omega)]; omega
   have em : Int.tmod (x.length : Int) 2 = 0 := by rw [Int.tmod_eq_emod_of_nonneg (by omega)]; omega
   rw [em, if_pos rfl, if_pos (by omega), headsOf_two x s e (by omega)]
   show ((impl_Heads.b0 x 2 (impl_Heads.l0 x 2 (k + 1 + 1)) (k + 1 + 1) [] 0).bind _) = _
   unfold impl_Heads.b0
   rw [ed, Int.zero_add, w64 (i := (s : Int)) (by omega) (by omega), if_pos (by omega), if_pos (by omega), Int.toNat_zero, List.drop_zero, Int.toNat_natCast, clone _ _ (by rw [List.length_take]; omega), Option.bind_some, if_pos (by simp)]
   show ((impl_Heads.b0 x 2 (impl_Heads.l0 x 2 (k + 1)) (k + 1) [x.take s] (s : Int)).bind _) = _
   unfold impl_Heads.b0
   rw [ed, w64 (i := (s : Int) + (s : Int)) (by omega) (by omega), if_pos (by omega), if_pos (by omega), show ((s : Int) + (s : Int)).toNat = x.length by omega, List.take_length, Int.toNat_natCast, clone _ _ (by rw [List.length_drop]; omega), Option.bind_some, if_pos (by simp)]
   show ((impl_Heads.b0 x 2 (impl_Heads.l0 x 2 k) k [x.take s, x.drop s] ((s : Int) + (s : Int))).bind _) = _
   unfold impl_Heads.b0
   rw [if_neg (by omega), Option.bind_some]
theorem spec_headsG (x : List Int) (h : Int) (s : Nat) (hs : 1 ≤ s) (hh : h = 1 ∨ h = 2) (hx : (x.length : Int) = h * (s : Int)) (hl : s ≤ 100) (k : Nat) (hk : 10 < k) : spec_Heads.g k x h = some (headsOf x h) := by
 obtain ⟨k, rfl⟩ : ∃ m, k = m + 1 + 1 + 1 := ⟨k - 3, by omega⟩
 unfold spec_Heads.g
 rcases hh with rfl | rfl
 · have e : x.length = s := by omega
   rw [if_pos rfl, if_neg (by omega), if_pos (by omega), Int.tmod_one, if_pos rfl, if_pos (by omega), headsOf_one x (by omega)]
   show ((spec_Heads.b0 x 1 (spec_Heads.l0 x 1 (k + 1 + 1)) (k + 1 + 1) [] 0).bind _) = _
   unfold spec_Heads.b0
   rw [Int.tdiv_one, w64 (i := (x.length : Int)) (by omega) (by omega), Int.zero_mul, w64_0, Int.zero_add, w64 (i := (x.length : Int)) (by omega) (by omega), if_pos (by omega), if_pos (by omega), Int.toNat_zero, List.drop_zero, Int.toNat_natCast, List.take_length, if_pos (by omega), if_pos (by simp)]
   rw [Int.zero_add, w64_1]
   show ((spec_Heads.b0 x 1 (spec_Heads.l0 x 1 (k + 1)) (k + 1) [x] 1).bind _) = _
   unfold spec_Heads.b0
   rw [if_neg (by omega), Option.bind_some]
 · have e : x.length = 2 * s := by omega
   have ed : wrap64 (Int.tdiv (x.length : Int) 2) = (s : Int) := by rw [Int.tdiv_eq_ediv_of_nonneg (by omega), w64 (by omega) (by omega)]; omega
   have em : Int.tmod (x.length : Int) 2 = 0 := by rw [Int.tmod_eq_emod_of_nonneg (by omega)]; omega
   rw [if_neg (by omega), if_pos rfl, if_neg (by omega), if_pos (by omega), em, if_pos rfl, if_pos (by omega), headsOf_two x s e (by omega)]
   show ((spec_Heads.b1 x 2 (spec_Heads.l1 x 2 (k + 1 + 1)) (k + 1 + 1) [] 0).bind _) = _
   unfold spec_Heads.b1
   rw [ed, Int.zero_mul, w64_0, Int.zero_add, w64 (i := (s : Int)) (by omega) (by omega), if_pos (by omega), if_pos (by omega), Int.toNat_zero, List.drop_zero, Int.toNat_natCast, if_pos (by rw [List.length_take]; omega), if_pos (by simp)]
   rw [Int.zero_add, w64_1]
   show ((spec_Heads.b1 x 2 (spec_Heads.l1 x 2 (k + 1)) (k + 1) [x.take s] 1).bind _) = _
   unfold spec_Heads.b1
   rw [ed, Int.one_mul, w64 (i := (s : Int)) (by omega) (by omega), w64 (i := (s : Int) + (s : Int)) (by omega) (by omega), if_pos (by omega), if_pos (by omega), show ((s : Int) + (s : Int)).toNat = x.length by omega, List.take_length, Int.toNat_natCast, if_pos (by rw [List.length_drop]; omega), if_pos (by simp)]
   rw [show (1 : Int) + 1 = 2 from rfl, w64 (i := 2) (by omega) (by omega)]
   show ((spec_Heads.b1 x 2 (spec_Heads.l1 x 2 k) k [x.take s, x.drop s] 2).bind _) = _
   unfold spec_Heads.b1
   rw [if_neg (by omega), Option.bind_some]
theorem heads_facts (x : List Int) (h : Int) (s : Nat) (hs : 1 ≤ s) (hh : h = 1 ∨ h = 2) (hx : (x.length : Int) = h * (s : Int)) : (headsOf x h).2 = true ∧ ((headsOf x h).1.length : Int) = h ∧ ∀ y ∈ (headsOf x h).1, y.length = s ∧ ∀ z ∈ y, z ∈ x := by
 rcases hh with rfl | rfl
 · rw [headsOf_one x (by omega)]
   exact ⟨rfl, rfl, fun y hy => by rw [List.mem_singleton.1 hy]; exact ⟨by omega, fun z hz => hz⟩⟩
 · rw [headsOf_two x s (by omega) (by omega)]
   refine ⟨rfl, rfl, fun y hy => ?_⟩
   simp only [List.mem_cons, List.not_mem_nil, or_false] at hy
   rcases hy with rfl | rfl
   · exact ⟨by rw [List.length_take]; omega, fun z hz => List.mem_of_mem_take hz⟩
   · exact ⟨by rw [List.length_drop]; omega, fun z hz => List.mem_of_mem_drop hz⟩
def partOf (x : List Int) : S67 := ⟨leastS x 4 0, cutL x (leastS x 4 0)⟩
theorem cutL_range (x : List Int) (s : Int) : cutL x s = (List.range x.length).map fun (i : Nat) => clampZ (msz (rd x (i : Int)) 1 s) 15 := by
 refine List.ext_getElem (by simp [cutL]) fun i h h' => ?_
 have hi : i < x.length := by simpa [cutL] using h
 simp only [cutL, List.getElem_map, List.getElem_range, rd_get x i hi]
theorem ms1 (x : List Int) (h : vecB x = true) (i : Nat) (hi : i < x.length) (s : Int) (s0 : 0 ≤ s) (s1 : s ≤ 4) (k : Nat) (hk : 30 < k) : impl_MulShift.f k (rd x (i : Int)) 1 s = some (msz (rd x (i : Int)) 1 s) ∧ spec_MulShift.f k (rd x (i : Int)) 1 s = some (msz (rd x (i : Int)) 1 s) := by
 have hz := rd_in (vec_mem x h) i hi
 exact ⟨impl_ms _ 1 s (by omega) (by omega) (by omega) (by omega) s0 (by omega) (by omega) (by omega) k (by omega), spec_ms _ 1 s (by omega) (by omega) (by omega) (by omega) s0 (by omega) (by omega) (by omega) k (by omega)⟩
theorem fits_drop (x : List Int) (i : Nat) (hi : i < x.length) (s : Int) : fitsB (x.drop i) s = (decide (-15 ≤ msz (rd x (i : Int)) 1 s ∧ msz (rd x (i : Int)) 1 s ≤ 15) && fitsB (x.drop (i + 1)) s) := by
 rw [List.drop_eq_getElem_cons hi]
 unfold fitsB
 rw [List.all_cons, rd_get x i hi, ← Bool.decide_and]
theorem spec_fitsG (x : List Int) (h : vecB x = true) (s : Int) (s0 : 0 ≤ s) (s1 : s ≤ 4) (d : Nat) : ∀ (k i : Nat), i + d = x.length → d + 40 < k → spec_l14Fits.l0 x s k (i : Int) = if fitsB (x.drop i) s = true then some (.inr (x.length : Int)) else some (.inl false) := by
 have hl := vec_len x h
 induction d with
 | zero =>
   intro k i hi hk
   obtain ⟨k, rfl⟩ := k1_ hk
   obtain rfl : i = x.length := by omega
   show spec_l14Fits.b0 _ _ _ k _ = _
   unfold spec_l14Fits.b0
   rw [if_neg (by omega), List.drop_length, if_pos (show fitsB [] s = true from rfl)]
 | succ d ih =>
   intro k i hi hk
   obtain ⟨k, rfl⟩ := k1_ hk
   have hlt : i < x.length := by omega
   show spec_l14Fits.b0 _ _ _ k _ = _
   unfold spec_l14Fits.b0
   rw [if_pos (by omega), if_pos (by omega), getD_rd, (ms1 x h i hlt s s0 s1 k (by omega)).2, Option.bind_some, in_s, Option.bind_some, fits_drop x i hlt]
   by_cases g : -15 ≤ msz (rd x (i : Int)) 1 s ∧ msz (rd x (i : Int)) 1 s ≤ 15
   · rw [decide_eq_true g, if_pos rfl, w_up i (by omega), Bool.true_and]
     exact ih k (i + 1) (by omega) (by omega)
   · rw [decide_eq_false g, if_neg (by simp), if_neg (by simp)]
theorem spec_fit0 (x : List Int) (h : vecB x = true) (s : Int) (s0 : 0 ≤ s) (s1 : s ≤ 4) (k : Nat) (hk : 60 < k) : spec_l14Fits.g k x s = some (fitsB x s) := by
 have hl := vec_len x h
 unfold spec_l14Fits.g
 have e := spec_fitsG x h s s0 s1 x.length k 0 (by omega) (by omega)
 rw [show ((0 : Nat) : Int) = 0 from rfl, List.drop_zero] at e
 rw [e]
 by_cases g : fitsB x s = true
 · rw [if_pos g, g]; rfl
 · rw [if_neg g, Bool.eq_false_iff.2 g]; rfl
theorem spec_leastG (x : List Int) (h : vecB x = true) (d : Nat) : ∀ (k : Nat) (s : Int), 0 ≤ s → s + d = 4 → d + 70 < k → spec_CutDown.l1 x k s = some (leastS x d s) := by
 induction d with
 | zero =>
   intro k s s0 hs hk
   obtain ⟨k, rfl⟩ := k1_ hk
   show spec_CutDown.b1 _ _ k _ = _
   unfold spec_CutDown.b1
   rw [if_neg (by omega)]; rfl
 | succ d ih =>
   intro k s s0 hs hk
   obtain ⟨k, rfl⟩ := k1_ hk
   show spec_CutDown.b1 _ _ k _ = _
   unfold spec_CutDown.b1 leastS
   rw [if_pos (by omega), spec_fit0 x h s s0 (by omega) k (by omega), Option.bind_some]
   by_cases hf : fitsB x s = true
   · rw [if_pos hf, if_pos hf]
   · rw [if_neg hf, if_neg hf, w64 (by omega) (by omega)]
     exact ih k (s + 1) (by omega) (by omega) (by omega)
theorem vecZ (x : List Int) (h : vecB x = true) : allZ (-127) 127 x = true := allZ_of (vec_mem x h)
theorem spec_partG (x : List Int) (h : vecB x = true) (k : Nat) (hk : 1048600 < k) : spec_CutDown.g k x = some (partOf x, true) := by
 have hl := vec_len x h
 have hb := leastS_bd x 4 0
 unfold spec_CutDown.g
 rw [in_s, Option.bind_some, if_pos (by simp; omega), all_s _ _ _ (by omega) k (by omega), Option.bind_some, if_pos (vecZ x h), spec_leastG x h 4 k 0 (by omega) (by omega) (by omega), Option.bind_some,
   rowLoop x.length (by omega) (fun (i : Nat) => clampZ (msz (rd x (i : Int)) 1 (leastS x 4 0)) 15) 40 (fun k xs i => spec_CutDown.l0 x (leastS x 4 0) k i xs) (fun r => ((x.length : Int), r)) (fun k r i hk hi hr => by
   show spec_CutDown.b0 _ _ _ k _ _ = _
   unfold spec_CutDown.b0
   rw [if_pos (by omega), if_pos (by omega), getD_rd, (ms1 x h i hi _ (by omega) (by omega) k (by omega)).2, Option.bind_some, spec_clamp _ 15 (by omega) (by omega), Option.bind_some, if_pos (by omega)]) (fun k r => by
   show spec_CutDown.b0 _ _ _ k _ _ = _
   unfold spec_CutDown.b0
   rw [if_neg (by omega)]) k (by omega), Option.bind_some]
 unfold partOf
 rw [cutL_range]
theorem impl_cutG (x : List Int) (h : vecB x = true) (s : Int) (s0 : 0 ≤ s) (s1 : s ≤ 4) (d : Nat) : ∀ (k i : Nat) (b : Bool), i + d = x.length → d + 40 < k → impl_cut.l0 x s k ((List.range i).map fun (i : Nat) => clampZ (msz (rd x (i : Int)) 1 s) 15) b (i : Int) = some (cutL x s, (b && fitsB (x.drop i) s), (x.length : Int)) := by
 have hl := vec_len x h
 induction d with
 | zero =>
   intro k i b hi hk
   obtain ⟨k, rfl⟩ := k1_ hk
   obtain rfl : i = x.length := by omega
   show impl_cut.b0 _ _ _ k _ _ _ = _
   unfold impl_cut.b0
   rw [if_neg (by omega), List.drop_length, cutL_range, show fitsB [] s = true from rfl, Bool.and_true]
 | succ d ih =>
   intro k i b hi hk
   obtain ⟨k, rfl⟩ := k1_ hk
   have hlt : i < x.length := by omega
   have er : (List.range i).map (fun (i : Nat) => clampZ (msz (rd x (i : Int)) 1 s) 15) ++ [clampZ (msz (rd x (i : Int)) 1 s) 15] = (List.range (i + 1)).map fun (i : Nat) => clampZ (msz (rd x (i : Int)) 1 s) 15 := by rw [List.range_succ, List.map_append]; rfl
   show impl_cut.b0 _ _ _ k _ _ _ = _
   unfold impl_cut.b0
   rw [if_pos (by omega), if_pos (by omega), getD_rd, (ms1 x h i hlt s s0 s1 k (by omega)).1, Option.bind_some, impl_clamp _ 15 (by omega) (by omega), Option.bind_some, if_pos (by simp; omega), er, w_up i (by omega), in_i, Option.bind_some, fits_drop x i hlt]
   by_cases hb : b = true
   · rw [if_pos hb, ih k (i + 1) _ (by omega) (by omega), hb, Bool.true_and]
   · rw [if_neg hb, ih k (i + 1) _ (by omega) (by omega), Bool.eq_false_iff.2 hb, Bool.false_and, Bool.false_and]
theorem impl_cut0 (x : List Int) (h : vecB x = true) (s : Int) (s0 : 0 ≤ s) (s1 : s ≤ 4) (k : Nat) (hk : 60 < k) : impl_cut.g k x s = some (cutL x s, fitsB x s) := by
 have hl := vec_len x h
 unfold impl_cut.g
 have e := impl_cutG x h s s0 s1 x.length k 0 true (by omega) (by omega)
 rw [show ((0 : Nat) : Int) = 0 from rfl, List.drop_zero, Bool.true_and] at e
 show ((impl_cut.l0 x s k ((List.range 0).map fun (i : Nat) => clampZ (msz (rd x (i : Int)) 1 s) 15) true 0).bind _) = _
 rw [e, Option.bind_some]
theorem impl_leastG (x : List Int) (h : vecB x = true) (d : Nat) : ∀ (k : Nat) (s : Int), 0 ≤ s → s + d = 4 → d + 70 < k → impl_CutDown.l0 x k s = some (.inl (⟨leastS x d s, cutL x (leastS x d s)⟩, true)) := by
 induction d with
 | zero =>
   intro k s s0 hs hk
   obtain ⟨k, rfl⟩ := k1_ hk
   show impl_CutDown.b0 _ _ k _ = _
   unfold impl_CutDown.b0 leastS
   rw [impl_cut0 x h s s0 (by omega) k (by omega), Option.bind_some]
   by_cases hf : fitsB x s = true
   · rw [if_pos hf]
   · rw [if_neg hf, if_pos (by omega)]
 | succ d ih =>
   intro k s s0 hs hk
   obtain ⟨k, rfl⟩ := k1_ hk
   show impl_CutDown.b0 _ _ k _ = _
   unfold impl_CutDown.b0 leastS
   rw [impl_cut0 x h s s0 (by omega) k (by omega), Option.bind_some]
   by_cases hf : fitsB x s = true
   · rw [if_pos hf, if_pos hf]
   · rw [if_neg hf, if_neg hf, if_neg (by omega), w64 (by omega) (by omega)]
     exact ih k (s + 1) (by omega) (by omega) (by omega)
theorem impl_partG (x : List Int) (h : vecB x = true) (k : Nat) (hk : 200 < k) : impl_CutDown.g k x = some (partOf x, true) := by
 have hl := vec_len x h
 unfold impl_CutDown.g
 rw [in_i, Option.bind_some, if_pos (by simp; omega), all_i, Option.bind_some, if_pos (vecZ x h), impl_leastG x h 4 k 0 (by omega) (by omega) (by omega), Option.bind_some]
 rfl
theorem part_len (x : List Int) : (partOf x).f1.length = x.length := by simp [partOf, cutL]
def mMerges (x : List S225) : Nat := x.length
def mTurns (x : S45) : Nat := mIntss x.f0 + mIntss x.f1
def mLayers : List S215 → Nat := szL mLayer
def mModel (x : S47) : Nat := mMerges x.f3 + (mIntss x.f4 + (mLayers x.f5 + (x.f6.length + (mMatrix x.f7 + mTurns x.f8))))
def gMerge (x : S225) : S114 := ⟨x.f0, x.f1⟩
def gMerges : List S225 → List S114 := List.map gMerge
def gLayers : List S215 → List S118 := List.map gLayer
theorem szTurns_m (k : Nat) (x : S45) (n : Int) (ok : okT45 x) (hk : mTurns x < k) (h0 : 0 ≤ n) (h1 : n ≤ 1048576) : laws_szTurns.g k x n = lessS n (mTurns x) := by
 have h : mTurns x = mIntss x.f0 + mIntss x.f1 := rfl
 exact sz_then (szIntss_ok k x.f0 n ok.1 (by omega) h0 h1) h0 fun g => sz_end (szIntss_ok k x.f1 _ ok.2 (by omega) (by omega) (by omega)) (by omega)
theorem toMerges_m (k : Nat) (x : List S225) (h : mMerges x ≤ 1048576) (hk : mMerges x < k) : laws_toMergeS.g k x = some (gMerges x) := by
 unfold mMerges at h hk
 exact to_listW o225 o114 x (laws_toMergeS.l0 x) (fun k y => laws_toMerge.g k y) gMerge (fun _ => 0) (fun _ _ _ => rfl) (fun k y _ _ => rfl) (by omega) k (by rw [szL_zero]; exact hk)
theorem toTurns_m (k : Nat) (x : S45) (h : mTurns x ≤ 1048576) (hk : mTurns x < k) : laws_toTurns.g k x = some ⟨x.f0, x.f1⟩ := by
 have g : mTurns x = mIntss x.f0 + mIntss x.f1 := rfl
 unfold laws_toTurns.g
 rw [toIntSS_same k x.f0 (by omega) (by omega), Option.bind_some, toIntSS_same k x.f1 (by omega) (by omega), Option.bind_some]
def iLayers : List S118 → Nat := szL iLayer
theorem i_layers (x : List S215) : iLayers (gLayers x) = mLayers x := by unfold iLayers mLayers gLayers szL; rw [sumS_map' gLayer mLayer iLayer i_layer, List.length_map]
theorem eqTurns_i (k : Nat) (x : S32) (h : mIntss x.f0 + mIntss x.f1 ≤ 1048576) (hk : mIntss x.f0 + mIntss x.f1 < k) : laws_eqTurns.g k x x = some true := by
 unfold laws_eqTurns.g
 rw [eqIntSS_same k x.f0 (by omega) (by omega), Option.bind_some, if_pos rfl, eqIntSS_same k x.f1 (by omega) (by omega), Option.bind_some, if_pos rfl]
theorem eqMerges_i (k : Nat) (x : List S114) (h : x.length ≤ 1048576) (hk : x.length < k) : laws_eqMergeS.g k x x = some true :=
 eq_listW o114 x (laws_eqMergeS.l0 x x) (fun k y => laws_eqMerge.g k y y) (fun _ => 0) (fun _ _ => rfl) (fun k y _ _ => by unfold laws_eqMerge.g; rw [if_pos rfl, if_pos rfl]) (by omega) k (by rw [szL_zero]; exact hk)
theorem szMerges_m (x : List S225) (n : Int) (hl : x.length ≤ 9223372036854775807) (h0 : 0 ≤ n) (h1 : n ≤ 1048576) {k : Nat} : laws_szMergeS.g k x n = lessS n (mMerges x) := by
 unfold laws_szMergeS.g lessS mMerges
 rw [w64 (i := n - (x.length : Int)) (by omega) (by omega)]
 by_cases c : n < (x.length : Int)
 · rw [if_pos (by omega), if_pos c]
 · rw [if_neg (by omega), if_neg c]
theorem szLayers_from (l : List S215) (hl : l.length ≤ 9223372036854775807) (hok : ∀ x ∈ l, okT215 x) (d : Nat) : ∀ (k i : Nat) (n : Int), i ≤ l.length → l.length - i = d → d + sumS mLayer (l.drop i) < k → 0 ≤ n → n ≤ 1048576 →
   (laws_szLayerS.l0 l k n (i : Int)).bind (fun o => match o with | .inl r_ => some r_ | .inr ⟨a, _⟩ => some a) = lessS n (sumS mLayer (l.drop i)) := by
 induction d with
 | zero =>
   intro k i n hi hd hk h0 h1
   obtain ⟨k, rfl⟩ : ∃ m, k = m + 1 := ⟨k - 1, by omega⟩
   rw [List.drop_of_length_le (by omega)]
   unfold laws_szLayerS.l0 laws_szLayerS.b0
   rw [if_neg (by omega)]
   show some n = some (if n < 0 then -1 else n - 0)
   rw [if_neg (by omega)]; simp
 | succ d ih =>
   intro k i n hi hd hk h0 h1
   obtain ⟨k, rfl⟩ : ∃ m, k = m + 1 := ⟨k - 1, by omega⟩
   have hlt : i < l.length := by omega
   rw [List.drop_eq_getElem_cons hlt, sumS_cons] at hk ⊢
   unfold laws_szLayerS.l0 laws_szLayerS.b0
   rw [if_pos (by omega), if_pos (by omega), getD_int l _ i hlt, szLayer_g k l[i] n (hok _ (List.getElem_mem hlt)) (by omega) h0 h1]
   unfold lessS
   rw [Option.bind_some]
   by_cases c : n < (mLayer l[i] : Int)
   · rw [if_pos c, if_pos (by omega), if_pos (by omega)]; rfl
   · rw [if_neg c, if_neg (by omega), w64 (by omega) (by omega), show ((i : Int) + 1) = ((i + 1 : Nat) : Int) by omega, ih k (i + 1) _ (by omega) (by omega) (by omega) (by omega) (by omega)]
     unfold lessS
     by_cases e : n - (mLayer l[i] : Int) < (sumS mLayer (l.drop (i + 1)) : Int)
     · rw [if_pos e, if_pos (by omega)]
     · rw [if_neg e, if_neg (by omega)]; congr 1; omega
theorem szLayers_g (k : Nat) (l : List S215) (n : Int) (ok : okT43 l) (hk : mLayers l < k) (h0 : 0 ≤ n) (h1 : n ≤ 1048576) : laws_szLayerS.g k l n = lessS n (mLayers l) := by
 have hl := ok.1
 unfold mLayers szL at hk ⊢
 unfold laws_szLayerS.g
 rw [w64 (i := n - (l.length : Int)) (by omega) (by omega)]
 by_cases c : n - (l.length : Int) < 0
 · rw [if_pos c]; unfold lessS; rw [if_pos (by omega)]
 · rw [if_neg c]
   have := szLayers_from l hl ok.2 l.length k 0 (n - l.length) (by omega) (by omega) (by rw [List.drop_zero]; omega) (by omega) (by omega)
   rw [List.drop_zero] at this
   rw [show (0 : Int) = ((0 : Nat) : Int) from rfl]
   refine this.trans ?_
   unfold lessS
   by_cases e : n - (l.length : Int) < (sumS mLayer l : Int)
   · rw [if_pos e, if_pos (by omega)]
   · rw [if_neg e, if_neg (by omega)]; congr 1; omega
theorem szModel_g (k : Nat) (x : S47) (n : Int) (ok : okT47 x) (hk : mModel x < k) (h0 : 0 ≤ n) (h1 : n ≤ 1048576) : laws_szModel.g k x n = lessS n (mModel x) := by
 have h : mModel x = mMerges x.f3 + (mIntss x.f4 + (mLayers x.f5 + (x.f6.length + (mMatrix x.f7 + mTurns x.f8)))) := rfl
 obtain ⟨o0, o1, o2, o3, o4, o5, o6, o7, o8⟩ := ok
 unfold laws_szModel.g
 rw [h]
 exact sz_then (szMerges_m x.f3 n o3.1 h0 h1) h0 fun g0 => sz_then (szIntss_ok k x.f4 _ o4 (by omega) (by omega) (by omega)) (by omega) fun g1 => sz_then (szLayers_g k x.f5 _ o5 (by omega) (by omega) (by omega)) (by omega) fun g2 =>
   sz_then (szInts_tells x.f6 o6.1 _ (by omega) (by omega)) (by omega) fun g3 => sz_then (szMatrix_m k x.f7 _ o7 (by omega) (by omega) (by omega)) (by omega) fun g4 => sz_end (szTurns_m k x.f8 _ o8 (by omega) (by omega) (by omega)) (by omega)
theorem toLayers_from (l : List S215) (hl : l.length ≤ 9223372036854775807) (hs : ∀ x ∈ l, mLayer x ≤ 1048576) (d : Nat) : ∀ (k i : Nat), i ≤ l.length → l.length - i = d → d + sumS mLayer (l.drop i) < k →
   ∃ j, laws_toLayerS.l0 l k (i : Int) ((l.take i).map gLayer ++ List.replicate (l.length - i) o118) = some (j, l.map gLayer) := by
 induction d with
 | zero =>
   intro k i hi hd hk
   obtain ⟨k, rfl⟩ := k1_ hk
   unfold laws_toLayerS.l0 laws_toLayerS.b0
   rw [if_neg (by omega), List.take_of_length_le (by omega), hd]; simp
 | succ d ih =>
   intro k i hi hd hk
   obtain ⟨k, rfl⟩ := k1_ hk
   have hlt : i < l.length := by omega
   rw [List.drop_eq_getElem_cons hlt, sumS_cons] at hk
   unfold laws_toLayerS.l0 laws_toLayerS.b0
   rw [if_pos (by omega), if_pos (by omega), getD_int l _ i hlt, toLayer_g k l[i] (hs _ (List.getElem_mem hlt)) (by omega), Option.bind_some, if_pos (by simp; omega), w64 (by omega) (by omega), show ((i : Int) + 1) = ((i + 1 : Nat) : Int) by omega]
   have e : ((l.take i).map gLayer ++ List.replicate (l.length - i) o118).set (i : Int).toNat (gLayer l[i]) = (l.take (i + 1)).map gLayer ++ List.replicate (l.length - (i + 1)) o118 := by
     rw [Int.toNat_natCast, List.set_append_right _ _ (by simp; omega), show l.length - i = (l.length - (i + 1)) + 1 by omega, List.replicate_succ, List.length_map, List.length_take, Nat.min_eq_left (by omega), Nat.sub_self, List.set_cons_zero, List.take_succ_eq_append_getElem hlt, List.map_append, List.append_assoc]
     rfl
   rw [e]
   exact ih k (i + 1) (by omega) (by omega) (by omega)
theorem toLayers_g (k : Nat) (l : List S215) (h : mLayers l ≤ 1048576) (hk : mLayers l < k) : laws_toLayerS.g k l = some (gLayers l) := by
 unfold mLayers szL at h hk
 obtain ⟨j, e⟩ := toLayers_from l (by omega) (fun x hx => by have := sumS_le mLayer l x hx; omega) l.length k 0 (by omega) (by omega) (by rw [List.drop_zero]; omega)
 unfold laws_toLayerS.g
 rw [if_pos ⟨by omega, by omega⟩, Int.toNat_natCast]
 simp only [List.take_zero, List.map_nil, List.nil_append, Nat.sub_zero] at e
 rw [show (0 : Int) = ((0 : Nat) : Int) from rfl, e]; rfl
def gModel (x : S47) : S34 := ⟨x.f0, x.f1, x.f2, gMerges x.f3, x.f4, gLayers x.f5, x.f6, gMatrix x.f7, ⟨x.f8.f0, x.f8.f1⟩⟩
theorem toModel_g (k : Nat) (x : S47) (h : mModel x ≤ 1048576) (hk : mModel x < k) : laws_toModel.g k x = some (gModel x) := by
 have g : mModel x = mMerges x.f3 + (mIntss x.f4 + (mLayers x.f5 + (x.f6.length + (mMatrix x.f7 + mTurns x.f8)))) := rfl
 unfold laws_toModel.g
 rw [toMerges_m k x.f3 (by omega) (by omega), Option.bind_some, toIntSS_same k x.f4 (by omega) (by omega), Option.bind_some, toLayers_g k x.f5 (by omega) (by omega), Option.bind_some, to_tells x.f6 (by omega) k (by omega), Option.bind_some,
   toMatrix_m k x.f7 (by omega) (by omega), Option.bind_some, toTurns_m k x.f8 (by omega) (by omega), Option.bind_some]
 rfl
theorem eqLayers_from (l : List S118) (hl : l.length ≤ 9223372036854775807) (hs : ∀ x ∈ l, iLayer x ≤ 1048576) (d : Nat) : ∀ (k i : Nat), i ≤ l.length → l.length - i = d → d + sumS iLayer (l.drop i) < k →
   ∃ j, laws_eqLayerS.l0 l l k (i : Int) = some (.inr j) := by
 induction d with
 | zero =>
   intro k i hi hd hk
   obtain ⟨k, rfl⟩ := k1_ hk
   unfold laws_eqLayerS.l0 laws_eqLayerS.b0
   rw [if_neg (by omega)]; exact ⟨_, rfl⟩
 | succ d ih =>
   intro k i hi hd hk
   obtain ⟨k, rfl⟩ := k1_ hk
   have hlt : i < l.length := by omega
   rw [List.drop_eq_getElem_cons hlt, sumS_cons] at hk
   unfold laws_eqLayerS.l0 laws_eqLayerS.b0
   rw [if_pos (by omega), if_pos (by omega), if_pos (by omega), getD_int l _ i hlt, eqLayer_g k l[i] (hs _ (List.getElem_mem hlt)) (by omega), Option.bind_some, if_pos rfl, w64 (by omega) (by omega), show ((i : Int) + 1) = ((i + 1 : Nat) : Int) by omega]
   exact ih k (i + 1) (by omega) (by omega) (by omega)
theorem eqLayers_g (k : Nat) (l : List S118) (h : iLayers l ≤ 1048576) (hk : iLayers l < k) : laws_eqLayerS.g k l l = some true := by
 unfold iLayers szL at h hk
 obtain ⟨j, e⟩ := eqLayers_from l (by omega) (fun x hx => by have := sumS_le iLayer l x hx; omega) l.length k 0 (by omega) (by omega) (by rw [List.drop_zero]; omega)
 unfold laws_eqLayerS.g
 rw [if_pos rfl, show (0 : Int) = ((0 : Nat) : Int) from rfl, e]; rfl
def iModel (x : S34) : Nat := x.f3.length + (mIntss x.f4 + (iLayers x.f5 + (x.f6.length + (iMatrix x.f7 + (mIntss x.f8.f0 + mIntss x.f8.f1)))))
theorem i_model (x : S47) : iModel (gModel x) = mModel x := by
 show (x.f3.map gMerge).length + (mIntss x.f4 + (iLayers (gLayers x.f5) + (x.f6.length + (mMatrix x.f7 + mTurns x.f8)))) = _
 rw [i_layers, List.length_map]; rfl
theorem eqModel_g (k : Nat) (x : S34) (h : iModel x ≤ 1048576) (hk : iModel x < k) : laws_eqModel.g k x x = some true := by
 unfold iModel at h hk
 unfold laws_eqModel.g
 rw [if_pos rfl, if_pos rfl, if_pos rfl, eqMerges_i k x.f3 (by omega) (by omega), Option.bind_some, if_pos rfl, eqIntSS_same k x.f4 (by omega) (by omega), Option.bind_some, if_pos rfl, eqLayers_g k x.f5 (by omega) (by omega), Option.bind_some, if_pos rfl,
   eqInts_i k x.f6 (by omega) (by omega), Option.bind_some, if_pos rfl, eqMatrix_i k x.f7 (by omega) (by omega), Option.bind_some, if_pos rfl, eqTurns_i k x.f8 (by omega) (by omega), Option.bind_some, if_pos rfl]
theorem all_range {α : Type} (P : α → Bool) (z : α) (R : List α) : R.all P = (List.range R.length).all fun p => P (R.getD p z) := by
 rw [Bool.eq_iff_iff, List.all_eq_true, List.all_eq_true]
 constructor
 · intro h p hp
   have := List.mem_range.1 hp
   rw [List.getD_eq_getElem?_getD, List.getElem?_eq_getElem this]; exact h _ (List.getElem_mem _)
 · intro h x hx
   obtain ⟨p, hp, rfl⟩ := List.mem_iff_getElem.1 hx
   have := h p (List.mem_range.2 hp)
   rwa [List.getD_eq_getElem?_getD, List.getElem?_eq_getElem hp] at this
theorem all_drop (P : Nat → Bool) (n i : Nat) (h : i < n) : ((List.range n).drop i).all P = (P i && ((List.range n).drop (i + 1)).all P) := by
 rw [List.drop_eq_getElem_cons (by simpa using h), List.all_cons, List.getElem_range]
theorem all_both (P Q : Nat → Bool) (l : List Nat) : (l.all fun i => P i && Q i) = (l.all P && l.all Q) := by
 rw [Bool.eq_iff_iff, Bool.and_eq_true, List.all_eq_true, List.all_eq_true, List.all_eq_true]
 constructor
 · intro h; exact ⟨fun x hx => (Bool.and_eq_true_iff.1 (h x hx)).1, fun x hx => (Bool.and_eq_true_iff.1 (h x hx)).2⟩
 · intro h x hx; rw [h.1 x hx, h.2 x hx]; rfl
def rowT (n : Int) (l : List Int) : Bool := decide ((l.length : Int) = n) && l.all fun x => decide (-128 ≤ x) && decide (x ≤ 128)
def turnsB (R S : List (List Int)) (a n : Int) : Bool := (decide (4 ≤ a) && decide (a ≤ 24)) && ((decide (1 ≤ n) && decide (n ≤ 4)) && ((decide ((R.length : Int) = a) && R.all (rowT n)) && (decide ((S.length : Int) = a) && S.all (rowT n))))
theorem impl_turns (R S : List (List Int)) (a n : Int) {k : Nat} : impl_TurnsOk.g k ⟨R, S⟩ a n = some (turnsB R S a n) := by
 unfold impl_TurnsOk.g impl_in.f turnsB
 dsimp only
 by_cases h1 : 4 ≤ a
 · rw [if_pos h1, Option.bind_some, decide_eq_true h1]
   by_cases h2 : a ≤ 24
   · rw [decide_eq_true h2, if_pos rfl]
     by_cases h3 : 1 ≤ n
     · rw [if_pos h3, Option.bind_some, decide_eq_true h3]
       by_cases h4 : n ≤ 4
       · rw [decide_eq_true h4, if_pos rfl]
         have e : ∀ T : List (List Int), impl_turnLists.f T a n = some (decide ((T.length : Int) = a) && T.all (rowT n)) := fun T => rfl
         rw [e R, e S, Option.bind_some]
         cases decide ((R.length : Int) = a) && R.all (rowT n) with
         | false => rfl
         | true => rw [if_pos rfl, Option.bind_some]; rfl
       · rw [decide_eq_false h4, if_neg (by simp)]; rfl
     · rw [if_neg h3, Option.bind_some, if_neg (by simp), decide_eq_false h3]; rfl
   · rw [decide_eq_false h2, if_neg (by simp)]; rfl
 · rw [if_neg h1, Option.bind_some, if_neg (by simp), decide_eq_false h1]; rfl
theorem spec_turns_from (R S : List (List Int)) (a : Nat) (n : Int) (hR : R.length = a) (hS : S.length = a) (ha : a ≤ 24) (hn : 1 ≤ n ∧ n ≤ 4) (d : Nat) : ∀ (k i : Nat), i + d = a → d + 10 < k →
   (spec_TurnsOk.l0 ⟨R, S⟩ (a : Int) n k (i : Int)).bind (fun o => match o with | .inl r_ => some r_ | .inr _ => some true) = some (((List.range a).drop i).all fun p => rowT n (R.getD p []) && rowT n (S.getD p [])) := by
 induction d with
 | zero =>
   intro k i hi hk
   obtain ⟨k, rfl⟩ := k1_ hk
   unfold spec_TurnsOk.l0 spec_TurnsOk.b0
   dsimp only
   rw [if_neg (by omega), List.drop_of_length_le (by simp; omega)]; rfl
 | succ d ih =>
   intro k i hi hk
   obtain ⟨k, rfl⟩ := k1_ hk
   unfold spec_TurnsOk.l0 spec_TurnsOk.b0
   dsimp only
   rw [if_pos (by omega), if_pos (by omega), all_drop _ _ i (by omega), Int.toNat_natCast]
   unfold rowT
   by_cases h1 : ((R.getD i []).length : Int) = n
   · rw [if_pos h1, if_pos (by omega), decide_eq_true h1, Bool.true_and]
     by_cases h2 : ((S.getD i []).length : Int) = n
     · rw [if_pos h2, decide_eq_true h2, Bool.true_and, all_tells _ _ _ (by omega) k (by omega), all_tells _ _ _ (by omega) k (by omega), Option.bind_some]
       cases (R.getD i []).all fun x => decide (-128 ≤ x) && decide (x ≤ 128) with
       | false => rfl
       | true =>
         rw [if_pos rfl, Option.bind_some]
         cases (S.getD i []).all fun x => decide (-128 ≤ x) && decide (x ≤ 128) with
         | false => rfl
         | true => rw [if_pos rfl, w64 (by omega) (by omega), show ((i : Int) + 1) = ((i + 1 : Nat) : Int) by omega, ih k (i + 1) (by omega) (by omega)]; rfl
     · rw [if_neg h2, decide_eq_false h2]; simp
   · rw [if_neg h1, decide_eq_false h1]; rfl
theorem spec_turns (R S : List (List Int)) (a n : Int) (k : Nat) (hk : 100 < k) : spec_TurnsOk.g k ⟨R, S⟩ a n = some (turnsB R S a n) := by
 unfold spec_TurnsOk.g spec_l01In.f turnsB
 dsimp only
 by_cases h1 : 4 ≤ a
 · rw [if_pos h1, Option.bind_some, decide_eq_true h1]
   by_cases h2 : a ≤ 24
   · rw [decide_eq_true h2, if_pos rfl]
     by_cases h3 : 1 ≤ n
     · rw [if_pos h3, Option.bind_some, decide_eq_true h3]
       by_cases h4 : n ≤ 4
       · rw [decide_eq_true h4, if_pos rfl]
         by_cases h5 : (R.length : Int) = a
         · rw [if_pos h5, decide_eq_true h5]
           by_cases h6 : (S.length : Int) = a
           · rw [if_pos h6, decide_eq_true h6]
             have g := spec_turns_from R S R.length n rfl (by omega) (by omega) ⟨h3, h4⟩ R.length k 0 (by omega) (by omega)
             rw [← h5]
             refine g.trans ?_
             have hl : S.length = R.length := by omega
             rw [List.drop_zero, all_both, all_range (rowT n) [] R, all_range (rowT n) [] S, hl]
             simp
           · rw [if_neg h6, decide_eq_false h6]; simp
         · rw [if_neg h5, decide_eq_false h5]; simp
       · rw [decide_eq_false h4, if_neg (by simp)]; simp
     · rw [if_neg h3, Option.bind_some, if_neg (by simp), decide_eq_false h3]; simp
   · rw [decide_eq_false h2, if_neg (by simp)]; simp
 · rw [if_neg h1, Option.bind_some, if_neg (by simp), decide_eq_false h1]; simp
def atM (l : List S114) (i : Nat) : S114 := l.getD i ⟨0, 0⟩
def sameM (a b : S114) : Bool := a.f0 == b.f0 && a.f1 == b.f1
def sz1 (s : List Int) (x : Int) : Int := if x < 256 then 1 else rd s (x - 256)
def szs (l : List S114) : Nat → List Int
 | 0 => []
 | i + 1 => szs l i ++ [sz1 (szs l i) (atM l i).f0 + sz1 (szs l i) (atM l i).f1]
def szN (l : List S114) (i : Nat) : Int := sz1 (szs l i) (atM l i).f0 + sz1 (szs l i) (atM l i).f1
def tokB (i : Nat) (x : Int) : Bool := decide (0 ≤ x) && decide (x ≤ 255 + (i : Int))
def toksB (l : List S114) (i : Nat) : Bool := tokB i (atM l i).f0 && tokB i (atM l i).f1
def freshB (l : List S114) (i : Nat) : Bool := (List.range i).all fun j => !sameM (atM l j) (atM l i)
def sizB (l : List S114) (i : Nat) : Bool := toksB l i && decide (szN l i ≤ 64)
theorem szs_len (l : List S114) : ∀ i, (szs l i).length = i
 | 0 => rfl
 | i + 1 => by rw [szs, List.length_append, szs_len l i]; rfl
def lowS (s : List Int) : Prop := ∀ z ∈ s, 0 ≤ z ∧ z ≤ 64
theorem sz1_bd (s : List Int) (x : Int) (i : Nat) (hs : lowS s) (hl : s.length = i) (h : tokB i x = true) : 0 ≤ sz1 s x ∧ sz1 s x ≤ 64 ∧ (¬ x < 256 → 0 ≤ x - 256 ∧ x - 256 < (s.length : Int)) ∧ 0 ≤ x ∧ x ≤ 255 + (i : Int) := by
 unfold tokB at h
 simp only [Bool.and_eq_true, decide_eq_true_eq] at h
 unfold sz1
 by_cases c : x < 256
 · rw [if_pos c]; exact ⟨by omega, by omega, fun h => (h c).elim, h.1, h.2⟩
 · rw [if_neg c]
   have g : rd s (x - 256) ∈ s := by
     have := rd_mem s (x - 256).toNat (by omega)
     rwa [show (((x - 256).toNat : Nat) : Int) = x - 256 by omega] at this
   have := hs _ g
   exact ⟨this.1, this.2, fun _ => ⟨by omega, by omega⟩, h.1, h.2⟩
theorem low_snoc (s : List Int) (x : Int) (h : lowS s) (h0 : 0 ≤ x) (h1 : x ≤ 64) : lowS (s ++ [x]) := fun z hz => by
 rcases List.mem_append.1 hz with g | g
 · exact h z g
 · rw [List.mem_singleton.1 g]; exact ⟨h0, h1⟩
theorem spec_in (x lo hi : Int) : spec_l01In.f x lo hi = some (decide (lo ≤ x) && decide (x ≤ hi)) := by
 unfold spec_l01In.f
 by_cases c : x ≥ lo
 · rw [if_pos c, decide_eq_true (show lo ≤ x from c)]; rfl
 · rw [if_neg c, decide_eq_false (show ¬ lo ≤ x from c)]; rfl
theorem impl_inB (x lo hi : Int) : impl_in.f x lo hi = some (decide (lo ≤ x) && decide (x ≤ hi)) := by
 unfold impl_in.f
 by_cases c : x ≥ lo
 · rw [if_pos c, decide_eq_true (show lo ≤ x from c)]; rfl
 · rw [if_neg c, decide_eq_false (show ¬ lo ≤ x from c)]; rfl
theorem szN_bd (l : List S114) (i : Nat) (hs : lowS (szs l i)) (ht : toksB l i = true) : 0 ≤ szN l i ∧ szN l i ≤ 128 := by
 unfold toksB at ht
 rw [Bool.and_eq_true] at ht
 obtain ⟨a0, a1, _⟩ := sz1_bd (szs l i) _ i hs (szs_len l i) ht.1
 obtain ⟨b0, b1, _⟩ := sz1_bd (szs l i) _ i hs (szs_len l i) ht.2
 unfold szN; omega
def mergesB (l : List S114) : Bool := decide (l.length ≤ 16) && ((List.range l.length).all fun i => freshB l i && sizB l i)
theorem impl_token (x : Int) (i : Nat) (hi : i ≤ 16) : impl_isToken.f x (i : Int) = some (tokB i x) := by
 unfold impl_isToken.f
 rw [impl_inB, Option.bind_some, w64 (by omega) (by omega)]; rfl
theorem impl_one (s : List Int) (x : Int) (i : Nat) (hs : lowS s) (hl : s.length = i) (hi : i ≤ 16) (h : tokB i x = true) (k : Nat) : impl_sizesOf_1.g k x s = some (sz1 s x) := by
 obtain ⟨a0, a1, a2, a3, a4⟩ := sz1_bd s x i hs hl h
 unfold impl_sizesOf_1.g sz1
 by_cases c : x < 256
 · rw [if_pos c, if_pos c]
 · have := a2 c
   rw [if_neg c, if_neg c, w64 (by omega) (by omega), if_pos this]; rfl
theorem impl_sizes_from (l : List S114) (hl : l.length ≤ 16) (d : Nat) : ∀ (k i : Nat), i + d = l.length → lowS (szs l i) → d + 30 < k →
   ∃ r : List Int × Bool, (impl_sizesOf.l0 l k (i : Int) (szs l i)).bind (fun o => match o with | .inl r_ => some r_ | .inr ⟨_, xs⟩ => some (xs, true)) = some r ∧ r.2 = ((List.range l.length).drop i).all (sizB l) := by
 induction d with
 | zero =>
   intro k i hi hs hk
   obtain ⟨k, rfl⟩ := k1_ hk
   unfold impl_sizesOf.l0 impl_sizesOf.b0
   rw [if_neg (by omega), List.drop_of_length_le (by simp; omega)]
   exact ⟨_, rfl, rfl⟩
 | succ d ih =>
   intro k i hi hs hk
   obtain ⟨k, rfl⟩ := k1_ hk
   unfold impl_sizesOf.l0 impl_sizesOf.b0
   rw [if_pos (by omega), if_pos (by omega), Int.toNat_natCast, all_drop _ _ i (by omega)]
   show ∃ r, ((impl_isToken.f (atM l i).f0 (i : Int)).bind fun t45 => if t45 = true then (impl_isToken.f (atM l i).f1 (i : Int)).bind _ else _).bind _ = some r ∧ _
   rw [impl_token _ i (by omega), Option.bind_some]
   unfold sizB toksB
   cases h1 : tokB i (atM l i).f0 with
   | false => rw [if_neg (by simp)]; exact ⟨_, rfl, rfl⟩
   | true =>
     rw [if_pos rfl, impl_token _ i (by omega), Option.bind_some]
     cases h2 : tokB i (atM l i).f1 with
     | false => rw [if_neg (by simp)]; exact ⟨_, rfl, rfl⟩
     | true =>
       have ht : toksB l i = true := by unfold toksB; rw [h1, h2]; rfl
       have hb := szN_bd l i hs ht
       have hsl := szs_len l i
       rw [if_pos rfl]
       show ∃ r, ((impl_sizesOf_1.g k (atM l i).f0 (szs l i)).bind fun t57 => (impl_sizesOf_1.g k (atM l i).f1 (szs l i)).bind _).bind _ = some r ∧ _
       rw [impl_one _ _ i hs hsl (by omega) h1, Option.bind_some, impl_one _ _ i hs hsl (by omega) h2, Option.bind_some]
       show ∃ r, (if wrap64 (szN l i) > 64 then _ else if (szs l i).length < 4294967296 then impl_sizesOf.l0 l k (wrap64 ((i : Int) + 1)) (szs l i ++ [wrap64 (szN l i)]) else _).bind _ = some r ∧ _
       rw [w64 (i := szN l i) (by omega) (by omega)]
       by_cases c : szN l i > 64
       · rw [if_pos c, decide_eq_false (by omega)]; exact ⟨_, rfl, by simp⟩
       · rw [if_neg c, if_pos (by omega), decide_eq_true (by omega), w64 (by omega) (by omega), show ((i : Int) + 1) = ((i + 1 : Nat) : Int) by omega]
         obtain ⟨r, e1, e2⟩ := ih k (i + 1) (by omega) (low_snoc _ _ hs hb.1 (Int.not_lt.mp c)) (by omega)
         exact ⟨r, e1, by rw [e2]; rfl⟩
theorem spec_fresh {β : Type} (l : List S114) (i : Nat) (rest : Option (Bool ⊕ β)) (hi : i < l.length) (hl : l.length ≤ 16) (d : Nat) : ∀ (k j : Nat), j + d = i → d < k →
   (spec_MergesOk.l1 l (i : Int) k (j : Int)).bind (fun o => match o with | .inl r_ => some (Sum.inl r_) | .inr _ => rest) = if (((List.range i).drop j).all fun j => !sameM (atM l j) (atM l i)) = true then rest else some (Sum.inl false) := by
 induction d with
 | zero =>
   intro k j hj hk
   obtain ⟨k, rfl⟩ := k1_ hk
   unfold spec_MergesOk.l1 spec_MergesOk.b1
   rw [if_neg (by omega), List.drop_of_length_le (by simp; omega)]; rfl
 | succ d ih =>
   intro k j hj hk
   obtain ⟨k, rfl⟩ := k1_ hk
   unfold spec_MergesOk.l1 spec_MergesOk.b1
   rw [if_pos (by omega), if_pos (by omega), all_drop _ _ j (by omega), Int.toNat_natCast, Int.toNat_natCast]
   show (if sameM (atM l j) (atM l i) = true then some (Sum.inl false) else _ : Option (Bool ⊕ Int)).bind _ = _
   cases sameM (atM l j) (atM l i) with
   | true => rfl
   | false => rw [if_neg (by simp), Bool.not_false, Bool.true_and, w64 (by omega) (by omega), show ((j : Int) + 1) = ((j + 1 : Nat) : Int) by omega, ih k (j + 1) (by omega) (by omega)]
theorem spec_two (l : List S114) (i : Nat) (hi : i < l.length) (hl : l.length ≤ 16) (hs : lowS (szs l i)) (ht : toksB l i = true) (k : Nat) : spec_MergesOk.l2 l (szs l i) (i : Int) (k + 3) 0 0 = some (szN l i, 2) := by
 unfold toksB at ht
 rw [Bool.and_eq_true] at ht
 have hsl := szs_len l i
 have w1 : wrap64 (0 + 1) = 1 := w64 (by omega) (by omega)
 have w2 : wrap64 (1 + 1) = 2 := w64 (by omega) (by omega)
 obtain ⟨a0, a1, a2, a3, a4⟩ := sz1_bd (szs l i) _ i hs hsl ht.1
 obtain ⟨b0, b1, b2, b3, b4⟩ := sz1_bd (szs l i) _ i hs hsl ht.2
 have step : ∀ (k : Nat) (q j x : Int), 0 ≤ q → q ≤ 64 → (j = 0 ∧ x = (atM l i).f0 ∨ j = 1 ∧ x = (atM l i).f1) → 0 ≤ sz1 (szs l i) x → sz1 (szs l i) x ≤ 64 → (¬ x < 256 → 0 ≤ x - 256 ∧ x - 256 < ((szs l i).length : Int)) → 0 ≤ x → x ≤ 255 + (i : Int) →
     spec_MergesOk.l2 l (szs l i) (i : Int) (k + 1) q j = spec_MergesOk.l2 l (szs l i) (i : Int) k (q + sz1 (szs l i) x) (j + 1) := by
   intro k q j x q0 q1 hx c0 c1 c2 c3 c4
   have e : (if j = 1 then some (l.getD (i : Int).toNat o114).f1 else some (l.getD (i : Int).toNat o114).f0) = some x := by
     rw [Int.toNat_natCast]
     rcases hx with ⟨rfl, rfl⟩ | ⟨rfl, rfl⟩ <;> rfl
   show spec_MergesOk.b2 l (szs l i) (i : Int) (spec_MergesOk.l2 l (szs l i) (i : Int) k) k q j = _
   unfold spec_MergesOk.b2
   rw [if_pos (by rcases hx with h | h <;> omega), e, Option.bind_some]
   unfold sz1 at c0 c1 ⊢
   by_cases c : x < 256
   · rw [if_pos c, if_pos c, Option.bind_some, w64 (i := q + 1) (by omega) (by omega), w64 (i := j + 1) (by rcases hx with h | h <;> omega) (by rcases hx with h | h <;> omega)]
   · rw [if_neg c] at c0 c1
     have := c2 c
     rw [if_neg c, if_neg c, w64 (i := x - 256) (by omega) (by omega), if_pos (by omega)]
     show (some (wrap64 (q + rd (szs l i) (x - 256)))).bind _ = _
     rw [Option.bind_some, w64 (i := q + rd (szs l i) (x - 256)) (by omega) (by omega), w64 (i := j + 1) (by rcases hx with h | h <;> omega) (by rcases hx with h | h <;> omega)]
 rw [step (k + 2) 0 0 (atM l i).f0 (by omega) (by omega) (.inl ⟨rfl, rfl⟩) a0 a1 a2 a3 a4, Int.zero_add, Int.zero_add, step (k + 1) _ 1 (atM l i).f1 a0 a1 (.inr ⟨rfl, rfl⟩) b0 b1 b2 b3 b4]
 show spec_MergesOk.b2 l (szs l i) (i : Int) (spec_MergesOk.l2 l (szs l i) (i : Int) k) k _ _ = _
 unfold spec_MergesOk.b2
 rw [if_neg (by omega)]; rfl
theorem spec_merges_from (l : List S114) (hl : l.length ≤ 16) (d : Nat) : ∀ (k i : Nat), i + d = l.length → lowS (szs l i) → 60 * d + 60 < k →
   (spec_MergesOk.l0 l k (szs l i) (i : Int)).bind (fun o => match o with | .inl r_ => some r_ | .inr ⟨_, _⟩ => some true) = some (((List.range l.length).drop i).all fun i => freshB l i && sizB l i) := by
 induction d with
 | zero =>
   intro k i hi hs hk
   obtain ⟨k, rfl⟩ := k1_ hk
   unfold spec_MergesOk.l0 spec_MergesOk.b0
   rw [if_neg (by omega), List.drop_of_length_le (by simp; omega)]; rfl
 | succ d ih =>
   intro k i hi hs hk
   obtain ⟨k, rfl⟩ : ∃ m, k = m + 10 := ⟨k - 10, by omega⟩
   show (spec_MergesOk.b0 l (spec_MergesOk.l0 l (k + 9)) (k + 9) (szs l i) (i : Int)).bind _ = _
   unfold spec_MergesOk.b0
   rw [if_pos (by omega), if_pos (by omega), spec_in, spec_in, all_drop _ _ i (by omega), Int.toNat_natCast, Option.bind_some, w64 (i := 255 + (i : Int)) (by omega) (by omega)]
   unfold sizB toksB
   show (if tokB i (atM l i).f0 = true then (some (tokB i (atM l i).f1)).bind _ else _).bind _ = _
   cases h1 : tokB i (atM l i).f0 with
   | false => rw [if_neg (by simp)]; simp
   | true =>
     rw [if_pos rfl, Option.bind_some]
     cases h2 : tokB i (atM l i).f1 with
     | false => rw [if_neg (by simp)]; simp
     | true =>
       have ht : toksB l i = true := by unfold toksB; rw [h1, h2]; rfl
       have hb := szN_bd l i hs ht
       have hsl := szs_len l i
       have := fun rest => spec_fresh (β := List Int × Int) l i rest (by omega) hl i (k + 9) 0 (by omega) (by omega)
       rw [if_pos rfl, show k + 9 = (k + 6) + 3 by omega, spec_two l i (by omega) hl hs ht (k + 6), Option.bind_some]
       rw [show ((0 : Nat) : Int) = 0 from rfl, List.drop_zero] at this
       show ((spec_MergesOk.l1 l (i : Int) (k + 9) 0).bind _).bind _ = _
       refine (congrArg (fun o : Option (Bool ⊕ (List Int × Int)) => o.bind (fun o => match o with | .inl r_ => some r_ | .inr ⟨_, _⟩ => some true)) (this (if szN l i > 64 then some (Sum.inl false) else if (szs l i).length < 4294967296 then spec_MergesOk.l0 l (k + 9) (szs l i ++ [szN l i]) (wrap64 ((i : Int) + 1)) else none))).trans ?_
       unfold freshB
       cases (List.range i).all fun j => !sameM (atM l j) (atM l i) with
       | false => rfl
       | true =>
         rw [if_pos rfl]
         by_cases c : szN l i > 64
         · rw [if_pos c, decide_eq_false (by omega)]; rfl
         · rw [if_neg c, decide_eq_true (by omega), if_pos (by omega), w64 (by omega) (by omega), show ((i : Int) + 1) = ((i + 1 : Nat) : Int) by omega]
           have e := ih (k + 9) (i + 1) (by omega) (low_snoc _ _ hs hb.1 (Int.not_lt.mp c)) (by omega)
           rw [show szs l (i + 1) = szs l i ++ [szN l i] from rfl] at e
           rw [e]; rfl
theorem spec_merges (l : List S114) (k : Nat) (hk : 2000 < k) : spec_MergesOk.g k l = some (mergesB l) := by
 unfold spec_MergesOk.g mergesB
 by_cases c : (l.length : Int) > 16
 · rw [if_pos c, decide_eq_false (by omega)]; rfl
 · rw [if_neg c, decide_eq_true (by omega), Bool.true_and]
   have := spec_merges_from l (by omega) l.length k 0 (by omega) (fun z hz => by cases hz) (by omega)
   rw [List.drop_zero] at this
   exact this
theorem impl_index_from (l : List S114) (m : S114) (hl : l.length ≤ 16) (d : Nat) : ∀ (k j : Nat), j + d = l.length → d < k →
   ∃ r : Int, (slices_Index_impl_Merge_impl_Merge.l0 l m k (j : Int)).bind (fun o => match o with | .inl r_ => some r_ | .inr _ => some (-1)) = some r ∧ decide (r ≥ 0) = !(((List.range l.length).drop j).all fun j => !sameM (atM l j) m) := by
 induction d with
 | zero =>
   intro k j hj hk
   obtain ⟨k, rfl⟩ := k1_ hk
   unfold slices_Index_impl_Merge_impl_Merge.l0 slices_Index_impl_Merge_impl_Merge.b0
   rw [if_neg (by omega), List.drop_of_length_le (by simp; omega)]
   exact ⟨_, rfl, rfl⟩
 | succ d ih =>
   intro k j hj hk
   obtain ⟨k, rfl⟩ := k1_ hk
   unfold slices_Index_impl_Merge_impl_Merge.l0 slices_Index_impl_Merge_impl_Merge.b0
   rw [if_pos (by omega), if_pos (by omega), all_drop _ _ j (by omega), Int.toNat_natCast]
   have e : (m.f0 == (atM l j).f0 && (m.f1 == (atM l j).f1)) = sameM (atM l j) m := by unfold sameM; rw [show (m.f0 == (atM l j).f0) = ((atM l j).f0 == m.f0) from BEq.comm, show (m.f1 == (atM l j).f1) = ((atM l j).f1 == m.f1) from BEq.comm]
   show ∃ r, (if (m.f0 == (atM l j).f0 && (m.f1 == (atM l j).f1)) = true then _ else _ : Option (Int ⊕ Int)).bind _ = some r ∧ _
   rw [e]
   cases sameM (atM l j) m with
   | true => rw [if_pos rfl]; exact ⟨_, rfl, by rw [decide_eq_true (by omega)]; rfl⟩
   | false =>
     rw [if_neg (by simp), w64 (by omega) (by omega), show ((j : Int) + 1) = ((j + 1 : Nat) : Int) by omega]
     exact ih k (j + 1) (by omega) (by omega)
theorem impl_contains (l : List S114) (i : Nat) (hi : i < l.length) (hl : l.length ≤ 16) (k : Nat) (hk : 20 < k) : slices_Contains_impl_Merge_impl_Merge.g k (l.take i) ⟨(atM l i).f0, (atM l i).f1⟩ = some (!freshB l i) := by
 have e : (l.take i).length = i := by rw [List.length_take]; omega
 obtain ⟨r, h1, h2⟩ := impl_index_from (l.take i) (atM l i) (by omega) i k 0 (by omega) (by omega)
 unfold slices_Contains_impl_Merge_impl_Merge.g
 have h3 : slices_Index_impl_Merge_impl_Merge.g k (l.take i) (atM l i) = some r := h1
 show ((slices_Index_impl_Merge_impl_Merge.g k (l.take i) (atM l i)).bind _) = _
 rw [h3, Option.bind_some]
 show some (decide (r ≥ 0)) = _
 rw [h2, List.drop_zero, e]
 unfold freshB
 congr 2
 rw [Bool.eq_iff_iff, List.all_eq_true, List.all_eq_true]
 have g : ∀ j, j ∈ List.range i → atM (l.take i) j = atM l j := fun j hj => by
   have := List.mem_range.1 hj
   unfold atM; rw [List.getD_eq_getElem?_getD, List.getD_eq_getElem?_getD, List.getElem?_take_of_lt this]
 exact ⟨fun h j hj => by rw [← g j hj]; exact h j hj, fun h j hj => by rw [g j hj]; exact h j hj⟩
theorem impl_fresh_from (l : List S114) (hl : l.length ≤ 16) (rest : Option Bool) (c : Bool) (hc : rest = some c) (d : Nat) : ∀ (k i : Nat), i + d = l.length → d + 30 < k →
   (impl_MergesOk.l0 l k (i : Int)).bind (fun o => match o with | .inl r_ => some r_ | .inr _ => rest) = some (((List.range l.length).drop i).all (freshB l) && c) := by
 induction d with
 | zero =>
   intro k i hi hk
   obtain ⟨k, rfl⟩ := k1_ hk
   unfold impl_MergesOk.l0 impl_MergesOk.b0
   rw [if_neg (by omega), List.drop_of_length_le (by simp; omega), hc]; rfl
 | succ d ih =>
   intro k i hi hk
   obtain ⟨k, rfl⟩ := k1_ hk
   unfold impl_MergesOk.l0 impl_MergesOk.b0
   rw [if_pos (by omega), if_pos (by omega), if_pos (by omega), Int.toNat_natCast, all_drop _ _ i (by omega)]
   show ((slices_Contains_impl_Merge_impl_Merge.g k (l.take i) ⟨(atM l i).f0, (atM l i).f1⟩).bind _).bind _ = _
   rw [impl_contains l i (by omega) hl k (by omega), Option.bind_some]
   cases freshB l i with
   | false => rfl
   | true => rw [if_neg (by simp), w64 (by omega) (by omega), show ((i : Int) + 1) = ((i + 1 : Nat) : Int) by omega, ih k (i + 1) (by omega) (by omega)]; rfl
theorem impl_merges (l : List S114) (k : Nat) (hk : 100 < k) : impl_MergesOk.g k l = some (mergesB l) := by
 unfold impl_MergesOk.g mergesB
 by_cases c : (l.length : Int) > 16
 · rw [if_pos c, decide_eq_false (by omega)]; rfl
 · rw [if_neg c, decide_eq_true (by omega), Bool.true_and, all_both]
   obtain ⟨r, e1, e2⟩ := impl_sizes_from l (by omega) l.length k 0 (by omega) (fun z hz => by cases hz) (by omega)
   rw [List.drop_zero] at e2
   have g := impl_fresh_from l (by omega) ((impl_sizesOf.g k l).bind fun t => some t.2) r.2 (by
     have e3 : impl_sizesOf.g k l = some r := e1
     rw [e3, Option.bind_some]) l.length k 0 (by omega) (by omega)
   rw [List.drop_zero, e2] at g
   exact g
def vocabM (x : S34) : Int := wrap64 (256 + (x.f3.length : Int))
def rowI (n : Int) (l : List Int) : Bool := decide ((l.length : Int) = n) && l.all fun x => decide (-127 ≤ x) && decide (x ≤ 127)
def modelB (x : S34) : Bool := widthB x.f0 && ((decide (1 ≤ x.f1) && decide (x.f1 ≤ 2)) && (mergesB x.f3 && (decide ((x.f4.length : Int) = vocabM x) && ((decide (1 ≤ (x.f5.length : Int)) && decide ((x.f5.length : Int) ≤ 2)) &&
 (x.f4.all (rowI x.f0) && (x.f5.all (fun y => layerB y x.f0) && (gainB x.f6 x.f0 && (mfit x.f7 x.f0 (vocabM x) && turnsB x.f8.f0 x.f8.f1 x.f2 (wrap64 (Int.tdiv (wrap64 (Int.tdiv x.f0 x.f1)) 2))))))))))
theorem spec_layers_from (x : S34) (L : Nat → Int → Option (Bool ⊕ Int)) (hL : ∀ k i, L (k + 1) i = spec_ModelOk.b0 x (L k) k i) (hl : x.f5.length ≤ 1048576) (hs : ∀ y ∈ x.f5, iLayer y ≤ 1048576) (rest : Option Bool) (c : Bool) (hc : rest = some c) (d : Nat) : ∀ (k i : Nat), i + d = x.f5.length → d + 3000001 < k →
   (L k (i : Int)).bind (fun o => match o with | .inl r_ => some r_ | .inr _ => rest) = some (((List.range x.f5.length).drop i).all (fun i => layerB (x.f5.getD i o118) x.f0) && c) := by
 induction d with
 | zero =>
   intro k i hi hk
   obtain ⟨k, rfl⟩ := k1_ hk
   rw [hL]; unfold spec_ModelOk.b0
   rw [if_neg (by omega), List.drop_of_length_le (by simp; omega), hc]; rfl
 | succ d ih =>
   intro k i hi hk
   obtain ⟨k, rfl⟩ := k1_ hk
   have hm : x.f5.getD i o118 ∈ x.f5 := by rw [List.getD_eq_getElem?_getD, List.getElem?_eq_getElem (by omega)]; exact List.getElem_mem _
   rw [hL]; unfold spec_ModelOk.b0
   rw [if_pos (by omega), if_pos (by omega), Int.toNat_natCast, all_drop _ _ i (by omega), spec_layer _ _ (hs _ hm) k (by omega), Option.bind_some]
   cases layerB (x.f5.getD i o118) x.f0 with
   | false => rfl
   | true => rw [if_pos rfl, w64 (by omega) (by omega), show ((i : Int) + 1) = ((i + 1 : Nat) : Int) by omega, ih k (i + 1) (by omega) (by omega)]; rfl
theorem spec_rows_from (x : S34) (L : Nat → Int → Option (Bool ⊕ Int)) (hL : ∀ k i, L (k + 1) i = spec_ModelOk.b1 x (L k) k i) (hw : x.f0 ≤ 8) (hl : x.f4.length ≤ 1048576) (rest : Option Bool) (c : Bool) (hc : rest = some c) (d : Nat) : ∀ (k i : Nat), i + d = x.f4.length → d + 20 < k →
   (L k (i : Int)).bind (fun o => match o with | .inl r_ => some r_ | .inr _ => rest) = some (((List.range x.f4.length).drop i).all (fun i => rowI x.f0 (x.f4.getD i [])) && c) := by
 induction d with
 | zero =>
   intro k i hi hk
   obtain ⟨k, rfl⟩ := k1_ hk
   rw [hL]; unfold spec_ModelOk.b1
   rw [if_neg (by omega), List.drop_of_length_le (by simp; omega), hc]; rfl
 | succ d ih =>
   intro k i hi hk
   obtain ⟨k, rfl⟩ := k1_ hk
   rw [hL]; unfold spec_ModelOk.b1
   rw [if_pos (by omega), if_pos (by omega), Int.toNat_natCast, all_drop _ _ i (by omega)]
   unfold rowI
   by_cases h1 : ((x.f4.getD i []).length : Int) = x.f0
   · rw [if_pos h1, decide_eq_true h1, all_tells _ _ _ (by omega) k (by omega), Option.bind_some, Bool.true_and]
     cases (x.f4.getD i []).all fun x => decide (-127 ≤ x) && decide (x ≤ 127) with
     | false => rfl
     | true => rw [if_pos rfl, w64 (by omega) (by omega), show ((i : Int) + 1) = ((i + 1 : Nat) : Int) by omega, ih k (i + 1) (by omega) (by omega)]; rfl
   · rw [if_neg h1, decide_eq_false h1]; rfl
theorem model_size (x : S34) (h : iModel x ≤ 1048576) : x.f3.length ≤ 1048576 ∧ x.f4.length ≤ 1048576 ∧ x.f5.length ≤ 1048576 ∧ (∀ y ∈ x.f5, iLayer y ≤ 1048576) ∧ x.f6.length ≤ 1048576 ∧ iMatrix x.f7 ≤ 1048576 := by
 unfold iModel at h
 have e := mIntss_eq x.f4
 have g : iLayers x.f5 = x.f5.length + sumS iLayer x.f5 := rfl
 exact ⟨by omega, by omega, by omega, fun y hy => by have := sumS_le iLayer x.f5 y hy; omega, by omega, by omega⟩
theorem impl_rows_from (x : S34) (l : List (List Int)) (hl : l.length ≤ 1048576) (d : Nat) : ∀ (k i : Nat), i + d = l.length → d < k →
   ∃ r : Int, (slices_IndexFunc_int_int_156.l0 l x k (i : Int)).bind (fun o => match o with | .inl r_ => some r_ | .inr _ => some (-1)) = some r ∧ decide (r ≥ 0) = !(((List.range l.length).drop i).all fun i => rowI x.f0 (l.getD i [])) := by
 induction d with
 | zero =>
   intro k i hi hk
   obtain ⟨k, rfl⟩ := k1_ hk
   unfold slices_IndexFunc_int_int_156.l0 slices_IndexFunc_int_int_156.b0
   rw [if_neg (by omega), List.drop_of_length_le (by simp; omega)]
   exact ⟨_, rfl, rfl⟩
 | succ d ih =>
   intro k i hi hk
   obtain ⟨k, rfl⟩ := k1_ hk
   unfold slices_IndexFunc_int_int_156.l0 slices_IndexFunc_int_int_156.b0
   have e : impl_ModelOk_1.g k (l.getD i []) x = some (!rowI x.f0 (l.getD i [])) := by
     unfold impl_ModelOk_1.g rowI impl_allIn.f
     by_cases c : ((l.getD i []).length : Int) = x.f0
     · rw [if_pos c, decide_eq_true c]; rfl
     · rw [if_neg c, decide_eq_false c]; rfl
   rw [if_pos (by omega), if_pos (by omega), Int.toNat_natCast, all_drop _ _ i (by omega), e, Option.bind_some]
   cases rowI x.f0 (l.getD i []) with
   | false => rw [if_pos (show (!false) = true from rfl)]; exact ⟨_, rfl, by rw [decide_eq_true (by omega)]; rfl⟩
   | true =>
     rw [if_neg (by simp), w64 (by omega) (by omega), show ((i : Int) + 1) = ((i + 1 : Nat) : Int) by omega]
     exact ih k (i + 1) (by omega) (by omega)
theorem impl_layers_from (x : S34) (l : List S118) (hl : l.length ≤ 1048576) (hs : ∀ y ∈ l, iLayer y ≤ 1048576) (d : Nat) : ∀ (k i : Nat), i + d = l.length → d + 3000 < k →
   ∃ r : Int, (slices_IndexFunc_impl_Layer_impl_Layer_159.l0 l x k (i : Int)).bind (fun o => match o with | .inl r_ => some r_ | .inr _ => some (-1)) = some r ∧ decide (r ≥ 0) = !(((List.range l.length).drop i).all fun i => layerB (l.getD i o118) x.f0) := by
 induction d with
 | zero =>
   intro k i hi hk
   obtain ⟨k, rfl⟩ := k1_ hk
   unfold slices_IndexFunc_impl_Layer_impl_Layer_159.l0 slices_IndexFunc_impl_Layer_impl_Layer_159.b0
   rw [if_neg (by omega), List.drop_of_length_le (by simp; omega)]
   exact ⟨_, rfl, rfl⟩
 | succ d ih =>
   intro k i hi hk
   obtain ⟨k, rfl⟩ := k1_ hk
   unfold slices_IndexFunc_impl_Layer_impl_Layer_159.l0 slices_IndexFunc_impl_Layer_impl_Layer_159.b0
   have hm : l.getD i o118 ∈ l := by rw [List.getD_eq_getElem?_getD, List.getElem?_eq_getElem (by omega)]; exact List.getElem_mem _
   have e : impl_ModelOk_2.g k (l.getD i o118) x = some (!layerB (l.getD i o118) x.f0) := by
     unfold impl_ModelOk_2.g
     rw [impl_layer _ _ (hs _ hm) k (by omega)]; rfl
   rw [if_pos (by omega), if_pos (by omega), Int.toNat_natCast, all_drop _ _ i (by omega), e, Option.bind_some]
   cases layerB (l.getD i o118) x.f0 with
   | false => rw [if_pos (show (!false) = true from rfl)]; exact ⟨_, rfl, by rw [decide_eq_true (by omega)]; rfl⟩
   | true =>
     rw [if_neg (by simp), w64 (by omega) (by omega), show ((i : Int) + 1) = ((i + 1 : Nat) : Int) by omega]
     exact ih k (i + 1) (by omega) (by omega)
theorem bind_nand (p : Option Bool) (a : Bool) (b : Option Bool) (c : Bool) (hp : p = some (!a)) (h : a = true → b = some c) : (p.bind fun t => if t = true then some false else b) = some (a && c) := by
 rw [hp, Option.bind_some]
 cases a with
 | false => rfl
 | true => rw [if_neg (by simp), h rfl]; rfl
theorem impl_model (x : S34) (h : iModel x ≤ 1048576) (k : Nat) (hk : 5000000 < k) : impl_ModelOk.g k x = some (modelB x) := by
 obtain ⟨s3, s4, s5, s5', s6, s7⟩ := model_size x h
 unfold impl_ModelOk.g modelB
 refine bind_and _ _ _ _ (impl_width x.f0) fun hw => bind_and _ _ _ _ (impl_inB x.f1 1 2) fun h1 => bind_and _ _ _ _ (impl_merges x.f3 k (by omega)) fun _ => ?_
 have h0 : x.f1 ≠ 0 := by simp only [Bool.and_eq_true, decide_eq_true_eq] at h1; omega
 rw [show impl_Vocab.g k x = some (vocabM x) from rfl, Option.bind_some]
 by_cases c : (x.f4.length : Int) = vocabM x
 · rw [if_pos c, decide_eq_true c, Bool.true_and]
   obtain ⟨r1, e1, g1⟩ := impl_rows_from x x.f4 s4 x.f4.length k 0 (by omega) (by omega)
   obtain ⟨r2, e2, g2⟩ := impl_layers_from x x.f5 s5 s5' x.f5.length k 0 (by omega) (by omega)
   rw [List.drop_zero, ← all_range (rowI x.f0) [] x.f4] at g1
   rw [List.drop_zero, ← all_range (fun y => layerB y x.f0) o118 x.f5] at g2
   refine bind_and _ _ _ _ (impl_inB _ 1 2) fun _ => bind_nand _ _ _ _ ?_ fun _ => bind_nand _ _ _ _ ?_ fun _ => bind_and _ _ _ _ (impl_gainB x.f6 x.f0) fun _ => ?_
   · have e3 : slices_IndexFunc_int_int_156.g k x.f4 x = some r1 := e1
     unfold slices_ContainsFunc_int_int_156.g
     rw [e3, Option.bind_some, g1]
   · have e3 : slices_IndexFunc_impl_Layer_impl_Layer_159.g k x.f5 x = some r2 := e2
     unfold slices_ContainsFunc_impl_Layer_impl_Layer_159.g
     rw [e3, Option.bind_some, g2]
   · rw [Option.bind_some]
     refine bind_and _ _ _ _ (impl_mfit x.f7 x.f0 _ s7 k (by omega)) fun _ => ?_
     rw [if_pos h0, impl_turns, Option.bind_some]
 · rw [if_neg c, decide_eq_false c]; rfl
theorem spec_model_tail (x : S34) (h : iModel x ≤ 1048576) (hw : x.f0 ≤ 8) (h0 : x.f1 ≠ 0) (L0 L1 : Nat → Int → Option (Bool ⊕ Int)) (hL0 : ∀ k i, L0 (k + 1) i = spec_ModelOk.b0 x (L0 k) k i) (hL1 : ∀ k i, L1 (k + 1) i = spec_ModelOk.b1 x (L1 k) k i) (k : Nat) (hk : 5000000 < k) :
   ((spec_MergesOk.g k x.f3).bind fun t16 => (if t16 = true then ((spec_Vocab.g k x).bind fun t24 => (if (x.f4.length : Int) = t24 then ((spec_l01In.f (x.f5.length : Int) 1 2).bind fun t32 => (if t32 = true then ((L1 k 0).bind (fun o110 => match o110 with | .inl r_ => some r_ | .inr i42 => ((L0 k 0).bind (fun o91 => match o91 with | .inl r_ => some r_ | .inr i51 => ((spec_GainOk.g k x.f6 x.f0).bind fun t60 => (if t60 = true then ((spec_Vocab.g k x).bind fun t72 => ((spec_l10Matrix.g k x.f7 x.f0 t72).bind fun t75 => (if t75 = true then (if x.f1 ≠ 0 then ((spec_TurnsOk.g k x.f8 x.f2 (wrap64 (Int.tdiv (wrap64 (Int.tdiv x.f0 x.f1)) 2))).bind fun t88 => (some t88)) else none) else (some false)))) else (some false))))))) else (some false))) else (some false))) else (some false)))
     = some (mergesB x.f3 && (decide ((x.f4.length : Int) = vocabM x) && ((decide (1 ≤ (x.f5.length : Int)) && decide ((x.f5.length : Int) ≤ 2)) &&
 (x.f4.all (rowI x.f0) && (x.f5.all (fun y => layerB y x.f0) && (gainB x.f6 x.f0 && (mfit x.f7 x.f0 (vocabM x) && turnsB x.f8.f0 x.f8.f1 x.f2 (wrap64 (Int.tdiv (wrap64 (Int.tdiv x.f0 x.f1)) 2))))))))) := by
 obtain ⟨s3, s4, s5, s5', s6, s7⟩ := model_size x h
 have hv : spec_Vocab.g k x = some (vocabM x) := rfl
 refine bind_and _ _ _ _ (spec_merges x.f3 k (by omega)) fun _ => ?_
 rw [hv, Option.bind_some]
 by_cases c : (x.f4.length : Int) = vocabM x
 · rw [if_pos c, decide_eq_true c, Bool.true_and]
   refine bind_and _ _ _ _ (spec_in _ 1 2) fun _ => ?_
   have t1 : ((spec_GainOk.g k x.f6 x.f0).bind fun t60 => (if t60 = true then ((spec_Vocab.g k x).bind fun t72 => ((spec_l10Matrix.g k x.f7 x.f0 t72).bind fun t75 => (if t75 = true then (if x.f1 ≠ 0 then ((spec_TurnsOk.g k x.f8 x.f2 (wrap64 (Int.tdiv (wrap64 (Int.tdiv x.f0 x.f1)) 2))).bind fun t88 => (some t88)) else none) else (some false)))) else (some false)))
       = some (gainB x.f6 x.f0 && (mfit x.f7 x.f0 (vocabM x) && turnsB x.f8.f0 x.f8.f1 x.f2 (wrap64 (Int.tdiv (wrap64 (Int.tdiv x.f0 x.f1)) 2)))) := by
     refine bind_and _ _ _ _ (spec_gainB x.f6 x.f0 s6 k (by omega)) fun _ => ?_
     rw [hv, Option.bind_some]
     refine bind_and _ _ _ _ (spec_mfit x.f7 x.f0 _ s7 k (by omega)) fun _ => ?_
     rw [if_pos h0, spec_turns x.f8.f0 x.f8.f1 _ _ k (by omega), Option.bind_some]
   have r1 := spec_rows_from x L1 hL1 hw s4 _ _ (spec_layers_from x L0 hL0 s5 s5' _ _ t1 x.f5.length k 0 (by omega) (by omega)) x.f4.length k 0 (by omega) (by omega)
   rw [List.drop_zero, List.drop_zero, ← all_range (rowI x.f0) [] x.f4, ← all_range (fun y => layerB y x.f0) o118 x.f5] at r1
   exact r1
 · rw [if_neg c, decide_eq_false c]; rfl
theorem spec_model (x : S34) (h : iModel x ≤ 1048576) (k : Nat) (hk : 5000000 < k) : spec_ModelOk.g k x = some (modelB x) := by
 unfold spec_ModelOk.g modelB
 refine bind_and _ _ _ _ (spec_width x.f0) fun hw => ?_
 have hw8 : x.f0 ≤ 8 := by have := width_facts _ hw; omega
 by_cases c1 : x.f1 = 1
 · rw [if_pos c1, show (decide (1 ≤ x.f1) && decide (x.f1 ≤ 2)) = true by rw [c1]; rfl, Bool.true_and]
   exact spec_model_tail x h hw8 (by omega) (spec_ModelOk.l0 x) (spec_ModelOk.l1 x) (fun _ _ => rfl) (fun _ _ => rfl) k hk
 · rw [if_neg c1]
   by_cases c2 : x.f1 = 2
   · rw [if_pos c2, show (decide (1 ≤ x.f1) && decide (x.f1 ≤ 2)) = true by rw [c2]; rfl, Bool.true_and]
     exact spec_model_tail x h hw8 (by omega) (spec_ModelOk.l2 x) (spec_ModelOk.l3 x) (fun _ _ => rfl) (fun _ _ => rfl) k hk
   · rw [if_neg c2, show (decide (1 ≤ x.f1) && decide (x.f1 ≤ 2)) = false by rw [Bool.eq_false_iff]; intro g; simp only [Bool.and_eq_true, decide_eq_true_eq] at g; omega]; rfl
theorem getD_mem' {α : Type} (l : List α) (i : Nat) (d : α) (h : i < l.length) : l.getD i d ∈ l := by rw [List.getD_eq_getElem?_getD, List.getElem?_eq_getElem h]; exact List.getElem_mem _
theorem modelB_all (x : S34) (h : modelB x = true) : widthB x.f0 = true ∧ (1 ≤ x.f1 ∧ x.f1 ≤ 2) ∧ mergesB x.f3 = true ∧ (x.f4.length : Int) = vocabM x ∧ (1 ≤ (x.f5.length : Int) ∧ (x.f5.length : Int) ≤ 2) ∧ (∀ r ∈ x.f4, rowI x.f0 r = true) ∧ (∀ y ∈ x.f5, layerB y x.f0 = true) ∧ gainB x.f6 x.f0 = true ∧ mfit x.f7 x.f0 (vocabM x) = true ∧ turnsB x.f8.f0 x.f8.f1 x.f2 (wrap64 (Int.tdiv (wrap64 (Int.tdiv x.f0 x.f1)) 2)) = true := by
 unfold modelB at h
 simp only [Bool.and_eq_true, decide_eq_true_eq, List.all_eq_true] at h
 exact ⟨h.1, h.2.1, h.2.2.1, h.2.2.2.1, h.2.2.2.2.1, h.2.2.2.2.2.1, h.2.2.2.2.2.2.1, h.2.2.2.2.2.2.2.1, h.2.2.2.2.2.2.2.2.1, h.2.2.2.2.2.2.2.2.2⟩
theorem gain_facts (l : List Int) (n : Nat) (h : gainB l (n : Int) = true) : l.length = n ∧ ∀ z ∈ l, 0 ≤ z ∧ z ≤ 127 := by
 unfold gainB at h
 by_cases c : (l.length : Int) = (n : Int)
 · rw [if_pos c] at h
   exact ⟨by omega, allZ_mem (lo := 0) (hi := 127) h⟩
 · rw [if_neg c] at h; cases h
structure MatAt (m : S30) (w n : Nat) : Prop where
 ok : MatOk m
 w : m.f0 = (w : Int)
 n : m.f1.length = n
 i : iMatrix m ≤ 1048576
structure LayAt (l : S118) (D U : Nat) : Prop where
 u : U = 4 ∨ U = 8
 g1 : l.f0.length = D
 g1b : ∀ z ∈ l.f0, 0 ≤ z ∧ z ≤ 127
 g2 : l.f5.length = D
 g2b : ∀ z ∈ l.f5, 0 ≤ z ∧ z ≤ 127
 q : MatAt l.f1 D D
 k : MatAt l.f2 D D
 v : MatAt l.f3 D D
 o : MatAt l.f4 D D
 up : MatAt l.f6 D U
 dn : MatAt l.f7 U D
theorem mat_at (m : S30) (a b : Nat) (h : mfit m (a : Int) (b : Int) = true) (hi : iMatrix m ≤ 1048576) : MatAt m a b := by
 obtain ⟨h1, h2, h3⟩ := mfit_ok m _ _ h
 exact ⟨h1, h2, by omega, hi⟩
theorem lay_at (l : S118) (D : Nat) (h : layerB l (D : Int) = true) (hi : iLayer l ≤ 1048576) : ∃ U, LayAt l D U := by
 unfold layerB at h
 simp only [Bool.and_eq_true] at h
 obtain ⟨h1, h2, h3, h4, h5, h6, h7, h8, h9⟩ := h
 have e : iLayer l = l.f0.length + (iMatrix l.f1 + (iMatrix l.f2 + (iMatrix l.f3 + (iMatrix l.f4 + (l.f5.length + (iMatrix l.f6 + iMatrix l.f7)))))) := rfl
 obtain ⟨a1, a2⟩ := gain_facts _ _ h1
 obtain ⟨b1, b2⟩ := gain_facts _ _ h2
 have := width_facts _ h3
 exact ⟨l.f6.f1.length, by omega, a1, a2, b1, b2, mat_at _ _ _ h4 (by omega), mat_at _ _ _ h5 (by omega), mat_at _ _ _ h6 (by omega), mat_at _ _ _ h7 (by omega), mat_at _ _ _ h8 (by omega), mat_at _ _ _ h9 (by omega)⟩
structure RunM (m : S34) (D H g : Nat) : Prop where
 d : m.f0 = (D : Int)
 dd : D = 4 ∨ D = 8
 h : m.f1 = (H : Int)
 hh : H = 1 ∨ H = 2
 dh : D = H * (2 * g)
 g1 : 1 ≤ g
 g4 : g ≤ 4
 c4 : 4 ≤ m.f2
 c24 : m.f2 ≤ 24
 lay : ∀ i, i < m.f5.length → ∃ U, LayAt (m.f5.getD i o118) D U
 l1 : 1 ≤ m.f5.length
 l2 : m.f5.length ≤ 2
 tr : ∀ p : Nat, (p : Int) < m.f2 → TurnAt m.f8 p g
 ge : m.f6.length = D
 geb : ∀ z ∈ m.f6, 0 ≤ z ∧ z ≤ 127
 em : ∀ r ∈ m.f4, r.length = D ∧ ∀ z ∈ r, -127 ≤ z ∧ z ≤ 127
 v : m.f4.length = 256 + m.f3.length
 hd : MatAt m.f7 D (256 + m.f3.length)
 mg : m.f3.length ≤ 1048576
theorem head_div (D H g : Nat) (hh : H = 1 ∨ H = 2) (e : D = H * (2 * g)) (hg : g ≤ 4) : wrap64 (Int.tdiv (D : Int) (H : Int)) = ((2 * g : Nat) : Int) := by
 rcases hh with rfl | rfl
 · rw [show ((1 : Nat) : Int) = 1 from rfl, Int.tdiv_one, w64 (by omega) (by omega)]; omega
 · rw [show ((2 : Nat) : Int) = 2 from rfl, Int.tdiv_eq_ediv_of_nonneg (by omega), w64 (by omega) (by omega)]; omega
theorem run_of (m : S34) (hb : modelB m = true) (hi : iModel m ≤ 1048576) : ∃ D H g, RunM m D H g := by
 obtain ⟨h1, h2, h3, h4, h5, h6, h7, h8, h9, h10⟩ := modelB_all m hb
 obtain ⟨s1, s2, s3, s4, s5, s6⟩ := model_size m hi
 obtain ⟨D, hD, hDD⟩ : ∃ D : Nat, m.f0 = (D : Int) ∧ (D = 4 ∨ D = 8) := by
   rcases width_facts _ h1 with e | e
   · exact ⟨4, e, .inl rfl⟩
   · exact ⟨8, e, .inr rfl⟩
 obtain ⟨H, hH, hHH⟩ : ∃ H : Nat, m.f1 = (H : Int) ∧ (H = 1 ∨ H = 2) := by
   by_cases e : m.f1 = 1
   · exact ⟨1, e, .inl rfl⟩
   · exact ⟨2, by omega, .inr rfl⟩
 obtain ⟨g, g1, g4, eg⟩ : ∃ g : Nat, 1 ≤ g ∧ g ≤ 4 ∧ D = H * (2 * g) := by
   rcases hDD with rfl | rfl <;> rcases hHH with rfl | rfl
   · exact ⟨2, by omega, by omega, rfl⟩
   · exact ⟨1, by omega, by omega, rfl⟩
   · exact ⟨4, by omega, by omega, rfl⟩
   · exact ⟨2, by omega, by omega, rfl⟩
 have ev : vocabM m = ((256 + m.f3.length : Nat) : Int) := by unfold vocabM; rw [w64 (by omega) (by omega)]; omega
 rw [hD, hH, head_div D H g hHH eg g4, Int.tdiv_eq_ediv_of_nonneg (by omega), w64 (by omega) (by omega), show ((2 * g : Nat) : Int) / 2 = (g : Int) by omega] at h10
 rw [hD] at h6 h7 h8 h9
 rw [ev] at h9 h4
 unfold turnsB at h10
 simp only [Bool.and_eq_true, decide_eq_true_eq, List.all_eq_true] at h10
 obtain ⟨⟨t1, t2⟩, ⟨t3, t4⟩, ⟨t5, t6⟩, t7, t8⟩ := h10
 have trow : ∀ r : List Int, rowT (g : Int) r = true → r.length = g ∧ ∀ z ∈ r, -128 ≤ z ∧ z ≤ 128 := fun r hr => by
   unfold rowT at hr
   rw [Bool.and_eq_true, decide_eq_true_eq] at hr
   exact ⟨by omega, allZ_mem (lo := -128) (hi := 128) hr.2⟩
 refine ⟨D, H, g, hD, hDD, hH, hHH, eg, g1, g4, t1, t2, fun i hi' => ?_, by omega, by omega, fun p hp => ?_, ?_, ?_, fun r hr => ?_, by omega, mat_at _ _ _ h9 s6, s1⟩
 · have e := getD_mem' m.f5 i o118 hi'
   exact lay_at _ D (h7 _ e) (s4 _ e)
 · have p0 : p < m.f8.f0.length := by omega
   have p1 : p < m.f8.f1.length := by omega
   obtain ⟨a1, a2⟩ := trow _ (t6 _ (getD_mem' m.f8.f0 p [] p0))
   obtain ⟨b1, b2⟩ := trow _ (t8 _ (getD_mem' m.f8.f1 p [] p1))
   exact ⟨g1, g4, p0, p1, a1, b1, a2, b2, by omega, by omega⟩
 · exact (gain_facts _ _ h8).1
 · exact (gain_facts _ _ h8).2
 · have hr' := h6 r hr
   unfold rowI at hr'
   rw [Bool.and_eq_true, decide_eq_true_eq] at hr'
   exact ⟨by omega, allZ_mem (lo := -127) (hi := 127) hr'.2⟩
noncomputable def keyV (m : S34) (l : S118) (p g : Nat) (h : List Int) : List Int := turnL m.f8 p g (applyL l.f2 h)
noncomputable def keysOf (m : S34) (l : S118) (p g : Nat) (x : List Int) : List S67 := ((headsOf (keyV m l p g (normL x l.f0)) m.f1).1).map partOf
noncomputable def valsOf (m : S34) (l : S118) (x : List Int) : List S67 := ((headsOf (applyL l.f3 (normL x l.f0)) m.f1).1).map partOf
theorem map_range {α β : Type} (l : List α) (z : α) (f : α → β) : (List.range l.length).map (fun i => f (l.getD i z)) = l.map f := by
 refine List.ext_getElem (by simp) fun i h h' => ?_
 have hi : i < l.length := by simpa using h'
 simp [List.getD_eq_getElem?_getD, hi]
theorem vec_of (x : List Int) (s : Nat) (h1 : 1 ≤ s) (h8 : s ≤ 8) (hl : x.length = s) (hx : ∀ z ∈ x, -127 ≤ z ∧ z ≤ 127) : vecB x = true := by
 unfold vecB
 rw [decide_eq_true (show 1 ≤ x.length by omega), decide_eq_true (show x.length ≤ 8 by omega), Bool.true_and, Bool.true_and]
 exact allZ_of hx
structure VecH (x : List Int) (H g : Nat) : Prop where
 l : x.length = H * (2 * g)
 b : ∀ z ∈ x, -127 ≤ z ∧ z ≤ 127
theorem head_vec (x : List Int) (H g : Nat) (hh : H = 1 ∨ H = 2) (g1 : 1 ≤ g) (g4 : g ≤ 4) (hx : VecH x H g) : (headsOf x (H : Int)).2 = true ∧ (headsOf x (H : Int)).1.length = H ∧ ∀ y ∈ (headsOf x (H : Int)).1, vecB y = true ∧ y.length = 2 * g ∧ ∀ z ∈ y, -127 ≤ z ∧ z ≤ 127 := by
 have hl := hx.l
 obtain ⟨a, b, c⟩ := heads_facts x (H : Int) (2 * g) (by omega) (by omega) (by rw [hl]; push_cast; rfl)
 exact ⟨a, by omega, fun y hy => ⟨vec_of y (2 * g) (by omega) (by omega) (c y hy).1 (fun z hz => hx.b z ((c y hy).2 z hz)), (c y hy).1, fun z hz => hx.b z ((c y hy).2 z hz)⟩⟩
theorem cutHeads_g (R : S157) (H g : Nat) (hR : R.f0.f1 = (H : Int)) (hh : H = 1 ∨ H = 2) (g1 : 1 ≤ g) (g4 : g ≤ 4) (x : List Int) (hx : VecH x H g) (k : Nat) (hk : 1000 < k) : impl_run_cutHeads.g k R x = some (((headsOf x (H : Int)).1).map partOf, true) := by
 obtain ⟨a, b, c⟩ := head_vec x H g hh g1 g4 hx
 have hl := hx.l
 unfold impl_run_cutHeads.g
 rw [hR, impl_headsG x (H : Int) (2 * g) (by omega) (by omega) (by rw [hl]; push_cast; rfl) (by omega) k (by omega), Option.bind_some, a,
   rowLoop (headsOf x (H : Int)).1.length (by omega) (fun i => partOf ((headsOf x (H : Int)).1.getD i [])) 300 (fun k xs i => impl_run_cutHeads.l0 (headsOf x (H : Int)) k true xs i) (fun r => (true, r, ((headsOf x (H : Int)).1.length : Int))) (fun k r i hk hi hr => by
   have hv := c _ (getD_mem' _ i [] hi)
   show impl_run_cutHeads.b0 _ _ k _ _ _ = _
   unfold impl_run_cutHeads.b0
   rw [if_pos (by omega), if_pos (by omega), Int.toNat_natCast, impl_partG _ hv.1 k (by omega), Option.bind_some, if_pos rfl, if_pos (by omega)]) (fun k r => by
   show impl_run_cutHeads.b0 _ _ k _ _ _ = _
   unfold impl_run_cutHeads.b0
   rw [if_neg (by omega)]) k (by omega), Option.bind_some, map_range]
theorem place_g (m : S34) (a1 a2 : Int) (hi : iModel m ≤ 1048576) (k : Nat) (hk : 5000000 < k) : impl_placeOk.g k m a1 a2 = some (modelB m && (decide (0 ≤ a1 ∧ a1 ≤ wrap64 ((m.f5.length : Int) - 1)) && decide (0 ≤ a2 ∧ a2 ≤ wrap64 (m.f2 - 1)))) := by
 unfold impl_placeOk.g
 rw [impl_model m hi k hk, Option.bind_some]
 by_cases h : modelB m = true
 · rw [if_pos h, in_i, Option.bind_some, h, Bool.true_and]
   by_cases h2 : 0 ≤ a1 ∧ a1 ≤ wrap64 ((m.f5.length : Int) - 1)
   · rw [decide_eq_true h2, if_pos rfl, in_i, Option.bind_some, Bool.true_and]
   · rw [decide_eq_false h2, if_neg (by simp), Bool.false_and]
 · rw [if_neg h, Bool.eq_false_iff.2 h, Bool.false_and]
theorem turned_g (m : S34) (D H g : Nat) (r : RunM m D H g) (x : S30) (hm : MatAt x D D) (p : Nat) (hp : (p : Int) < m.f2) (h : List Int) (hh : VecIn x.f0 h) (k : Nat) (hk : 1000 < k) :
   impl_run_turned.g k ⟨m, ()⟩ x (p : Int) h = some (turnL m.f8 p g (applyL x h), true) := by
 have dd := r.dd
 have hn := hm.n
 have ah := r.hh
 unfold impl_run_turned.g
 rw [show (⟨x.f0, x.f1, x.f2, x.f3, x.f4⟩ : S30) = x from rfl, impl_run_applyL _ x hm.ok (by omega) h hh k (by omega), Option.bind_some, if_pos rfl]
 unfold impl_run_head.g
 dsimp only
 rw [r.h, r.d, if_pos (by omega), head_div D H g r.hh r.dh r.g4, Option.bind_some, impl_turnAll m.f8 p g (r.tr p hp) (applyL x h) (by rw [apply_len]; omega) H (by rw [apply_len, hn]; exact r.dh) (apply_in x h) k (by omega), Option.bind_some]
theorem vecH_apply (x : S30) (D H g : Nat) (e : D = H * (2 * g)) (hn : x.f1.length = D) (h : List Int) : VecH (applyL x h) H g := ⟨by rw [apply_len, hn, e], apply_in x h⟩
theorem vecH_turn (t : S32) (p H g : Nat) (x : List Int) (hx : VecH x H g) : VecH (turnL t p g x) H g := by
 obtain ⟨a, b⟩ := turnL_facts t p g x H hx.l
 exact ⟨by rw [b, hx.l], a⟩
theorem norm_vec (x gn : List Int) (D : Nat) (hb : normB x gn = true) (hg : gn.length = D) (w : Int) (hw : w = (D : Int)) : VecIn w (normL x gn) := by
 have ok := norm_ok x gn hb
 have := ok.gl
 exact ⟨by rw [norm_len]; omega, norm_in x gn⟩
theorem impl_kv (m : S34) (D H g : Nat) (r : RunM m D H g) (a p : Nat) (ha : a < m.f5.length) (hp : (p : Int) < m.f2) (x : List Int) (k : Nat) (hk : 2000000 < k) :
   impl_run_keyValue.g k ⟨m, ()⟩ (a : Int) (p : Int) x = if normB x (m.f5.getD a o118).f0 = true then some (keysOf m (m.f5.getD a o118) p g x, valsOf m (m.f5.getD a o118) x, true) else some ([], [], false) := by
 obtain ⟨U, hl⟩ := r.lay a ha
 unfold impl_run_keyValue.g
 dsimp only
 rw [if_pos (by omega), Int.toNat_natCast]
 generalize m.f5.getD a o118 = l at *
 rw [impl_norm x l.f0 k hk, Option.bind_some]
 unfold normOf
 by_cases hb : normB x l.f0 = true
 · rw [if_pos hb, if_pos hb, if_pos rfl]
   have v1 := norm_vec x l.f0 D hb hl.g1 _ hl.k.w
   have v2 := norm_vec x l.f0 D hb hl.g1 _ hl.v.w
   have dd := r.dd
   have vn := hl.v.n
   have e1 := turned_g m D H g r l.f2 hl.k p hp _ v1 k (by omega)
   have e2 := impl_run_applyL ⟨m, ()⟩ l.f3 hl.v.ok (by omega) _ v2 k (by omega)
   have c1 := cutHeads_g ⟨m, ()⟩ H g r.h r.hh r.g1 r.g4 _ (vecH_turn m.f8 p H g _ (vecH_apply l.f2 D H g r.dh hl.k.n (normL x l.f0))) k (by omega)
   have c2 := cutHeads_g ⟨m, ()⟩ H g r.h r.hh r.g1 r.g4 _ (vecH_apply l.f3 D H g r.dh hl.v.n (normL x l.f0)) k (by omega)
   dsimp only
   rw [e1, Option.bind_some, e2, Option.bind_some, if_pos rfl, if_pos rfl, c1, Option.bind_some, c2, Option.bind_some, if_pos rfl, if_pos rfl]
   unfold keysOf valsOf keyV
   rw [r.h]
 · rw [if_neg hb, if_neg hb, if_neg (by simp)]
theorem rows2_from {α β : Type} (n : Nat) (hn : n ≤ 1000000000) (f g : Nat → β) (c : Nat) (L : Nat → List β → List β → Int → Option α) (e : List β → List β → α)
   (hS : ∀ k xs ys (i : Nat), c < k → i < n → xs.length = i → ys.length = i → L (k + 1) xs ys (i : Int) = L k (xs ++ [f i]) (ys ++ [g i]) (wrap64 ((i : Int) + 1))) (hE : ∀ k xs ys, L (k + 1) xs ys (n : Int) = some (e xs ys)) (d : Nat) :
   ∀ (i k : Nat), i + d = n → d + c < k → L k ((List.range i).map f) ((List.range i).map g) (i : Int) = some (e ((List.range n).map f) ((List.range n).map g)) := by
 induction d with
 | zero =>
   intro i k hi hk
   obtain ⟨k, rfl⟩ := k1_ hk
   obtain rfl : i = n := by omega
   rw [hE]
 | succ d ih =>
   intro i k hi hk
   obtain ⟨k, rfl⟩ := k1_ hk
   have er : ∀ f : Nat → β, (List.range i).map f ++ [f i] = (List.range (i + 1)).map f := fun f => by rw [List.range_succ, List.map_append]; rfl
   rw [hS k _ _ i (by omega) (by omega) (by simp) (by simp), er, er, w_up i (by omega)]
   exact ih (i + 1) k (by omega) (by omega)
theorem spec_kv (m : S34) (D H g : Nat) (r : RunM m D H g) (a p : Nat) (ha : a < m.f5.length) (hp : (p : Int) < m.f2) (x : List Int) (hx : x.length ≤ 1048576) (t : S148) :
   ∃ t', ∀ k, 4000000 < k → spec_l17KeyValue.g k m (a : Int) (p : Int) x t = if normB x (m.f5.getD a o118).f0 = true then some (keysOf m (m.f5.getD a o118) p g x, valsOf m (m.f5.getD a o118) x, true, t') else some ([], [], false, t) := by
 obtain ⟨U, hl⟩ := r.lay a ha
 have hg1 := hl.g1
 have hdd := r.dd
 have key : ∀ k, 4000000 < k → spec_l17KeyValue.g k m (a : Int) (p : Int) x t = _ := fun k hk => by
   unfold spec_l17KeyValue.g
   rw [if_pos (by omega), Int.toNat_natCast, spec_norm x _ hx (by omega) k (by omega), Option.bind_some]
 generalize m.f5.getD a o118 = l at *
 by_cases hb : normB x l.f0 = true
 · have v1 := norm_vec x l.f0 D hb hl.g1 _ hl.k.w
   have v2 := norm_vec x l.f0 D hb hl.g1 _ hl.v.w
   obtain ⟨t1, f1⟩ := spec_sums t l.f2 hl.k.ok hl.k.i _ v1
   obtain ⟨t2, f2⟩ := spec_sums t1 l.f3 hl.v.ok hl.v.i _ v2
   refine ⟨t2, fun k hk => ?_⟩
   have kn := hl.k.n
   have ah := r.hh
   have vk := vecH_apply l.f2 D H g r.dh hl.k.n (normL x l.f0)
   have vv := vecH_apply l.f3 D H g r.dh hl.v.n (normL x l.f0)
   have vt := vecH_turn m.f8 p H g _ vk
   obtain ⟨a1, a2, a3⟩ := head_vec _ H g r.hh r.g1 r.g4 vt
   obtain ⟨b1, b2, b3⟩ := head_vec _ H g r.hh r.g1 r.g4 vv
   have g1 := r.g1
   have g4 := r.g4
   have e3 := spec_applyL l.f2 hl.k.ok hl.k.i _ v1 k (by omega)
   have e4 := spec_applyL l.f3 hl.v.ok hl.v.i _ v2 k (by omega)
   have e5 := spec_turnAll m.f8 p g (r.tr p hp) (applyL l.f2 (normL x l.f0)) (by rw [apply_len]; omega) H (by rw [apply_len, kn]; exact r.dh) (apply_in _ _) k (by omega)
   have e6 := spec_headsG _ (H : Int) (2 * g) (by omega) (by omega) (by rw [vt.l]; push_cast; rfl) (by omega) k (by omega)
   have e7 := spec_headsG _ (H : Int) (2 * g) (by omega) (by omega) (by rw [vv.l]; push_cast; rfl) (by omega) k (by omega)
   rw [key k hk]
   unfold normOf
   rw [if_pos hb, if_pos hb]
   dsimp only
   rw [if_pos rfl, f1 k (by omega), Option.bind_some, show (⟨t1.f0, t1.f1⟩ : S148) = t1 from rfl, f2 k (by omega), Option.bind_some, e3, Option.bind_some, e4, Option.bind_some, r.h, r.d, if_pos (by omega), head_div D H g r.hh r.dh r.g4, e5, Option.bind_some]
   dsimp only
   rw [e6, Option.bind_some, e7, Option.bind_some]
   have lp := rows2_from H (by omega) (fun i => partOf ((headsOf (turnL m.f8 p g (applyL l.f2 (normL x l.f0))) (H : Int)).1.getD i [])) (fun i => partOf ((headsOf (applyL l.f3 (normL x l.f0)) (H : Int)).1.getD i [])) 1048700
     (fun k xs ys i => spec_l17KeyValue.l0 m (headsOf (turnL m.f8 p g (applyL l.f2 (normL x l.f0))) (H : Int)) (headsOf (applyL l.f3 (normL x l.f0)) (H : Int)) k xs ys i) (fun xs ys => (xs, ys, (H : Int))) (fun k xs ys i hk hi h1 h2 => by
       have hv := a3 _ (getD_mem' _ i [] (by rw [a2]; exact hi))
       have hw := b3 _ (getD_mem' _ i [] (by rw [b2]; exact hi))
       show spec_l17KeyValue.b0 _ _ _ _ k _ _ _ = _
       unfold spec_l17KeyValue.b0
       rw [r.h, if_pos (by omega), a2, if_pos (by omega), Int.toNat_natCast, spec_partG _ hv.1 k (by omega), Option.bind_some, b2, if_pos (by omega), spec_partG _ hw.1 k (by omega), Option.bind_some, if_pos (by omega), if_pos (by omega)]) (fun k xs ys => by
       show spec_l17KeyValue.b0 _ _ _ _ k _ _ _ = _
       unfold spec_l17KeyValue.b0
       rw [r.h, if_neg (by omega)]) H 0 k (by omega) (by omega)
   have q1 := map_range (headsOf (turnL m.f8 p g (applyL l.f2 (normL x l.f0))) (H : Int)).1 [] partOf
   have q2 := map_range (headsOf (applyL l.f3 (normL x l.f0)) (H : Int)).1 [] partOf
   rw [a2] at q1
   rw [b2] at q2
   rw [q1, q2] at lp
   have lp' : spec_l17KeyValue.l0 m (headsOf (turnL m.f8 p g (applyL l.f2 (normL x l.f0))) (H : Int)) (headsOf (applyL l.f3 (normL x l.f0)) (H : Int)) k [] [] 0 = _ := lp
   rw [lp', Option.bind_some]
   unfold keysOf valsOf keyV
   rw [r.h]
 · refine ⟨t, fun k hk => ?_⟩
   rw [key k hk]
   unfold normOf
   rw [if_neg hb, if_neg hb, if_neg (by simp)]
def iPart (x : S67) : Nat := x.f1.length
def iParts : List S67 → Nat := szL iPart
theorem eqPart_i (k : Nat) (x : S67) (h : iPart x ≤ 1048576) (hk : iPart x < k) : laws_eqPart.g k x x = some true := by
 unfold laws_eqPart.g
 rw [if_pos rfl, eq_tells x.f1 x.f1 (by unfold iPart at h; omega) k (by unfold iPart at hk; omega), Option.bind_some, decide_eq_true rfl]; rfl
theorem eqParts_i (k : Nat) (x : List S67) (h : ∀ y ∈ x, iPart y ≤ 1048576) (hl : x.length ≤ 9223372036854775807) (hk : iParts x < k) : laws_eqPartS.g k x x = some true :=
 eq_listW o67 x (laws_eqPartS.l0 x x) (fun k y => laws_eqPart.g k y y) iPart (fun _ _ => rfl) (fun k y hy h' => eqPart_i k y (h y hy) h') hl k hk
theorem n_ints (l : List Int) : n28 l = l.length := by
 show (l.map fun _ => 1).sum = _
 induction l with
 | nil => rfl
 | cons x l ih => rw [List.map_cons, List.sum_cons, ih, List.length_cons]; omega
theorem n_le {α : Type} (n s : α → Nat) (h : ∀ x, n x ≤ 1 + s x) (l : List α) : (l.map n).sum ≤ szL s l := by
 unfold szL
 induction l with
 | nil => exact Nat.zero_le _
 | cons x l ih => rw [List.map_cons, List.sum_cons, sumS_cons, List.length_cons]; have := h x; omega
theorem n_part (x : S67) : n67 x ≤ 1 + iPart x := by
 show 1 + n28 x.f1 ≤ 1 + x.f1.length
 rw [n_ints]; omega
theorem n_parts (l : List S67) : n49 l ≤ iParts l := n_le _ _ n_part l
theorem szL_le {α : Type} (s : α → Nat) (b : Nat) : ∀ (l : List α), (∀ x ∈ l, s x ≤ b) → szL s l ≤ l.length * (b + 1)
 | [], _ => by unfold szL; simp [sumS]
 | x :: l, h => by
   have ih := szL_le s b l (fun y hy => h y (List.mem_cons_of_mem _ hy))
   have h1 := h x (List.mem_cons_self ..)
   unfold szL at *
   rw [sumS_cons, List.length_cons, Nat.succ_mul]
   omega
theorem parts_small (y : List Int) (H g : Nat) (hh : H = 1 ∨ H = 2) (g1 : 1 ≤ g) (g4 : g ≤ 4) (hy : VecH y H g) : (((headsOf y (H : Int)).1).map partOf).length ≤ 2 ∧ ∀ q ∈ ((headsOf y (H : Int)).1).map partOf, iPart q ≤ 8 := by
 obtain ⟨a, b, c⟩ := head_vec y H g hh g1 g4 hy
 refine ⟨by rw [List.length_map]; omega, fun q hq => ?_⟩
 obtain ⟨z, hz, rfl⟩ := List.mem_map.1 hq
 show (partOf z).f1.length ≤ 8
 rw [part_len, (c z hz).2.1]; omega
theorem kv_both (m : S34) (a1 a2 : Int) (x : List Int) (hi : iModel m ≤ 1048576) (hx : x.length ≤ 1048576) : ∃ C : List S67 × List S67 × Bool,
   (∀ k, 6000000 < k → spec_KeyValue.g k m a1 a2 x = some C) ∧ (∀ k, 6000000 < k → impl_KeyValue.g k m a1 a2 x = some C) ∧ (C.1.length ≤ 2 ∧ ∀ q ∈ C.1, iPart q ≤ 8) ∧ C.2.1.length ≤ 2 ∧ ∀ q ∈ C.2.1, iPart q ≤ 8 := by
 have none' : ∀ (h : ∀ k, 6000000 < k → spec_KeyValue.g k m a1 a2 x = some ([], [], false)) (h2 : ∀ k, 6000000 < k → impl_KeyValue.g k m a1 a2 x = some ([], [], false)), _ := fun h h2 =>
   (⟨([], [], false), h, h2, ⟨by simp, fun q hq => by cases hq⟩, by simp, fun q hq => by cases hq⟩ : ∃ C : List S67 × List S67 × Bool,
   (∀ k, 6000000 < k → spec_KeyValue.g k m a1 a2 x = some C) ∧ (∀ k, 6000000 < k → impl_KeyValue.g k m a1 a2 x = some C) ∧ (C.1.length ≤ 2 ∧ ∀ q ∈ C.1, iPart q ≤ 8) ∧ C.2.1.length ≤ 2 ∧ ∀ q ∈ C.2.1, iPart q ≤ 8)
 by_cases hb : modelB m = true
 · obtain ⟨D, H, g, r⟩ := run_of m hb hi
   have rl1 := r.l1
   have rl2 := r.l2
   have rc := r.c24
   have rc4 := r.c4
   have w1 : wrap64 ((m.f5.length : Int) - 1) = (m.f5.length : Int) - 1 := w64 (by omega) (by omega)
   have w2 : wrap64 (m.f2 - 1) = m.f2 - 1 := w64 (by omega) (by omega)
   by_cases h1 : 0 ≤ a1 ∧ a1 ≤ (m.f5.length : Int) - 1
   · by_cases h2 : 0 ≤ a2 ∧ a2 ≤ m.f2 - 1
     · obtain ⟨a, rfl⟩ := Int.eq_ofNat_of_zero_le h1.1
       obtain ⟨p, rfl⟩ := Int.eq_ofNat_of_zero_le h2.1
       have ha : a < m.f5.length := by omega
       have hp : (p : Int) < m.f2 := by omega
       obtain ⟨t', hs⟩ := spec_kv m D H g r a p ha hp x hx ⟨0, 0⟩
       have him := fun k hk => impl_kv m D H g r a p ha hp x k hk
       have fi : ∀ k, 6000000 < k → impl_KeyValue.g k m (a : Int) (p : Int) x = (impl_run_keyValue.g k ⟨m, ()⟩ (a : Int) (p : Int) x).bind fun t => some (t.1, t.2.1, t.2.2) := fun k hk => by
         unfold impl_KeyValue.g
         rw [place_g m _ _ hi k (by omega), Option.bind_some, hb, w1, w2, decide_eq_true h1, decide_eq_true h2, if_pos (show (true && (true && true)) = true from rfl)]
       obtain ⟨U, hl⟩ := r.lay a ha
       generalize hL : m.f5.getD a o118 = l at *
       by_cases hn : normB x l.f0 = true
       · have ok := norm_ok x l.f0 hn
         have gl := ok.gl
         have dx : (x.length : Int) = m.f0 := by rw [r.d, ← hl.g1, gl]
         have vk := vecH_turn m.f8 p H g _ (vecH_apply l.f2 D H g r.dh hl.k.n (normL x l.f0))
         have vv := vecH_apply l.f3 D H g r.dh hl.v.n (normL x l.f0)
         refine ⟨(keysOf m l p g x, valsOf m l x, true), fun k hk => ?_, fun k hk => ?_, ?_, ?_⟩
         · unfold spec_KeyValue.g
           rw [spec_model m hi k (by omega), Option.bind_some, if_pos hb, in_s, Option.bind_some, w1, if_pos (decide_eq_true h1), in_s, Option.bind_some, w2, if_pos (decide_eq_true h2), if_pos dx, hs k (by omega), if_pos hn, Option.bind_some]
         · rw [fi k hk, him k (by omega), if_pos hn, Option.bind_some]
         · unfold keysOf keyV; rw [r.h]; exact parts_small _ H g r.hh r.g1 r.g4 vk
         · unfold valsOf; rw [r.h]; exact parts_small _ H g r.hh r.g1 r.g4 vv
       · refine none' (fun k hk => ?_) (fun k hk => ?_)
         · unfold spec_KeyValue.g
           rw [spec_model m hi k (by omega), Option.bind_some, if_pos hb, in_s, Option.bind_some, w1, if_pos (decide_eq_true h1), in_s, Option.bind_some, w2, if_pos (decide_eq_true h2)]
           by_cases dx : (x.length : Int) = m.f0
           · rw [if_pos dx, hs k (by omega), if_neg hn, Option.bind_some]
           · rw [if_neg dx]
         · rw [fi k hk, him k (by omega), if_neg hn, Option.bind_some]
     · refine none' (fun k hk => ?_) (fun k hk => ?_)
       · unfold spec_KeyValue.g
         rw [spec_model m hi k (by omega), Option.bind_some, if_pos hb, in_s, Option.bind_some, w1, if_pos (decide_eq_true h1), in_s, Option.bind_some, w2, if_neg (by simpa using h2)]
       · unfold impl_KeyValue.g
         rw [place_g m _ _ hi k (by omega), Option.bind_some, hb, w1, w2, decide_eq_true h1, decide_eq_false h2, if_neg (by simp)]
   · refine none' (fun k hk => ?_) (fun k hk => ?_)
     · unfold spec_KeyValue.g
       rw [spec_model m hi k (by omega), Option.bind_some, if_pos hb, in_s, Option.bind_some, w1, if_neg (by simpa using h1)]
     · unfold impl_KeyValue.g
       rw [place_g m _ _ hi k (by omega), Option.bind_some, hb, w1, decide_eq_false h1, if_neg (by simp)]
 · refine none' (fun k hk => ?_) (fun k hk => ?_)
   · unfold spec_KeyValue.g
     rw [spec_model m hi k (by omega), Option.bind_some, if_neg hb]
   · unfold impl_KeyValue.g
     rw [place_g m _ _ hi k (by omega), Option.bind_some, Bool.eq_false_iff.2 hb, if_neg (by simp)]
theorem nM_intss (R : List (List Int)) : n26 R ≤ mIntss R := n_le _ _ (fun l => by rw [n_ints]; omega) R
theorem nM_matrix (m : S30) : n30 m ≤ iMatrix m + 3 := by
 have h1 := nM_intss m.f1
 have h2 := nM_intss m.f2
 show 1 + (n26 m.f1 + (n26 m.f2 + (1 + 1))) ≤ mIntss m.f1 + mIntss m.f2 + 3
 omega
theorem nM_layer (l : S118) : n118 l ≤ iLayer l + 18 := by
 have e : iLayer l = l.f0.length + (iMatrix l.f1 + (iMatrix l.f2 + (iMatrix l.f3 + (iMatrix l.f4 + (l.f5.length + (iMatrix l.f6 + iMatrix l.f7)))))) := rfl
 have e1 := nM_matrix l.f1
 have e2 := nM_matrix l.f2
 have e3 := nM_matrix l.f3
 have e4 := nM_matrix l.f4
 have e6 := nM_matrix l.f6
 have e7 := nM_matrix l.f7
 have g1 := n_ints l.f0
 have g2 := n_ints l.f5
 show n28 l.f0 + (n30 l.f1 + (n30 l.f2 + (n30 l.f3 + (n30 l.f4 + (n28 l.f5 + (n30 l.f6 + n30 l.f7)))))) ≤ _
 omega
theorem nM_layers : ∀ l : List S118, n27 l ≤ sumS iLayer l + 18 * l.length
 | [] => Nat.zero_le _
 | x :: l => by
   have h1 := nM_layers l
   have h2 := nM_layer x
   show n118 x + n27 l ≤ _
   rw [sumS_cons, List.length_cons]
   omega
theorem nM_merges (l : List S114) : n25 l = 2 * l.length := by
 induction l with
 | nil => rfl
 | cons x l ih =>
   show (1 + 1) + n25 l = _
   rw [ih, List.length_cons]; omega
theorem FnExactKeyValue : laws_FnExactKeyValue.Pure := by
 intro x a1 a2 l ok w1 w2 okl
 obtain ⟨k, hk⟩ : ∃ k : Nat, k = mModel x + l.length + 9000000 := ⟨_, rfl⟩
 refine ⟨k, ?_⟩
 unfold laws_FnExactKeyValue.g
 by_cases hl : (l.length : Int) > 1048576
 · rw [if_pos hl]
 rw [if_neg hl, szModel_g k x 1048576 ok (by omega) (by omega) (by omega)]
 unfold lessS
 rw [Option.bind_some]
 by_cases c : (1048576 : Int) < (mModel x : Int)
 · rw [if_pos c, if_pos (by omega)]
 · rw [if_neg c, if_neg (by omega)]
   have g := toModel_g k x (by omega) (by omega)
   have i := i_model x
   have e := eqModel_g k (gModel x) (by omega) (by omega)
   have gl := to_tells l (by omega) k (by omega)
   have el := eq_tells l l (by omega) k (by omega)
   obtain ⟨C, c1, c2, ⟨c3, c4⟩, c5, c6⟩ := kv_both (gModel x) a1 a2 l (by omega) (by omega)
   have s1 := szL_le iPart 8 C.1 c4
   have s2 := szL_le iPart 8 C.2.1 c6
   have q1 := eqParts_i k C.1 (fun y hy => by have := c4 y hy; omega) (by omega) (by show szL iPart C.1 < k; omega)
   have q2 := eqParts_i k C.2.1 (fun y hy => by have := c6 y hy; omega) (by omega) (by show szL iPart C.2.1 < k; omega)
   have z1 := n_parts C.1
   have z2 := n_parts C.2.1
   have z1' : n49 C.1 ≤ szL iPart C.1 := z1
   have z2' : n49 C.2.1 ≤ szL iPart C.2.1 := z2
   clear z1 z2
   have em : iModel (gModel x) = (gModel x).f3.length + (mIntss (gModel x).f4 + (iLayers (gModel x).f5 + ((gModel x).f6.length + (iMatrix (gModel x).f7 + (mIntss (gModel x).f8.f0 + mIntss (gModel x).f8.f1))))) := rfl
   have e7 : iMatrix (gModel x).f7 = mIntss (gModel x).f7.f1 + mIntss (gModel x).f7.f2 := rfl
   have e5 : iLayers (gModel x).f5 = (gModel x).f5.length + sumS iLayer (gModel x).f5 := rfl
   have n1 := nM_merges (gModel x).f3
   have n2 := nM_intss (gModel x).f4
   have n3 := nM_layers (gModel x).f5
   have n4 := n_ints (gModel x).f6
   have n5 := nM_intss (gModel x).f7.f1
   have n6 := nM_intss (gModel x).f7.f2
   have n7 := nM_intss (gModel x).f8.f0
   have n8 := nM_intss (gModel x).f8.f1
   have n9 := n_ints l
   generalize gModel x = M at *
   have d1 := c1 k (by omega)
   have d2 := c2 k (by omega)
   clear c1 c2 c4 c6
   have hC1 : C.1.length * (8 + 1) ≤ 18 := by omega
   have hC2 : C.2.1.length * (8 + 1) ≤ 18 := by omega
   have z3 : n49 C.1 ≤ 18 := by omega
   have z4 : n49 C.2.1 ≤ 18 := by omega
   rw [g, Option.bind_some, gl, Option.bind_some, d1, Option.bind_some, Option.bind_some, Option.bind_some, d2, Option.bind_some, q1, Option.bind_some, if_pos rfl, q2, Option.bind_some, if_pos rfl, if_pos rfl, Option.bind_some, e, Option.bind_some, if_pos rfl, Option.bind_some, el, Option.bind_some, if_pos (decide_eq_true rfl),
     if_pos ⟨by omega, by omega⟩, if_pos ⟨by omega, by omega⟩, if_pos ⟨by omega, by omega⟩, if_pos ⟨by omega, by omega⟩, if_pos ⟨by omega, by omega⟩, if_pos ⟨by omega, by omega⟩, if_pos ⟨by omega, by omega⟩, if_pos ⟨by omega, by omega⟩, if_pos ⟨by omega, by omega⟩,
     Option.bind_some, if_pos rfl, Option.bind_some, if_pos rfl, if_pos ⟨by omega, by omega⟩, if_pos ⟨by omega, by omega⟩, Option.bind_some, Option.bind_some, d2, Option.bind_some, q1, Option.bind_some, if_pos rfl, q2, Option.bind_some, if_pos rfl, if_pos rfl]
end Go.Proofs.YtoccifnjhbibcaaGreat.Pure
