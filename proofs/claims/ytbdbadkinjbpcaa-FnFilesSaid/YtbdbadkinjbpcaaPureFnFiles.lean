/- What the program writes of a drawn right model it reads again as that model; of a text with a byte turned it tells so, and a text cut short or drawn out it refuses. No conditions. -/
import Derived.Test.YtbdbadkinjbpcaaGFnFiles6
namespace Go.Proofs.Ytbdbadkinjbpcaa.Pure
open Go.RowKit Go.Proofs.Ytbdbadkinjbpcaa.PFnFiles Go.Proofs.YtbdbadkinjbpcaaW.PrintWords Go.Proofs.YtbdbadkinjbpcaaW.PrintLast Go.Proofs.YtbdbadkinjbpcaaW.PrintMore
set_option linter.unusedVariables false
set_option linter.unusedSimpArgs false
theorem k1_ {n k : Nat} (h : n < k) : ∃ m, k = m + 1 := ⟨k - 1, by omega⟩
theorem w64 {i : Int} (h0 : -9223372036854775808 ≤ i) (h : i ≤ 9223372036854775807) : wrap64 i = i := by unfold wrap64; omega
theorem rd_get (l : List Int) (i : Nat) (h : i < l.length) : rd l (i : Int) = l[i] := by simp [rd, List.getD_eq_getElem?_getD, h]
theorem getD_int {α : Type} (l : List α) (z : α) (i : Nat) (h : i < l.length) : l.getD (i : Int).toNat z = l[i] := by simp [List.getD_eq_getElem?_getD, h]
def sumS {α : Type} (s : α → Nat) : List α → Nat
 | [] => 0
 | x :: l => s x + sumS s l
theorem sumS_le {α : Type} (s : α → Nat) : ∀ (l : List α) (x : α), x ∈ l → s x ≤ sumS s l
 | [], _, h => by cases h
 | y :: l, x, h => by
   have e : sumS s (y :: l) = s y + sumS s l := rfl
   rcases List.mem_cons.mp h with g | g
   · rw [g, e]; omega
   · have := sumS_le s l x g; rw [e]; omega
theorem sumS_cons {α : Type} (s : α → Nat) (x : α) (l : List α) : sumS s (x :: l) = s x + sumS s l := rfl
def szL {α : Type} (s : α → Nat) (l : List α) : Nat := l.length + sumS s l
theorem loopCat {α β ρ : Type} (l : List α) (g : α → List β) (F : Nat → Nat → List β → Option ρ) (r : List β → Option ρ) (c M : Nat)
   (hs : ∀ k i (h : i < l.length) xs, c < k → xs.length + (g l[i]).length ≤ M → F (k + 1) i xs = F k (i + 1) (xs ++ g l[i])) (he : ∀ k xs, F (k + 1) l.length xs = r xs) (d : Nat) :
   ∀ (k i : Nat) (xs : List β), i + d = l.length → d + c < k → xs.length + (((l.drop i).map g).flatten).length ≤ M → F k i xs = r (xs ++ ((l.drop i).map g).flatten) := by
 induction d with
 | zero =>
   intro k i xs hi hk hM
   obtain ⟨k, rfl⟩ : ∃ m, k = m + 1 := ⟨k - 1, by omega⟩
   obtain rfl : i = l.length := by omega
   rw [he, List.drop_length]; simp
 | succ d ih =>
   intro k i xs hi hk hM
   obtain ⟨k, rfl⟩ : ∃ m, k = m + 1 := ⟨k - 1, by omega⟩
   have hlt : i < l.length := by omega
   rw [List.drop_eq_getElem_cons hlt, List.map_cons, List.flatten_cons, List.length_append] at hM
   rw [hs k i hlt xs (by omega) (by omega), ih k (i + 1) _ (by omega) (by omega) (by rw [List.length_append]; omega), List.drop_eq_getElem_cons hlt, List.map_cons, List.flatten_cons, List.append_assoc]
theorem loopCat0 {α β ρ : Type} (l : List α) (g : α → List β) (F : Nat → Nat → List β → Option ρ) (r : List β → Option ρ) (c M : Nat)
   (hs : ∀ k i (h : i < l.length) xs, c < k → xs.length + (g l[i]).length ≤ M → F (k + 1) i xs = F k (i + 1) (xs ++ g l[i])) (he : ∀ k xs, F (k + 1) l.length xs = r xs)
   (k : Nat) (xs : List β) (hk : l.length + c < k) (hM : xs.length + ((l.map g).flatten).length ≤ M) : F k 0 xs = r (xs ++ (l.map g).flatten) := by
 have := loopCat l g F r c M hs he l.length k 0 xs (by omega) hk (by rw [List.drop_zero]; exact hM)
 rw [List.drop_zero] at this
 exact this
theorem flat_one {α β : Type} (l : List α) (g : α → β) : (l.map fun x => [g x]).flatten = l.map g := by
 induction l with
 | nil => rfl
 | cons x l ih => rw [List.map_cons, List.flatten_cons, ih]; rfl
theorem flat_len {α β : Type} (l : List α) (g : α → List β) (n : Nat) (h : ∀ x ∈ l, (g x).length = n) : ((l.map g).flatten).length = l.length * n := by
 induction l with
 | nil => simp
 | cons x l ih => rw [List.map_cons, List.flatten_cons, List.length_append, ih (fun y hy => h y (List.mem_cons_of_mem _ hy)), h x (List.mem_cons_self ..), List.length_cons, Nat.add_mul]; omega
theorem flat_le {α β : Type} (l : List α) (g : α → List β) (n : Nat) (h : ∀ x ∈ l, (g x).length ≤ n) : ((l.map g).flatten).length ≤ l.length * n := by
 induction l with
 | nil => simp
 | cons x l ih => rw [List.map_cons, List.flatten_cons, List.length_append, List.length_cons, Nat.add_mul]; have := ih (fun y hy => h y (List.mem_cons_of_mem _ hy)); have := h x (List.mem_cons_self ..); omega
theorem wn {a b : Int} (h : a = b) (h0 : -9223372036854775808 ≤ b) (h1 : b ≤ 9223372036854775807) : wrap64 a = b := by rw [h]; exact w64 h0 h1
def b8 (n : Int) : Int := IntKind.u8.wrap n
def byts (more : Int) (l : List Int) : List Int := l.map fun n => b8 (wrap64 (n + more))
def two (n : Int) : List Int := [b8 (n / 256), b8 n]
def three (n : Int) : List Int := [b8 (n / 65536), b8 (n / 256), b8 n]
theorem byts_len (m : Int) (l : List Int) : (byts m l).length = l.length := List.length_map ..
theorem b8_mod (n : Int) : b8 n = n % 256 := by simp [b8, IntKind.wrap, IntKind.signed, IntKind.bits]
theorem put_all (k : Nat) (xs : List Int) (a : Int) (l : List Int) (hl : l.length ≤ 10000) (hx : xs.length ≤ 100000) (hk : l.length < k) : iput.g k ⟨xs⟩ a l = some ⟨xs ++ byts a l⟩ := by
 unfold iput.g
 have h := loopCat0 l (fun n => [b8 (wrap64 (n + a))]) (fun k i xs => iput.l0 a l k (i : Int) xs) (fun xs => some ((l.length : Int), xs)) 0 120000
   (fun k i h xs _ hM => by
     show iput.b0 a l (iput.l0 a l k) k (i : Int) xs = _
     unfold iput.b0
     rw [if_pos (by omega), if_pos (by omega), if_pos (by omega), getD_int l _ i h, w64 (by omega) (by omega), show ((i : Int) + 1) = ((i + 1 : Nat) : Int) by omega]; rfl)
   (fun k xs => by
     show iput.b0 a l (iput.l0 a l k) k (l.length : Int) xs = _
     unfold iput.b0
     rw [if_neg (by omega)]) k xs (by omega) (by rw [flat_one, List.length_map]; omega)
 rw [flat_one] at h
 have h : iput.l0 a l k 0 xs = _ := h
 rw [h, Option.bind_some]; rfl
theorem spec_bytes (k : Nat) (a : Int) (l : List Int) (hl : l.length ≤ 10000) (hk : l.length < k) : sB1.g k l a = some (byts a l) := by
 unfold sB1.g
 have h := loopCat0 l (fun n => [b8 (wrap64 (n + a))]) (fun k i xs => sB1.l0 l a k xs (i : Int)) (fun xs => some (xs, (l.length : Int))) 0 120000
   (fun k i h xs _ hM => by
     show sB1.b0 l a (sB1.l0 l a k) k xs (i : Int) = _
     unfold sB1.b0
     rw [if_pos (by omega), if_pos (by omega), if_pos (by omega), getD_int l _ i h, w64 (i := (i : Int) + 1) (by omega) (by omega), show ((i : Int) + 1) = ((i + 1 : Nat) : Int) by omega]; rfl)
   (fun k xs => by
     show sB1.b0 l a (sB1.l0 l a k) k xs (l.length : Int) = _
     unfold sB1.b0
     rw [if_neg (by omega)]) k [] (by omega) (by rw [flat_one, List.length_map, List.length_nil]; omega)
 rw [flat_one, List.nil_append] at h
 have h : sB1.l0 l a k [] 0 = _ := h
 rw [h, Option.bind_some]; rfl
theorem shr0 (n : Int) : shr .i64 n 0 = n := by unfold shr; simp
theorem shr8 (n : Int) : shr .i64 n 8 = n / 256 := by unfold shr; rfl
theorem shr16 (n : Int) : shr .i64 n 16 = n / 65536 := by unfold shr; rfl
theorem wide_two (k : Nat) (xs : List Int) (n : Int) (hx : xs.length ≤ 100000) (hk : 3 < k) : iwide.g k ⟨xs⟩ n 2 = some ⟨xs ++ two n⟩ := by
 obtain ⟨k, rfl⟩ : ∃ m, k = m + 3 := ⟨k - 3, by omega⟩
 unfold iwide.g
 rw [show wrap64 (2 - 1) = 1 from wn (by decide) (by decide) (by decide)]
 show ((iwide.b0 n (iwide.l0 n (k + 2)) (k + 2) 1 xs).bind _) = _
 unfold iwide.b0
 rw [if_pos (by decide), show wrap64 (8 * 1) = 8 from wn (by decide) (by decide) (by decide), if_pos (by decide), if_pos (by omega), show wrap64 (1 - 1) = 0 from wn (by decide) (by decide) (by decide)]
 show ((iwide.b0 n (iwide.l0 n (k + 1)) (k + 1) 0 _).bind _) = _
 unfold iwide.b0
 rw [if_pos (by decide), show wrap64 (8 * 0) = 0 from wn (by decide) (by decide) (by decide), if_pos (by decide), if_pos (by rw [List.length_append, List.length_cons, List.length_nil]; omega), show wrap64 (0 - 1) = -1 from wn (by decide) (by decide) (by decide)]
 show ((iwide.b0 n (iwide.l0 n k) k (-1) _).bind _) = _
 unfold iwide.b0
 rw [if_neg (by decide), Option.bind_some, shr8, shr0, List.append_assoc]; rfl
theorem wide_three (k : Nat) (xs : List Int) (n : Int) (hx : xs.length ≤ 100000) (hk : 4 < k) : iwide.g k ⟨xs⟩ n 3 = some ⟨xs ++ three n⟩ := by
 obtain ⟨k, rfl⟩ : ∃ m, k = m + 4 := ⟨k - 4, by omega⟩
 unfold iwide.g
 rw [show wrap64 (3 - 1) = 2 from wn (by decide) (by decide) (by decide)]
 show ((iwide.b0 n (iwide.l0 n (k + 3)) (k + 3) 2 xs).bind _) = _
 unfold iwide.b0
 rw [if_pos (by decide), show wrap64 (8 * 2) = 16 from wn (by decide) (by decide) (by decide), if_pos (by decide), if_pos (by omega), show wrap64 (2 - 1) = 1 from wn (by decide) (by decide) (by decide)]
 show ((iwide.b0 n (iwide.l0 n (k + 2)) (k + 2) 1 _).bind _) = _
 unfold iwide.b0
 rw [if_pos (by decide), show wrap64 (8 * 1) = 8 from wn (by decide) (by decide) (by decide), if_pos (by decide), if_pos (by rw [List.length_append, List.length_cons, List.length_nil]; omega), show wrap64 (1 - 1) = 0 from wn (by decide) (by decide) (by decide)]
 show ((iwide.b0 n (iwide.l0 n (k + 1)) (k + 1) 0 _).bind _) = _
 unfold iwide.b0
 rw [if_pos (by decide), show wrap64 (8 * 0) = 0 from wn (by decide) (by decide) (by decide), if_pos (by decide), if_pos (by rw [List.length_append, List.length_append, List.length_cons, List.length_nil, List.length_cons, List.length_nil]; omega), show wrap64 (0 - 1) = -1 from wn (by decide) (by decide) (by decide)]
 show ((iwide.b0 n (iwide.l0 n k) k (-1) _).bind _) = _
 unfold iwide.b0
 rw [if_neg (by decide), Option.bind_some, shr16, shr8, shr0, List.append_assoc, List.append_assoc]; rfl
theorem spec_two2 (k : Nat) (n : Int) (h0 : 0 ≤ n) (h1 : n ≤ 9223372036854775807) : spec_l11Two.g k n = some (two n) := by
 unfold spec_l11Two.g two b8
 have e1 : Int.tdiv n 256 = n / 256 := Int.tdiv_eq_ediv_of_nonneg h0
 have e2 : Int.tmod n 256 = n % 256 := Int.tmod_eq_emod_of_nonneg h0
 rw [e1, e2, w64 (by omega) (by omega)]
 have := b8_mod (n % 256)
 have := b8_mod n
 unfold b8 at *
 congr 3
 omega
theorem all_from (lo hi : Int) (l : List Int) (hl : l.length ≤ 9223372036854775806) (d : Nat) : ∀ (k i : Nat), i ≤ l.length → l.length - i = d → d < k →
   (sA.l0 l lo hi k (i : Int)).bind (fun o => match o with | .inl r_ => some r_ | .inr _ => some true) = some ((l.drop i).all fun x => decide (lo ≤ x) && decide (x ≤ hi)) := by
 induction d with
 | zero =>
   intro k i hi' hd hk
   obtain ⟨k, rfl⟩ := k1_ hk
   rw [List.drop_of_length_le (by omega)]
   unfold sA.l0 sA.b0; rw [if_neg (by omega)]; rfl
 | succ d ih =>
   intro k i hi' hd hk
   obtain ⟨k, rfl⟩ := k1_ hk
   have hlt : i < l.length := by omega
   unfold sA.l0 sA.b0
   rw [if_pos (by omega), if_pos (by omega), getD_int l 0 i hlt, List.drop_eq_getElem_cons hlt, List.all_cons]
   unfold sI.f
   by_cases h1 : l[i] ≥ lo
   · rw [if_pos h1]
     simp only [Option.bind_some]
     by_cases h2 : l[i] ≤ hi
     · rw [decide_eq_true h2, if_pos rfl, w64 (by omega) (by omega), show ((i : Int) + 1) = ((i + 1 : Nat) : Int) by omega, ih k (i + 1) (by omega) (by omega) (by omega)]
       simp [h1]
     · rw [decide_eq_false h2]; simp
   · rw [if_neg h1]; simp only [Option.bind_some]; rw [decide_eq_false h1]; simp
theorem all_tells (lo hi : Int) (l : List Int) (hl : l.length ≤ 9223372036854775806) (k : Nat) (hk : l.length < k) : sA.g k l lo hi = some (l.all fun x => decide (lo ≤ x) && decide (x ≤ hi)) := by
 unfold sA.g
 have := all_from lo hi l hl l.length k 0 (by omega) (by omega) hk
 rw [List.drop_zero] at this
 exact this
theorem all_range {α : Type} (P : α → Bool) (z : α) (R : List α) : R.all P = (List.range R.length).all fun p => P (R.getD p z) := by
 rw [Bool.eq_iff_iff, List.all_eq_true, List.all_eq_true]
 constructor
 · intro h p hp
   have := List.mem_range.1 hp
   rw [List.getD_eq_getElem?_getD, List.getElem?_eq_getElem this]; exact h _ (List.getElem_mem _)
 · intro h x hx
   obtain ⟨p, hp, rfl⟩ := List.mem_iff_getElem.1 hx
   have := h p (List.mem_range.2 hp)
   rwa [List.getD_eq_getElem?_getD, List.getElem?_eq_getElem hp] at this
theorem all_drop (P : Nat → Bool) (n i : Nat) (h : i < n) : ((List.range n).drop i).all P = (P i && ((List.range n).drop (i + 1)).all P) := by
 rw [List.drop_eq_getElem_cons (by simpa using h), List.all_cons, List.getElem_range]
theorem all_both (P Q : Nat → Bool) (l : List Nat) : (l.all fun i => P i && Q i) = (l.all P && l.all Q) := by
 rw [Bool.eq_iff_iff, Bool.and_eq_true, List.all_eq_true, List.all_eq_true, List.all_eq_true]
 constructor
 · intro h; exact ⟨fun x hx => (Bool.and_eq_true_iff.1 (h x hx)).1, fun x hx => (Bool.and_eq_true_iff.1 (h x hx)).2⟩
 · intro h x hx; rw [h.1 x hx, h.2 x hx]; rfl
def rowT (n : Int) (l : List Int) : Bool := decide ((l.length : Int) = n) && l.all fun x => decide (-128 ≤ x) && decide (x ≤ 128)
def turnsB (R S : List (List Int)) (a n : Int) : Bool := (decide (4 ≤ a) && decide (a ≤ 24)) && ((decide (1 ≤ n) && decide (n ≤ 4)) && ((decide ((R.length : Int) = a) && R.all (rowT n)) && (decide ((S.length : Int) = a) && S.all (rowT n))))
theorem impl_turns (R S : List (List Int)) (a n : Int) {k : Nat} : impl_TurnsOk.g k ⟨R, S⟩ a n = some (turnsB R S a n) := by
 unfold impl_TurnsOk.g impl_in.f turnsB
 dsimp only
 by_cases h1 : 4 ≤ a
 · rw [if_pos h1, Option.bind_some, decide_eq_true h1]
   by_cases h2 : a ≤ 24
   · rw [decide_eq_true h2, if_pos rfl]
     by_cases h3 : 1 ≤ n
     · rw [if_pos h3, Option.bind_some, decide_eq_true h3]
       by_cases h4 : n ≤ 4
       · rw [decide_eq_true h4, if_pos rfl]
         have e : ∀ T : List (List Int), impl_turnLists.f T a n = some (decide ((T.length : Int) = a) && T.all (rowT n)) := fun T => rfl
         rw [e R, e S, Option.bind_some]
         cases decide ((R.length : Int) = a) && R.all (rowT n) with
         | false => rfl
         | true => rw [if_pos rfl, Option.bind_some]; rfl
       · rw [decide_eq_false h4, if_neg (by simp)]; rfl
     · rw [if_neg h3, Option.bind_some, if_neg (by simp), decide_eq_false h3]; rfl
   · rw [decide_eq_false h2, if_neg (by simp)]; rfl
 · rw [if_neg h1, Option.bind_some, if_neg (by simp), decide_eq_false h1]; rfl
theorem spec_turns_from (R S : List (List Int)) (a : Nat) (n : Int) (hR : R.length = a) (hS : S.length = a) (ha : a ≤ 24) (hn : 1 ≤ n ∧ n ≤ 4) (d : Nat) : ∀ (k i : Nat), i + d = a → d + 10 < k →
   (sTO.l0 ⟨R, S⟩ (a : Int) n k (i : Int)).bind (fun o => match o with | .inl r_ => some r_ | .inr _ => some true) = some (((List.range a).drop i).all fun p => rowT n (R.getD p []) && rowT n (S.getD p [])) := by
 induction d with
 | zero =>
   intro k i hi hk
   obtain ⟨k, rfl⟩ := k1_ hk
   unfold sTO.l0 sTO.b0
   dsimp only
   rw [if_neg (by omega), List.drop_of_length_le (by simp; omega)]; rfl
 | succ d ih =>
   intro k i hi hk
   obtain ⟨k, rfl⟩ := k1_ hk
   unfold sTO.l0 sTO.b0
   dsimp only
   rw [if_pos (by omega), if_pos (by omega), all_drop _ _ i (by omega), Int.toNat_natCast]
   unfold rowT
   by_cases h1 : ((R.getD i []).length : Int) = n
   · rw [if_pos h1, if_pos (by omega), decide_eq_true h1, Bool.true_and]
     by_cases h2 : ((S.getD i []).length : Int) = n
     · rw [if_pos h2, decide_eq_true h2, Bool.true_and, all_tells _ _ _ (by omega) k (by omega), all_tells _ _ _ (by omega) k (by omega), Option.bind_some]
       cases (R.getD i []).all fun x => decide (-128 ≤ x) && decide (x ≤ 128) with
       | false => rfl
       | true =>
         rw [if_pos rfl, Option.bind_some]
         cases (S.getD i []).all fun x => decide (-128 ≤ x) && decide (x ≤ 128) with
         | false => rfl
         | true => rw [if_pos rfl, w64 (by omega) (by omega), show ((i : Int) + 1) = ((i + 1 : Nat) : Int) by omega, ih k (i + 1) (by omega) (by omega)]; rfl
     · rw [if_neg h2, decide_eq_false h2]; simp
   · rw [if_neg h1, decide_eq_false h1]; rfl
theorem spec_turns (R S : List (List Int)) (a n : Int) (k : Nat) (hk : 100 < k) : sTO.g k ⟨R, S⟩ a n = some (turnsB R S a n) := by
 unfold sTO.g sI.f turnsB
 dsimp only
 by_cases h1 : 4 ≤ a
 · rw [if_pos h1, Option.bind_some, decide_eq_true h1]
   by_cases h2 : a ≤ 24
   · rw [decide_eq_true h2, if_pos rfl]
     by_cases h3 : 1 ≤ n
     · rw [if_pos h3, Option.bind_some, decide_eq_true h3]
       by_cases h4 : n ≤ 4
       · rw [decide_eq_true h4, if_pos rfl]
         by_cases h5 : (R.length : Int) = a
         · rw [if_pos h5, decide_eq_true h5]
           by_cases h6 : (S.length : Int) = a
           · rw [if_pos h6, decide_eq_true h6]
             have g := spec_turns_from R S R.length n rfl (by omega) (by omega) ⟨h3, h4⟩ R.length k 0 (by omega) (by omega)
             rw [← h5]
             refine g.trans ?_
             have hl : S.length = R.length := by omega
             rw [List.drop_zero, all_both, all_range (rowT n) [] R, all_range (rowT n) [] S, hl]
             simp
           · rw [if_neg h6, decide_eq_false h6]; simp
         · rw [if_neg h5, decide_eq_false h5]; simp
       · rw [decide_eq_false h4, if_neg (by simp)]; simp
     · rw [if_neg h3, Option.bind_some, if_neg (by simp), decide_eq_false h3]; simp
   · rw [decide_eq_false h2, if_neg (by simp)]; simp
 · rw [if_neg h1, Option.bind_some, if_neg (by simp), decide_eq_false h1]; simp
def widthB (n : Int) : Bool := decide (n = 4) || decide (n = 8)
theorem tmod4 (n : Int) (h0 : 4 ≤ n) (h1 : n ≤ 8) : (Int.tmod n 4 == 0) = widthB n := by
 have : n = 4 ∨ n = 5 ∨ n = 6 ∨ n = 7 ∨ n = 8 := by omega
 rcases this with rfl | rfl | rfl | rfl | rfl <;> rfl
theorem width_facts (n : Int) (h : widthB n = true) : n = 4 ∨ n = 8 := by
 unfold widthB at h; simpa using h
theorem width_no (n : Int) (h : ¬ (4 ≤ n ∧ n ≤ 8)) : widthB n = false := by
 unfold widthB; rw [decide_eq_false (by omega), decide_eq_false (by omega)]; rfl
def rowB (r s : List Int) : Bool := widthB (r.length : Int) && (r.all fun z => decide (-8 ≤ z) && decide (z ≤ 7)) && decide ((s.length : Int) = (r.length : Int) / 4) && s.all fun z => decide (1 ≤ z) && decide (z ≤ 127)
theorem row_facts (r s : List Int) (h : rowB r s = true) : (r.length = 4 ∨ r.length = 8) ∧ (∀ z ∈ r, -8 ≤ z ∧ z ≤ 7) ∧ s.length = r.length / 4 ∧ ∀ z ∈ s, 1 ≤ z ∧ z ≤ 127 := by
 unfold rowB at h
 simp only [Bool.and_eq_true, List.all_eq_true, decide_eq_true_eq] at h
 have := width_facts _ h.1.1.1
 exact ⟨by omega, h.1.1.2, by omega, h.2⟩
theorem rd_mem (l : List Int) (i : Nat) (h : i < l.length) : rd l (i : Int) ∈ l := by rw [rd_get l i h]; exact List.getElem_mem h
theorem tdiv4 (i : Nat) : Int.tdiv (i : Int) 4 = ((i / 4 : Nat) : Int) := by
 rw [Int.tdiv_eq_ediv_of_nonneg (by omega)]; omega
def atM (l : List S54) (i : Nat) : S54 := l.getD i ⟨0, 0⟩
def sameM (a b : S54) : Bool := a.f0 == b.f0 && a.f1 == b.f1
def sz1 (s : List Int) (x : Int) : Int := if x < 256 then 1 else rd s (x - 256)
def szs (l : List S54) : Nat → List Int
 | 0 => []
 | i + 1 => szs l i ++ [sz1 (szs l i) (atM l i).f0 + sz1 (szs l i) (atM l i).f1]
def szN (l : List S54) (i : Nat) : Int := sz1 (szs l i) (atM l i).f0 + sz1 (szs l i) (atM l i).f1
def tokB (i : Nat) (x : Int) : Bool := decide (0 ≤ x) && decide (x ≤ 255 + (i : Int))
def toksB (l : List S54) (i : Nat) : Bool := tokB i (atM l i).f0 && tokB i (atM l i).f1
def freshB (l : List S54) (i : Nat) : Bool := (List.range i).all fun j => !sameM (atM l j) (atM l i)
def sizB (l : List S54) (i : Nat) : Bool := toksB l i && decide (szN l i ≤ 64)
theorem szs_len (l : List S54) : ∀ i, (szs l i).length = i
 | 0 => rfl
 | i + 1 => by rw [szs, List.length_append, szs_len l i]; rfl
def lowS (s : List Int) : Prop := ∀ z ∈ s, 0 ≤ z ∧ z ≤ 64
theorem sz1_bd (s : List Int) (x : Int) (i : Nat) (hs : lowS s) (hl : s.length = i) (h : tokB i x = true) : 0 ≤ sz1 s x ∧ sz1 s x ≤ 64 ∧ (¬ x < 256 → 0 ≤ x - 256 ∧ x - 256 < (s.length : Int)) ∧ 0 ≤ x ∧ x ≤ 255 + (i : Int) := by
 unfold tokB at h
 simp only [Bool.and_eq_true, decide_eq_true_eq] at h
 unfold sz1
 by_cases c : x < 256
 · rw [if_pos c]; exact ⟨by omega, by omega, fun h => (h c).elim, h.1, h.2⟩
 · rw [if_neg c]
   have g : rd s (x - 256) ∈ s := by
     have := rd_mem s (x - 256).toNat (by omega)
     rwa [show (((x - 256).toNat : Nat) : Int) = x - 256 by omega] at this
   have := hs _ g
   exact ⟨this.1, this.2, fun _ => ⟨by omega, by omega⟩, h.1, h.2⟩
theorem low_snoc (s : List Int) (x : Int) (h : lowS s) (h0 : 0 ≤ x) (h1 : x ≤ 64) : lowS (s ++ [x]) := fun z hz => by
 rcases List.mem_append.1 hz with g | g
 · exact h z g
 · rw [List.mem_singleton.1 g]; exact ⟨h0, h1⟩
theorem spec_in (x lo hi : Int) : sI.f x lo hi = some (decide (lo ≤ x) && decide (x ≤ hi)) := by
 unfold sI.f
 by_cases c : x ≥ lo
 · rw [if_pos c, decide_eq_true (show lo ≤ x from c)]; rfl
 · rw [if_neg c, decide_eq_false (show ¬ lo ≤ x from c)]; rfl
theorem impl_inB (x lo hi : Int) : impl_in.f x lo hi = some (decide (lo ≤ x) && decide (x ≤ hi)) := by
 unfold impl_in.f
 by_cases c : x ≥ lo
 · rw [if_pos c, decide_eq_true (show lo ≤ x from c)]; rfl
 · rw [if_neg c, decide_eq_false (show ¬ lo ≤ x from c)]; rfl
theorem szN_bd (l : List S54) (i : Nat) (hs : lowS (szs l i)) (ht : toksB l i = true) : 0 ≤ szN l i ∧ szN l i ≤ 128 := by
 unfold toksB at ht
 rw [Bool.and_eq_true] at ht
 obtain ⟨a0, a1, _⟩ := sz1_bd (szs l i) _ i hs (szs_len l i) ht.1
 obtain ⟨b0, b1, _⟩ := sz1_bd (szs l i) _ i hs (szs_len l i) ht.2
 unfold szN; omega
def mergesB (l : List S54) : Bool := decide (l.length ≤ 16) && ((List.range l.length).all fun i => freshB l i && sizB l i)
theorem impl_token (x : Int) (i : Nat) (hi : i ≤ 16) : impl_isToken.f x (i : Int) = some (tokB i x) := by
 unfold impl_isToken.f
 rw [impl_inB, Option.bind_some, w64 (by omega) (by omega)]; rfl
theorem impl_one (s : List Int) (x : Int) (i : Nat) (hs : lowS s) (hl : s.length = i) (hi : i ≤ 16) (h : tokB i x = true) (k : Nat) : impl_sizesOf_1.g k x s = some (sz1 s x) := by
 obtain ⟨a0, a1, a2, a3, a4⟩ := sz1_bd s x i hs hl h
 unfold impl_sizesOf_1.g sz1
 by_cases c : x < 256
 · rw [if_pos c, if_pos c]
 · have := a2 c
   rw [if_neg c, if_neg c, w64 (by omega) (by omega), if_pos this]; rfl
theorem impl_sizes_from (l : List S54) (hl : l.length ≤ 16) (d : Nat) : ∀ (k i : Nat), i + d = l.length → lowS (szs l i) → d + 30 < k →
   ∃ r : List Int × Bool, (impl_sizesOf.l0 l k (i : Int) (szs l i)).bind (fun o => match o with | .inl r_ => some r_ | .inr ⟨_, xs⟩ => some (xs, true)) = some r ∧ r.2 = ((List.range l.length).drop i).all (sizB l) := by
 induction d with
 | zero =>
   intro k i hi hs hk
   obtain ⟨k, rfl⟩ := k1_ hk
   unfold impl_sizesOf.l0 impl_sizesOf.b0
   rw [if_neg (by omega), List.drop_of_length_le (by simp; omega)]
   exact ⟨_, rfl, rfl⟩
 | succ d ih =>
   intro k i hi hs hk
   obtain ⟨k, rfl⟩ := k1_ hk
   unfold impl_sizesOf.l0 impl_sizesOf.b0
   rw [if_pos (by omega), if_pos (by omega), Int.toNat_natCast, all_drop _ _ i (by omega)]
   show ∃ r, ((impl_isToken.f (atM l i).f0 (i : Int)).bind fun t45 => if t45 = true then (impl_isToken.f (atM l i).f1 (i : Int)).bind _ else _).bind _ = some r ∧ _
   rw [impl_token _ i (by omega), Option.bind_some]
   unfold sizB toksB
   cases h1 : tokB i (atM l i).f0 with
   | false => rw [if_neg (by simp)]; exact ⟨_, rfl, rfl⟩
   | true =>
     rw [if_pos rfl, impl_token _ i (by omega), Option.bind_some]
     cases h2 : tokB i (atM l i).f1 with
     | false => rw [if_neg (by simp)]; exact ⟨_, rfl, rfl⟩
     | true =>
       have ht : toksB l i = true := by unfold toksB; rw [h1, h2]; rfl
       have hb := szN_bd l i hs ht
       have hsl := szs_len l i
       rw [if_pos rfl]
       show ∃ r, ((impl_sizesOf_1.g k (atM l i).f0 (szs l i)).bind fun t57 => (impl_sizesOf_1.g k (atM l i).f1 (szs l i)).bind _).bind _ = some r ∧ _
       rw [impl_one _ _ i hs hsl (by omega) h1, Option.bind_some, impl_one _ _ i hs hsl (by omega) h2, Option.bind_some]
       show ∃ r, (if wrap64 (szN l i) > 64 then _ else if (szs l i).length < 4294967296 then impl_sizesOf.l0 l k (wrap64 ((i : Int) + 1)) (szs l i ++ [wrap64 (szN l i)]) else _).bind _ = some r ∧ _
       rw [w64 (i := szN l i) (by omega) (by omega)]
       by_cases c : szN l i > 64
       · rw [if_pos c, decide_eq_false (by omega)]; exact ⟨_, rfl, by simp⟩
       · rw [if_neg c, if_pos (by omega), decide_eq_true (by omega), w64 (by omega) (by omega), show ((i : Int) + 1) = ((i + 1 : Nat) : Int) by omega]
         obtain ⟨r, e1, e2⟩ := ih k (i + 1) (by omega) (low_snoc _ _ hs hb.1 (Int.not_lt.mp c)) (by omega)
         exact ⟨r, e1, by rw [e2]; rfl⟩
theorem spec_fresh {β : Type} (l : List S54) (i : Nat) (rest : Option (Bool ⊕ β)) (hi : i < l.length) (hl : l.length ≤ 16) (d : Nat) : ∀ (k j : Nat), j + d = i → d < k →
   (sMO.l1 l (i : Int) k (j : Int)).bind (fun o => match o with | .inl r_ => some (Sum.inl r_) | .inr _ => rest) = if (((List.range i).drop j).all fun j => !sameM (atM l j) (atM l i)) = true then rest else some (Sum.inl false) := by
 induction d with
 | zero =>
   intro k j hj hk
   obtain ⟨k, rfl⟩ := k1_ hk
   unfold sMO.l1 sMO.b1
   rw [if_neg (by omega), List.drop_of_length_le (by simp; omega)]; rfl
 | succ d ih =>
   intro k j hj hk
   obtain ⟨k, rfl⟩ := k1_ hk
   unfold sMO.l1 sMO.b1
   rw [if_pos (by omega), if_pos (by omega), all_drop _ _ j (by omega), Int.toNat_natCast, Int.toNat_natCast]
   show (if sameM (atM l j) (atM l i) = true then some (Sum.inl false) else _ : Option (Bool ⊕ Int)).bind _ = _
   cases sameM (atM l j) (atM l i) with
   | true => rfl
   | false => rw [if_neg (by simp), Bool.not_false, Bool.true_and, w64 (by omega) (by omega), show ((j : Int) + 1) = ((j + 1 : Nat) : Int) by omega, ih k (j + 1) (by omega) (by omega)]
theorem spec_two (l : List S54) (i : Nat) (hi : i < l.length) (hl : l.length ≤ 16) (hs : lowS (szs l i)) (ht : toksB l i = true) (k : Nat) : sMO.l2 l (szs l i) (i : Int) (k + 3) 0 0 = some (szN l i, 2) := by
 unfold toksB at ht
 rw [Bool.and_eq_true] at ht
 have hsl := szs_len l i
 have w1 : wrap64 (0 + 1) = 1 := w64 (by omega) (by omega)
 have w2 : wrap64 (1 + 1) = 2 := w64 (by omega) (by omega)
 obtain ⟨a0, a1, a2, a3, a4⟩ := sz1_bd (szs l i) _ i hs hsl ht.1
 obtain ⟨b0, b1, b2, b3, b4⟩ := sz1_bd (szs l i) _ i hs hsl ht.2
 have step : ∀ (k : Nat) (q j x : Int), 0 ≤ q → q ≤ 64 → (j = 0 ∧ x = (atM l i).f0 ∨ j = 1 ∧ x = (atM l i).f1) → 0 ≤ sz1 (szs l i) x → sz1 (szs l i) x ≤ 64 → (¬ x < 256 → 0 ≤ x - 256 ∧ x - 256 < ((szs l i).length : Int)) → 0 ≤ x → x ≤ 255 + (i : Int) →
     sMO.l2 l (szs l i) (i : Int) (k + 1) q j = sMO.l2 l (szs l i) (i : Int) k (q + sz1 (szs l i) x) (j + 1) := by
   intro k q j x q0 q1 hx c0 c1 c2 c3 c4
   have e : (if j = 1 then some (l.getD (i : Int).toNat o54).f1 else some (l.getD (i : Int).toNat o54).f0) = some x := by
     rw [Int.toNat_natCast]
     rcases hx with ⟨rfl, rfl⟩ | ⟨rfl, rfl⟩ <;> rfl
   show sMO.b2 l (szs l i) (i : Int) (sMO.l2 l (szs l i) (i : Int) k) k q j = _
   unfold sMO.b2
   rw [if_pos (by rcases hx with h | h <;> omega), e, Option.bind_some]
   unfold sz1 at c0 c1 ⊢
   by_cases c : x < 256
   · rw [if_pos c, if_pos c, Option.bind_some, w64 (i := q + 1) (by omega) (by omega), w64 (i := j + 1) (by rcases hx with h | h <;> omega) (by rcases hx with h | h <;> omega)]
   · rw [if_neg c] at c0 c1
     have := c2 c
     rw [if_neg c, if_neg c, w64 (i := x - 256) (by omega) (by omega), if_pos (by omega)]
     show (some (wrap64 (q + rd (szs l i) (x - 256)))).bind _ = _
     rw [Option.bind_some, w64 (i := q + rd (szs l i) (x - 256)) (by omega) (by omega), w64 (i := j + 1) (by rcases hx with h | h <;> omega) (by rcases hx with h | h <;> omega)]
 rw [step (k + 2) 0 0 (atM l i).f0 (by omega) (by omega) (.inl ⟨rfl, rfl⟩) a0 a1 a2 a3 a4, Int.zero_add, Int.zero_add, step (k + 1) _ 1 (atM l i).f1 a0 a1 (.inr ⟨rfl, rfl⟩) b0 b1 b2 b3 b4]
 show sMO.b2 l (szs l i) (i : Int) (sMO.l2 l (szs l i) (i : Int) k) k _ _ = _
 unfold sMO.b2
 rw [if_neg (by omega)]; rfl
theorem spec_merges_from (l : List S54) (hl : l.length ≤ 16) (d : Nat) : ∀ (k i : Nat), i + d = l.length → lowS (szs l i) → 60 * d + 60 < k →
   (sMO.l0 l k (szs l i) (i : Int)).bind (fun o => match o with | .inl r_ => some r_ | .inr ⟨_, _⟩ => some true) = some (((List.range l.length).drop i).all fun i => freshB l i && sizB l i) := by
 induction d with
 | zero =>
   intro k i hi hs hk
   obtain ⟨k, rfl⟩ := k1_ hk
   unfold sMO.l0 sMO.b0
   rw [if_neg (by omega), List.drop_of_length_le (by simp; omega)]; rfl
 | succ d ih =>
   intro k i hi hs hk
   obtain ⟨k, rfl⟩ : ∃ m, k = m + 10 := ⟨k - 10, by omega⟩
   show (sMO.b0 l (sMO.l0 l (k + 9)) (k + 9) (szs l i) (i : Int)).bind _ = _
   unfold sMO.b0
   rw [if_pos (by omega), if_pos (by omega), spec_in, spec_in, all_drop _ _ i (by omega), Int.toNat_natCast, Option.bind_some, w64 (i := 255 + (i : Int)) (by omega) (by omega)]
   unfold sizB toksB
   show (if tokB i (atM l i).f0 = true then (some (tokB i (atM l i).f1)).bind _ else _).bind _ = _
   cases h1 : tokB i (atM l i).f0 with
   | false => rw [if_neg (by simp)]; simp
   | true =>
     rw [if_pos rfl, Option.bind_some]
     cases h2 : tokB i (atM l i).f1 with
     | false => rw [if_neg (by simp)]; simp
     | true =>
       have ht : toksB l i = true := by unfold toksB; rw [h1, h2]; rfl
       have hb := szN_bd l i hs ht
       have hsl := szs_len l i
       have := fun rest => spec_fresh (β := List Int × Int) l i rest (by omega) hl i (k + 9) 0 (by omega) (by omega)
       rw [if_pos rfl, show k + 9 = (k + 6) + 3 by omega, spec_two l i (by omega) hl hs ht (k + 6), Option.bind_some]
       rw [show ((0 : Nat) : Int) = 0 from rfl, List.drop_zero] at this
       show ((sMO.l1 l (i : Int) (k + 9) 0).bind _).bind _ = _
       refine (congrArg (fun o : Option (Bool ⊕ (List Int × Int)) => o.bind (fun o => match o with | .inl r_ => some r_ | .inr ⟨_, _⟩ => some true)) (this (if szN l i > 64 then some (Sum.inl false) else if (szs l i).length < 4294967296 then sMO.l0 l (k + 9) (szs l i ++ [szN l i]) (wrap64 ((i : Int) + 1)) else none))).trans ?_
       unfold freshB
       cases (List.range i).all fun j => !sameM (atM l j) (atM l i) with
       | false => rfl
       | true =>
         rw [if_pos rfl]
         by_cases c : szN l i > 64
         · rw [if_pos c, decide_eq_false (by omega)]; rfl
         · rw [if_neg c, decide_eq_true (by omega), if_pos (by omega), w64 (by omega) (by omega), show ((i : Int) + 1) = ((i + 1 : Nat) : Int) by omega]
           have e := ih (k + 9) (i + 1) (by omega) (low_snoc _ _ hs hb.1 (Int.not_lt.mp c)) (by omega)
           rw [show szs l (i + 1) = szs l i ++ [szN l i] from rfl] at e
           rw [e]; rfl
theorem spec_merges (l : List S54) (k : Nat) (hk : 2000 < k) : sMO.g k l = some (mergesB l) := by
 unfold sMO.g mergesB
 by_cases c : (l.length : Int) > 16
 · rw [if_pos c, decide_eq_false (by omega)]; rfl
 · rw [if_neg c, decide_eq_true (by omega), Bool.true_and]
   have := spec_merges_from l (by omega) l.length k 0 (by omega) (fun z hz => by cases hz) (by omega)
   rw [List.drop_zero] at this
   exact this
theorem impl_index_from (l : List S54) (m : S54) (hl : l.length ≤ 16) (d : Nat) : ∀ (k j : Nat), j + d = l.length → d < k →
   ∃ r : Int, (sM4.l0 l m k (j : Int)).bind (fun o => match o with | .inl r_ => some r_ | .inr _ => some (-1)) = some r ∧ decide (r ≥ 0) = !(((List.range l.length).drop j).all fun j => !sameM (atM l j) m) := by
 induction d with
 | zero =>
   intro k j hj hk
   obtain ⟨k, rfl⟩ := k1_ hk
   unfold sM4.l0 sM4.b0
   rw [if_neg (by omega), List.drop_of_length_le (by simp; omega)]
   exact ⟨_, rfl, rfl⟩
 | succ d ih =>
   intro k j hj hk
   obtain ⟨k, rfl⟩ := k1_ hk
   unfold sM4.l0 sM4.b0
   rw [if_pos (by omega), if_pos (by omega), all_drop _ _ j (by omega), Int.toNat_natCast]
   have e : (m.f0 == (atM l j).f0 && (m.f1 == (atM l j).f1)) = sameM (atM l j) m := by unfold sameM; rw [show (m.f0 == (atM l j).f0) = ((atM l j).f0 == m.f0) from BEq.comm, show (m.f1 == (atM l j).f1) = ((atM l j).f1 == m.f1) from BEq.comm]
   show ∃ r, (if (m.f0 == (atM l j).f0 && (m.f1 == (atM l j).f1)) = true then _ else _ : Option (Int ⊕ Int)).bind _ = some r ∧ _
   rw [e]
   cases sameM (atM l j) m with
   | true => rw [if_pos rfl]; exact ⟨_, rfl, by rw [decide_eq_true (by omega)]; rfl⟩
   | false =>
     rw [if_neg (by simp), w64 (by omega) (by omega), show ((j : Int) + 1) = ((j + 1 : Nat) : Int) by omega]
     exact ih k (j + 1) (by omega) (by omega)
theorem impl_contains (l : List S54) (i : Nat) (hi : i < l.length) (hl : l.length ≤ 16) (k : Nat) (hk : 20 < k) : sM5.g k (l.take i) ⟨(atM l i).f0, (atM l i).f1⟩ = some (!freshB l i) := by
 have e : (l.take i).length = i := by rw [List.length_take]; omega
 obtain ⟨r, h1, h2⟩ := impl_index_from (l.take i) (atM l i) (by omega) i k 0 (by omega) (by omega)
 unfold sM5.g
 have h3 : sM4.g k (l.take i) (atM l i) = some r := h1
 show ((sM4.g k (l.take i) (atM l i)).bind _) = _
 rw [h3, Option.bind_some]
 show some (decide (r ≥ 0)) = _
 rw [h2, List.drop_zero, e]
 unfold freshB
 congr 2
 rw [Bool.eq_iff_iff, List.all_eq_true, List.all_eq_true]
 have g : ∀ j, j ∈ List.range i → atM (l.take i) j = atM l j := fun j hj => by
   have := List.mem_range.1 hj
   unfold atM; rw [List.getD_eq_getElem?_getD, List.getD_eq_getElem?_getD, List.getElem?_take_of_lt this]
 exact ⟨fun h j hj => by rw [← g j hj]; exact h j hj, fun h j hj => by rw [g j hj]; exact h j hj⟩
theorem impl_fresh_from (l : List S54) (hl : l.length ≤ 16) (rest : Option Bool) (c : Bool) (hc : rest = some c) (d : Nat) : ∀ (k i : Nat), i + d = l.length → d + 30 < k →
   (iMO1.l0 l k (i : Int)).bind (fun o => match o with | .inl r_ => some r_ | .inr _ => rest) = some (((List.range l.length).drop i).all (freshB l) && c) := by
 induction d with
 | zero =>
   intro k i hi hk
   obtain ⟨k, rfl⟩ := k1_ hk
   unfold iMO1.l0 iMO1.b0
   rw [if_neg (by omega), List.drop_of_length_le (by simp; omega), hc]; rfl
 | succ d ih =>
   intro k i hi hk
   obtain ⟨k, rfl⟩ := k1_ hk
   unfold iMO1.l0 iMO1.b0
   rw [if_pos (by omega), if_pos (by omega), if_pos (by omega), Int.toNat_natCast, all_drop _ _ i (by omega)]
   show ((sM5.g k (l.take i) ⟨(atM l i).f0, (atM l i).f1⟩).bind _).bind _ = _
   rw [impl_contains l i (by omega) hl k (by omega), Option.bind_some]
   cases freshB l i with
   | false => rfl
   | true => rw [if_neg (by simp), w64 (by omega) (by omega), show ((i : Int) + 1) = ((i + 1 : Nat) : Int) by omega, ih k (i + 1) (by omega) (by omega)]; rfl
theorem impl_merges (l : List S54) (k : Nat) (hk : 100 < k) : iMO1.g k l = some (mergesB l) := by
 unfold iMO1.g mergesB
 by_cases c : (l.length : Int) > 16
 · rw [if_pos c, decide_eq_false (by omega)]; rfl
 · rw [if_neg c, decide_eq_true (by omega), Bool.true_and, all_both]
   obtain ⟨r, e1, e2⟩ := impl_sizes_from l (by omega) l.length k 0 (by omega) (fun z hz => by cases hz) (by omega)
   rw [List.drop_zero] at e2
   have g := impl_fresh_from l (by omega) ((impl_sizesOf.g k l).bind fun t => some t.2) r.2 (by
     have e3 : impl_sizesOf.g k l = some r := e1
     rw [e3, Option.bind_some]) l.length k 0 (by omega) (by omega)
   rw [List.drop_zero, e2] at g
   exact g
section
variable {α ρ : Type} (l : List α) (B : α → Bool)
theorem loopAny (z : α) (L : Nat → Int → Option (Int ⊕ Int)) (E : Nat → α → Option Bool) (c : Nat)
   (hL : ∀ k i, L (k + 1) i = if i < (l.length : Int) then (if 0 ≤ i ∧ i < (l.length : Int) then ((E k (l.getD i.toNat z)).bind fun t => if t = true then some (.inl i) else L k (wrap64 (i + 1))) else none) else some (.inr i))
   (hE : ∀ k, c < k → ∀ x ∈ l, E k x = some (!B x)) (hl : l.length ≤ 4611686018427387904) (d : Nat) : ∀ (k i : Nat), i + d = l.length → d + c < k →
   ∃ r : Int, (L k (i : Int)).bind (fun o => match o with | .inl r_ => some r_ | .inr _ => some (-1)) = some r ∧ decide (r ≥ 0) = !((l.drop i).all B) := by
 induction d with
 | zero =>
   intro k i hi hk
   obtain ⟨k, rfl⟩ := k1_ hk
   rw [hL, if_neg (by omega), List.drop_of_length_le (by omega)]
   exact ⟨_, rfl, rfl⟩
 | succ d ih =>
   intro k i hi hk
   obtain ⟨k, rfl⟩ := k1_ hk
   have hlt : i < l.length := by omega
   rw [hL, if_pos (by omega), if_pos (by omega), getD_int l z i hlt, hE k (by omega) _ (List.getElem_mem hlt), Option.bind_some, List.drop_eq_getElem_cons hlt, List.all_cons]
   cases hb : B l[i] with
   | false => exact ⟨(i : Int), rfl, by rw [decide_eq_true (by omega)]; rfl⟩
   | true =>
     obtain ⟨r, e, g⟩ := ih k (i + 1) (by omega) (by omega)
     refine ⟨r, ?_, by rw [g]; rfl⟩
     rw [if_neg (by simp), w64 (by omega) (by omega), show ((i : Int) + 1) = ((i + 1 : Nat) : Int) by omega]
     exact e
theorem loopAny0 (z : α) (L : Nat → Int → Option (Int ⊕ Int)) (E : Nat → α → Option Bool) (c : Nat)
   (hL : ∀ k i, L (k + 1) i = if i < (l.length : Int) then (if 0 ≤ i ∧ i < (l.length : Int) then ((E k (l.getD i.toNat z)).bind fun t => if t = true then some (.inl i) else L k (wrap64 (i + 1))) else none) else some (.inr i))
   (hE : ∀ k, c < k → ∀ x ∈ l, E k x = some (!B x)) (hl : l.length ≤ 4611686018427387904) (k : Nat) (hk : l.length + c < k) :
   (((L k 0).bind (fun o => match o with | .inl r_ => some r_ | .inr _ => some (-1))).bind fun t => some (decide (t ≥ 0))) = some (!(l.all B)) := by
 obtain ⟨r, e, g⟩ := loopAny l B z L E c hL hE hl l.length k 0 (by omega) hk
 rw [List.drop_zero] at g
 rw [show (0 : Int) = ((0 : Nat) : Int) from rfl, e, Option.bind_some]
 exact congrArg some g
end
theorem spec_width (n : Int) : spec_l05Width.f n = some (widthB n) := by
 unfold spec_l05Width.f sI.f
 by_cases h1 : n ≥ 4
 · rw [if_pos h1, Option.bind_some]
   by_cases h2 : n ≤ 8
   · rw [decide_eq_true h2, if_pos rfl, tmod4 n h1 h2]
   · rw [decide_eq_false h2, if_neg (by simp), width_no n (by omega)]
 · rw [if_neg h1, Option.bind_some, if_neg (by simp), width_no n (by omega)]
theorem spec_row (r s : List Int) (hr : r.length ≤ 9223372036854775806) (hs : s.length ≤ 9223372036854775806) (k : Nat) (hk : r.length + s.length < k) : spec_l05Fits.g k r s = some (rowB r s) := by
 unfold spec_l05Fits.g rowB
 rw [spec_width, Option.bind_some, Int.tdiv_eq_ediv_of_nonneg (by omega), w64 (i := (r.length : Int) / 4) (by omega) (by omega), all_tells _ _ r hr k (by omega), all_tells _ _ s hs k (by omega)]
 cases h1 : widthB (r.length : Int) with
 | false => rfl
 | true =>
   rw [if_pos rfl, Option.bind_some]
   cases h2 : r.all fun z => decide (-8 ≤ z) && decide (z ≤ 7) with
   | false => simp
   | true =>
     rw [if_pos rfl]
     by_cases h3 : (s.length : Int) = (r.length : Int) / 4
     · rw [if_pos h3, Option.bind_some, decide_eq_true h3]; rfl
     · rw [if_neg h3, decide_eq_false h3]; rfl
theorem impl_width (n : Int) : impl_isWidth.f n = some (widthB n) := by
 unfold impl_isWidth.f impl_in.f
 by_cases h1 : n ≥ 4
 · rw [if_pos h1, Option.bind_some]
   by_cases h2 : n ≤ 8
   · rw [decide_eq_true h2, if_pos rfl, tmod4 n h1 h2]
   · rw [decide_eq_false h2, if_neg (by simp), width_no n (by omega)]
 · rw [if_neg h1, Option.bind_some, if_neg (by simp), width_no n (by omega)]
theorem impl_row (r s : List Int) (hr : r.length ≤ 9223372036854775807) {k : Nat} : impl_rowOk.g k r s = some (rowB r s) := by
 unfold impl_rowOk.g impl_allIn.f rowB
 rw [impl_width, Option.bind_some, Int.tdiv_eq_ediv_of_nonneg (by omega), w64 (i := (r.length : Int) / 4) (by omega) (by omega)]
 cases h1 : widthB (r.length : Int) with
 | false => rfl
 | true =>
   rw [if_pos rfl, Option.bind_some]
   cases h2 : r.all fun z => decide (-8 ≤ z) && decide (z ≤ 7) with
   | false => simp
   | true =>
     rw [if_pos rfl]
     by_cases h3 : (s.length : Int) = (r.length : Int) / 4
     · rw [if_pos h3, Option.bind_some, decide_eq_true h3]; rfl
     · rw [if_neg h3, decide_eq_false h3]; rfl
def matB (w : Int) (R S : List (List Int)) (m h : Int) : Bool := widthB w && decide (R.length ≤ 300) && decide (S.length = R.length) && decide (0 ≤ m) && decide (m ≤ 65536) && decide (0 ≤ h) && decide (h ≤ 24) && (List.range R.length).all fun i => decide (((R.getD i []).length : Int) = w) && rowB (R.getD i []) (S.getD i [])
theorem mat_facts (w : Int) (R S : List (List Int)) (m h : Int) (g : matB w R S m h = true) : (w = 4 ∨ w = 8) ∧ R.length ≤ 300 ∧ S.length = R.length ∧ 0 ≤ m ∧ m ≤ 65536 ∧ 0 ≤ h ∧ h ≤ 24 ∧ ∀ i, i < R.length → ((R.getD i []).length : Int) = w ∧ rowB (R.getD i []) (S.getD i []) = true := by
 unfold matB at g
 simp only [Bool.and_eq_true, List.all_eq_true, decide_eq_true_eq, List.mem_range] at g
 exact ⟨width_facts _ g.1.1.1.1.1.1.1, g.1.1.1.1.1.1.2, g.1.1.1.1.1.2, g.1.1.1.1.2, g.1.1.1.2, g.1.1.2, g.1.2, fun i hi => g.2 i hi⟩
theorem all_range_from (P : Nat → Bool) (n i : Nat) (h : i < n) : ((List.range n).drop i).all P = (P i && ((List.range n).drop (i + 1)).all P) := by
 rw [List.drop_eq_getElem_cons (by simpa using h), List.all_cons, List.getElem_range]
theorem impl_mat_from (w : Int) (R S : List (List Int)) (m h : Int) (hl : R.length ≤ 300) (hs : S.length = R.length) (hlen : ∀ r ∈ R, r.length ≤ 9223372036854775807) (d : Nat) : ∀ (k i : Nat), i + d = R.length → d < k →
   (iMO.l0 ⟨w, R, S, m, h⟩ k (i : Int)).bind (fun o => match o with | .inl r_ => some r_ | .inr _ => some true) = some (((List.range R.length).drop i).all fun i => decide (((R.getD i []).length : Int) = w) && rowB (R.getD i []) (S.getD i [])) := by
 induction d with
 | zero =>
   intro k i hi hk
   obtain ⟨k, rfl⟩ := k1_ hk
   unfold iMO.l0 iMO.b0
   dsimp only
   rw [if_neg (by omega), List.drop_of_length_le (by simp; omega)]; rfl
 | succ d ih =>
   intro k i hi hk
   obtain ⟨k, rfl⟩ := k1_ hk
   have hmem : (R.getD i []).length ≤ 9223372036854775807 := hlen _ (by rw [List.getD_eq_getElem?_getD, List.getElem?_eq_getElem (by omega)]; exact List.getElem_mem _)
   unfold iMO.l0 iMO.b0
   dsimp only
   rw [if_pos (by omega), if_pos (by omega), all_range_from _ _ i (by omega), Int.toNat_natCast]
   by_cases h1 : ((R.getD i []).length : Int) = w
   · rw [if_pos h1, if_pos (by omega), decide_eq_true h1, impl_row _ _ hmem, Option.bind_some, w64 (by omega) (by omega), show ((i : Int) + 1) = ((i + 1 : Nat) : Int) by omega]
     cases hr : rowB (R.getD i []) (S.getD i []) with
     | true => rw [if_pos rfl, ih k (i + 1) (by omega) (by omega)]; rfl
     | false => rfl
   · rw [if_neg h1, decide_eq_false h1]; rfl
theorem impl_mat (w : Int) (R S : List (List Int)) (m h : Int) (hR : R.length ≤ 9223372036854775807) (hlen : ∀ r ∈ R, r.length ≤ 9223372036854775807) (k : Nat) (hk : 310 < k) : iMO.g k ⟨w, R, S, m, h⟩ = some (matB w R S m h) := by
 unfold iMO.g impl_in.f matB
 dsimp only
 rw [impl_width, Option.bind_some]
 cases h1 : widthB w with
 | false => rfl
 | true =>
   rw [if_pos rfl]
   by_cases h2 : R.length ≤ 300
   · rw [if_neg (by omega), decide_eq_true h2]
     by_cases h3 : S.length = R.length
     · rw [if_pos (by omega), decide_eq_true h3]
       by_cases h4 : 0 ≤ m
       · rw [if_pos h4, Option.bind_some, decide_eq_true h4]
         by_cases h5 : m ≤ 65536
         · rw [decide_eq_true h5, if_pos rfl]
           by_cases h6 : 0 ≤ h
           · rw [if_pos h6, Option.bind_some, decide_eq_true h6]
             by_cases h7 : h ≤ 24
             · rw [decide_eq_true h7, if_pos rfl]
               have := impl_mat_from w R S m h h2 h3 hlen R.length k 0 (by omega) (by omega)
               rw [List.drop_zero] at this
               exact this
             · rw [decide_eq_false h7]; rfl
           · rw [if_neg h6, Option.bind_some, decide_eq_false h6]; rfl
         · rw [decide_eq_false h5]; rfl
       · rw [if_neg h4, Option.bind_some, decide_eq_false h4]; rfl
     · rw [if_neg (by omega), decide_eq_false h3]; rfl
   · rw [if_pos (by omega), decide_eq_false h2]; rfl
def wstTo (r s : List Int) : Nat → Int
 | 0 => 0
 | n + 1 => wstTo r s n + rd s ((n / 4 : Nat) : Int) * 127 * ((rd r (n : Int)).natAbs : Int)
def wst (r s : List Int) : Int := if rowB r s = true then wstTo r s r.length else 0
theorem wst_term (r s : List Int) (h : rowB r s = true) (i : Nat) (hi : i < r.length) : 0 ≤ rd s ((i / 4 : Nat) : Int) * 127 ∧ rd s ((i / 4 : Nat) : Int) * 127 ≤ 16129 ∧ ((rd r (i : Int)).natAbs : Int) ≤ 8 ∧ 0 ≤ rd s ((i / 4 : Nat) : Int) * 127 * ((rd r (i : Int)).natAbs : Int) ∧ rd s ((i / 4 : Nat) : Int) * 127 * ((rd r (i : Int)).natAbs : Int) ≤ 129032 := by
 obtain ⟨h1, h2, h3, h4⟩ := row_facts r s h
 have a := h4 _ (rd_mem s (i / 4) (by omega))
 have b := h2 _ (rd_mem r i hi)
 have c : ((rd r (i : Int)).natAbs : Int) ≤ 8 := by omega
 have p0 : 0 ≤ rd s ((i / 4 : Nat) : Int) * 127 := by omega
 have p1 : rd s ((i / 4 : Nat) : Int) * 127 ≤ 16129 := by omega
 refine ⟨p0, p1, c, Int.mul_nonneg p0 (by omega), ?_⟩
 calc rd s ((i / 4 : Nat) : Int) * 127 * ((rd r (i : Int)).natAbs : Int) ≤ 16129 * ((rd r (i : Int)).natAbs : Int) := Int.mul_le_mul_of_nonneg_right p1 (by omega)
   _ ≤ 129032 := by omega
theorem wst_bd (r s : List Int) (h : rowB r s = true) : ∀ n, n ≤ r.length → 0 ≤ wstTo r s n ∧ wstTo r s n ≤ 129032 * (n : Int)
 | 0, _ => by unfold wstTo; omega
 | n + 1, hn => by
   have ih := wst_bd r s h n (by omega)
   obtain ⟨_, _, _, ht⟩ := wst_term r s h n (by omega)
   unfold wstTo
   omega
theorem spec_abs (x : Int) (h0 : -8 ≤ x) (h1 : x ≤ 7) : spec_l05Abs.f x = some (x.natAbs : Int) := by
 unfold spec_l05Abs.f
 by_cases c : x < 0
 · rw [if_pos c, w64 (by omega) (by omega)]; congr 1; omega
 · rw [if_neg c]; congr 1; omega
theorem getD_mem (R : List (List Int)) (i : Nat) (h : i < R.length) : R.getD i [] ∈ R := by rw [List.getD_eq_getElem?_getD, List.getElem?_eq_getElem h]; exact List.getElem_mem _
def lowB (R S : List (List Int)) (i : Nat) : Bool := ((List.range R.length).drop i).all fun i => decide (wst (R.getD i []) (S.getD i []) ≤ 600000)
def fitB (w : Int) (R S : List (List Int)) (m h a b : Int) : Bool := matB w R S m h && (decide (w = a) && (decide ((R.length : Int) = b) && lowB R S 0))
theorem spec_wst_from (r s : List Int) (h : rowB r s = true) (d : Nat) : ∀ (k i : Nat), i + d = r.length → d < k → sW.l0 r s k (wstTo r s i) (i : Int) = some (wstTo r s r.length, (r.length : Int)) := by
 obtain ⟨h1, h2, h3, h4⟩ := row_facts r s h
 induction d with
 | zero =>
   intro k i hi hk
   obtain ⟨k, rfl⟩ := k1_ hk
   obtain rfl : i = r.length := by omega
   unfold sW.l0 sW.b0
   rw [if_neg (by omega)]
 | succ d ih =>
   intro k i hi hk
   obtain ⟨k, rfl⟩ := k1_ hk
   obtain ⟨t1, t2, t3, t4, t5⟩ := wst_term r s h i (by omega)
   have hs := wst_bd r s h i (by omega)
   have b := h2 _ (rd_mem r i (by omega))
   unfold sW.l0 sW.b0
   rw [if_pos (by omega), tdiv4, w64 (i := ((i / 4 : Nat) : Int)) (by omega) (by omega), if_pos (by omega), if_pos (by omega)]
   show ((spec_l05Abs.f (rd r (i : Int))).bind fun t => sW.l0 r s k (wrap64 (wstTo r s i + wrap64 (wrap64 (rd s ((i / 4 : Nat) : Int) * 127) * t))) _) = _
   rw [spec_abs _ b.1 b.2, Option.bind_some, w64 (i := rd s ((i / 4 : Nat) : Int) * 127) (by omega) (by omega), w64 (i := rd s ((i / 4 : Nat) : Int) * 127 * _) (by omega) (by omega), w64 (i := wstTo r s i + _) (by omega) (by omega), w64 (i := (i : Int) + 1) (by omega) (by omega), show ((i : Int) + 1) = ((i + 1 : Nat) : Int) by omega]
   exact ih k (i + 1) (by omega) (by omega)
theorem impl_absW (x : Int) (h0 : -8 ≤ x) (h1 : x ≤ 7) : (if x < wrap64 (0 - x) then wrap64 (0 - x) else x) = (x.natAbs : Int) := by
 rw [w64 (by omega) (by omega)]
 by_cases c : x < 0 - x
 · rw [if_pos c]; omega
 · rw [if_neg c]; omega
theorem impl_wst_from (r s : List Int) (h : rowB r s = true) (d : Nat) : ∀ (k i : Nat), i + d = r.length → d < k → iW.l0 r s k (wstTo r s i) (i : Int) = some (wstTo r s r.length, (r.length : Int)) := by
 obtain ⟨h1, h2, h3, h4⟩ := row_facts r s h
 induction d with
 | zero =>
   intro k i hi hk
   obtain ⟨k, rfl⟩ := k1_ hk
   obtain rfl : i = r.length := by omega
   unfold iW.l0 iW.b0
   rw [if_neg (by omega)]
 | succ d ih =>
   intro k i hi hk
   obtain ⟨k, rfl⟩ := k1_ hk
   obtain ⟨t1, t2, t3, t4, t5⟩ := wst_term r s h i (by omega)
   have hs := wst_bd r s h i (by omega)
   have b := h2 _ (rd_mem r i (by omega))
   unfold iW.l0 iW.b0
   rw [if_pos (by omega), if_pos (by omega), tdiv4, w64 (i := ((i / 4 : Nat) : Int)) (by omega) (by omega), if_pos (by omega)]
   show iW.l0 r s k (wrap64 (wstTo r s i + wrap64 (wrap64 (rd s ((i / 4 : Nat) : Int) * 127) * (if rd r (i : Int) < wrap64 (0 - rd r (i : Int)) then wrap64 (0 - rd r (i : Int)) else rd r (i : Int))))) _ = _
   rw [impl_absW _ b.1 b.2, w64 (i := rd s ((i / 4 : Nat) : Int) * 127) (by omega) (by omega), w64 (i := rd s ((i / 4 : Nat) : Int) * 127 * _) (by omega) (by omega), w64 (i := wstTo r s i + _) (by omega) (by omega), w64 (i := (i : Int) + 1) (by omega) (by omega), show ((i : Int) + 1) = ((i + 1 : Nat) : Int) by omega]
   exact ih k (i + 1) (by omega) (by omega)
theorem spec_wst (r s : List Int) (hr : r.length ≤ 9223372036854775806) (hs : s.length ≤ 9223372036854775806) (k : Nat) (hk : r.length + s.length < k) (hk2 : 10 < k) : sW.g k r s = some (wst r s) := by
 unfold sW.g wst
 rw [spec_row r s hr hs k hk, Option.bind_some]
 by_cases h : rowB r s = true
 · obtain ⟨h1, h2, h3, h4⟩ := row_facts r s h
   have e : sW.l0 r s k 0 0 = _ := spec_wst_from r s h r.length k 0 (by omega) (by omega)
   rw [if_pos h, if_pos h, e]; rfl
 · rw [if_neg h, if_neg h]
theorem impl_wst (r s : List Int) (hr : r.length ≤ 9223372036854775807) (k : Nat) (hk2 : 10 < k) : iW.g k r s = some (wst r s) := by
 unfold iW.g wst
 rw [impl_row r s hr, Option.bind_some]
 by_cases h : rowB r s = true
 · obtain ⟨h1, h2, h3, h4⟩ := row_facts r s h
   have e : iW.l0 r s k 0 0 = _ := impl_wst_from r s h r.length k 0 (by omega) (by omega)
   rw [if_pos h, if_pos h, e]; rfl
 · rw [if_neg h, if_neg h]
theorem spec_mat_from (w : Int) (R S : List (List Int)) (m h : Int) (hl : R.length ≤ 300) (hs : S.length = R.length) (hR : ∀ r ∈ R, r.length ≤ 1048576) (hS : ∀ r ∈ S, r.length ≤ 1048576) (d : Nat) : ∀ (k i : Nat), i + d = R.length → d + 2097153 < k →
   (sMO2.l0 ⟨w, R, S, m, h⟩ k (i : Int)).bind (fun o => match o with | .inl r_ => some r_ | .inr _ => some true) = some (((List.range R.length).drop i).all fun i => decide (((R.getD i []).length : Int) = w) && rowB (R.getD i []) (S.getD i [])) := by
 induction d with
 | zero =>
   intro k i hi hk
   obtain ⟨k, rfl⟩ := k1_ hk
   unfold sMO2.l0 sMO2.b0
   dsimp only
   rw [if_neg (by omega), List.drop_of_length_le (by simp; omega)]; rfl
 | succ d ih =>
   intro k i hi hk
   obtain ⟨k, rfl⟩ := k1_ hk
   have m1 := hR _ (getD_mem R i (by omega))
   have m2 := hS _ (getD_mem S i (by omega))
   unfold sMO2.l0 sMO2.b0
   dsimp only
   rw [if_pos (by omega), if_pos (by omega), all_range_from _ _ i (by omega), Int.toNat_natCast]
   by_cases h1 : ((R.getD i []).length : Int) = w
   · rw [if_pos h1, if_pos (by omega), decide_eq_true h1, spec_row _ _ (by omega) (by omega) k (by omega), Option.bind_some, w64 (by omega) (by omega), show ((i : Int) + 1) = ((i + 1 : Nat) : Int) by omega]
     cases hr : rowB (R.getD i []) (S.getD i []) with
     | true => rw [if_pos rfl, ih k (i + 1) (by omega) (by omega)]; rfl
     | false => rfl
   · rw [if_neg h1, decide_eq_false h1]; rfl
theorem spec_mat (w : Int) (R S : List (List Int)) (m h : Int) (hR : ∀ r ∈ R, r.length ≤ 1048576) (hS : ∀ r ∈ S, r.length ≤ 1048576) (k : Nat) (hk : 3000000 < k) : sMO2.g k ⟨w, R, S, m, h⟩ = some (matB w R S m h) := by
 unfold sMO2.g sI.f matB
 dsimp only
 rw [spec_width, Option.bind_some]
 cases h1 : widthB w with
 | false => rfl
 | true =>
   rw [if_pos rfl]
   by_cases h2 : R.length ≤ 300
   · rw [if_neg (by omega), decide_eq_true h2]
     by_cases h3 : S.length = R.length
     · rw [if_pos (by omega), decide_eq_true h3]
       by_cases h4 : 0 ≤ m
       · rw [if_pos h4, Option.bind_some, decide_eq_true h4]
         by_cases h5 : m ≤ 65536
         · rw [decide_eq_true h5, if_pos rfl]
           by_cases h6 : 0 ≤ h
           · rw [if_pos h6, Option.bind_some, decide_eq_true h6]
             by_cases h7 : h ≤ 24
             · rw [decide_eq_true h7, if_pos rfl]
               have := spec_mat_from w R S m h h2 h3 hR hS R.length k 0 (by omega) (by omega)
               rw [List.drop_zero] at this
               exact this
             · rw [decide_eq_false h7]; rfl
           · rw [if_neg h6, Option.bind_some, decide_eq_false h6]; rfl
         · rw [decide_eq_false h5]; rfl
       · rw [if_neg h4, Option.bind_some, decide_eq_false h4]; rfl
     · rw [if_neg (by omega), decide_eq_false h3]; rfl
   · rw [if_pos (by omega), decide_eq_false h2]; rfl
theorem spec_low_from (w : Int) (R S : List (List Int)) (m h : Int) (hl : R.length ≤ 300) (hs : S.length = R.length) (hR : ∀ r ∈ R, r.length ≤ 1048576) (hS : ∀ r ∈ S, r.length ≤ 1048576) (d : Nat) : ∀ (k i : Nat) (x : Int), i + d = R.length → d + 2097153 < k →
   ∃ v j, sW1.l0 ⟨w, R, S, m, h⟩ k x (i : Int) = some (v, j) ∧ (v ≤ 600000 ↔ x ≤ 600000 ∧ lowB R S i = true) := by
 induction d with
 | zero =>
   intro k i x hi hk
   obtain ⟨k, rfl⟩ := k1_ hk
   unfold sW1.l0 sW1.b0
   dsimp only
   rw [if_neg (by omega)]
   exact ⟨x, _, rfl, by unfold lowB; rw [List.drop_of_length_le (by simp; omega)]; simp⟩
 | succ d ih =>
   intro k i x hi hk
   obtain ⟨k, rfl⟩ := k1_ hk
   have m1 := hR _ (getD_mem R i (by omega))
   have m2 := hS _ (getD_mem S i (by omega))
   unfold sW1.l0 sW1.b0
   dsimp only
   rw [if_pos (by omega), if_pos (by omega), if_pos (by omega), Int.toNat_natCast, spec_wst _ _ (by omega) (by omega) k (by omega) (by omega), Option.bind_some, w64 (by omega) (by omega), show ((i : Int) + 1) = ((i + 1 : Nat) : Int) by omega]
   have e : lowB R S i = (decide (wst (R.getD i []) (S.getD i []) ≤ 600000) && lowB R S (i + 1)) := by unfold lowB; rw [all_range_from _ _ i (by omega)]
   rw [e, Bool.and_eq_true, decide_eq_true_eq]
   by_cases c : wst (R.getD i []) (S.getD i []) > x
   · rw [if_pos c, Option.bind_some]
     obtain ⟨v, j, h1, h2⟩ := ih k (i + 1) (wst (R.getD i []) (S.getD i [])) (by omega) (by omega)
     exact ⟨v, j, h1, by rw [h2]; constructor <;> intro g <;> (obtain ⟨g1, g2⟩ := g; first | exact ⟨by omega, g1, g2⟩ | exact ⟨g2.1, g2.2⟩)⟩
   · rw [if_neg c, Option.bind_some]
     obtain ⟨v, j, h1, h2⟩ := ih k (i + 1) x (by omega) (by omega)
     exact ⟨v, j, h1, by rw [h2]; constructor <;> intro g <;> (obtain ⟨g1, g2⟩ := g; first | exact ⟨g1, by omega, g2⟩ | exact ⟨g1, g2.2⟩)⟩
theorem impl_low_from (w : Int) (R S : List (List Int)) (m h : Int) (hl : R.length ≤ 300) (hs : S.length = R.length) (hR : ∀ r ∈ R, r.length ≤ 1048576) (d : Nat) : ∀ (k i : Nat), i + d = R.length → d + 20 < k →
   (iwithi.l0 ⟨w, R, S, m, h⟩ k (i : Int)).bind (fun o => match o with | .inl r_ => some r_ | .inr _ => some true) = some (lowB R S i) := by
 induction d with
 | zero =>
   intro k i hi hk
   obtain ⟨k, rfl⟩ := k1_ hk
   unfold iwithi.l0 iwithi.b0
   dsimp only
   rw [if_neg (by omega)]
   unfold lowB; rw [List.drop_of_length_le (by simp; omega)]; rfl
 | succ d ih =>
   intro k i hi hk
   obtain ⟨k, rfl⟩ := k1_ hk
   have m1 := hR _ (getD_mem R i (by omega))
   unfold iwithi.l0 iwithi.b0
   dsimp only
   rw [if_pos (by omega), if_pos (by omega), if_pos (by omega), Int.toNat_natCast, impl_wst _ _ (by omega) k (by omega), Option.bind_some, w64 (by omega) (by omega), show ((i : Int) + 1) = ((i + 1 : Nat) : Int) by omega]
   have e : lowB R S i = (decide (wst (R.getD i []) (S.getD i []) ≤ 600000) && lowB R S (i + 1)) := by unfold lowB; rw [all_range_from _ _ i (by omega)]
   rw [e]
   by_cases c : wst (R.getD i []) (S.getD i []) > 600000
   · rw [if_pos c, decide_eq_false (by omega)]; rfl
   · rw [if_neg c, decide_eq_true (by omega), Bool.true_and, ih k (i + 1) (by omega) (by omega)]
theorem spec_fit (w : Int) (R S : List (List Int)) (m h a b : Int) (hR : ∀ r ∈ R, r.length ≤ 1048576) (hS : ∀ r ∈ S, r.length ≤ 1048576) (k : Nat) (hk : 3000000 < k) : sM3.g k ⟨w, R, S, m, h⟩ a b = some (fitB w R S m h a b) := by
 unfold sM3.g fitB
 dsimp only
 rw [spec_mat w R S m h hR hS k hk, Option.bind_some]
 by_cases h1 : matB w R S m h = true
 · obtain ⟨f1, f2, f3, _⟩ := mat_facts w R S m h h1
   rw [if_pos h1, h1, Bool.true_and]
   by_cases h2 : w = a
   · rw [if_pos h2, decide_eq_true h2, Bool.true_and]
     by_cases h3 : (R.length : Int) = b
     · rw [if_pos h3, decide_eq_true h3, Bool.true_and]
       obtain ⟨v, j, e1, e2⟩ := spec_low_from w R S m h f2 f3 hR hS R.length k 0 0 (by omega) (by omega)
       unfold sW1.g
       rw [show (0 : Int) = ((0 : Nat) : Int) from rfl] at e1 ⊢
       rw [e1, Option.bind_some, Option.bind_some]
       congr 1
       cases g : lowB R S 0 with
       | true => exact decide_eq_true (e2.2 ⟨by omega, g⟩)
       | false => exact decide_eq_false (fun g2 => by have := (e2.1 g2).2; rw [g] at this; cases this)
     · rw [if_neg h3, decide_eq_false h3]; rfl
   · rw [if_neg h2, decide_eq_false h2]; rfl
 · rw [if_neg h1, Bool.eq_false_iff.mpr h1]; rfl
theorem impl_fit (w : Int) (R S : List (List Int)) (m h a b : Int) (hl : R.length ≤ 9223372036854775807) (hR : ∀ r ∈ R, r.length ≤ 1048576) (k : Nat) (hk : 1000 < k) : iwithi.g k ⟨w, R, S, m, h⟩ a b = some (fitB w R S m h a b) := by
 unfold iwithi.g fitB
 dsimp only
 rw [impl_mat w R S m h hl (fun r hr => by have := hR r hr; omega) k (by omega), Option.bind_some]
 by_cases h1 : matB w R S m h = true
 · obtain ⟨f1, f2, f3, _⟩ := mat_facts w R S m h h1
   rw [if_pos h1, h1, Bool.true_and]
   by_cases h2 : w = a
   · rw [if_pos h2, decide_eq_true h2, Bool.true_and]
     by_cases h3 : (R.length : Int) = b
     · rw [if_pos h3, decide_eq_true h3, Bool.true_and]
       exact impl_low_from w R S m h f2 f3 hR R.length k 0 (by omega) (by omega)
     · rw [if_neg h3, decide_eq_false h3]; rfl
   · rw [if_neg h2, decide_eq_false h2]; rfl
 · rw [if_neg h1, Bool.eq_false_iff.mpr h1]; rfl
def gainB (l : List Int) (n : Int) : Bool := if (l.length : Int) = n then l.all fun x => decide (0 ≤ x) && decide (x ≤ 127) else false
theorem impl_gainB (l : List Int) (n : Int) {k : Nat} : impl_GainOk.g k l n = some (gainB l n) := by
 unfold impl_GainOk.g impl_allIn.f gainB
 split <;> rfl
theorem spec_gainB (l : List Int) (n : Int) (hl : l.length ≤ 1048576) (k : Nat) (hk : l.length < k) : spec_GainOk.g k l n = some (gainB l n) := by
 unfold spec_GainOk.g gainB
 rw [all_tells 0 127 l (by omega) k hk]
 split <;> rfl
def mIntss : List (List Int) → Nat := szL (fun l => l.length)
theorem mIntss_eq (x : List (List Int)) : mIntss x = x.length + sumS (fun l => l.length) x := rfl
theorem sumS_map_sum (x : List (List Int)) : sumS (fun l : List Int => l.length) x = (x.map List.length).sum := by
 induction x with
 | nil => rfl
 | cons a x ih => rw [sumS_cons, ih, List.map_cons, List.sum_cons]
def iMatrix (x : S29) : Nat := mIntss x.f1 + mIntss x.f2
def iLayer (x : S52) : Nat := x.f0.length + (iMatrix x.f1 + (iMatrix x.f2 + (iMatrix x.f3 + (iMatrix x.f4 + (x.f5.length + (iMatrix x.f6 + iMatrix x.f7))))))
theorem mat_rows (x : S29) (h : iMatrix x ≤ 1048576) : x.f1.length ≤ 1048576 ∧ (∀ r ∈ x.f1, r.length ≤ 1048576) ∧ ∀ r ∈ x.f2, r.length ≤ 1048576 := by
 unfold iMatrix at h
 have e1 := mIntss_eq x.f1
 have e2 := mIntss_eq x.f2
 unfold szL at e1 e2
 refine ⟨by omega, fun r hr => ?_, fun r hr => ?_⟩
 · have := sumS_le (fun l : List Int => l.length) x.f1 r hr; omega
 · have := sumS_le (fun l : List Int => l.length) x.f2 r hr; omega
def mfit (x : S29) (a b : Int) : Bool := fitB x.f0 x.f1 x.f2 x.f3 x.f4 a b
theorem spec_mfit (x : S29) (a b : Int) (h : iMatrix x ≤ 1048576) (k : Nat) (hk : 3000000 < k) : sM3.g k x a b = some (mfit x a b) := by
 obtain ⟨h1, h2, h3⟩ := mat_rows x h
 exact spec_fit _ _ _ _ _ _ _ h2 h3 k hk
def layerB (x : S52) (n : Int) : Bool := gainB x.f0 n && (gainB x.f5 n && (widthB (x.f6.f1.length : Int) && (mfit x.f1 n n && (mfit x.f2 n n && (mfit x.f3 n n && (mfit x.f4 n n && (mfit x.f6 n (x.f6.f1.length : Int) && mfit x.f7 (x.f6.f1.length : Int) n)))))))
theorem mfit_width (x : S29) (a b : Int) (h : mfit x a b = true) : widthB a = true := by
 unfold mfit fitB at h
 simp only [Bool.and_eq_true, decide_eq_true_eq] at h
 obtain ⟨h1, h2, _⟩ := h
 unfold matB at h1
 simp only [Bool.and_eq_true] at h1
 rw [← h2]; exact h1.1.1.1.1.1.1.1
theorem if_and (a : Bool) (b : Option Bool) (c : Bool) (h : a = true → b = some c) : (if a = true then b else some false) = some (a && c) := by
 cases a with
 | false => rfl
 | true => rw [if_pos rfl, h rfl]; rfl
theorem bind_and (p : Option Bool) (a : Bool) (b : Option Bool) (c : Bool) (hp : p = some a) (h : a = true → b = some c) : (p.bind fun t => if t = true then b else some false) = some (a && c) := by
 rw [hp, Option.bind_some]; exact if_and a b c h
theorem spec_layer (x : S52) (n : Int) (h : iLayer x ≤ 1048576) (k : Nat) (hk : 3000000 < k) : spec_LayerOk.g k x n = some (layerB x n) := by
 have e : iLayer x = x.f0.length + (iMatrix x.f1 + (iMatrix x.f2 + (iMatrix x.f3 + (iMatrix x.f4 + (x.f5.length + (iMatrix x.f6 + iMatrix x.f7)))))) := rfl
 have g : spec_LayerOk.g k x n = some (widthB n && (widthB (x.f6.f1.length : Int) && (gainB x.f0 n && (gainB x.f5 n && (mfit x.f1 n n && (mfit x.f2 n n && (mfit x.f3 n n && (mfit x.f4 n n && (mfit x.f6 n (x.f6.f1.length : Int) && mfit x.f7 (x.f6.f1.length : Int) n))))))))) := by
   unfold spec_LayerOk.g
   refine bind_and _ _ _ _ (spec_width n) fun _ => bind_and _ _ _ _ (spec_width _) fun _ => bind_and _ _ _ _ (spec_gainB x.f0 n (by omega) k (by omega)) fun _ => bind_and _ _ _ _ (spec_gainB x.f5 n (by omega) k (by omega)) fun _ => bind_and _ _ _ _ (spec_mfit x.f1 n n (by omega) k hk) fun _ =>
     bind_and _ _ _ _ (spec_mfit x.f2 n n (by omega) k hk) fun _ => bind_and _ _ _ _ (spec_mfit x.f3 n n (by omega) k hk) fun _ => bind_and _ _ _ _ (spec_mfit x.f4 n n (by omega) k hk) fun _ => bind_and _ _ _ _ (spec_mfit x.f6 n _ (by omega) k hk) fun _ => ?_
   rw [spec_mfit x.f7 _ n (by omega) k hk, Option.bind_some]
 rw [g]
 unfold layerB
 congr 1
 cases h1 : mfit x.f1 n n with
 | false => simp
 | true => rw [mfit_width _ _ _ h1]; cases gainB x.f0 n <;> cases gainB x.f5 n <;> cases widthB (x.f6.f1.length : Int) <;> rfl
theorem impl_mfit (x : S29) (a b : Int) (h : iMatrix x ≤ 1048576) (k : Nat) (hk : 1000 < k) : iwithi.g k x a b = some (mfit x a b) := by
 obtain ⟨h1, h2, h3⟩ := mat_rows x h
 exact impl_fit _ _ _ _ _ _ _ (by omega) h2 k hk
theorem impl_four (x : S52) (n : Int) (h : iLayer x ≤ 1048576) (rest : Option Bool) (c : Bool) (hr : rest = some c) (k : Nat) (hk : 2000 < k) :
   (iLO.l0 x n k 0).bind (fun o => match o with | .inl r_ => some r_ | .inr _ => rest) = some (mfit x.f1 n n && (mfit x.f2 n n && (mfit x.f3 n n && (mfit x.f4 n n && c)))) := by
 have e : iLayer x = x.f0.length + (iMatrix x.f1 + (iMatrix x.f2 + (iMatrix x.f3 + (iMatrix x.f4 + (x.f5.length + (iMatrix x.f6 + iMatrix x.f7)))))) := rfl
 obtain ⟨k, rfl⟩ : ∃ m, k = m + 5 := ⟨k - 5, by omega⟩
 have step : ∀ (k i : Nat) (m : S29) (d : Bool), i < 4 → [x.f1, x.f2, x.f3, x.f4].getD i o29 = m → iMatrix m ≤ 1048576 → 1000 < k →
     (iLO.l0 x n k ((i + 1 : Nat) : Int)).bind (fun o => match o with | .inl r_ => some r_ | .inr _ => rest) = some d → (iLO.l0 x n (k + 1) (i : Int)).bind (fun o => match o with | .inl r_ => some r_ | .inr _ => rest) = some (mfit m n n && d) := by
   intro k i m d hi hm hM hk hd
   unfold iLO.l0 iLO.b0
   rw [if_pos (by omega), if_pos (by omega), Int.toNat_natCast, hm, impl_mfit m n n hM k hk, Option.bind_some, w64 (by omega) (by omega), show ((i : Int) + 1) = ((i + 1 : Nat) : Int) by omega]
   cases mfit m n n with
   | false => rfl
   | true => rw [if_pos rfl, hd]; rfl
 refine step (k + 4) 0 x.f1 _ (by omega) rfl (by omega) (by omega) ?_
 refine step (k + 3) 1 x.f2 _ (by omega) rfl (by omega) (by omega) ?_
 refine step (k + 2) 2 x.f3 _ (by omega) rfl (by omega) (by omega) ?_
 refine step (k + 1) 3 x.f4 _ (by omega) rfl (by omega) (by omega) ?_
 unfold iLO.l0 iLO.b0
 rw [if_neg (by omega), hr]; rfl
theorem impl_layer (x : S52) (n : Int) (h : iLayer x ≤ 1048576) (k : Nat) (hk : 2000 < k) : iLO.g k x n = some (layerB x n) := by
 have e : iLayer x = x.f0.length + (iMatrix x.f1 + (iMatrix x.f2 + (iMatrix x.f3 + (iMatrix x.f4 + (x.f5.length + (iMatrix x.f6 + iMatrix x.f7)))))) := rfl
 unfold iLO.g layerB
 refine bind_and _ _ _ _ (impl_gainB x.f0 n) fun _ => bind_and _ _ _ _ (impl_gainB x.f5 n) fun _ => bind_and _ _ _ _ (impl_width _) fun _ => ?_
 refine impl_four x n h _ _ (bind_and _ _ _ _ (impl_mfit x.f6 n _ (by omega) k (by omega)) fun _ => ?_) k hk
 rw [impl_mfit x.f7 _ n (by omega) k (by omega), Option.bind_some]
def iLayers : List S52 → Nat := szL iLayer
def iModel (x : S33) : Nat := x.f3.length + (mIntss x.f4 + (iLayers x.f5 + (x.f6.length + (iMatrix x.f7 + (mIntss x.f8.f0 + mIntss x.f8.f1)))))
def vocabM (x : S33) : Int := wrap64 (256 + (x.f3.length : Int))
def rowI (n : Int) (l : List Int) : Bool := decide ((l.length : Int) = n) && l.all fun x => decide (-127 ≤ x) && decide (x ≤ 127)
def modelB (x : S33) : Bool := widthB x.f0 && ((decide (1 ≤ x.f1) && decide (x.f1 ≤ 2)) && (mergesB x.f3 && (decide ((x.f4.length : Int) = vocabM x) && ((decide (1 ≤ (x.f5.length : Int)) && decide ((x.f5.length : Int) ≤ 2)) &&
 (x.f4.all (rowI x.f0) && (x.f5.all (fun y => layerB y x.f0) && (gainB x.f6 x.f0 && (mfit x.f7 x.f0 (vocabM x) && turnsB x.f8.f0 x.f8.f1 x.f2 (wrap64 (Int.tdiv (wrap64 (Int.tdiv x.f0 x.f1)) 2))))))))))
theorem spec_layers_from (x : S33) (L : Nat → Int → Option (Bool ⊕ Int)) (hL : ∀ k i, L (k + 1) i = sMO1.b0 x (L k) k i) (hl : x.f5.length ≤ 1048576) (hs : ∀ y ∈ x.f5, iLayer y ≤ 1048576) (rest : Option Bool) (c : Bool) (hc : rest = some c) (d : Nat) : ∀ (k i : Nat), i + d = x.f5.length → d + 3000001 < k →
   (L k (i : Int)).bind (fun o => match o with | .inl r_ => some r_ | .inr _ => rest) = some (((List.range x.f5.length).drop i).all (fun i => layerB (x.f5.getD i o52) x.f0) && c) := by
 induction d with
 | zero =>
   intro k i hi hk
   obtain ⟨k, rfl⟩ := k1_ hk
   rw [hL]; unfold sMO1.b0
   rw [if_neg (by omega), List.drop_of_length_le (by simp; omega), hc]; rfl
 | succ d ih =>
   intro k i hi hk
   obtain ⟨k, rfl⟩ := k1_ hk
   have hm : x.f5.getD i o52 ∈ x.f5 := by rw [List.getD_eq_getElem?_getD, List.getElem?_eq_getElem (by omega)]; exact List.getElem_mem _
   rw [hL]; unfold sMO1.b0
   rw [if_pos (by omega), if_pos (by omega), Int.toNat_natCast, all_drop _ _ i (by omega), spec_layer _ _ (hs _ hm) k (by omega), Option.bind_some]
   cases layerB (x.f5.getD i o52) x.f0 with
   | false => rfl
   | true => rw [if_pos rfl, w64 (by omega) (by omega), show ((i : Int) + 1) = ((i + 1 : Nat) : Int) by omega, ih k (i + 1) (by omega) (by omega)]; rfl
theorem spec_rows_from (x : S33) (L : Nat → Int → Option (Bool ⊕ Int)) (hL : ∀ k i, L (k + 1) i = sMO1.b1 x (L k) k i) (hw : x.f0 ≤ 8) (hl : x.f4.length ≤ 1048576) (rest : Option Bool) (c : Bool) (hc : rest = some c) (d : Nat) : ∀ (k i : Nat), i + d = x.f4.length → d + 20 < k →
   (L k (i : Int)).bind (fun o => match o with | .inl r_ => some r_ | .inr _ => rest) = some (((List.range x.f4.length).drop i).all (fun i => rowI x.f0 (x.f4.getD i [])) && c) := by
 induction d with
 | zero =>
   intro k i hi hk
   obtain ⟨k, rfl⟩ := k1_ hk
   rw [hL]; unfold sMO1.b1
   rw [if_neg (by omega), List.drop_of_length_le (by simp; omega), hc]; rfl
 | succ d ih =>
   intro k i hi hk
   obtain ⟨k, rfl⟩ := k1_ hk
   rw [hL]; unfold sMO1.b1
   rw [if_pos (by omega), if_pos (by omega), Int.toNat_natCast, all_drop _ _ i (by omega)]
   unfold rowI
   by_cases h1 : ((x.f4.getD i []).length : Int) = x.f0
   · rw [if_pos h1, decide_eq_true h1, all_tells _ _ _ (by omega) k (by omega), Option.bind_some, Bool.true_and]
     cases (x.f4.getD i []).all fun x => decide (-127 ≤ x) && decide (x ≤ 127) with
     | false => rfl
     | true => rw [if_pos rfl, w64 (by omega) (by omega), show ((i : Int) + 1) = ((i + 1 : Nat) : Int) by omega, ih k (i + 1) (by omega) (by omega)]; rfl
   · rw [if_neg h1, decide_eq_false h1]; rfl
theorem model_size (x : S33) (h : iModel x ≤ 1048576) : x.f3.length ≤ 1048576 ∧ x.f4.length ≤ 1048576 ∧ x.f5.length ≤ 1048576 ∧ (∀ y ∈ x.f5, iLayer y ≤ 1048576) ∧ x.f6.length ≤ 1048576 ∧ iMatrix x.f7 ≤ 1048576 := by
 unfold iModel at h
 have e := mIntss_eq x.f4
 have g : iLayers x.f5 = x.f5.length + sumS iLayer x.f5 := rfl
 exact ⟨by omega, by omega, by omega, fun y hy => by have := sumS_le iLayer x.f5 y hy; omega, by omega, by omega⟩
theorem impl_rows_from (x : S33) (l : List (List Int)) (hl : l.length ≤ 1048576) (d : Nat) : ∀ (k i : Nat), i + d = l.length → d < k →
   ∃ r : Int, (sint49.l0 l x k (i : Int)).bind (fun o => match o with | .inl r_ => some r_ | .inr _ => some (-1)) = some r ∧ decide (r ≥ 0) = !(((List.range l.length).drop i).all fun i => rowI x.f0 (l.getD i [])) := by
 induction d with
 | zero =>
   intro k i hi hk
   obtain ⟨k, rfl⟩ := k1_ hk
   unfold sint49.l0 sint49.b0
   rw [if_neg (by omega), List.drop_of_length_le (by simp; omega)]
   exact ⟨_, rfl, rfl⟩
 | succ d ih =>
   intro k i hi hk
   obtain ⟨k, rfl⟩ := k1_ hk
   unfold sint49.l0 sint49.b0
   have e : impl_ModelOk_1.g k (l.getD i []) x = some (!rowI x.f0 (l.getD i [])) := by
     unfold impl_ModelOk_1.g rowI impl_allIn.f
     by_cases c : ((l.getD i []).length : Int) = x.f0
     · rw [if_pos c, decide_eq_true c]; rfl
     · rw [if_neg c, decide_eq_false c]; rfl
   rw [if_pos (by omega), if_pos (by omega), Int.toNat_natCast, all_drop _ _ i (by omega), e, Option.bind_some]
   cases rowI x.f0 (l.getD i []) with
   | false => rw [if_pos (show (!false) = true from rfl)]; exact ⟨_, rfl, by rw [decide_eq_true (by omega)]; rfl⟩
   | true =>
     rw [if_neg (by simp), w64 (by omega) (by omega), show ((i : Int) + 1) = ((i + 1 : Nat) : Int) by omega]
     exact ih k (i + 1) (by omega) (by omega)
theorem impl_layers_from (x : S33) (l : List S52) (hl : l.length ≤ 1048576) (hs : ∀ y ∈ l, iLayer y ≤ 1048576) (d : Nat) : ∀ (k i : Nat), i + d = l.length → d + 3000 < k →
   ∃ r : Int, (sL52.l0 l x k (i : Int)).bind (fun o => match o with | .inl r_ => some r_ | .inr _ => some (-1)) = some r ∧ decide (r ≥ 0) = !(((List.range l.length).drop i).all fun i => layerB (l.getD i o52) x.f0) := by
 induction d with
 | zero =>
   intro k i hi hk
   obtain ⟨k, rfl⟩ := k1_ hk
   unfold sL52.l0 sL52.b0
   rw [if_neg (by omega), List.drop_of_length_le (by simp; omega)]
   exact ⟨_, rfl, rfl⟩
 | succ d ih =>
   intro k i hi hk
   obtain ⟨k, rfl⟩ := k1_ hk
   unfold sL52.l0 sL52.b0
   have hm : l.getD i o52 ∈ l := by rw [List.getD_eq_getElem?_getD, List.getElem?_eq_getElem (by omega)]; exact List.getElem_mem _
   have e : impl_ModelOk_2.g k (l.getD i o52) x = some (!layerB (l.getD i o52) x.f0) := by
     unfold impl_ModelOk_2.g
     rw [impl_layer _ _ (hs _ hm) k (by omega)]; rfl
   rw [if_pos (by omega), if_pos (by omega), Int.toNat_natCast, all_drop _ _ i (by omega), e, Option.bind_some]
   cases layerB (l.getD i o52) x.f0 with
   | false => rw [if_pos (show (!false) = true from rfl)]; exact ⟨_, rfl, by rw [decide_eq_true (by omega)]; rfl⟩
   | true =>
     rw [if_neg (by simp), w64 (by omega) (by omega), show ((i : Int) + 1) = ((i + 1 : Nat) : Int) by omega]
     exact ih k (i + 1) (by omega) (by omega)
theorem bind_nand (p : Option Bool) (a : Bool) (b : Option Bool) (c : Bool) (hp : p = some (!a)) (h : a = true → b = some c) : (p.bind fun t => if t = true then some false else b) = some (a && c) := by
 rw [hp, Option.bind_some]
 cases a with
 | false => rfl
 | true => rw [if_neg (by simp), h rfl]; rfl
theorem impl_model (x : S33) (h : iModel x ≤ 1048576) (k : Nat) (hk : 5000000 < k) : impl_ModelOk.g k x = some (modelB x) := by
 obtain ⟨s3, s4, s5, s5', s6, s7⟩ := model_size x h
 unfold impl_ModelOk.g modelB
 refine bind_and _ _ _ _ (impl_width x.f0) fun hw => bind_and _ _ _ _ (impl_inB x.f1 1 2) fun h1 => bind_and _ _ _ _ (impl_merges x.f3 k (by omega)) fun _ => ?_
 have h0 : x.f1 ≠ 0 := by simp only [Bool.and_eq_true, decide_eq_true_eq] at h1; omega
 rw [show impl_Vocab.g k x = some (vocabM x) from rfl, Option.bind_some]
 by_cases c : (x.f4.length : Int) = vocabM x
 · rw [if_pos c, decide_eq_true c, Bool.true_and]
   obtain ⟨r1, e1, g1⟩ := impl_rows_from x x.f4 s4 x.f4.length k 0 (by omega) (by omega)
   obtain ⟨r2, e2, g2⟩ := impl_layers_from x x.f5 s5 s5' x.f5.length k 0 (by omega) (by omega)
   rw [List.drop_zero, ← all_range (rowI x.f0) [] x.f4] at g1
   rw [List.drop_zero, ← all_range (fun y => layerB y x.f0) o52 x.f5] at g2
   refine bind_and _ _ _ _ (impl_inB _ 1 2) fun _ => bind_nand _ _ _ _ ?_ fun _ => bind_nand _ _ _ _ ?_ fun _ => bind_and _ _ _ _ (impl_gainB x.f6 x.f0) fun _ => ?_
   · have e3 : sint49.g k x.f4 x = some r1 := e1
     unfold slices_ContainsFunc_int_int_49.g
     rw [e3, Option.bind_some, g1]
   · have e3 : sL52.g k x.f5 x = some r2 := e2
     unfold sL521.g
     rw [e3, Option.bind_some, g2]
   · rw [Option.bind_some]
     refine bind_and _ _ _ _ (impl_mfit x.f7 x.f0 _ s7 k (by omega)) fun _ => ?_
     rw [if_pos h0, impl_turns, Option.bind_some]
 · rw [if_neg c, decide_eq_false c]; rfl
theorem spec_model_tail (x : S33) (h : iModel x ≤ 1048576) (hw : x.f0 ≤ 8) (h0 : x.f1 ≠ 0) (L0 L1 : Nat → Int → Option (Bool ⊕ Int)) (hL0 : ∀ k i, L0 (k + 1) i = sMO1.b0 x (L0 k) k i) (hL1 : ∀ k i, L1 (k + 1) i = sMO1.b1 x (L1 k) k i) (k : Nat) (hk : 5000000 < k) :
   ((sMO.g k x.f3).bind fun t16 => (if t16 = true then ((sV.g k x).bind fun t24 => (if (x.f4.length : Int) = t24 then ((sI.f (x.f5.length : Int) 1 2).bind fun t32 => (if t32 = true then ((L1 k 0).bind (fun o110 => match o110 with | .inl r_ => some r_ | .inr i42 => ((L0 k 0).bind (fun o91 => match o91 with | .inl r_ => some r_ | .inr i51 => ((spec_GainOk.g k x.f6 x.f0).bind fun t60 => (if t60 = true then ((sV.g k x).bind fun t72 => ((sM3.g k x.f7 x.f0 t72).bind fun t75 => (if t75 = true then (if x.f1 ≠ 0 then ((sTO.g k x.f8 x.f2 (wrap64 (Int.tdiv (wrap64 (Int.tdiv x.f0 x.f1)) 2))).bind fun t88 => (some t88)) else none) else (some false)))) else (some false))))))) else (some false))) else (some false))) else (some false)))
     = some (mergesB x.f3 && (decide ((x.f4.length : Int) = vocabM x) && ((decide (1 ≤ (x.f5.length : Int)) && decide ((x.f5.length : Int) ≤ 2)) &&
 (x.f4.all (rowI x.f0) && (x.f5.all (fun y => layerB y x.f0) && (gainB x.f6 x.f0 && (mfit x.f7 x.f0 (vocabM x) && turnsB x.f8.f0 x.f8.f1 x.f2 (wrap64 (Int.tdiv (wrap64 (Int.tdiv x.f0 x.f1)) 2))))))))) := by
 obtain ⟨s3, s4, s5, s5', s6, s7⟩ := model_size x h
 have hv : sV.g k x = some (vocabM x) := rfl
 refine bind_and _ _ _ _ (spec_merges x.f3 k (by omega)) fun _ => ?_
 rw [hv, Option.bind_some]
 by_cases c : (x.f4.length : Int) = vocabM x
 · rw [if_pos c, decide_eq_true c, Bool.true_and]
   refine bind_and _ _ _ _ (spec_in _ 1 2) fun _ => ?_
   have t1 : ((spec_GainOk.g k x.f6 x.f0).bind fun t60 => (if t60 = true then ((sV.g k x).bind fun t72 => ((sM3.g k x.f7 x.f0 t72).bind fun t75 => (if t75 = true then (if x.f1 ≠ 0 then ((sTO.g k x.f8 x.f2 (wrap64 (Int.tdiv (wrap64 (Int.tdiv x.f0 x.f1)) 2))).bind fun t88 => (some t88)) else none) else (some false)))) else (some false)))
       = some (gainB x.f6 x.f0 && (mfit x.f7 x.f0 (vocabM x) && turnsB x.f8.f0 x.f8.f1 x.f2 (wrap64 (Int.tdiv (wrap64 (Int.tdiv x.f0 x.f1)) 2)))) := by
     refine bind_and _ _ _ _ (spec_gainB x.f6 x.f0 s6 k (by omega)) fun _ => ?_
     rw [hv, Option.bind_some]
     refine bind_and _ _ _ _ (spec_mfit x.f7 x.f0 _ s7 k (by omega)) fun _ => ?_
     rw [if_pos h0, spec_turns x.f8.f0 x.f8.f1 _ _ k (by omega), Option.bind_some]
   have r1 := spec_rows_from x L1 hL1 hw s4 _ _ (spec_layers_from x L0 hL0 s5 s5' _ _ t1 x.f5.length k 0 (by omega) (by omega)) x.f4.length k 0 (by omega) (by omega)
   rw [List.drop_zero, List.drop_zero, ← all_range (rowI x.f0) [] x.f4, ← all_range (fun y => layerB y x.f0) o52 x.f5] at r1
   exact r1
 · rw [if_neg c, decide_eq_false c]; rfl
theorem spec_model (x : S33) (h : iModel x ≤ 1048576) (k : Nat) (hk : 5000000 < k) : sMO1.g k x = some (modelB x) := by
 unfold sMO1.g modelB
 refine bind_and _ _ _ _ (spec_width x.f0) fun hw => ?_
 have hw8 : x.f0 ≤ 8 := by have := width_facts _ hw; omega
 by_cases c1 : x.f1 = 1
 · rw [if_pos c1, show (decide (1 ≤ x.f1) && decide (x.f1 ≤ 2)) = true by rw [c1]; rfl, Bool.true_and]
   exact spec_model_tail x h hw8 (by omega) (sMO1.l0 x) (sMO1.l1 x) (fun _ _ => rfl) (fun _ _ => rfl) k hk
 · rw [if_neg c1]
   by_cases c2 : x.f1 = 2
   · rw [if_pos c2, show (decide (1 ≤ x.f1) && decide (x.f1 ≤ 2)) = true by rw [c2]; rfl, Bool.true_and]
     exact spec_model_tail x h hw8 (by omega) (sMO1.l2 x) (sMO1.l3 x) (fun _ _ => rfl) (fun _ _ => rfl) k hk
   · rw [if_neg c2, show (decide (1 ≤ x.f1) && decide (x.f1 ≤ 2)) = false by rw [Bool.eq_false_iff]; intro g; simp only [Bool.and_eq_true, decide_eq_true_eq] at g; omega]; rfl
def nibs (l : List Int) : Prop := ∀ z ∈ l, -8 ≤ z ∧ z ≤ 7
structure MatR (m : S29) (w r : Nat) : Prop where
 wid : (m.f0 : Int) = (w : Int)
 w48 : w = 4 ∨ w = 8
 rws : m.f1.length = r
 scls : m.f2.length = r
 le : r ≤ 300
 row : ∀ l ∈ m.f1, l.length = w ∧ nibs l
 sc : ∀ l ∈ m.f2, l.length = w / 4 ∧ ∀ z ∈ l, 1 ≤ z ∧ z ≤ 127
 mul : 0 ≤ m.f3 ∧ m.f3 ≤ 65536
 sh : 0 ≤ m.f4 ∧ m.f4 ≤ 24
theorem mat_r (m : S29) (a b : Nat) (h : mfit m (a : Int) (b : Int) = true) : MatR m a b := by
 unfold mfit fitB at h
 simp only [Bool.and_eq_true, decide_eq_true_eq] at h
 obtain ⟨h1, h2, h3, _⟩ := h
 obtain ⟨f1, f2, f3, f4, f5, f6, f7, f8⟩ := mat_facts _ _ _ _ _ h1
 have hr : ∀ i (hi : i < m.f1.length), (m.f1[i].length : Int) = m.f0 ∧ rowB m.f1[i] (m.f2.getD i []) = true := fun i hi => by
   have := f8 i hi
   rwa [List.getD_eq_getElem?_getD, List.getElem?_eq_getElem hi] at this
 refine ⟨h2, by omega, by omega, by omega, by omega, fun l hl => ?_, fun l hl => ?_, ⟨f4, f5⟩, ⟨f6, f7⟩⟩
 · obtain ⟨i, hi, rfl⟩ := List.getElem_of_mem hl
   obtain ⟨g1, g2⟩ := hr i hi
   exact ⟨by omega, (row_facts _ _ g2).2.1⟩
 · obtain ⟨i, hi, rfl⟩ := List.getElem_of_mem hl
   obtain ⟨g1, g2⟩ := hr i (by omega)
   rw [List.getD_eq_getElem?_getD, List.getElem?_eq_getElem hi] at g2
   obtain ⟨_, _, g3, g4⟩ := row_facts _ _ g2
   have g3 : m.f2[i].length = _ := g3
   exact ⟨by rw [g3]; congr 1; omega, g4⟩
def gainR (l : List Int) (n : Nat) : Prop := l.length = n ∧ ∀ z ∈ l, 0 ≤ z ∧ z ≤ 127
theorem gain_r (l : List Int) (n : Nat) (h : gainB l (n : Int) = true) : gainR l n := by
 unfold gainB at h
 split at h
 · rename_i c
   simp only [List.all_eq_true, Bool.and_eq_true, decide_eq_true_eq] at h
   exact ⟨by omega, h⟩
 · cases h
structure LayR (y : S52) (n u : Nat) : Prop where
 u48 : u = 4 ∨ u = 8
 g1 : gainR y.f0 n
 q : MatR y.f1 n n
 k : MatR y.f2 n n
 v : MatR y.f3 n n
 o : MatR y.f4 n n
 g2 : gainR y.f5 n
 up : MatR y.f6 n u
 dn : MatR y.f7 u n
theorem lay_r (y : S52) (n : Nat) (h : layerB y (n : Int) = true) : LayR y n y.f6.f1.length := by
 unfold layerB at h
 simp only [Bool.and_eq_true] at h
 obtain ⟨h0, h5, hw, h1, h2, h3, h4, h6, h7⟩ := h
 have := width_facts _ hw
 exact ⟨by omega, gain_r _ _ h0, mat_r _ _ _ h1, mat_r _ _ _ h2, mat_r _ _ _ h3, mat_r _ _ _ h4, gain_r _ _ h5, mat_r _ _ _ h6, mat_r _ _ _ h7⟩
def turR (l : List (List Int)) (c p : Nat) : Prop := l.length = c ∧ c ≤ 24 ∧ p ≤ 4 ∧ ∀ r ∈ l, r.length = p ∧ ∀ z ∈ r, -128 ≤ z ∧ z ≤ 128
structure ModR (x : S33) (n hd c : Nat) : Prop where
 dim : x.f0 = (n : Int)
 n48 : n = 4 ∨ n = 8
 hds : x.f1 = (hd : Int)
 h12 : hd = 1 ∨ hd = 2
 ctx : x.f2 = (c : Int)
 c4 : 4 ≤ c
 c24 : c ≤ 24
 ml : x.f3.length ≤ 16
 mt : ∀ m ∈ x.f3, (0 ≤ m.f0 ∧ m.f0 ≤ 300) ∧ (0 ≤ m.f1 ∧ m.f1 ≤ 300)
 el : x.f4.length = 256 + x.f3.length
 er : ∀ r ∈ x.f4, r.length = n ∧ ∀ z ∈ r, -127 ≤ z ∧ z ≤ 127
 ll : 1 ≤ x.f5.length ∧ x.f5.length ≤ 2
 lr : ∀ y ∈ x.f5, LayR y n y.f6.f1.length
 ge : gainR x.f6 n
 hm : MatR x.f7 n (256 + x.f3.length)
 cs : turR x.f8.f0 c (n / hd / 2)
 sn : turR x.f8.f1 c (n / hd / 2)
theorem tur_r (l : List (List Int)) (a p : Int) (c q : Nat) (h1 : (l.length : Int) = a) (h2 : l.all (rowT p) = true) (ha : a = (c : Int)) (hp : p = (q : Int)) (hc : c ≤ 24) (hq : q ≤ 4) : turR l c q := by
 refine ⟨by omega, hc, hq, fun r hr => ?_⟩
 have := List.all_eq_true.1 h2 r hr
 unfold rowT at this
 simp only [List.all_eq_true, Bool.and_eq_true, decide_eq_true_eq] at this
 exact ⟨by omega, this.2⟩
theorem merges_r (l : List S54) (h : mergesB l = true) : l.length ≤ 16 ∧ ∀ m ∈ l, (0 ≤ m.f0 ∧ m.f0 ≤ 300) ∧ (0 ≤ m.f1 ∧ m.f1 ≤ 300) := by
 unfold mergesB at h
 rw [Bool.and_eq_true, decide_eq_true_eq] at h
 obtain ⟨ml, mt⟩ := h
 refine ⟨ml, fun m hm => ?_⟩
 obtain ⟨i, hi, rfl⟩ := List.getElem_of_mem hm
 have g := List.all_eq_true.1 mt i (List.mem_range.2 hi)
 rw [Bool.and_eq_true] at g
 have g := g.2
 unfold sizB toksB tokB at g
 rw [show atM l i = l[i] by unfold atM; rw [List.getD_eq_getElem?_getD, List.getElem?_eq_getElem hi]; rfl] at g
 simp only [Bool.and_eq_true, decide_eq_true_eq] at g
 obtain ⟨⟨⟨a1, a2⟩, ⟨a3, a4⟩⟩, _⟩ := g
 exact ⟨⟨a1, by omega⟩, ⟨a3, by omega⟩⟩
theorem rowI_r (r : List Int) (n : Nat) (h : rowI (n : Int) r = true) : r.length = n ∧ ∀ z ∈ r, -127 ≤ z ∧ z ≤ 127 := by
 unfold rowI at h
 simp only [Bool.and_eq_true, decide_eq_true_eq, List.all_eq_true] at h
 exact ⟨by omega, h.2⟩
theorem turns_r (R S : List (List Int)) (a : Int) (p : Nat) (h : turnsB R S a (p : Int) = true) : ∃ c : Nat, a = (c : Int) ∧ 4 ≤ c ∧ c ≤ 24 ∧ turR R c p ∧ turR S c p := by
 unfold turnsB at h
 simp only [Bool.and_eq_true, decide_eq_true_eq] at h
 obtain ⟨⟨c0, c1⟩, ⟨_, p4⟩, ⟨t1, t2⟩, ⟨t3, t4⟩⟩ := h
 obtain ⟨c, hc⟩ : ∃ n : Nat, a = (n : Int) := ⟨a.toNat, by omega⟩
 exact ⟨c, hc, by omega, by omega, tur_r _ _ _ c _ t1 t2 hc rfl (by omega) (by omega), tur_r _ _ _ c _ t3 t4 hc rfl (by omega) (by omega)⟩
theorem heads_is (n hd : Nat) (n48 : n = 4 ∨ n = 8) (h12 : hd = 1 ∨ hd = 2) : wrap64 (Int.tdiv (wrap64 (Int.tdiv (n : Int) (hd : Int))) 2) = ((n / hd / 2 : Nat) : Int) := by
 rcases n48 with rfl | rfl <;> rcases h12 with rfl | rfl <;> decide +kernel
theorem vocab_is (x : S33) (h : x.f3.length ≤ 16) : vocabM x = ((256 + x.f3.length : Nat) : Int) := by unfold vocabM; rw [w64 (by omega) (by omega)]; omega
theorem nat_of {a : Int} (h : a = 4 ∨ a = 8) : ∃ n : Nat, a = (n : Int) ∧ (n = 4 ∨ n = 8) := by
 rcases h with rfl | rfl
 · exact ⟨4, rfl, .inl rfl⟩
 · exact ⟨8, rfl, .inr rfl⟩
theorem nat_12 {a : Int} (h : 1 ≤ a) (h2 : a ≤ 2) : ∃ n : Nat, a = (n : Int) ∧ (n = 1 ∨ n = 2) := ⟨a.toNat, by omega, by omega⟩
theorem mod_r (x : S33) (h : modelB x = true) : ∃ n hd c, ModR x n hd c := by
 unfold modelB at h
 obtain ⟨h0, h⟩ := Bool.and_eq_true .. ▸ h
 obtain ⟨h1, h⟩ := Bool.and_eq_true .. ▸ h
 obtain ⟨h3, h⟩ := Bool.and_eq_true .. ▸ h
 obtain ⟨h4, h⟩ := Bool.and_eq_true .. ▸ h
 obtain ⟨h5, h⟩ := Bool.and_eq_true .. ▸ h
 obtain ⟨h6, h⟩ := Bool.and_eq_true .. ▸ h
 obtain ⟨h7, h⟩ := Bool.and_eq_true .. ▸ h
 obtain ⟨h8, h⟩ := Bool.and_eq_true .. ▸ h
 obtain ⟨h9, h10⟩ := Bool.and_eq_true .. ▸ h
 obtain ⟨n, hn, n48⟩ := nat_of (width_facts _ h0)
 rw [Bool.and_eq_true, decide_eq_true_eq, decide_eq_true_eq] at h1
 obtain ⟨hd, hhd, h12⟩ := nat_12 h1.1 h1.2
 obtain ⟨ml, mt⟩ := merges_r _ h3
 rw [hn, hhd, heads_is n hd n48 h12] at h10
 obtain ⟨c, hc, c4, c24, t1, t2⟩ := turns_r _ _ _ _ h10
 rw [vocab_is x ml, decide_eq_true_eq] at h4
 rw [vocab_is x ml, hn] at h9
 rw [hn] at h6 h7 h8
 rw [Bool.and_eq_true, decide_eq_true_eq, decide_eq_true_eq] at h5
 clear h h0 h1 h3 h10
 exact ⟨n, hd, c, hn, n48, hhd, h12, hc, c4, c24, ml, mt, by omega, fun r hr => rowI_r r n (List.all_eq_true.1 h6 r hr), ⟨by omega, by omega⟩, fun y hy => lay_r y n (List.all_eq_true.1 h7 y hy), gain_r _ _ h8, mat_r _ _ _ h9, t1, t2⟩
def nb (n : Int) : Int := (n + 16) % 16
def packN : List Int → List Int
 | [] => []
 | [a] => [nb a]
 | a :: b :: r => (nb a + 16 * nb b) :: packN r
theorem nib1 : ∀ i : Fin 16, Go.bits .or .u8 0 (shl .u8 (IntKind.u8.wrap (Go.bits .and .i64 ((i.val : Int) - 8) 15)) 0) = nb ((i.val : Int) - 8) := by decide +kernel
theorem nib2 : ∀ i j : Fin 16, Go.bits .or .u8 (nb ((i.val : Int) - 8)) (shl .u8 (IntKind.u8.wrap (Go.bits .and .i64 ((j.val : Int) - 8) 15)) 4) = nb ((i.val : Int) - 8) + 16 * nb ((j.val : Int) - 8) := by decide +kernel
theorem nib_fin (a : Int) (h : -8 ≤ a ∧ a ≤ 7) : ∃ i : Fin 16, a = (i.val : Int) - 8 := ⟨⟨(a + 8).toNat, by omega⟩, by show a = ((a + 8).toNat : Int) - 8; omega⟩
theorem nb_bd (a : Int) : 0 ≤ nb a ∧ nb a ≤ 15 := by unfold nb; omega
theorem packN_len : ∀ l : List Int, (packN l).length = (l.length + 1) / 2
 | [] => rfl
 | [a] => by simp [packN]
 | a :: b :: r => by rw [packN, List.length_cons, packN_len r, List.length_cons, List.length_cons]; omega
theorem drop_at {l : List Int} {n : Nat} {a : Int} {r : List Int} (h : l.drop n = a :: r) : n < l.length ∧ l[n]? = some a ∧ l.drop (n + 1) = r ∧ a ∈ l := by
 have h1 : l[n]? = some a := by
   have := congrArg (fun q => q[0]?) h
   rw [List.getElem?_drop] at this
   simpa using this
 refine ⟨(List.getElem?_eq_some_iff.1 h1).1, h1, ?_, List.mem_of_getElem? h1⟩
 have := congrArg (List.drop 1) h
 rw [List.drop_drop] at this
 simpa using this
theorem getD_at {l : List Int} {n : Nat} {a : Int} (h : l[n]? = some a) : l.getD (n : Int).toNat 0 = a := by
 rw [Int.toNat_natCast, List.getD_eq_getElem?_getD, h]; rfl
theorem tdiv_2 (n : Nat) : Int.tdiv (n : Int) 2 = ((n / 2 : Nat) : Int) := by rw [Int.tdiv_eq_ediv_of_nonneg (by omega)]; omega
theorem tmod_2 (n : Nat) : Int.tmod (n : Int) 2 = ((n % 2 : Nat) : Int) := by rw [Int.tmod_eq_emod_of_nonneg (by omega)]; omega
theorem spec_nb (a : Int) (h : -8 ≤ a ∧ a ≤ 7) : Int.tmod (wrap64 (a + 16)) 16 = nb a := by
 rw [w64 (by omega) (by omega), Int.tmod_eq_emod_of_nonneg (by omega)]; rfl
theorem spec_in8 (a : Int) (h : -8 ≤ a ∧ a ≤ 7) : sI.f a (-8) 7 = some true := by rw [spec_in, decide_eq_true h.1, decide_eq_true h.2]; rfl
theorem rep_set (m : Nat) (xs : List Int) (v : Int) (h : 0 < m) : (xs ++ List.replicate m (0 : Int)).set xs.length v = (xs ++ [v]) ++ List.replicate (m - 1) 0 := by
 obtain ⟨m, rfl⟩ : ∃ q, m = q + 1 := ⟨m - 1, by omega⟩
 rw [List.set_append_right _ _ (by omega), Nat.sub_self, List.replicate_succ, List.set_cons_zero, List.append_assoc]; rfl
theorem impl_pack_from (l : List Int) (hl : l.length ≤ 10000) (hn : nibs l) : ∀ (rest xs : List Int) (j k : Nat), l.drop (2 * j) = rest → 2 * j ≤ l.length → xs.length = j → rest.length < k →
   iPN.l0 l k ((2 * j : Nat) : Int) (xs ++ List.replicate ((rest.length + 1) / 2) 0) = some ((l.length : Int), xs ++ packN rest)
 | [], xs, j, k, hd, hj, hx, hk => by
   obtain ⟨k, rfl⟩ : ∃ m, k = m + 1 := ⟨k - 1, by simp at hk; omega⟩
   have := List.drop_eq_nil_iff.1 hd
   show iPN.b0 l _ k _ _ = _
   unfold iPN.b0
   rw [if_neg (by omega), packN, show ((2 * j : Nat) : Int) = (l.length : Int) by omega]; rfl
 | [a], xs, j, k, hd, hj, hx, hk => by
   obtain ⟨k, rfl⟩ : ∃ m, k = m + 2 := ⟨k - 2, by simp at hk; omega⟩
   obtain ⟨h1, h2, h3, h4⟩ := drop_at hd
   have := List.drop_eq_nil_iff.1 h3
   obtain ⟨i, hi⟩ := nib_fin a (hn a h4)
   have hz : (xs ++ List.replicate 1 (0 : Int)).getD ((j : Nat) : Int).toNat 0 = 0 := getD_at (by rw [List.getElem?_append_right (by omega), hx, Nat.sub_self]; rfl)
   have hs : (xs ++ List.replicate 1 (0 : Int)).set ((j : Nat) : Int).toNat (nb a) = (xs ++ [nb a]) ++ List.replicate (1 - 1) 0 := by rw [Int.toNat_natCast, ← hx]; exact rep_set 1 xs _ (by omega)
   have hb := nib1 i
   rw [← hi] at hb
   have em : (([a] : List Int).length + 1) / 2 = 1 := by rw [List.length_cons, List.length_nil]
   rw [em]
   show iPN.b0 l (iPN.l0 l (k + 1)) (k + 1) _ (xs ++ List.replicate 1 0) = _
   unfold iPN.b0
   rw [if_pos (by omega), if_pos (by omega), tdiv_2, show (2 * j) / 2 = j by omega, w64 (i := ((j : Nat) : Int)) (by omega) (by omega), if_pos (by rw [List.length_append, List.length_replicate]; omega), tmod_2, show (2 * j) % 2 = 0 by omega, wn (show 4 * ((0 : Nat) : Int) = 0 by omega) (by decide) (by decide), if_pos (by decide), hz, getD_at h2, hb, hs, w64 (i := ((2 * j : Nat) : Int) + 1) (by omega) (by omega)]
   show iPN.b0 l (iPN.l0 l k) k _ _ = _
   unfold iPN.b0
   rw [if_neg (by omega), show ((2 * j : Nat) : Int) + 1 = (l.length : Int) by omega, packN, Nat.sub_self, List.replicate_zero, List.append_nil]
 | a :: b :: r, xs, j, k, hd, hj, hx, hk => by
   obtain ⟨k, rfl⟩ : ∃ m, k = m + 2 := ⟨k - 2, by simp at hk; omega⟩
   obtain ⟨h1, h2, h3, h4⟩ := drop_at hd
   obtain ⟨g1, g2, g3, g4⟩ := drop_at h3
   obtain ⟨i, hi⟩ := nib_fin a (hn a h4)
   obtain ⟨i2, hi2⟩ := nib_fin b (hn b g4)
   have hb := nib1 i
   rw [← hi] at hb
   have hb2 := nib2 i i2
   rw [← hi, ← hi2] at hb2
   obtain ⟨m, hm⟩ : ∃ m, m = (r.length + 1) / 2 := ⟨_, rfl⟩
   have em : ((a :: b :: r).length + 1) / 2 = m + 1 := by rw [List.length_cons, List.length_cons]; omega
   have hz : (xs ++ List.replicate (m + 1) (0 : Int)).getD ((j : Nat) : Int).toNat 0 = 0 := getD_at (by rw [List.getElem?_append_right (by omega), hx, Nat.sub_self]; rfl)
   have hs : (xs ++ List.replicate (m + 1) (0 : Int)).set ((j : Nat) : Int).toNat (nb a) = (xs ++ [nb a]) ++ List.replicate m 0 := by rw [Int.toNat_natCast, ← hx]; exact rep_set (m + 1) xs _ (by omega)
   have hz2 : ((xs ++ [nb a]) ++ List.replicate m (0 : Int)).getD ((j : Nat) : Int).toNat 0 = nb a := getD_at (by rw [List.append_assoc, List.getElem?_append_right (by omega), hx, Nat.sub_self]; rfl)
   have hs2 : ((xs ++ [nb a]) ++ List.replicate m (0 : Int)).set ((j : Nat) : Int).toNat (nb a + 16 * nb b) = (xs ++ [nb a + 16 * nb b]) ++ List.replicate m 0 := by
     rw [Int.toNat_natCast, List.append_assoc, List.set_append_right _ _ (by omega), hx, Nat.sub_self, List.append_assoc]; rfl
   have e : ((2 * j : Nat) : Int) + 1 = ((2 * j + 1 : Nat) : Int) := by omega
   have e2 : ((2 * j + 1 : Nat) : Int) + 1 = ((2 * (j + 1) : Nat) : Int) := by omega
   rw [em]
   show iPN.b0 l (iPN.l0 l (k + 1)) (k + 1) _ (xs ++ List.replicate (m + 1) 0) = _
   unfold iPN.b0
   rw [if_pos (by omega), if_pos (by omega), tdiv_2, show (2 * j) / 2 = j by omega, w64 (i := ((j : Nat) : Int)) (by omega) (by omega), if_pos (by rw [List.length_append, List.length_replicate]; omega), tmod_2, show (2 * j) % 2 = 0 by omega, wn (show 4 * ((0 : Nat) : Int) = 0 by omega) (by decide) (by decide), if_pos (by decide), hz, getD_at h2, hb, hs, w64 (i := ((2 * j : Nat) : Int) + 1) (by omega) (by omega), e]
   show iPN.b0 l (iPN.l0 l k) k _ _ = _
   unfold iPN.b0
   rw [if_pos (by omega), if_pos (by omega), tdiv_2, show (2 * j + 1) / 2 = j by omega, w64 (i := ((j : Nat) : Int)) (by omega) (by omega), if_pos (by rw [List.length_append, List.length_append, List.length_replicate, List.length_cons, List.length_nil]; omega), tmod_2, show (2 * j + 1) % 2 = 1 by omega, wn (show 4 * ((1 : Nat) : Int) = 4 by omega) (by decide) (by decide), if_pos (by decide), hz2, getD_at g2, hb2, hs2, w64 (i := ((2 * j + 1 : Nat) : Int) + 1) (by omega) (by omega), e2]
   rw [hm, impl_pack_from l hl hn r (xs ++ [nb a + 16 * nb b]) (j + 1) k (by rw [show 2 * (j + 1) = 2 * j + 1 + 1 by omega]; exact g3) (by omega) (by rw [List.length_append, List.length_cons, List.length_nil]; omega) (by simp at hk; omega), packN, List.append_assoc]
   rfl
theorem impl_nibs_any (l : List Int) (hl : l.length ≤ 2400) (hn : nibs l) (k : Nat) (hk : l.length < k) : slices_ContainsFunc_int_int_83.g k l = some false := by
 have hE : ∀ k, 0 < k → ∀ x ∈ l, impl_PackNibbles_1.g k x = some (!(fun _ => true) x) := fun k _ x hx => by
   have h := hn x hx
   unfold impl_PackNibbles_1.g impl_isNibble.g
   rw [impl_inB, decide_eq_true h.1, decide_eq_true h.2]; rfl
 have h := loopAny0 l (fun _ => true) (0 : Int) (fun k i => sint83.l0 l k i) (fun k x => impl_PackNibbles_1.g k x) 0 (fun k i => rfl) hE (by omega) k (by omega)
 have ha : (l.all fun _ => true) = true := by simp
 have h : slices_ContainsFunc_int_int_83.g k l = some (!(l.all fun _ => true)) := h
 rw [h, ha]; rfl
theorem impl_pack (l : List Int) (hl : l.length ≤ 2400) (hn : nibs l) (k : Nat) (hk : l.length < k) : iPN.g k l = some (strOfNums (packN l), true) := by
 unfold iPN.g
 have e1 : wrap64 ((l.length : Int) + 1) = ((l.length + 1 : Nat) : Int) := by rw [w64 (by omega) (by omega)]; omega
 have h := impl_pack_from l (by omega) hn l [] 0 k rfl (by omega) rfl hk
 rw [List.nil_append, List.nil_append] at h
 have h : iPN.l0 l k 0 (List.replicate ((l.length + 1) / 2) 0) = some ((l.length : Int), packN l) := h
 rw [if_neg (by omega), impl_nibs_any l hl hn k hk, Option.bind_some, if_neg (by decide), e1, tdiv_2, w64 (i := (((l.length + 1) / 2 : Nat) : Int)) (by omega) (by omega), if_pos (by omega), Int.toNat_natCast, h, Option.bind_some]
theorem spec_pack_from (l : List Int) (hl : l.length ≤ 10000) (hn : nibs l) : ∀ (rest xs : List Int) (j k : Nat), l.drop (2 * j) = rest → 2 * j ≤ l.length → xs.length = j → rest.length < k → (sPN.l0 l k xs ((2 * j : Nat) : Int)).bind (fun o => match o with | .inl r_ => some r_ | .inr ⟨xs, _⟩ => some (strOfNums xs, true)) = some (strOfNums (xs ++ packN rest), true)
 | [], xs, j, k, hd, hj, hx, hk => by
   obtain ⟨k, rfl⟩ : ∃ m, k = m + 1 := ⟨k - 1, by simp at hk; omega⟩
   have := List.drop_eq_nil_iff.1 hd
   show (sPN.b0 l _ k xs _).bind _ = _
   unfold sPN.b0
   rw [if_neg (by omega), packN, List.append_nil]; rfl
 | [a], xs, j, k, hd, hj, hx, hk => by
   obtain ⟨k, rfl⟩ : ∃ m, k = m + 2 := ⟨k - 2, by simp at hk; omega⟩
   obtain ⟨h1, h2, h3, h4⟩ := drop_at hd
   have := List.drop_eq_nil_iff.1 h3
   have ha := hn a h4
   have hb := nb_bd a
   have hu : IntKind.u8.wrap (nb a) = nb a := by rw [show IntKind.u8.wrap (nb a) = nb a % 256 from b8_mod _]; omega
   show (sPN.b0 l (sPN.l0 l (k + 1)) (k + 1) xs _).bind _ = _
   unfold sPN.b0
   rw [if_pos (by omega), if_pos (by omega), getD_at h2, spec_in8 a ha, Option.bind_some, if_pos rfl, tmod_2, if_pos (by omega), if_pos (by omega), spec_nb a ha, hu, Option.bind_some]
   show (sPN.l0 l (k + 1) (xs ++ [nb a]) (wrap64 (((2 * j : Nat) : Int) + 1))).bind _ = _
   rw [w64 (by omega) (by omega)]
   show (sPN.b0 l _ k _ _).bind _ = _
   unfold sPN.b0
   rw [if_neg (by omega)]; rfl
 | a :: b :: r, xs, j, k, hd, hj, hx, hk => by
   obtain ⟨k, rfl⟩ : ∃ m, k = m + 2 := ⟨k - 2, by simp at hk; omega⟩
   obtain ⟨h1, h2, h3, h4⟩ := drop_at hd
   obtain ⟨g1, g2, g3, g4⟩ := drop_at h3
   have ha := hn a h4
   have hb := hn b g4
   have ba := nb_bd a
   have bb := nb_bd b
   have u : ∀ n : Int, 0 ≤ n → n ≤ 255 → IntKind.u8.wrap n = n := fun n _ _ => by rw [show IntKind.u8.wrap n = n % 256 from b8_mod _]; omega
   have hr : (xs ++ [nb a]).getD ((j : Nat) : Int).toNat 0 = nb a := getD_at (by rw [List.getElem?_append_right (by omega), hx, Nat.sub_self]; rfl)
   have e : ((2 * j : Nat) : Int) + 1 = ((2 * j + 1 : Nat) : Int) := by omega
   have e2 : ((2 * j + 1 : Nat) : Int) + 1 = ((2 * (j + 1) : Nat) : Int) := by omega
   have es : (xs ++ [nb a]).set j (nb a + 16 * nb b) = xs ++ [nb a + 16 * nb b] := by rw [List.set_append_right _ _ (by omega), hx, Nat.sub_self]; rfl
   show (sPN.b0 l (sPN.l0 l (k + 1)) (k + 1) xs _).bind _ = _
   unfold sPN.b0
   rw [if_pos (by omega), if_pos (by omega), getD_at h2, spec_in8 a ha, Option.bind_some, if_pos rfl, tmod_2, if_pos (by omega), if_pos (by omega), spec_nb a ha, u (nb a) (by omega) (by omega), Option.bind_some]
   show (sPN.l0 l (k + 1) (xs ++ [nb a]) (wrap64 (((2 * j : Nat) : Int) + 1))).bind _ = _
   rw [w64 (i := ((2 * j : Nat) : Int) + 1) (by omega) (by omega), e]
   show (sPN.b0 l (sPN.l0 l k) k _ _).bind _ = _
   unfold sPN.b0
   rw [if_pos (by omega), if_pos (by omega), getD_at g2, spec_in8 b hb, Option.bind_some, if_pos rfl, tmod_2, if_neg (by omega), tdiv_2, show (2 * j + 1) / 2 = j by omega, w64 (i := ((j : Nat) : Int)) (by omega) (by omega), if_pos (by rw [List.length_append, List.length_cons, List.length_nil]; omega), hr, spec_nb b hb,
     w64 (i := 16 * nb b) (by omega) (by omega), u (16 * nb b) (by omega) (by omega), u (nb a + 16 * nb b) (by omega) (by omega), Int.toNat_natCast, es, Option.bind_some]
   show (sPN.l0 l k (xs ++ [nb a + 16 * nb b]) (wrap64 (((2 * j + 1 : Nat) : Int) + 1))).bind _ = _
   rw [w64 (i := ((2 * j + 1 : Nat) : Int) + 1) (by omega) (by omega), e2,
     spec_pack_from l hl hn r (xs ++ [nb a + 16 * nb b]) (j + 1) k (by rw [show 2 * (j + 1) = 2 * j + 1 + 1 by omega]; exact g3) (by omega) (by rw [List.length_append, List.length_cons, List.length_nil]; omega) (by simp at hk; omega), packN, List.append_assoc]
   rfl
theorem spec_pack (l : List Int) (hl : l.length ≤ 2400) (hn : nibs l) (k : Nat) (hk : l.length < k) : sPN.g k l = some (strOfNums (packN l), true) := by
 unfold sPN.g
 rw [if_neg (by omega)]
 have := spec_pack_from l (by omega) hn l [] 0 k rfl (by omega) rfl hk
 rw [List.nil_append] at this
 exact this
def byteL (l : List Int) : Prop := ∀ z ∈ l, 0 ≤ z ∧ z ≤ 255
theorem bytesOf_nums (l : List Int) (h : byteL l) : bytesOf (strOfNums l) = l := by
 unfold bytesOf strOfNums
 rw [List.map_map]
 have : ∀ z ∈ l, ((fun b : UInt8 => (b.toNat : Int)) ∘ fun n : Int => UInt8.ofNat n.toNat) z = z := fun z hz => by
   have := h z hz
   show ((UInt8.ofNat z.toNat).toNat : Int) = z
   rw [UInt8.toNat_ofNat']
   omega
 rw [List.map_congr_left this, List.map_id'']
 exact fun _ => rfl
theorem strOfNums_size (l : List Int) : (strOfNums l).size = l.length := by
 show ((l.map _).toArray).size = _
 simp
theorem packN_bytes (l : List Int) (h : nibs l) : byteL (packN l) := by
 induction l using packN.induct with
 | case1 => intro z hz; cases hz
 | case2 a => intro z hz; rw [packN, List.mem_singleton] at hz; have := nb_bd a; omega
 | case3 a b r ih =>
   intro z hz
   rw [packN] at hz
   rcases List.mem_cons.1 hz with hz | hz
   · have := nb_bd a; have := nb_bd b; omega
   · exact ih (fun y hy => h y (List.mem_cons_of_mem _ (List.mem_cons_of_mem _ hy))) z hz
def matT (m : S29) : List Int := packN m.f1.flatten ++ ((m.f2.map (byts 0)).flatten ++ (three m.f3 ++ byts 0 [m.f4]))
section
variable {m : S29} {w r : Nat}
theorem MatR.flat (h : MatR m w r) : m.f1.flatten.length = r * w ∧ nibs m.f1.flatten := by
 refine ⟨?_, fun z hz => ?_⟩
 · have := flat_len m.f1 id w (fun l hl => (h.row l hl).1)
   rw [List.map_id, h.rws] at this
   exact this
 · obtain ⟨l, hl, hz⟩ := List.mem_flatten.1 hz
   exact (h.row l hl).2 z hz
theorem MatR.rw (h : MatR m w r) : r * w ≤ 2400 ∧ r * (w / 4) ≤ 600 := by
 have := h.le
 rcases h.w48 with e | e <;> subst e <;> constructor <;> omega
theorem MatR.scs (h : MatR m w r) : ((m.f2.map (byts 0)).flatten).length = r * (w / 4) := by
 rw [flat_len m.f2 (byts 0) (w / 4) (fun l hl => by rw [byts_len]; exact (h.sc l hl).1), h.scls]
theorem MatR.len (h : MatR m w r) : (matT m).length = (r * w + 1) / 2 + r * (w / 4) + 4 := by
 unfold matT three
 rw [List.length_append, List.length_append, List.length_append, packN_len, h.flat.1, h.scs, byts_len]
 simp only [List.length_cons, List.length_nil]
 omega
theorem impl_mat_rows (h : MatR m w r) (k : Nat) (hk : 310 < k) : imatri1.l1 m k [] 0 = some (m.f1.flatten, (m.f1.length : Int)) := by
 have hf := h.flat.1
 have hb := h.rw
 have hl := h.le
 have g := loopCat0 m.f1 id (fun k i xs => imatri1.l1 m k xs (i : Int)) (fun xs => some (xs, (m.f1.length : Int))) 0 120000
   (fun k i hi xs _ hM => by
     show imatri1.b1 m (imatri1.l1 m k) k xs (i : Int) = _
     unfold imatri1.b1
     have hm : xs.length + (m.f1[i]).length ≤ 120000 := hM
     have := h.rws
     rw [if_pos (by omega), if_pos (by omega), getD_int m.f1 _ i hi, if_pos (by omega), w64 (i := (i : Int) + 1) (by omega) (by omega), show ((i : Int) + 1) = ((i + 1 : Nat) : Int) by omega]; rfl)
   (fun k xs => by
     show imatri1.b1 m (imatri1.l1 m k) k xs (m.f1.length : Int) = _
     unfold imatri1.b1
     rw [if_neg (by omega)]) k [] (by have := h.rws; omega) (by rw [List.map_id, hf, List.length_nil]; omega)
 rw [List.map_id, List.nil_append] at g
 exact g
theorem impl_mat_scales (h : MatR m w r) (xs : List Int) (hx : xs.length ≤ 90000) (k : Nat) (hk : 1000 < k) : imatri1.l0 m k 0 xs = some ((m.f2.length : Int), xs ++ (m.f2.map (byts 0)).flatten) := by
 have hf := h.scs
 have hb := h.rw
 have hl := h.le
 have hs := h.scls
 exact loopCat0 m.f2 (byts 0) (fun k i xs => imatri1.l0 m k (i : Int) xs) (fun xs => some ((m.f2.length : Int), xs)) 20 95000
   (fun k i hi xs hk hM => by
     show imatri1.b0 m (imatri1.l0 m k) k (i : Int) xs = _
     unfold imatri1.b0
     have h1 := (h.sc _ (List.getElem_mem hi)).1
     have h2 : w / 4 ≤ 2 := by rcases h.w48 with e | e <;> omega
     rw [if_pos (by omega), if_pos (by omega), getD_int m.f2 _ i hi, put_all k xs 0 _ (by omega) (by omega) (by omega), Option.bind_some, w64 (i := (i : Int) + 1) (by omega) (by omega), show ((i : Int) + 1) = ((i + 1 : Nat) : Int) by omega])
   (fun k xs => by
     show imatri1.b0 m (imatri1.l0 m k) k (m.f2.length : Int) xs = _
     unfold imatri1.b0
     rw [if_neg (by omega)]) k xs (by omega) (by rw [hf]; omega)
theorem impl_matT (h : MatR m w r) (xs : List Int) (hx : xs.length ≤ 20000) (k : Nat) (hk : 3000 < k) : imatri1.g k ⟨xs⟩ m = some ⟨xs ++ matT m⟩ := by
 have hf := h.flat
 have hb := h.rw
 have hl := h.len
 have hp := packN_len m.f1.flatten
 have hs := h.scs
 unfold imatri1.g
 rw [impl_mat_rows h k (by omega), Option.bind_some, impl_pack _ (by omega) hf.2 k (by omega), Option.bind_some, if_pos (by rw [strOfNums_size]; dsimp only; omega), bytesOf_nums _ (packN_bytes _ hf.2), impl_mat_scales h _ (by rw [List.length_append]; dsimp only; omega) k (by omega), Option.bind_some,
   wide_three k _ _ (by simp only [List.length_append]; omega) (by omega), Option.bind_some, put_all k _ 0 [m.f4] (by simp) (by simp only [List.length_append, three, List.length_cons, List.length_nil]; omega) (by simp; omega), Option.bind_some]
 unfold matT
 simp only [List.append_assoc]
theorem spec_mat_from2 (h : MatR m w r) (d : Nat) : ∀ (k i : Nat), i + d = m.f1.length → d + 30 < k → sM1.l0 m k ((m.f1.take i).flatten) (((m.f2.take i).map (byts 0)).flatten) (i : Int) = some (m.f1.flatten, (m.f2.map (byts 0)).flatten, (m.f1.length : Int)) := by
 have hr := h.rws
 have hs := h.scls
 have hl := h.le
 have hb := h.rw
 induction d with
 | zero =>
   intro k i hi hk
   obtain ⟨k, rfl⟩ := k1_ hk
   show sM1.b0 m (sM1.l0 m k) k _ _ (i : Int) = _
   unfold sM1.b0
   rw [if_neg (by omega), List.take_of_length_le (by omega), List.take_of_length_le (by omega), show (i : Int) = (m.f1.length : Int) by omega]
 | succ d ih =>
   intro k i hi hk
   obtain ⟨k, rfl⟩ := k1_ hk
   have i1 : i < m.f1.length := by omega
   have i2 : i < m.f2.length := by omega
   have h1 := (h.row _ (List.getElem_mem i1)).1
   have h2 := (h.sc _ (List.getElem_mem i2)).1
   have h3 : w ≤ 8 ∧ w / 4 ≤ 2 := by rcases h.w48 with e | e <;> omega
   have f1 : ((m.f1.take i).flatten).length ≤ 2400 := by
     have := flat_le (m.f1.take i) id w (fun l hl => by have := (h.row l (List.mem_of_mem_take hl)).1; show l.length ≤ w; omega)
     rw [List.map_id, List.length_take] at this
     have g : min i m.f1.length * w ≤ r * w := Nat.mul_le_mul_right _ (by omega)
     omega
   have f2 : (((m.f2.take i).map (byts 0)).flatten).length ≤ 600 := by
     have := flat_le (m.f2.take i) (byts 0) (w / 4) (fun l hl => by rw [byts_len]; have := (h.sc l (List.mem_of_mem_take hl)).1; omega)
     rw [List.length_take] at this
     have g : min i m.f2.length * (w / 4) ≤ r * (w / 4) := Nat.mul_le_mul_right _ (by omega)
     omega
   show sM1.b0 m (sM1.l0 m k) k _ _ (i : Int) = _
   unfold sM1.b0
   rw [if_pos (by omega), if_pos (by omega), getD_int m.f1 _ i i1, if_pos (by omega), if_pos (by omega), getD_int m.f2 _ i i2, spec_bytes k 0 _ (by omega) (by omega), Option.bind_some, if_pos (by rw [byts_len]; omega), w64 (i := (i : Int) + 1) (by omega) (by omega), show ((i : Int) + 1) = ((i + 1 : Nat) : Int) by omega]
   have e1 : (m.f1.take i).flatten ++ m.f1[i] = (m.f1.take (i + 1)).flatten := by rw [List.take_succ_eq_append_getElem i1, List.flatten_append]; simp
   have e2 : ((m.f2.take i).map (byts 0)).flatten ++ byts 0 m.f2[i] = ((m.f2.take (i + 1)).map (byts 0)).flatten := by rw [List.take_succ_eq_append_getElem i2, List.map_append, List.flatten_append]; simp
   rw [e1, e2]
   exact ih k (i + 1) (by omega) (by omega)
theorem spec_tail4 (h : MatR m w r) : [IntKind.u8.wrap (wrap64 (Int.tdiv m.f3 65536)), IntKind.u8.wrap (Int.tmod (wrap64 (Int.tdiv m.f3 256)) 256), IntKind.u8.wrap (Int.tmod m.f3 256), IntKind.u8.wrap m.f4] = three m.f3 ++ byts 0 [m.f4] := by
 obtain ⟨h1, h2⟩ := h.mul
 obtain ⟨h3, h4⟩ := h.sh
 have e1 : Int.tdiv m.f3 65536 = m.f3 / 65536 := Int.tdiv_eq_ediv_of_nonneg h1
 have e2 : Int.tdiv m.f3 256 = m.f3 / 256 := Int.tdiv_eq_ediv_of_nonneg h1
 have e3 : Int.tmod m.f3 256 = m.f3 % 256 := Int.tmod_eq_emod_of_nonneg h1
 have e4 : Int.tmod (m.f3 / 256) 256 = m.f3 / 256 % 256 := Int.tmod_eq_emod_of_nonneg (by omega)
 unfold three byts
 rw [e1, e2, e3, w64 (by omega) (by omega), w64 (by omega) (by omega), e4]
 simp only [List.map_cons, List.map_nil, List.cons_append, List.nil_append]
 rw [w64 (by omega) (by omega)]
 have q : ∀ z : Int, IntKind.u8.wrap z = z % 256 := b8_mod
 simp only [b8, q]
 rw [Int.emod_emod_of_dvd _ (by decide), Int.emod_emod_of_dvd _ (by decide), Int.add_zero]
theorem spec_matT (h : MatR m w r) (k : Nat) (hk : 3000 < k) : sM1.g k m = some (matT m) := by
 have hf := h.flat
 have hb := h.rw
 have hp := packN_len m.f1.flatten
 have hs := h.scs
 have hr := h.rws
 have hle := h.le
 have e0 := spec_mat_from2 h m.f1.length k 0 (by omega) (by omega)
 have e0 : sM1.l0 m k [] [] 0 = _ := e0
 unfold sM1.g
 rw [e0, Option.bind_some, spec_pack _ (by omega) hf.2 k (by omega), Option.bind_some, if_pos (by rw [strOfNums_size]; omega), bytesOf_nums _ (packN_bytes _ hf.2), if_pos (by dsimp only; omega), if_pos (by rw [List.length_append]; dsimp only; omega), spec_tail4 h]
 unfold matT
 simp only [List.append_assoc]
end
def turT (l : List (List Int)) : List Int := (l.map fun r => (r.map fun n => two (n + 128)).flatten).flatten
theorem two_len (n : Int) : (two n).length = 2 := rfl
theorem row_two (r : List Int) : ((r.map fun n => two (n + 128)).flatten).length = r.length * 2 := flat_len r _ 2 (fun _ _ => rfl)
theorem turT_len (l : List (List Int)) (c p : Nat) (h : turR l c p) : (turT l).length = c * (p * 2) := by
 unfold turT
 rw [flat_len l _ (p * 2) (fun r hr => by rw [row_two, (h.2.2.2 r hr).1]), h.1]
theorem impl_turT (l : List (List Int)) (c p : Nat) (h : turR l c p) (xs : List Int) (hx : xs.length ≤ 20000) (k : Nat) (hk : 100 < k) : iturns.g k ⟨xs⟩ l = some ⟨xs ++ turT l⟩ := by
 obtain ⟨h1, h2, h3, h4⟩ := h
 have ht := turT_len l c p ⟨h1, h2, h3, h4⟩
 have hcp : c * (p * 2) ≤ 24 * 8 := Nat.mul_le_mul h2 (by omega)
 unfold iturns.g
 have g := loopCat0 l (fun r => (r.map fun n => two (n + 128)).flatten) (fun k i xs => iturns.l0 l k (i : Int) xs) (fun xs => some ((l.length : Int), xs)) 20 30000
   (fun k i hi xs hk hM => by
     obtain ⟨hp, hz⟩ := h4 _ (List.getElem_mem hi)
     show iturns.b0 l (iturns.l0 l k) k (i : Int) xs = _
     unfold iturns.b0
     rw [if_pos (by omega), if_pos (by omega)]
     have q := loopCat0 l[i] (fun n => two (n + 128)) (fun k j xs => iturns.l1 l (i : Int) k (j : Int) xs) (fun xs => some ((l[i].length : Int), xs)) 5 40000
       (fun k j hj xs hk hM => by
         have := hz _ (List.getElem_mem hj)
         show iturns.b1 l (i : Int) (iturns.l1 l (i : Int) k) k (j : Int) xs = _
         unfold iturns.b1
         have hM : xs.length + 2 ≤ 40000 := hM
         rw [getD_int l _ i hi, if_pos (by omega), if_pos (by omega), getD_int l[i] _ j hj, w64 (i := l[i][j] + 128) (by omega) (by omega), wide_two k xs _ (by omega) (by omega), Option.bind_some, w64 (i := (j : Int) + 1) (by omega) (by omega), show ((j : Int) + 1) = ((j + 1 : Nat) : Int) by omega])
       (fun k xs => by
         show iturns.b1 l (i : Int) (iturns.l1 l (i : Int) k) k (l[i].length : Int) xs = _
         unfold iturns.b1
         rw [getD_int l _ i hi, if_neg (by omega)]) k xs (by omega) (by rw [row_two, hp]; omega)
     have q : iturns.l1 l (i : Int) k 0 xs = _ := q
     rw [q, Option.bind_some, w64 (i := (i : Int) + 1) (by omega) (by omega), show ((i : Int) + 1) = ((i + 1 : Nat) : Int) by omega])
   (fun k xs => by
     show iturns.b0 l (iturns.l0 l k) k (l.length : Int) xs = _
     unfold iturns.b0
     rw [if_neg (by omega)]) k xs (by omega) (by show xs.length + (turT l).length ≤ 30000; omega)
 have g : iturns.l0 l k 0 xs = _ := g
 rw [g, Option.bind_some]; rfl
theorem spec_turT (l : List (List Int)) (c p : Nat) (h : turR l c p) (k : Nat) (hk : 100 < k) : sT.g k l = some (turT l) := by
 obtain ⟨h1, h2, h3, h4⟩ := h
 have ht := turT_len l c p ⟨h1, h2, h3, h4⟩
 have hcp : c * (p * 2) ≤ 24 * 8 := Nat.mul_le_mul h2 (by omega)
 unfold sT.g
 have g := loopCat0 l (fun r => (r.map fun n => two (n + 128)).flatten) (fun k i xs => sT.l0 l k xs (i : Int)) (fun xs => some (xs, (l.length : Int))) 20 30000
   (fun k i hi xs hk hM => by
     obtain ⟨hp, hz⟩ := h4 _ (List.getElem_mem hi)
     show sT.b0 l (sT.l0 l k) k xs (i : Int) = _
     unfold sT.b0
     rw [if_pos (by omega)]
     have q := loopCat0 l[i] (fun n => two (n + 128)) (fun k j xs => sT.l1 l (i : Int) k xs (j : Int)) (fun xs => some (xs, (l[i].length : Int))) 5 40000
       (fun k j hj xs hk hM => by
         have := hz _ (List.getElem_mem hj)
         show sT.b1 l (i : Int) (sT.l1 l (i : Int) k) k xs (j : Int) = _
         unfold sT.b1
         have hM : xs.length + 2 ≤ 40000 := hM
         rw [if_pos (by omega), getD_int l _ i hi, if_pos (by omega), if_pos (by omega), getD_int l[i] _ j hj, w64 (i := l[i][j] + 128) (by omega) (by omega), spec_two2 k _ (by omega) (by omega), Option.bind_some, two_len, if_pos (by omega), w64 (i := (j : Int) + 1) (by omega) (by omega), show ((j : Int) + 1) = ((j + 1 : Nat) : Int) by omega])
       (fun k xs => by
         show sT.b1 l (i : Int) (sT.l1 l (i : Int) k) k xs (l[i].length : Int) = _
         unfold sT.b1
         rw [if_pos (by omega), getD_int l _ i hi, if_neg (by omega)]) k xs (by omega) (by rw [row_two, hp]; omega)
     have q : sT.l1 l (i : Int) k xs 0 = _ := q
     rw [q, Option.bind_some, w64 (i := (i : Int) + 1) (by omega) (by omega), show ((i : Int) + 1) = ((i + 1 : Nat) : Int) by omega])
   (fun k xs => by
     show sT.b0 l (sT.l0 l k) k xs (l.length : Int) = _
     unfold sT.b0
     rw [if_neg (by omega)]) k [] (by omega) (by show 0 + (turT l).length ≤ 30000; omega)
 have g : sT.l0 l k [] 0 = _ := g
 rw [g, Option.bind_some, List.nil_append]; rfl
def c1 (s : Nat) : Nat := if s % 2 = 1 then (s / 2) ^^^ 3558460437 else s / 2
def c8 : Nat → Nat → Nat
 | 0, s => s
 | n + 1, s => c8 n (c1 s)
def cB (s b : Nat) : Nat := c8 8 (s ^^^ b)
def natsOf (t : ByteArray) : List Nat := t.data.toList.map (·.toNat)
def crc (t : ByteArray) : Nat := (natsOf t).foldl cB 4294967295
theorem u32_wrap (a : Nat) (h : a < 4294967296) : IntKind.u32.wrap (a : Int) = (a : Int) := by
 have : IntKind.u32.wrap (a : Int) = (a : Int) % 4294967296 := by simp [IntKind.wrap, IntKind.signed, IntKind.bits]
 rw [this]; omega
theorem bits_xor (a b : Nat) (ha : a < 4294967296) (hb : b < 4294967296) : Go.bits .xor .u32 (a : Int) (b : Int) = ((a ^^^ b : Nat) : Int) := by
 have e : (BitVec.ofInt IntKind.u32.bits (a : Int) ^^^ BitVec.ofInt IntKind.u32.bits (b : Int)).toNat = a ^^^ b := by
   rw [BitVec.toNat_xor, BitVec.ofInt_natCast, BitVec.ofInt_natCast, BitVec.toNat_ofNat, BitVec.toNat_ofNat, Nat.mod_eq_of_lt (by exact ha), Nat.mod_eq_of_lt (by exact hb)]
 show IntKind.u32.wrap ((BitVec.ofInt IntKind.u32.bits (a : Int) ^^^ BitVec.ofInt IntKind.u32.bits (b : Int)).toNat : Int) = _
 rw [e]
 exact u32_wrap _ (Nat.xor_lt_two_pow (n := 32) ha hb)
theorem bits_and1 (a : Nat) (ha : a < 4294967296) : Go.bits .and .u32 (a : Int) 1 = ((a % 2 : Nat) : Int) := by
 have e : (BitVec.ofInt IntKind.u32.bits (a : Int) &&& BitVec.ofInt IntKind.u32.bits (1 : Int)).toNat = a % 2 := by
   rw [BitVec.toNat_and, BitVec.ofInt_natCast, show (1 : Int) = ((1 : Nat) : Int) from rfl, BitVec.ofInt_natCast, BitVec.toNat_ofNat, BitVec.toNat_ofNat, Nat.mod_eq_of_lt (by exact ha), Nat.mod_eq_of_lt (by decide), Nat.and_one_is_mod]
 show IntKind.u32.wrap ((BitVec.ofInt IntKind.u32.bits (a : Int) &&& BitVec.ofInt IntKind.u32.bits (1 : Int)).toNat : Int) = _
 rw [e]
 exact u32_wrap _ (by omega)
theorem c1_lt (s : Nat) (h : s < 4294967296) : c1 s < 4294967296 := by
 unfold c1
 split
 · exact Nat.xor_lt_two_pow (n := 32) (by omega) (by decide)
 · omega
theorem c8_lt : ∀ (n s : Nat), s < 4294967296 → c8 n s < 4294967296
 | 0, s, h => h
 | n + 1, s, h => c8_lt n _ (c1_lt s h)
theorem cB_lt (s b : Nat) (h : s < 4294967296) (hb : b < 256) : cB s b < 4294967296 := c8_lt 8 _ (Nat.xor_lt_two_pow (n := 32) h (by omega))
theorem nats_len (t : ByteArray) : (natsOf t).length = t.size := by rw [natsOf, List.length_map, data_length]
theorem nats_lt (t : ByteArray) : ∀ z ∈ natsOf t, z < 256 := fun z hz => by
 obtain ⟨b, _, rfl⟩ := List.mem_map.1 hz
 exact b.toNat_lt
theorem bt_nat (t : ByteArray) (i : Nat) (h : i < (natsOf t).length) : bt t (i : Int) = (((natsOf t)[i] : Nat) : Int) := by
 have hi : i < t.size := by rwa [nats_len] at h
 have := bt_at t (i : Int) (by simpa using hi)
 rw [← this]
 simp [natsOf]; rfl
theorem crc_lt (t : ByteArray) : crc t < 4294967296 := by
 unfold crc
 have : ∀ (l : List Nat) (s : Nat), (∀ z ∈ l, z < 256) → s < 4294967296 → l.foldl cB s < 4294967296 := fun l => by
   induction l with
   | nil => intro s _ h; exact h
   | cons x l ih => intro s hx h; exact ih _ (fun z hz => hx z (List.mem_cons_of_mem _ hz)) (cB_lt s x h (hx x (List.mem_cons_self ..)))
 exact this _ _ (nats_lt t) (by decide)
theorem impl_sum8 (t : ByteArray) (n i : Int) (d : Nat) : ∀ (j k s : Nat), j + d = 8 → s < 4294967296 → iSM.l1 (k + d + 1) (s : Int) t n i (j : Int) = iSM.l0 k ((c8 d s : Nat) : Int) t n (wrap64 (i + 1)) := by
 induction d with
 | zero =>
   intro j k s hj hs
   rw [Nat.add_zero, iSM.l1, if_neg (by omega)]; rfl
 | succ d ih =>
   intro j k s hj hs
   rw [show k + (d + 1) + 1 = (k + d + 1) + 1 by omega, iSM.l1, if_pos (by omega), bits_and1 s hs, w64 (i := (j : Int) + 1) (by omega) (by omega), show ((j : Int) + 1) = ((j + 1 : Nat) : Int) by omega, show ((s : Int) / 2) = ((s / 2 : Nat) : Int) by omega, c8]
   by_cases c : s % 2 = 1
   · rw [if_pos (by omega), show (3558460437 : Int) = ((3558460437 : Nat) : Int) from rfl, bits_xor _ _ (by omega) (by decide), ih (j + 1) k _ (by omega) (Nat.xor_lt_two_pow (n := 32) (by omega) (by decide))]
     unfold c1; rw [if_pos c]
   · rw [if_neg (by omega), ih (j + 1) k _ (by omega) (by omega)]
     unfold c1; rw [if_neg c]
theorem spec_sum8 (t : ByteArray) (i : Int) (d : Nat) : ∀ (j k s : Nat), j + d = 8 → s < 4294967296 → sSM.l1 (k + d + 1) (s : Int) t i (j : Int) = sSM.l0 k ((c8 d s : Nat) : Int) t (wrap64 (i + 1)) := by
 induction d with
 | zero =>
   intro j k s hj hs
   rw [Nat.add_zero, sSM.l1, if_neg (by omega)]; rfl
 | succ d ih =>
   intro j k s hj hs
   have e1 : Int.tmod (s : Int) 2 = ((s % 2 : Nat) : Int) := by rw [Int.tmod_eq_emod_of_nonneg (by omega)]; omega
   have e2 : Int.tdiv (s : Int) 2 % 4294967296 = ((s / 2 : Nat) : Int) := by rw [Int.tdiv_eq_ediv_of_nonneg (by omega)]; omega
   rw [show k + (d + 1) + 1 = (k + d + 1) + 1 by omega, sSM.l1, if_pos (by omega), e1, e2, w64 (i := (j : Int) + 1) (by omega) (by omega), show ((j : Int) + 1) = ((j + 1 : Nat) : Int) by omega, c8]
   by_cases c : s % 2 = 1
   · rw [if_pos (by omega), show (3558460437 : Int) = ((3558460437 : Nat) : Int) from rfl, bits_xor _ _ (by omega) (by decide), ih (j + 1) k _ (by omega) (Nat.xor_lt_two_pow (n := 32) (by omega) (by decide))]
     unfold c1; rw [if_pos c]
   · rw [if_neg (by omega), ih (j + 1) k _ (by omega) (by omega)]
     unfold c1; rw [if_neg c]
theorem impl_sum_from (t : ByteArray) (ht : t.size ≤ 1000000000000) (d : Nat) : ∀ (k i s : Nat), i + d = (natsOf t).length → 10 * d < k → s < 4294967296 → iSM.l0 k (s : Int) t (t.size : Int) (i : Int) = some ((((natsOf t).drop i).foldl cB s : Nat) : Int) := by
 have hn := nats_len t
 induction d with
 | zero =>
   intro k i s hi hk hs
   obtain ⟨k, rfl⟩ : ∃ q, k = q + 1 := ⟨k - 1, by omega⟩
   rw [iSM.l0, if_neg (by omega), List.drop_of_length_le (by omega)]; rfl
 | succ d ih =>
   intro k i s hi hk hs
   obtain ⟨k, rfl⟩ : ∃ q, k = q + 10 := ⟨k - 10, by omega⟩
   have hlt : i < (natsOf t).length := by omega
   have hb := nats_lt t _ (List.getElem_mem hlt)
   rw [iSM.l0, if_pos (by omega), if_pos (by omega), if_pos (by omega), bt_nat t i hlt, show (((natsOf t)[i] : Nat) : Int) % 4294967296 = (((natsOf t)[i] : Nat) : Int) by omega, bits_xor s _ hs (by omega)]
   have e := impl_sum8 t (t.size : Int) (i : Int) 8 0 k (s ^^^ (natsOf t)[i]) rfl (Nat.xor_lt_two_pow (n := 32) hs (by omega))
   rw [show k + 9 = k + 8 + 1 by omega, show (0 : Int) = ((0 : Nat) : Int) from rfl, e, w64 (by omega) (by omega), show ((i : Int) + 1) = ((i + 1 : Nat) : Int) by omega, List.drop_eq_getElem_cons hlt, List.foldl_cons]
   exact ih k (i + 1) _ (by omega) (by omega) (cB_lt s _ hs hb)
theorem spec_sum_from (t : ByteArray) (ht : t.size ≤ 1000000000000) (d : Nat) : ∀ (k i s : Nat), i + d = (natsOf t).length → 10 * d < k → s < 4294967296 → sSM.l0 k (s : Int) t (i : Int) = some ((((natsOf t).drop i).foldl cB s : Nat) : Int) := by
 have hn := nats_len t
 induction d with
 | zero =>
   intro k i s hi hk hs
   obtain ⟨k, rfl⟩ : ∃ q, k = q + 1 := ⟨k - 1, by omega⟩
   rw [sSM.l0, if_neg (by omega), List.drop_of_length_le (by omega)]; rfl
 | succ d ih =>
   intro k i s hi hk hs
   obtain ⟨k, rfl⟩ : ∃ q, k = q + 10 := ⟨k - 10, by omega⟩
   have hlt : i < (natsOf t).length := by omega
   have hb := nats_lt t _ (List.getElem_mem hlt)
   rw [sSM.l0, if_pos (by omega), if_pos (by omega), bt_nat t i hlt, show (((natsOf t)[i] : Nat) : Int) % 4294967296 = (((natsOf t)[i] : Nat) : Int) by omega, bits_xor s _ hs (by omega)]
   have e := spec_sum8 t (i : Int) 8 0 k (s ^^^ (natsOf t)[i]) rfl (Nat.xor_lt_two_pow (n := 32) hs (by omega))
   rw [show k + 9 = k + 8 + 1 by omega, show (0 : Int) = ((0 : Nat) : Int) from rfl, e, w64 (by omega) (by omega), show ((i : Int) + 1) = ((i + 1 : Nat) : Int) by omega, List.drop_eq_getElem_cons hlt, List.foldl_cons]
   exact ih k (i + 1) _ (by omega) (by omega) (cB_lt s _ hs hb)
theorem impl_sumOf (t : ByteArray) (ht : t.size ≤ 1000000000000) (k : Nat) (hk : 10 * t.size < k) : impl_SumOf.f k t = some ((crc t : Nat) : Int) := by
 have e := impl_sum_from t ht (natsOf t).length k 0 4294967295 (by omega) (by rw [nats_len]; exact hk) (by decide)
 unfold impl_SumOf.f iSM.f
 rw [show (4294967295 : Int) = ((4294967295 : Nat) : Int) from rfl, show (0 : Int) = ((0 : Nat) : Int) from rfl, e, List.drop_zero]; rfl
theorem spec_sumOf (t : ByteArray) (ht : t.size ≤ 1000000000000) (k : Nat) (hk : 10 * t.size < k) : spec_SumOf.f k t = some ((crc t : Nat) : Int) := by
 have e := spec_sum_from t ht (natsOf t).length k 0 4294967295 (by omega) (by rw [nats_len]; exact hk) (by decide)
 unfold spec_SumOf.f sSM.f
 rw [show (4294967295 : Int) = ((4294967295 : Nat) : Int) from rfl, show (0 : Int) = ((0 : Nat) : Int) from rfl, e, List.drop_zero]; rfl
def four (a : Int) : List Int := [(a / 16777216) % 256, (a / 65536) % 256, (a / 256) % 256, a % 256]
def sealT (t : ByteArray) : ByteArray := t ++ strOfNums (four ((crc t : Nat) : Int))
theorem four_size (a : Int) : (strOfNums (four a)).size = 4 := rfl
theorem impl_sealT (t : ByteArray) (ht : t.size ≤ 12000) (k : Nat) (hk : 120000 < k) : impl_Sealed.f k t = some (sealT t, true) := by
 unfold impl_Sealed.f
 rw [if_neg (by omega), impl_sumOf t (by omega) k (by omega), Option.bind_some]
 show (some (strOfNums (four _))).bind _ = _
 rw [Option.bind_some, if_pos (by rw [four_size]; omega)]; rfl
theorem spec_sealT (t : ByteArray) (ht : t.size ≤ 12000) (k : Nat) (hk : 120000 < k) : spec_Sealed.f k t = some (sealT t, true) := by
 unfold spec_Sealed.f
 rw [if_neg (by omega), spec_sumOf t (by omega) k (by omega), Option.bind_some]
 show (some (strOfNums (four _))).bind _ = _
 rw [Option.bind_some, if_pos (by rw [four_size]; omega)]; rfl
def layT (y : S52) : List Int := byts 0 y.f0 ++ (matT y.f1 ++ (matT y.f2 ++ (matT y.f3 ++ (matT y.f4 ++ (byts 0 y.f5 ++ (matT y.f6 ++ matT y.f7))))))
def headT (x : S33) : List Int := [84, 77, 49] ++ byts 0 [x.f0, x.f1, x.f2, (x.f3.length : Int), (x.f5.length : Int)]
def upsT (x : S33) : List Int := x.f5.map fun y => b8 (wrap64 ((y.f6.f1.length : Int) + 0))
def mrgT (x : S33) : List Int := (x.f3.map fun m => two m.f0 ++ two m.f1).flatten
def embT (x : S33) : List Int := (x.f4.map (byts 128)).flatten
def laysT (x : S33) : List Int := (x.f5.map layT).flatten
def modT (x : S33) : List Int := headT x ++ (upsT x ++ (mrgT x ++ (embT x ++ (laysT x ++ (byts 0 x.f6 ++ (matT x.f7 ++ (turT x.f8.f0 ++ turT x.f8.f1)))))))
def mSz (w r : Nat) : Nat := (r * w + 1) / 2 + r * (w / 4) + 4
def lSz (n u : Nat) : Nat := 2 * n + 4 * mSz n n + mSz n u + mSz u n
section
variable {x : S33} {n hd c : Nat}
theorem layT_len {y : S52} {u : Nat} (h : LayR y n u) : (layT y).length = lSz n u := by
 unfold layT lSz mSz
 simp only [List.length_append, byts_len, h.g1.1, h.g2.1, h.q.len, h.k.len, h.v.len, h.o.len, h.up.len, h.dn.len]
 omega
theorem lSz_le {u : Nat} (hn : n = 4 ∨ n = 8) (hu : u = 4 ∨ u = 8) : lSz n u ≤ 400 := by
 rcases hn with rfl | rfl <;> rcases hu with rfl | rfl <;> decide
theorem headT_len : (headT x).length = 8 := rfl
theorem upsT_len : (upsT x).length = x.f5.length := List.length_map ..
theorem mrgT_len : (mrgT x).length = x.f3.length * 4 := flat_len x.f3 _ 4 (fun _ _ => rfl)
theorem embT_len (h : ModR x n hd c) : (embT x).length = (256 + x.f3.length) * n := by
 unfold embT
 rw [flat_len x.f4 _ n (fun r hr => by rw [byts_len]; exact (h.er r hr).1), h.el]
theorem laysT_len (h : ModR x n hd c) : (laysT x).length = sumS (fun y => lSz n y.f6.f1.length) x.f5 := by
 unfold laysT
 have : ∀ l : List S52, (∀ y ∈ l, LayR y n y.f6.f1.length) → ((l.map layT).flatten).length = sumS (fun y => lSz n y.f6.f1.length) l := fun l => by
   induction l with
   | nil => intro _; rfl
   | cons y l ih => intro hl; rw [List.map_cons, List.flatten_cons, List.length_append, layT_len (hl y (List.mem_cons_self ..)), ih (fun z hz => hl z (List.mem_cons_of_mem _ hz)), sumS_cons]
 exact this _ h.lr
theorem laysT_le (h : ModR x n hd c) : (laysT x).length ≤ 800 := by
 have := flat_le x.f5 layT 400 (fun y hy => by rw [layT_len (h.lr y hy)]; exact lSz_le h.n48 (h.lr y hy).u48)
 have := h.ll
 unfold laysT
 omega
theorem turT_le {l : List (List Int)} {p : Nat} (h : turR l c p) : (turT l).length ≤ 192 := by
 rw [turT_len l c p h]
 have := Nat.mul_le_mul h.2.1 (show p * 2 ≤ 8 by have := h.2.2.1; omega)
 omega
theorem modT_len (h : ModR x n hd c) : (modT x).length = 8 + x.f5.length + x.f3.length * 4 + (256 + x.f3.length) * n + sumS (fun y => lSz n y.f6.f1.length) x.f5 + n + mSz n (256 + x.f3.length) + 2 * (c * (n / hd / 2 * 2)) := by
 unfold modT
 simp only [List.length_append, headT_len, upsT_len, mrgT_len, embT_len h, laysT_len h, byts_len, h.ge.1, h.hm.len, turT_len _ _ _ h.cs, turT_len _ _ _ h.sn]
 unfold mSz
 omega
theorem embT_le (h : ModR x n hd c) : (embT x).length ≤ 2176 := by
 rw [embT_len h]
 have := Nat.mul_le_mul (show 256 + x.f3.length ≤ 272 by have := h.ml; omega) (show n ≤ 8 by have := h.n48; omega)
 omega
theorem headM_le (h : ModR x n hd c) : (matT x.f7).length ≤ 1636 := by
 rw [h.hm.len]
 have h1 := h.ml
 rcases h.n48 with rfl | rfl <;> omega
theorem modT_le (h : ModR x n hd c) : (modT x).length ≤ 5100 := by
 have h1 := embT_le h
 have h2 := headM_le h
 have h3 := laysT_le h
 have h4 := turT_le h.cs
 have h5 := turT_le h.sn
 have h6 := h.ml
 have h7 := h.ll
 have h8 := h.n48
 unfold modT
 simp only [List.length_append, headT_len, upsT_len, mrgT_len, byts_len, h.ge.1]
 omega
theorem impl_ups (h : ModR x n hd c) (xs : List Int) (hx : xs.length ≤ 1000) (k : Nat) (hk : 100 < k) : iMT.l4 x k 0 xs = some ((x.f5.length : Int), xs ++ upsT x) := by
 have hl := h.ll
 have g := loopCat0 x.f5 (fun y => [b8 (wrap64 ((y.f6.f1.length : Int) + 0))]) (fun k i xs => iMT.l4 x k (i : Int) xs) (fun xs => some ((x.f5.length : Int), xs)) 10 2000
   (fun k i hi xs hk hM => by
     show iMT.b4 x (iMT.l4 x k) k (i : Int) xs = _
     unfold iMT.b4
     have hM : xs.length + 1 ≤ 2000 := hM
     rw [if_pos (by omega), if_pos (by omega), getD_int x.f5 _ i hi, put_all k xs 0 _ (by simp) (by omega) (by simp; omega), Option.bind_some, w64 (i := (i : Int) + 1) (by omega) (by omega), show ((i : Int) + 1) = ((i + 1 : Nat) : Int) by omega]; rfl)
   (fun k xs => by
     show iMT.b4 x (iMT.l4 x k) k (x.f5.length : Int) xs = _
     unfold iMT.b4
     rw [if_neg (by omega)]) k xs (by omega) (by rw [flat_one, List.length_map]; omega)
 rw [flat_one] at g
 exact g
theorem impl_mrg (h : ModR x n hd c) (xs : List Int) (hx : xs.length ≤ 1000) (k : Nat) (hk : 100 < k) : iMT.l3 x k 0 xs = some ((x.f3.length : Int), xs ++ mrgT x) := by
 have hl := h.ml
 have hf : (mrgT x).length = _ := mrgT_len
 exact loopCat0 x.f3 (fun m => two m.f0 ++ two m.f1) (fun k i xs => iMT.l3 x k (i : Int) xs) (fun xs => some ((x.f3.length : Int), xs)) 10 2000
   (fun k i hi xs hk hM => by
     show iMT.b3 x (iMT.l3 x k) k (i : Int) xs = _
     unfold iMT.b3
     have hM : xs.length + 4 ≤ 2000 := hM
     rw [if_pos (by omega), if_pos (by omega), getD_int x.f3 _ i hi, wide_two k xs _ (by omega) (by omega), Option.bind_some, wide_two k _ _ (by rw [List.length_append, two_len]; omega) (by omega), Option.bind_some, w64 (i := (i : Int) + 1) (by omega) (by omega), show ((i : Int) + 1) = ((i + 1 : Nat) : Int) by omega, List.append_assoc])
   (fun k xs => by
     show iMT.b3 x (iMT.l3 x k) k (x.f3.length : Int) xs = _
     unfold iMT.b3
     rw [if_neg (by omega)]) k xs (by omega) (by show xs.length + (mrgT x).length ≤ 2000; omega)
theorem impl_emb (h : ModR x n hd c) (xs : List Int) (hx : xs.length ≤ 1000) (k : Nat) (hk : 1000 < k) : iMT.l2 x k 0 xs = some ((x.f4.length : Int), xs ++ embT x) := by
 have hl := h.ml
 have he := h.el
 have hn := h.n48
 have hf := embT_le h
 exact loopCat0 x.f4 (byts 128) (fun k i xs => iMT.l2 x k (i : Int) xs) (fun xs => some ((x.f4.length : Int), xs)) 20 5000
   (fun k i hi xs hk hM => by
     have hr := (h.er _ (List.getElem_mem hi)).1
     show iMT.b2 x (iMT.l2 x k) k (i : Int) xs = _
     unfold iMT.b2
     rw [if_pos (by omega), if_pos (by omega), getD_int x.f4 _ i hi, put_all k xs 128 _ (by omega) (by omega) (by omega), Option.bind_some, w64 (i := (i : Int) + 1) (by omega) (by omega), show ((i : Int) + 1) = ((i + 1 : Nat) : Int) by omega])
   (fun k xs => by
     show iMT.b2 x (iMT.l2 x k) k (x.f4.length : Int) xs = _
     unfold iMT.b2
     rw [if_neg (by omega)]) k xs (by omega) (by show xs.length + (embT x).length ≤ 5000; omega)
theorem impl_four_mats {y : S52} {u : Nat} (i : Nat) (hi : i < x.f5.length) (hy : x.f5[i] = y) (h : LayR y n u) (xs : List Int) (hx : xs.length ≤ 8000) (k : Nat) (hk : 5000 < k) :
   iMT.l1 x (i : Int) k 0 xs = some (4, xs ++ (matT y.f1 ++ (matT y.f2 ++ (matT y.f3 ++ matT y.f4)))) := by
 have hn := h.q.w48
 have b : ∀ m : S29, MatR m n n → (matT m).length ≤ 60 := fun m hm => by
   rw [hm.len]
   rcases hn with rfl | rfl <;> decide
 have b1 := b _ h.q; have b2 := b _ h.k; have b3 := b _ h.v; have b4 := b _ h.o
 have hg : x.f5.getD (i : Int).toNat o52 = y := by rw [getD_int x.f5 _ i hi, hy]
 obtain ⟨k, rfl⟩ : ∃ q, k = q + 5 := ⟨k - 5, by omega⟩
 show iMT.b1 x (i : Int) (iMT.l1 x (i : Int) (k + 4)) (k + 4) 0 xs = _
 unfold iMT.b1
 rw [hg, if_pos (by decide), if_pos (by decide)]
 show ((imatri1.g (k + 4) ⟨xs⟩ y.f1).bind _) = _
 rw [impl_matT h.q xs (by omega) _ (by omega), Option.bind_some, wn (show (0 : Int) + 1 = 1 from rfl) (by decide) (by decide)]
 show iMT.b1 x (i : Int) (iMT.l1 x (i : Int) (k + 3)) (k + 3) 1 (xs ++ matT y.f1) = _
 unfold iMT.b1
 rw [hg, if_pos (by decide), if_pos (by decide)]
 show ((imatri1.g (k + 3) ⟨xs ++ matT y.f1⟩ y.f2).bind _) = _
 rw [impl_matT h.k _ (by rw [List.length_append]; omega) _ (by omega), Option.bind_some, wn (show (1 : Int) + 1 = 2 from rfl) (by decide) (by decide)]
 show iMT.b1 x (i : Int) (iMT.l1 x (i : Int) (k + 2)) (k + 2) 2 (xs ++ matT y.f1 ++ matT y.f2) = _
 unfold iMT.b1
 rw [hg, if_pos (by decide), if_pos (by decide)]
 show ((imatri1.g (k + 2) ⟨xs ++ matT y.f1 ++ matT y.f2⟩ y.f3).bind _) = _
 rw [impl_matT h.v _ (by rw [List.length_append, List.length_append]; omega) _ (by omega), Option.bind_some, wn (show (2 : Int) + 1 = 3 from rfl) (by decide) (by decide)]
 show iMT.b1 x (i : Int) (iMT.l1 x (i : Int) (k + 1)) (k + 1) 3 (xs ++ matT y.f1 ++ matT y.f2 ++ matT y.f3) = _
 unfold iMT.b1
 rw [hg, if_pos (by decide), if_pos (by decide)]
 show ((imatri1.g (k + 1) ⟨xs ++ matT y.f1 ++ matT y.f2 ++ matT y.f3⟩ y.f4).bind _) = _
 rw [impl_matT h.o _ (by rw [List.length_append, List.length_append, List.length_append]; omega) _ (by omega), Option.bind_some, wn (show (3 : Int) + 1 = 4 from rfl) (by decide) (by decide)]
 show iMT.b1 x (i : Int) (iMT.l1 x (i : Int) k) k 4 _ = _
 unfold iMT.b1
 rw [if_neg (by decide)]
 simp only [List.append_assoc]
theorem impl_lays (h : ModR x n hd c) (xs : List Int) (hx : xs.length ≤ 5000) (k : Nat) (hk : 6000 < k) : iMT.l0 x k 0 xs = some ((x.f5.length : Int), xs ++ laysT x) := by
 have hl := h.ll
 have hn := h.n48
 have hf := laysT_le h
 exact loopCat0 x.f5 layT (fun k i xs => iMT.l0 x k (i : Int) xs) (fun xs => some ((x.f5.length : Int), xs)) 5900 6500
   (fun k i hi xs hk hM => by
     have hy := h.lr _ (List.getElem_mem hi)
     obtain ⟨y, ey⟩ : ∃ y, x.f5[i] = y := ⟨_, rfl⟩
     rw [ey] at hy hM
     have hg : x.f5.getD (i : Int).toNat o52 = y := by rw [getD_int x.f5 _ i hi, ey]
     have g1 := hy.g1.1
     have g2 := hy.g2.1
     unfold layT at hM
     simp only [List.length_append, byts_len] at hM
     show iMT.b0 x (iMT.l0 x k) k (i : Int) xs = _
     unfold iMT.b0
     rw [if_pos (by omega), if_pos (by omega), hg, put_all k xs 0 _ (by omega) (by omega) (by omega), Option.bind_some, impl_four_mats i hi ey hy _ (by simp only [List.length_append, byts_len]; omega) k (by omega), Option.bind_some,
       put_all k _ 0 _ (by omega) (by simp only [List.length_append, byts_len]; omega) (by omega), Option.bind_some, impl_matT hy.up _ (by simp only [List.length_append, byts_len]; omega) k (by omega), Option.bind_some, impl_matT hy.dn _ (by simp only [List.length_append, byts_len]; omega) k (by omega), Option.bind_some,
       w64 (i := (i : Int) + 1) (by omega) (by omega), show ((i : Int) + 1) = ((i + 1 : Nat) : Int) by omega, ey]
     congr 1
     unfold layT
     simp only [List.append_assoc])
   (fun k xs => by
     show iMT.b0 x (iMT.l0 x k) k (x.f5.length : Int) xs = _
     unfold iMT.b0
     rw [if_neg (by omega)]) k xs (by omega) (by show xs.length + (laysT x).length ≤ 6500; omega)
end
def fileT (x : S33) : ByteArray := sealT (strOfNums (modT x))
theorem impl_text (x : S33) (hx : iModel x ≤ 1048576) (k : Nat) (hk : 7000000 < k) : iMT.g k x = some (if modelB x = true then (fileT x, true) else (⟨#[]⟩, false)) := by
 unfold iMT.g
 rw [impl_model x hx k (by omega), Option.bind_some]
 by_cases hb : modelB x = true
 · rw [if_pos hb, if_pos hb]
   obtain ⟨n, hd, c, h⟩ := mod_r x hb
   have h1 := embT_le h
   have h2 := headM_le h
   have h3 := laysT_le h
   have h4 := turT_le h.cs
   have h5 := turT_le h.sn
   have h6 := h.ml
   have h7 := h.ll
   have h8 := h.n48
   have h9 := modT_le h
   have g6 := h.ge.1
   have u1 : (upsT x).length = _ := upsT_len
   have u2 : (mrgT x).length = _ := mrgT_len
   rw [put_all k [84, 77, 49] 0 _ (by simp) (by simp) (by simp; omega), Option.bind_some]
   show ((iMT.l4 x k 0 (headT x)).bind _) = _
   rw [impl_ups h _ (by rw [headT_len]; omega) k (by omega), Option.bind_some]
   dsimp only
   rw [impl_mrg h _ (by rw [List.length_append, headT_len]; omega) k (by omega), Option.bind_some]
   dsimp only
   rw [impl_emb h _ (by simp only [List.length_append, headT_len]; omega) k (by omega), Option.bind_some]
   dsimp only
   rw [impl_lays h _ (by simp only [List.length_append, headT_len]; omega) k (by omega), Option.bind_some]
   dsimp only
   rw [put_all k _ 0 _ (by omega) (by simp only [List.length_append, headT_len]; omega) (by omega), Option.bind_some]
   rw [impl_matT h.hm _ (by simp only [List.length_append, headT_len, byts_len]; omega) k (by omega), Option.bind_some]
   rw [impl_turT _ _ _ h.cs _ (by simp only [List.length_append, headT_len, byts_len]; omega) k (by omega), Option.bind_some]
   rw [impl_turT _ _ _ h.sn _ (by simp only [List.length_append, headT_len, byts_len]; omega) k (by omega), Option.bind_some]
   dsimp only
   have e : headT x ++ upsT x ++ mrgT x ++ embT x ++ laysT x ++ byts 0 x.f6 ++ matT x.f7 ++ turT x.f8.f0 ++ turT x.f8.f1 = modT x := by unfold modT; simp only [List.append_assoc]
   rw [e, impl_sealT _ (by rw [strOfNums_size]; omega) k (by omega), Option.bind_some]; rfl
 · rw [if_neg hb, if_neg hb]
def num0 (R : List Int) : Nat → Int
 | 0 => 0
 | m + 1 => num0 R m * 256 + R.getD m 0
def numsL (R : List Int) (m : Nat) (less : Int) (cnt : Nat) : List Int := (List.range cnt).map fun i => num0 (R.drop (i * m)) m - less
def p256 : Nat → Int
 | 0 => 1
 | m + 1 => p256 m * 256
theorem byteL_drop {L : List Int} (h : byteL L) (a : Nat) : byteL (L.drop a) := fun z hz => h z (List.mem_of_mem_drop hz)
theorem byteL_of (t : ByteArray) : byteL (bytesOf t) := fun z hz => by
 obtain ⟨b, _, rfl⟩ := List.mem_map.1 hz
 have := b.toNat_lt
 omega
theorem getD_bd {L : List Int} (h : byteL L) (i : Nat) : 0 ≤ L.getD i 0 ∧ L.getD i 0 ≤ 255 := by
 rw [List.getD_eq_getElem?_getD]
 by_cases hi : i < L.length
 · rw [List.getElem?_eq_getElem hi]; exact h _ (List.getElem_mem hi)
 · rw [List.getElem?_eq_none (by omega)]; decide
theorem num0_bd {R : List Int} (h : byteL R) : ∀ m, 0 ≤ num0 R m ∧ num0 R m < p256 m
 | 0 => by simp only [num0, p256]; omega
 | m + 1 => by
   have := num0_bd h m
   have := getD_bd h m
   simp only [num0, p256]; omega
theorem bits_or64 (a b : Nat) (ha : a < 16777216) (hb : b < 256) : Go.bits .or .i64 ((a * 256 : Nat) : Int) (b : Int) = ((a * 256 + b : Nat) : Int) := by
 have e : (BitVec.ofInt IntKind.i64.bits ((a * 256 : Nat) : Int) ||| BitVec.ofInt IntKind.i64.bits (b : Int)).toNat = a * 256 + b := by
   rw [BitVec.toNat_or, BitVec.ofInt_natCast, BitVec.ofInt_natCast, BitVec.toNat_ofNat, BitVec.toNat_ofNat, Nat.mod_eq_of_lt (by show a * 256 < 18446744073709551616; omega), Nat.mod_eq_of_lt (by show b < 18446744073709551616; omega), Nat.mul_comm]
   exact (Nat.two_pow_add_eq_or_of_lt (i := 8) (by exact hb) a).symm
 show IntKind.i64.wrap ((BitVec.ofInt IntKind.i64.bits ((a * 256 : Nat) : Int) ||| BitVec.ofInt IntKind.i64.bits (b : Int)).toNat : Int) = _
 rw [e]
 show IntKind.wrap .i64 _ = _
 have : ∀ z : Int, IntKind.i64.wrap z = wrap64 z := i64_w
 rw [this, w64 (by omega) (by omega)]
theorem bt_getD (t : ByteArray) (a j : Nat) : bt t ((a + j : Nat) : Int) = ((bytesOf t).drop a).getD j 0 := by
 rw [← rd_bytesOf]
 unfold rd
 rw [Int.toNat_natCast, List.getD_eq_getElem?_getD, List.getD_eq_getElem?_getD, List.getElem?_drop]
theorem wide_from (t : ByteArray) (ht : t.size ≤ 1000000) (bad : Bool) (a m : Nat) (hm : m ≤ 3) (h : a + m ≤ t.size) (d : Nat) : ∀ (k j : Nat), j + d = m → d < k →
   iwide1.l0 ⟨t, (a : Int), bad⟩ (m : Int) k (num0 ((bytesOf t).drop a) j) (j : Int) ((a + j : Nat) : Int) = some (num0 ((bytesOf t).drop a) m, (m : Int), ((a + m : Nat) : Int)) := by
 have hb := byteL_drop (byteL_of t) a
 induction d with
 | zero =>
   intro k j hj hk
   obtain ⟨k, rfl⟩ := k1_ hk
   obtain rfl : j = m := by omega
   show iwide1.b0 _ _ _ k _ _ _ = _
   unfold iwide1.b0
   rw [if_neg (by omega)]
 | succ d ih =>
   intro k j hj hk
   obtain ⟨k, rfl⟩ := k1_ hk
   obtain ⟨n0, n1⟩ := num0_bd hb j
   have hp : p256 j ≤ 65536 := by
     have : j = 0 ∨ j = 1 ∨ j = 2 := by omega
     rcases this with rfl | rfl | rfl <;> decide
   obtain ⟨g0, g1⟩ := getD_bd hb j
   show iwide1.b0 _ _ (iwide1.l0 _ _ k) k _ _ _ = _
   unfold iwide1.b0
   obtain ⟨q, hq⟩ : ∃ q : Nat, num0 ((bytesOf t).drop a) j = (q : Int) := ⟨_, (Int.toNat_of_nonneg n0).symm⟩
   obtain ⟨e, he⟩ : ∃ e : Nat, ((bytesOf t).drop a).getD j 0 = (e : Int) := ⟨_, (Int.toNat_of_nonneg g0).symm⟩
   have hi : IntKind.i64.wrap (num0 ((bytesOf t).drop a) j * 256) = ((q * 256 : Nat) : Int) := by
     have : ∀ z : Int, IntKind.i64.wrap z = wrap64 z := i64_w
     rw [this, hq, w64 (by omega) (by omega)]; omega
   have hn : num0 ((bytesOf t).drop a) (j + 1) = ((q * 256 + e : Nat) : Int) := by rw [num0, hq, he]; omega
   rw [if_pos (by omega), if_pos (by dsimp only; omega)]
   dsimp only
   rw [bt_getD, hi, he, w64 (i := (e : Int)) (by omega) (by omega), bits_or64 q e (by omega) (by omega), ← hn, w64 (i := (j : Int) + 1) (by omega) (by omega), w64 (i := ((a + j : Nat) : Int) + 1) (by omega) (by omega), show ((j : Int) + 1) = ((j + 1 : Nat) : Int) by omega, show ((a + j : Nat) : Int) + 1 = ((a + (j + 1) : Nat) : Int) by omega]
   exact ih k (j + 1) (by omega) (by omega)
theorem wide_g (t : ByteArray) (ht : t.size ≤ 1000000) (bad : Bool) (a m : Nat) (hm : m ≤ 3) (h : a + m ≤ t.size) (k : Nat) (hk : 10 < k) : iwide1.g k ⟨t, (a : Int), bad⟩ (m : Int) = some (num0 ((bytesOf t).drop a) m, ⟨t, ((a + m : Nat) : Int), bad⟩) := by
 have e := wide_from t ht bad a m hm h m k 0 (by omega) (by omega)
 unfold iwide1.g
 have e : iwide1.l0 ⟨t, (a : Int), bad⟩ (m : Int) k 0 0 (a : Int) = _ := e
 rw [e]; rfl
theorem range_snoc_map {β : Type} (f : Nat → β) (i : Nat) : (List.range i).map f ++ [f i] = (List.range (i + 1)).map f := by rw [List.range_succ, List.map_append]; rfl
theorem list_from (t : ByteArray) (ht : t.size ≤ 1000000) (bad : Bool) (a m cnt : Nat) (less : Int) (hl : 0 ≤ less ∧ less ≤ 1000) (hm : m ≤ 3) (h : a + cnt * m ≤ t.size) (hc : cnt ≤ 10000) (d : Nat) : ∀ (k i : Nat), i + d = cnt → d + 20 < k →
   ilist.l0 (cnt : Int) (m : Int) less k ((List.range i).map fun i => num0 (((bytesOf t).drop a).drop (i * m)) m - less) (i : Int) t ((a + i * m : Nat) : Int) bad = some (numsL ((bytesOf t).drop a) m less cnt, (cnt : Int), t, ((a + cnt * m : Nat) : Int), bad) := by
 induction d with
 | zero =>
   intro k i hi hk
   obtain ⟨k, rfl⟩ := k1_ hk
   obtain rfl : i = cnt := by omega
   show ilist.b0 _ _ _ _ k _ _ _ _ _ = _
   unfold ilist.b0
   rw [if_neg (by omega)]; rfl
 | succ d ih =>
   intro k i hi hk
   obtain ⟨k, rfl⟩ := k1_ hk
   have him : (i + 1) * m ≤ cnt * m := Nat.mul_le_mul_right _ (by omega)
   rw [Nat.succ_mul] at him
   have hb := num0_bd (byteL_drop (byteL_of t) (a + i * m)) m
   have hp : p256 m ≤ 16777216 := by
     have : m = 0 ∨ m = 1 ∨ m = 2 ∨ m = 3 := by omega
     rcases this with rfl | rfl | rfl | rfl <;> decide
   show ilist.b0 _ _ _ (ilist.l0 _ _ _ k) k _ _ _ _ _ = _
   unfold ilist.b0
   rw [if_pos (by omega), wide_g t ht bad (a + i * m) m hm (by omega) k (by omega), Option.bind_some, if_pos (by rw [List.length_map, List.length_range]; omega)]
   dsimp only
   rw [w64 (i := num0 _ m - less) (by omega) (by omega), w64 (i := (i : Int) + 1) (by omega) (by omega), show ((i : Int) + 1) = ((i + 1 : Nat) : Int) by omega, ← List.drop_drop, range_snoc_map (fun i => num0 (((bytesOf t).drop a).drop (i * m)) m - less) i, show a + i * m + m = a + (i + 1) * m by rw [Nat.succ_mul]; omega]
   exact ih k (i + 1) (by omega) (by omega)
theorem list_g (t : ByteArray) (ht : t.size ≤ 1000000) (bad : Bool) (a m cnt : Nat) (less : Int) (hl : 0 ≤ less ∧ less ≤ 1000) (hm : m ≤ 3) (h : a + cnt * m ≤ t.size) (hc : cnt ≤ 10000) (k : Nat) (hk : cnt + 20 < k) :
   ilist.g k ⟨t, (a : Int), bad⟩ (cnt : Int) (m : Int) less = some (numsL ((bytesOf t).drop a) m less cnt, ⟨t, ((a + cnt * m : Nat) : Int), bad⟩) := by
 have e := list_from t ht bad a m cnt less hl hm h hc cnt k 0 (by omega) hk
 rw [Nat.zero_mul] at e
 unfold ilist.g
 have e : ilist.l0 (cnt : Int) (m : Int) less k [] 0 t (a : Int) bad = _ := e
 dsimp only
 rw [e]; rfl
def nibAt (R : List Int) (i : Nat) : Int := if (if i % 2 = 0 then R.getD (i / 2) 0 % 16 else R.getD (i / 2) 0 / 16) > 7 then (if i % 2 = 0 then R.getD (i / 2) 0 % 16 else R.getD (i / 2) 0 / 16) - 16 else (if i % 2 = 0 then R.getD (i / 2) 0 % 16 else R.getD (i / 2) 0 / 16)
def unpL (R : List Int) (cnt : Nat) : List Int := (List.range cnt).map (nibAt R)
theorem bits_and15 (a : Nat) (ha : a < 18446744073709551616) : Go.bits .and .i64 (a : Int) 15 = ((a % 16 : Nat) : Int) := by
 have e : (BitVec.ofInt IntKind.i64.bits (a : Int) &&& BitVec.ofInt IntKind.i64.bits (15 : Int)).toNat = a % 16 := by
   rw [BitVec.toNat_and, BitVec.ofInt_natCast, show (15 : Int) = ((15 : Nat) : Int) from rfl, BitVec.ofInt_natCast, BitVec.toNat_ofNat, BitVec.toNat_ofNat, Nat.mod_eq_of_lt (by exact ha), Nat.mod_eq_of_lt (by decide)]
   exact Nat.and_two_pow_sub_one_eq_mod a 4
 show IntKind.i64.wrap ((BitVec.ofInt IntKind.i64.bits (a : Int) &&& BitVec.ofInt IntKind.i64.bits (15 : Int)).toNat : Int) = _
 rw [e]
 have : ∀ z : Int, IntKind.i64.wrap z = wrap64 z := i64_w
 rw [this, w64 (by omega) (by omega)]
theorem shr4 (n : Int) : shr .i64 n 4 = n / 16 := by unfold shr; rfl
theorem unp_from (b : ByteArray) (cnt : Nat) (hc : cnt ≤ 2400) (hb : b.size = (cnt + 1) / 2) (d : Nat) : ∀ (k i : Nat), i + d = cnt → d < k →
   iUN.l0 b (cnt : Int) k ((List.range i).map (nibAt (bytesOf b))) (i : Int) = some (unpL (bytesOf b) cnt, (cnt : Int)) := by
 induction d with
 | zero =>
   intro k i hi hk
   obtain ⟨k, rfl⟩ := k1_ hk
   obtain rfl : i = cnt := by omega
   show iUN.b0 _ _ _ k _ _ = _
   unfold iUN.b0
   rw [if_neg (by omega)]; rfl
 | succ d ih =>
   intro k i hi hk
   obtain ⟨k, rfl⟩ := k1_ hk
   have hbt : bt b (((i / 2 : Nat) : Int)) = (bytesOf b).getD (i / 2) 0 := by
     have := bt_getD b 0 (i / 2)
     rw [Nat.zero_add, List.drop_zero] at this
     exact this
   obtain ⟨g0, g1⟩ := getD_bd (byteL_of b) (i / 2)
   obtain ⟨e, he2⟩ : ∃ e : Nat, (bytesOf b).getD (i / 2) 0 = (e : Int) := ⟨_, (Int.toNat_of_nonneg g0).symm⟩
   have hw : wrap64 (Int.tdiv (i : Int) 2) = ((i / 2 : Nat) : Int) := by rw [tdiv_2, w64 (by omega) (by omega)]
   have hq : Go.bits .and .i64 (shr .i64 (wrap64 (bt b ((i / 2 : Nat) : Int))) (wrap64 (4 * Int.tmod (i : Int) 2))) 15 = (if i % 2 = 0 then (bytesOf b).getD (i / 2) 0 % 16 else (bytesOf b).getD (i / 2) 0 / 16) := by
     rw [hbt, he2, w64 (i := (e : Int)) (by omega) (by omega), tmod_2]
     by_cases c : i % 2 = 0
     · rw [if_pos c, c, wn (show 4 * ((0 : Nat) : Int) = 0 by omega) (by decide) (by decide), shr0, bits_and15 e (by omega)]; omega
     · rw [if_neg c, show i % 2 = 1 by omega, wn (show 4 * ((1 : Nat) : Int) = 4 by omega) (by decide) (by decide), shr4, show (e : Int) / 16 = ((e / 16 : Nat) : Int) by omega, bits_and15 _ (by omega)]; omega
   have hmod : (0 : Int) ≤ wrap64 (4 * Int.tmod (i : Int) 2) := by rw [tmod_2, w64 (by omega) (by omega)]; omega
   have hn : (if (if i % 2 = 0 then (bytesOf b).getD (i / 2) 0 % 16 else (bytesOf b).getD (i / 2) 0 / 16) > 7 then (if i % 2 = 0 then (bytesOf b).getD (i / 2) 0 % 16 else (bytesOf b).getD (i / 2) 0 / 16) - 16 else (if i % 2 = 0 then (bytesOf b).getD (i / 2) 0 % 16 else (bytesOf b).getD (i / 2) 0 / 16)) = nibAt (bytesOf b) i := rfl
   have hnx := ih k (i + 1) (by omega) (by omega)
   rw [← range_snoc_map (nibAt (bytesOf b)) i, ← hn] at hnx
   show iUN.b0 _ _ (iUN.l0 _ _ k) k _ _ = _
   unfold iUN.b0
   rw [if_pos (by omega), hw, if_pos (by omega), if_pos hmod, hq]
   clear hq hn hbt hw hmod
   obtain ⟨v, hv⟩ : ∃ v : Int, v = (if i % 2 = 0 then (bytesOf b).getD (i / 2) 0 % 16 else (bytesOf b).getD (i / 2) 0 / 16) := ⟨_, rfl⟩
   have v0 : 0 ≤ v ∧ v ≤ 15 := by rw [hv, he2]; split <;> omega
   rw [← hv] at hnx ⊢
   rw [w64 (i := (i : Int) + 1) (by omega) (by omega), show ((i : Int) + 1) = ((i + 1 : Nat) : Int) by omega]
   by_cases c : v > 7
   · rw [if_pos c] at hnx
     rw [if_pos c, Option.bind_some, if_pos (by rw [List.length_map, List.length_range]; omega), w64 (i := v - 16) (by omega) (by omega)]
     exact hnx
   · rw [if_neg c] at hnx
     rw [if_neg c, Option.bind_some, if_pos (by rw [List.length_map, List.length_range]; omega)]
     exact hnx
theorem unp_g (b : ByteArray) (cnt : Nat) (hc : cnt ≤ 2400) (hb : b.size = (cnt + 1) / 2) (he : cnt % 2 = 0) (k : Nat) (hk : cnt + 5 < k) : iUN.g k b (cnt : Int) = some (unpL (bytesOf b) cnt, true) := by
 unfold iUN.g
 have e1 : wrap64 ((cnt : Int) + 1) = ((cnt + 1 : Nat) : Int) := by rw [w64 (by omega) (by omega)]; omega
 have e2 : iUN.l0 b (cnt : Int) k [] 0 = _ := unp_from b cnt hc hb cnt k 0 (by omega) (by omega)
 rw [impl_inB, decide_eq_true (show (0 : Int) ≤ (cnt : Int) by omega), decide_eq_true (show (cnt : Int) ≤ 2400 by omega), Option.bind_some, if_pos (show (true && true) = true from rfl), e1, tdiv_2, w64 (i := (((cnt + 1) / 2 : Nat) : Int)) (by omega) (by omega), if_pos (by omega), e2, Option.bind_some, tmod_2, if_neg (by omega)]
theorem bytes_extract (t : ByteArray) (a b : Nat) : bytesOf (t.extract a b) = ((bytesOf t).drop a).take (b - a) := by
 unfold bytesOf
 rw [ByteArray.data_extract, Array.toList_extract, List.extract_eq_take_drop, List.map_take, List.map_drop]
theorem size_extract (t : ByteArray) (a b : Nat) (h : b ≤ t.size) : (t.extract a b).size = b - a := by
 rw [← bytesOf_length, bytes_extract, List.length_take, List.length_drop, bytesOf_length]; omega
theorem nibAt_take (R : List Int) (m i : Nat) (h : i / 2 < m) : nibAt (R.take m) i = nibAt R i := by
 unfold nibAt
 rw [List.getD_eq_getElem?_getD, List.getElem?_take_of_lt h, ← List.getD_eq_getElem?_getD]
theorem unpL_take (R : List Int) (m cnt : Nat) (h : (cnt + 1) / 2 ≤ m) : unpL (R.take m) cnt = unpL R cnt := by
 unfold unpL
 apply List.map_congr_left
 intro i hi
 have := List.mem_range.1 hi
 exact nibAt_take R m i (by omega)
theorem unpL_len (R : List Int) (cnt : Nat) : (unpL R cnt).length = cnt := by simp [unpL]
def rowsU (A : List Int) (w r : Nat) : List (List Int) := (List.range r).map fun i => (A.take ((i + 1) * w)).drop (i * w)
def scalU (R : List Int) (w r : Nat) : List (List Int) := (List.range r).map fun i => numsL (R.drop (i * (w / 4))) 1 0 (w / 4)
def RM (R : List Int) (w r : Nat) : S29 :=
 ⟨(w : Int), rowsU (unpL R (r * w)) w r, scalU (R.drop ((r * w + 1) / 2)) w r, num0 (R.drop ((r * w + 1) / 2 + r * (w / 4))) 3, num0 (R.drop ((r * w + 1) / 2 + r * (w / 4) + 3)) 1⟩
theorem qw {w : Nat} (hw : w = 4 ∨ w = 8) : wrap64 (Int.tdiv (w : Int) 4) = ((w / 4 : Nat) : Int) := by rcases hw with rfl | rfl <;> decide +kernel
theorem sucw (i : Nat) (h : i ≤ 1000000) : wrap64 ((i : Int) + 1) = ((i + 1 : Nat) : Int) := by rw [w64 (by omega) (by omega)]; omega
theorem addw (a s : Nat) (ha : a ≤ 1000000) (hs : s ≤ 1000000) : wrap64 ((a : Int) + (s : Int)) = ((a + s : Nat) : Int) := by rw [w64 (by omega) (by omega)]; omega
theorem mulw (a b c : Nat) (h : a * b = c) (hc : c ≤ 1000000) : wrap64 ((a : Int) * (b : Int)) = (c : Int) := by rw [show (a : Int) * (b : Int) = (c : Int) by rw [← h, Int.natCast_mul], w64 (by omega) (by omega)]
theorem rows_from (w r : Nat) (hw : w = 4 ∨ w = 8) (hr : r ≤ 300) (A : List Int) (hA : A.length = r * w) (b : Bool) (d : Nat) : ∀ (k i : Nat), i + d = r → d < k →
   imatri.l1 (w : Int) (r : Int) (A, b) k (i : Int) ((List.range i).map fun i => (A.take ((i + 1) * w)).drop (i * w)) = some ((r : Int), rowsU A w r) := by
 induction d with
 | zero =>
   intro k i hi hk
   obtain ⟨k, rfl⟩ := k1_ hk
   obtain rfl : i = r := by omega
   show imatri.b1 _ _ _ _ k _ _ = _
   unfold imatri.b1
   rw [if_neg (by omega)]; rfl
 | succ d ih =>
   intro k i hi hk
   obtain ⟨k, rfl⟩ := k1_ hk
   have h1 : i * w + w ≤ r * w := by rw [← Nat.succ_mul]; exact Nat.mul_le_mul_right _ (by omega)
   have h2 : r * w ≤ 2400 := by rcases hw with rfl | rfl <;> omega
   have h3 : (i + 1) * w = i * w + w := Nat.succ_mul i w
   show imatri.b1 _ _ _ (imatri.l1 _ _ _ k) k _ _ = _
   unfold imatri.b1
   rw [if_pos (by omega), mulw i w _ rfl (by omega), sucw i (by omega), mulw (i + 1) w _ rfl (by omega), if_pos (by dsimp only; omega)]
   dsimp only
   rw [Int.toNat_natCast, Int.toNat_natCast, if_pos (by rw [List.length_drop, List.length_take]; omega), if_pos (by rw [List.length_map, List.length_range]; omega), List.nil_append, range_snoc_map (fun i => (A.take ((i + 1) * w)).drop (i * w)) i]
   exact ih k (i + 1) (by omega) (by omega)
theorem scales_from (t : ByteArray) (ht : t.size ≤ 1000000) (bad : Bool) (a w r : Nat) (hw : w = 4 ∨ w = 8) (hr : r ≤ 300) (h : a + r * (w / 4) ≤ t.size) (d : Nat) : ∀ (k i : Nat), i + d = r → d + 40 < k →
   imatri.l0 (w : Int) (r : Int) k (i : Int) t ((a + i * (w / 4) : Nat) : Int) bad ((List.range i).map fun i => numsL (((bytesOf t).drop a).drop (i * (w / 4))) 1 0 (w / 4)) = some ((r : Int), t, ((a + r * (w / 4) : Nat) : Int), bad, scalU ((bytesOf t).drop a) w r) := by
 induction d with
 | zero =>
   intro k i hi hk
   obtain ⟨k, rfl⟩ := k1_ hk
   obtain rfl : i = r := by omega
   show imatri.b0 _ _ _ k _ _ _ _ _ = _
   unfold imatri.b0
   rw [if_neg (by omega)]; rfl
 | succ d ih =>
   intro k i hi hk
   obtain ⟨k, rfl⟩ := k1_ hk
   have h1 : i * (w / 4) + w / 4 ≤ r * (w / 4) := by rw [← Nat.succ_mul]; exact Nat.mul_le_mul_right _ (by omega)
   have h3 : (i + 1) * (w / 4) = i * (w / 4) + w / 4 := Nat.succ_mul i (w / 4)
   have w4 : w / 4 ≤ 2 := by omega
   have g := list_g t ht bad (a + i * (w / 4)) 1 (w / 4) 0 (by decide) (by decide) (by rw [Nat.mul_one]; omega) (by omega) k (by omega)
   rw [show ((1 : Nat) : Int) = 1 from rfl, Nat.mul_one] at g
   show imatri.b0 _ _ (imatri.l0 _ _ k) k _ _ _ _ _ = _
   unfold imatri.b0
   rw [if_pos (by omega), qw hw, g, Option.bind_some, if_pos (by rw [List.length_map, List.length_range]; omega), sucw i (by omega)]
   dsimp only
   rw [← List.drop_drop, range_snoc_map (fun i => numsL (((bytesOf t).drop a).drop (i * (w / 4))) 1 0 (w / 4)) i, show a + i * (w / 4) + w / 4 = a + (i + 1) * (w / 4) by omega]
   exact ih k (i + 1) (by omega) (by omega)
theorem mat_g (t : ByteArray) (ht : t.size ≤ 1000000) (bad : Bool) (a w r : Nat) (hw : w = 4 ∨ w = 8) (hr : r ≤ 300) (h : a + mSz w r ≤ t.size) (k : Nat) (hk : 3000 < k) :
   imatri.g k ⟨t, (a : Int), bad⟩ (w : Int) (r : Int) = some (RM ((bytesOf t).drop a) w r, ⟨t, ((a + mSz w r : Nat) : Int), bad⟩) := by
 have h2 : r * w ≤ 2400 := by rcases hw with rfl | rfl <;> omega
 have he : (r * w) % 2 = 0 := by rcases hw with rfl | rfl <;> omega
 have hr4 : r * (w / 4) ≤ 600 := by rcases hw with rfl | rfl <;> omega
 obtain ⟨N, hN⟩ : ∃ N, N = r * w := ⟨_, rfl⟩
 obtain ⟨M, hM⟩ : ∃ M, M = r * (w / 4) := ⟨_, rfl⟩
 obtain ⟨S, hS⟩ : ∃ S, S = (N + 1) / 2 := ⟨_, rfl⟩
 have hm : mSz w r = S + M + 4 := by unfold mSz; rw [← hN, ← hM, ← hS]
 unfold imatri.g
 dsimp only
 rw [mulw w r N (by rw [hN, Nat.mul_comm]) (by omega), sucw N (by omega), tdiv_2, ← hS, w64 (i := (S : Int)) (by omega) (by omega), addw a S (by omega) (by omega), if_pos ⟨by omega, by omega, by omega⟩, Int.toNat_natCast, Int.toNat_natCast, unp_g _ N (by omega) (by rw [size_extract _ _ _ (by omega)]; omega) (by omega) k (by omega), Option.bind_some, if_pos rfl]
 have eU : unpL (bytesOf (t.extract a (a + S))) N = unpL ((bytesOf t).drop a) N := by rw [bytes_extract, Nat.add_sub_cancel_left]; exact unpL_take _ _ _ (by omega)
 rw [eU]
 have g1 := rows_from w r hw hr (unpL ((bytesOf t).drop a) N) (by rw [unpL_len, hN]) true r k 0 (by omega) (by omega)
 have g1 : imatri.l1 (w : Int) (r : Int) (unpL ((bytesOf t).drop a) N, true) k 0 [] = _ := g1
 rw [g1, Option.bind_some]
 have g2 := scales_from t ht bad (a + S) w r hw hr (by rw [← hM]; omega) r k 0 (by omega) (by omega)
 rw [Nat.zero_mul] at g2
 have g2 : imatri.l0 (w : Int) (r : Int) k 0 t ((a + S : Nat) : Int) bad [] = _ := g2
 rw [g2, Option.bind_some]
 dsimp only
 have g3 := wide_g t ht bad (a + S + r * (w / 4)) 3 (by decide) (by rw [← hM]; omega) k (by omega)
 rw [show ((3 : Nat) : Int) = 3 from rfl] at g3
 rw [g3, Option.bind_some]
 dsimp only
 have g4 := wide_g t ht bad (a + S + r * (w / 4) + 3) 1 (by decide) (by rw [← hM]; omega) k (by omega)
 rw [show ((1 : Nat) : Int) = 1 from rfl] at g4
 rw [g4, Option.bind_some]
 dsimp only
 unfold RM
 rw [← hN, ← hS, hm, ← hM]
 simp only [List.drop_drop, Nat.add_assoc]
def RL (R : List Int) (n u : Nat) : S52 :=
 ⟨numsL R 1 0 n, RM (R.drop n) n n, RM (R.drop (n + mSz n n)) n n, RM (R.drop (n + mSz n n + mSz n n)) n n, RM (R.drop (n + mSz n n + mSz n n + mSz n n)) n n, numsL (R.drop (n + mSz n n + mSz n n + mSz n n + mSz n n)) 1 0 n, RM (R.drop (n + mSz n n + mSz n n + mSz n n + mSz n n + n)) n u, RM (R.drop (n + mSz n n + mSz n n + mSz n n + mSz n n + n + mSz n u)) u n⟩
theorem lay_g (t : ByteArray) (ht : t.size ≤ 1000000) (bad : Bool) (a n u : Nat) (hn : n = 4 ∨ n = 8) (hu : u = 4 ∨ u = 8) (h : a + lSz n u ≤ t.size) (k : Nat) (hk : 3000 < k) :
   impl_fileReader_layer.g k ⟨t, (a : Int), bad⟩ (n : Int) (u : Int) = some (RL ((bytesOf t).drop a) n u, ⟨t, ((a + lSz n u : Nat) : Int), bad⟩) := by
 obtain ⟨m, hm⟩ : ∃ m, m = mSz n n := ⟨_, rfl⟩
 obtain ⟨m1, hm1⟩ : ∃ m, m = mSz n u := ⟨_, rfl⟩
 obtain ⟨m2, hm2⟩ : ∃ m, m = mSz u n := ⟨_, rfl⟩
 have hz : lSz n u = 2 * n + 4 * m + m1 + m2 := by unfold lSz; rw [hm, hm1, hm2]
 have L : ∀ b : Nat, b + n ≤ t.size → ilist.g k ⟨t, (b : Int), bad⟩ (n : Int) 1 0 = some (numsL ((bytesOf t).drop b) 1 0 n, ⟨t, ((b + n : Nat) : Int), bad⟩) := fun b hb => by
   have g := list_g t ht bad b 1 n 0 (by decide) (by decide) (by omega) (by omega) k (by omega)
   rw [Nat.mul_one] at g
   exact g
 have M : ∀ b : Nat, b + m ≤ t.size → imatri.g k ⟨t, (b : Int), bad⟩ (n : Int) (n : Int) = some (RM ((bytesOf t).drop b) n n, ⟨t, ((b + m : Nat) : Int), bad⟩) := fun b hb => by
   rw [hm]; exact mat_g t ht bad b n n hn (by omega) (by omega) k hk
 unfold impl_fileReader_layer.g
 dsimp only
 rw [L a (by omega), Option.bind_some]
 dsimp only
 rw [M _ (by omega), Option.bind_some]
 dsimp only
 rw [M _ (by omega), Option.bind_some]
 dsimp only
 rw [M _ (by omega), Option.bind_some]
 dsimp only
 rw [M _ (by omega), Option.bind_some]
 dsimp only
 rw [L _ (by omega), Option.bind_some]
 dsimp only
 rw [mat_g t ht bad _ n u hn (by omega) (by omega) k hk, Option.bind_some]
 dsimp only
 rw [mat_g t ht bad _ u n hu (by omega) (by omega) k hk, Option.bind_some]
 dsimp only
 unfold RL
 rw [← hm, ← hm1, ← hm2, show a + lSz n u = a + n + m + m + m + m + n + m1 + m2 by omega]
 simp only [List.drop_drop, Nat.add_assoc]
theorem drop_next {L P R : List Int} {a n : Nat} (h : L.drop a = P ++ R) (hn : P.length = n) : L.drop (a + n) = R := by
 rw [← List.drop_drop, h, ← hn, List.drop_left]
theorem flat_drop {α : Type} (T : α → List Int) (sz : Nat) (R : List Int) : ∀ (l : List α) (i : Nat) (hi : i < l.length), (∀ x ∈ l, (T x).length = sz) → ∃ r, ((l.map T).flatten ++ R).drop (i * sz) = T l[i] ++ r
 | x :: l, 0, _, _ => ⟨(l.map T).flatten ++ R, by rw [Nat.zero_mul, List.drop_zero, List.map_cons, List.flatten_cons, List.append_assoc]; rfl⟩
 | x :: l, i + 1, hi, h => by
   obtain ⟨r, hr⟩ := flat_drop T sz R l i (by simpa using hi) (fun y hy => h y (List.mem_cons_of_mem _ hy))
   refine ⟨r, ?_⟩
   rw [List.map_cons, List.flatten_cons, List.append_assoc, show (i + 1) * sz = sz + i * sz by rw [Nat.succ_mul]; omega, ← List.drop_drop]
   have h1 : (T x).length = sz := h x (List.mem_cons_self ..)
   rw [show (T x ++ ((l.map T).flatten ++ R)).drop sz = (l.map T).flatten ++ R by rw [← h1, List.drop_left], hr]; rfl
theorem range_is {β : Type} (l : List β) (n : Nat) (g : Nat → β) (hl : l.length = n) (h : ∀ i (hi : i < l.length), g i = l[i]) : (List.range n).map g = l := by
 apply List.ext_getElem
 · simpa using hl.symm
 · intro i h1 h2
   rw [List.getElem_map, List.getElem_range]; exact h i h2
theorem num1 (v : Int) (R : List Int) : num0 (v :: R) 1 = v := by simp [num0]
theorem num2 (a b : Int) (R : List Int) : num0 (a :: b :: R) 2 = a * 256 + b := by simp [num0]
theorem num3 (a b c : Int) (R : List Int) : num0 (a :: b :: c :: R) 3 = (a * 256 + b) * 256 + c := by simp [num0]
theorem num_two (v : Int) (R : List Int) (h0 : 0 ≤ v) (h1 : v < 65536) : num0 (two v ++ R) 2 = v := by
 show num0 (b8 (v / 256) :: b8 v :: R) 2 = v
 rw [num2, b8_mod, b8_mod]; omega
theorem num_three (v : Int) (R : List Int) (h0 : 0 ≤ v) (h1 : v < 16777216) : num0 (three v ++ R) 3 = v := by
 show num0 (b8 (v / 65536) :: b8 (v / 256) :: b8 v :: R) 3 = v
 rw [num3, b8_mod, b8_mod, b8_mod]; omega
theorem num_one (v more : Int) (R : List Int) (h0 : 0 ≤ v + more) (h1 : v + more ≤ 255) : num0 (byts more [v] ++ R) 1 - more = v := by
 show num0 (b8 (wrap64 (v + more)) :: R) 1 - more = v
 rw [num1, b8_mod, w64 (by omega) (by omega)]; omega
theorem byts_flat (more : Int) (l : List Int) : byts more l = (l.map fun n => byts more [n]).flatten := by
 induction l with
 | nil => rfl
 | cons x l ih => rw [List.map_cons, List.flatten_cons, ← ih]; rfl
theorem nums_back (l : List Int) (more : Int) (cnt : Nat) (R : List Int) (hl : l.length = cnt) (h : ∀ z ∈ l, 0 ≤ z + more ∧ z + more ≤ 255) : numsL (byts more l ++ R) 1 more cnt = l := by
 refine range_is l cnt _ hl fun i hi => ?_
 obtain ⟨r, hr⟩ := flat_drop (fun n => byts more [n]) 1 R l i hi (fun _ _ => rfl)
 rw [byts_flat, hr]
 have := h _ (List.getElem_mem hi)
 exact num_one _ _ _ this.1 this.2
theorem nums2_back (l : List Int) (cnt : Nat) (R : List Int) (hl : l.length = cnt) (h : ∀ z ∈ l, -128 ≤ z ∧ z ≤ 128) : numsL ((l.map fun n => two (n + 128)).flatten ++ R) 2 128 cnt = l := by
 refine range_is l cnt _ hl fun i hi => ?_
 obtain ⟨r, hr⟩ := flat_drop (fun n => two (n + 128)) 2 R l i hi (fun _ _ => rfl)
 rw [hr]
 have := h _ (List.getElem_mem hi)
 rw [num_two _ _ (by omega) (by omega)]; omega
theorem packN_at : ∀ (F : List Int) (i : Nat) (h : 2 * i + 1 < F.length), (packN F)[i]? = some (nb F[2 * i] + 16 * nb F[2 * i + 1])
 | [], i, h => by simp at h
 | [a], i, h => by simp at h
 | a :: b :: r, 0, h => rfl
 | a :: b :: r, i + 1, h => by
   have h2 : 2 * i + 1 < r.length := by simp at h; omega
   rw [packN, List.getElem?_cons_succ, packN_at r i h2]
   rfl
theorem nib_back (F R : List Int) (hn : nibs F) (he : F.length % 2 = 0) (i : Nat) (hi : i < F.length) : nibAt (packN F ++ R) i = F[i] := by
 have h2 : 2 * (i / 2) + 1 < F.length := by omega
 have hp := packN_at F (i / 2) h2
 have hlt : i / 2 < (packN F).length := (List.getElem?_eq_some_iff.1 hp).1
 have hg : (packN F ++ R).getD (i / 2) 0 = nb F[2 * (i / 2)] + 16 * nb F[2 * (i / 2) + 1] := by rw [List.getD_eq_getElem?_getD, List.getElem?_append_left hlt, hp]; rfl
 have b0 := hn _ (List.getElem_mem (show 2 * (i / 2) < F.length by omega))
 have b1 := hn _ (List.getElem_mem h2)
 unfold nibAt
 rw [hg]
 by_cases c : i % 2 = 0
 · have e : F[2 * (i / 2)] = F[i] := by congr 1; omega
   rw [if_pos c]
   generalize F[2 * (i / 2)] = u at *
   generalize F[2 * (i / 2) + 1] = v at *
   rw [← e]
   unfold nb
   have : (if ((u + 16) % 16 + 16 * ((v + 16) % 16)) % 16 > 7 then ((u + 16) % 16 + 16 * ((v + 16) % 16)) % 16 - 16 else ((u + 16) % 16 + 16 * ((v + 16) % 16)) % 16) = u := by split <;> omega
   exact this
 · have e : F[2 * (i / 2) + 1] = F[i] := by congr 1; omega
   rw [if_neg c]
   generalize F[2 * (i / 2)] = u at *
   generalize F[2 * (i / 2) + 1] = v at *
   rw [← e]
   unfold nb
   have : (if ((u + 16) % 16 + 16 * ((v + 16) % 16)) / 16 > 7 then ((u + 16) % 16 + 16 * ((v + 16) % 16)) / 16 - 16 else ((u + 16) % 16 + 16 * ((v + 16) % 16)) / 16) = v := by split <;> omega
   exact this
theorem unp_back (F R : List Int) (cnt : Nat) (hc : F.length = cnt) (hn : nibs F) (he : cnt % 2 = 0) : unpL (packN F ++ R) cnt = F :=
 range_is F cnt _ hc fun i hi => nib_back F R hn (by omega) i hi
theorem rows_back (l : List (List Int)) (w r : Nat) (hl : l.length = r) (h : ∀ x ∈ l, x.length = w) : rowsU l.flatten w r = l := by
 refine range_is l r _ hl fun i hi => ?_
 obtain ⟨q, hq⟩ := flat_drop (fun x : List Int => x) w [] l i hi h
 rw [List.map_id', List.append_nil] at hq
 rw [List.drop_take, hq, show (i + 1) * w - i * w = w by rw [Nat.succ_mul]; omega]
 have := h _ (List.getElem_mem hi)
 rw [List.take_append_of_le_length (by omega), List.take_of_length_le (by omega)]
theorem scal_back (l : List (List Int)) (w r : Nat) (R : List Int) (hl : l.length = r) (h : ∀ x ∈ l, x.length = w / 4 ∧ ∀ z ∈ x, 1 ≤ z ∧ z ≤ 127) : scalU ((l.map (byts 0)).flatten ++ R) w r = l := by
 refine range_is l r _ hl fun i hi => ?_
 obtain ⟨q, hq⟩ := flat_drop (byts 0) (w / 4) R l i hi (fun x hx => by rw [byts_len]; exact (h x hx).1)
 have := h _ (List.getElem_mem hi)
 rw [hq]
 exact nums_back _ 0 _ _ this.1 (fun z hz => by have := this.2 z hz; omega)
theorem RM_back {m : S29} {w r : Nat} (h : MatR m w r) (R : List Int) : RM (matT m ++ R) w r = m := by
 have hf := h.flat
 have hrw := h.rw
 have he : (r * w) % 2 = 0 := by rcases h.w48 with rfl | rfl <;> omega
 have hm := h.mul
 have hs := h.sh
 have l1 : (packN m.f1.flatten).length = (r * w + 1) / 2 := by rw [packN_len, hf.1]
 have l2 := h.scs
 have e0 : (matT m ++ R).drop 0 = packN m.f1.flatten ++ ((m.f2.map (byts 0)).flatten ++ (three m.f3 ++ (byts 0 [m.f4] ++ R))) := by unfold matT; simp only [List.drop_zero, List.append_assoc]
 have e1 := drop_next e0 l1
 have e2 := drop_next e1 l2
 have e3 := drop_next e2 (show (three m.f3).length = 3 from rfl)
 rw [List.drop_zero] at e0
 rw [Nat.zero_add] at e1 e2 e3
 unfold RM
 rw [e1, e2, e3, e0, unp_back _ _ _ hf.1 hf.2 he, rows_back _ _ _ h.rws (fun x hx => (h.row x hx).1), scal_back _ _ _ _ h.scls h.sc, num_three _ _ hm.1 (by omega)]
 have := num_one m.f4 0 R (by omega) (by omega)
 rw [Int.sub_zero] at this
 rw [this, ← h.wid]
theorem RL_back {y : S52} {n u : Nat} (h : LayR y n u) (R : List Int) : RL (layT y ++ R) n u = y := by
 have e0 : (layT y ++ R).drop 0 = byts 0 y.f0 ++ (matT y.f1 ++ (matT y.f2 ++ (matT y.f3 ++ (matT y.f4 ++ (byts 0 y.f5 ++ (matT y.f6 ++ (matT y.f7 ++ R))))))) := by unfold layT; simp only [List.drop_zero, List.append_assoc]
 have e1 := drop_next e0 (show _ = n by rw [byts_len]; exact h.g1.1)
 have e2 := drop_next e1 (show _ = mSz n n from h.q.len)
 have e3 := drop_next e2 (show _ = mSz n n from h.k.len)
 have e4 := drop_next e3 (show _ = mSz n n from h.v.len)
 have e5 := drop_next e4 (show _ = mSz n n from h.o.len)
 have e6 := drop_next e5 (show _ = n by rw [byts_len]; exact h.g2.1)
 have e7 := drop_next e6 (show _ = mSz n u from h.up.len)
 rw [List.drop_zero] at e0
 rw [Nat.zero_add] at e1 e2 e3 e4 e5 e6 e7
 unfold RL
 rw [e1, e2, e3, e4, e5, e6, e7, e0, RM_back h.q, RM_back h.k, RM_back h.v, RM_back h.o, RM_back h.up, RM_back h.dn, nums_back _ 0 _ _ h.g1.1 (fun z hz => by have := h.g1.2 z hz; omega), nums_back _ 0 _ _ h.g2.1 (fun z hz => by have := h.g2.2 z hz; omega)]
theorem readLoop {β : Type} (F : Nat → Int → ByteArray → Int → Bool → List β → Option (Int × ByteArray × Int × Bool × List β)) (t : ByteArray) (bad : Bool) (a sz cnt c : Nat) (g : Nat → β)
   (hs : ∀ k i, i < cnt → c < k → F (k + 1) (i : Int) t ((a + i * sz : Nat) : Int) bad ((List.range i).map g) = F k ((i + 1 : Nat) : Int) t ((a + (i + 1) * sz : Nat) : Int) bad ((List.range (i + 1)).map g))
   (he : ∀ k, F (k + 1) (cnt : Int) t ((a + cnt * sz : Nat) : Int) bad ((List.range cnt).map g) = some ((cnt : Int), t, ((a + cnt * sz : Nat) : Int), bad, (List.range cnt).map g)) (d : Nat) :
   ∀ (k i : Nat), i + d = cnt → d + c < k → F k (i : Int) t ((a + i * sz : Nat) : Int) bad ((List.range i).map g) = some ((cnt : Int), t, ((a + cnt * sz : Nat) : Int), bad, (List.range cnt).map g) := by
 induction d with
 | zero =>
   intro k i hi hk
   obtain ⟨k, rfl⟩ := k1_ hk
   obtain rfl : i = cnt := by omega
   exact he k
 | succ d ih =>
   intro k i hi hk
   obtain ⟨k, rfl⟩ := k1_ hk
   rw [hs k i (by omega) (by omega)]
   exact ih k (i + 1) (by omega) (by omega)
theorem readLoop0 {β : Type} (F : Nat → Int → ByteArray → Int → Bool → List β → Option (Int × ByteArray × Int × Bool × List β)) (t : ByteArray) (bad : Bool) (a sz cnt c : Nat) (g : Nat → β)
   (hs : ∀ k i, i < cnt → c < k → F (k + 1) (i : Int) t ((a + i * sz : Nat) : Int) bad ((List.range i).map g) = F k ((i + 1 : Nat) : Int) t ((a + (i + 1) * sz : Nat) : Int) bad ((List.range (i + 1)).map g))
   (he : ∀ k, F (k + 1) (cnt : Int) t ((a + cnt * sz : Nat) : Int) bad ((List.range cnt).map g) = some ((cnt : Int), t, ((a + cnt * sz : Nat) : Int), bad, (List.range cnt).map g)) (k : Nat) (hk : cnt + c < k) :
   F k 0 t (a : Int) bad [] = some ((cnt : Int), t, ((a + cnt * sz : Nat) : Int), bad, (List.range cnt).map g) := by
 have := readLoop F t bad a sz cnt c g hs he cnt k 0 (by omega) hk
 rw [Nat.zero_mul] at this
 exact this
def mrgU (L : List Int) (a c : Nat) : List S54 := (List.range c).map fun i => ⟨num0 (L.drop (a + i * 4)) 2, num0 (L.drop (a + i * 4 + 2)) 2⟩
def embU (L : List Int) (a n c : Nat) : List (List Int) := (List.range c).map fun i => numsL (L.drop (a + i * n)) 1 128 n
def turU (L : List Int) (a p c : Nat) : List (List Int) := (List.range c).map fun i => numsL (L.drop (a + i * (p * 2))) 2 128 p
def layU (L : List Int) (n : Nat) : Nat → List Nat → List S52
 | _, [] => []
 | a, u :: us => RL (L.drop a) n u :: layU L n (a + lSz n u) us
def laySz (n : Nat) (us : List Nat) : Nat := (us.map (lSz n)).sum
def natL (us : List Nat) : List Int := us.map fun u : Nat => (u : Int)
def bodySz (n hd c mg : Nat) (us : List Nat) : Nat := mg * 4 + (256 + mg) * n + laySz n us + n + mSz n (256 + mg) + c * (n / hd / 2 * 2) + c * (n / hd / 2 * 2)
def RMod (L : List Int) (a n hd c mg : Nat) (us : List Nat) : S33 :=
 ⟨(n : Int), (hd : Int), (c : Int), mrgU L a mg, embU L (a + mg * 4) n (256 + mg), layU L n (a + mg * 4 + (256 + mg) * n) us, numsL (L.drop (a + mg * 4 + (256 + mg) * n + laySz n us)) 1 0 n,
   RM (L.drop (a + mg * 4 + (256 + mg) * n + laySz n us + n)) n (256 + mg),
   ⟨turU L (a + mg * 4 + (256 + mg) * n + laySz n us + n + mSz n (256 + mg)) (n / hd / 2) c, turU L (a + mg * 4 + (256 + mg) * n + laySz n us + n + mSz n (256 + mg) + c * (n / hd / 2 * 2)) (n / hd / 2) c⟩⟩
theorem pairs_g (h : S61) (n hd : Nat) (h0 : h.f0 = (n : Int)) (h1 : h.f1 = (hd : Int)) (hn : n = 4 ∨ n = 8) (hh : hd = 1 ∨ hd = 2) (k : Nat) : ipairs.g k ⟨h.f0, h.f1, h.f2, h.f3, h.f4, h.f5, h.f6⟩ = some ((n / hd / 2 : Nat) : Int) := by
 unfold ipairs.g
 dsimp only
 rw [h0, h1, if_pos (by omega), heads_is n hd hn hh]
theorem vocw (mg : Nat) (h : mg ≤ 16) : wrap64 (256 + (mg : Int)) = ((256 + mg : Nat) : Int) := by rw [w64 (by omega) (by omega)]; omega
section
variable (t : ByteArray) (ht : t.size ≤ 1000000) (bad : Bool)
include ht
theorem mrg_g (h : S61) (mg : Nat) (hm : h.f3 = (mg : Int)) (h16 : mg ≤ 16) (a : Nat) (hl : a + mg * 4 ≤ t.size) (k : Nat) (hk : 100 < k) :
   imodel.l4 h k 0 t (a : Int) bad [] = some ((mg : Int), t, ((a + mg * 4 : Nat) : Int), bad, mrgU (bytesOf t) a mg) := by
 refine readLoop0 (imodel.l4 h) t bad a 4 mg 20 (fun i => (⟨num0 ((bytesOf t).drop (a + i * 4)) 2, num0 ((bytesOf t).drop (a + i * 4 + 2)) 2⟩ : S54)) (fun k i hi hk => ?_) (fun k => ?_) k (by omega)
 · have g1 := wide_g t ht bad (a + i * 4) 2 (by decide) (by omega) k (by omega)
   have g2 := wide_g t ht bad (a + i * 4 + 2) 2 (by decide) (by omega) k (by omega)
   rw [show ((2 : Nat) : Int) = 2 from rfl] at g1 g2
   show imodel.b4 h (imodel.l4 h k) k _ _ _ _ _ = _
   unfold imodel.b4
   rw [hm, if_pos (by omega), g1, Option.bind_some]
   dsimp only
   rw [g2, Option.bind_some, if_pos (by rw [List.length_map, List.length_range]; omega), sucw i (by omega)]
   dsimp only
   rw [range_snoc_map (fun i => (⟨num0 ((bytesOf t).drop (a + i * 4)) 2, num0 ((bytesOf t).drop (a + i * 4 + 2)) 2⟩ : S54)) i, show a + i * 4 + 2 + 2 = a + (i + 1) * 4 by omega]
 · show imodel.b4 h _ k _ _ _ _ _ = _
   unfold imodel.b4
   rw [hm, if_neg (by omega)]
theorem emb_g (h : S61) (n mg : Nat) (hd : h.f0 = (n : Int)) (hm : h.f3 = (mg : Int)) (hn : n ≤ 8) (h16 : mg ≤ 16) (a : Nat) (hl : a + (256 + mg) * n ≤ t.size) (k : Nat) (hk : 1000 < k) :
   imodel.l3 h k 0 t (a : Int) bad [] = some (((256 + mg : Nat) : Int), t, ((a + (256 + mg) * n : Nat) : Int), bad, embU (bytesOf t) a n (256 + mg)) := by
 refine readLoop0 (imodel.l3 h) t bad a n (256 + mg) 40 (fun i => numsL ((bytesOf t).drop (a + i * n)) 1 128 n) (fun k i hi hk => ?_) (fun k => ?_) k (by omega)
 · have him : (i + 1) * n ≤ (256 + mg) * n := Nat.mul_le_mul_right _ (by omega)
   rw [Nat.succ_mul] at him
   have g1 := list_g t ht bad (a + i * n) 1 n 128 (by decide) (by decide) (by rw [Nat.mul_one]; omega) (by omega) k (by omega)
   rw [show ((1 : Nat) : Int) = 1 from rfl, Nat.mul_one] at g1
   show imodel.b3 h (imodel.l3 h k) k _ _ _ _ _ = _
   unfold imodel.b3
   rw [hm, hd, vocw mg h16, if_pos (by omega), g1, Option.bind_some, if_pos (by rw [List.length_map, List.length_range]; omega), sucw i (by omega)]
   dsimp only
   rw [range_snoc_map (fun i => numsL ((bytesOf t).drop (a + i * n)) 1 128 n) i, show a + i * n + n = a + (i + 1) * n by rw [Nat.succ_mul]; omega]
 · show imodel.b3 h _ k _ _ _ _ _ = _
   unfold imodel.b3
   rw [hm, vocw mg h16, if_neg (by omega)]
theorem tur_step (h : S61) (n hd c : Nat) (h0 : h.f0 = (n : Int)) (h1 : h.f1 = (hd : Int)) (h2 : h.f2 = (c : Int)) (hn : n = 4 ∨ n = 8) (hh : hd = 1 ∨ hd = 2) (hc : c ≤ 24) (a : Nat) (hl : a + c * (n / hd / 2 * 2) ≤ t.size) (L : Nat → Int → ByteArray → Int → Bool → List (List Int) → Option (Int × ByteArray × Int × Bool × List (List Int)))
   (hL : ∀ k i t b bad xs, L (k + 1) i t b bad xs = imodel.b1 h (L k) k i t b bad xs) (k : Nat) (hk : 200 < k) :
   L k 0 t (a : Int) bad [] = some ((c : Int), t, ((a + c * (n / hd / 2 * 2) : Nat) : Int), bad, turU (bytesOf t) a (n / hd / 2) c) := by
 obtain ⟨p, hp⟩ : ∃ p, p = n / hd / 2 := ⟨_, rfl⟩
 have hp4 : p ≤ 4 := by rcases hn with rfl | rfl <;> rcases hh with rfl | rfl <;> omega
 have hg := pairs_g h n hd h0 h1 hn hh
 rw [← hp] at hl hg ⊢
 refine readLoop0 L t bad a (p * 2) c 40 (fun i => numsL ((bytesOf t).drop (a + i * (p * 2))) 2 128 p) (fun k i hi hk => ?_) (fun k => ?_) k (by omega)
 · have him : (i + 1) * (p * 2) ≤ c * (p * 2) := Nat.mul_le_mul_right _ (by omega)
   rw [Nat.succ_mul] at him
   have g1 := list_g t ht bad (a + i * (p * 2)) 2 p 128 (by decide) (by decide) (by omega) (by omega) k (by omega)
   rw [show ((2 : Nat) : Int) = 2 from rfl] at g1
   rw [hL]
   unfold imodel.b1
   rw [if_pos (by omega), hg k, Option.bind_some, g1, Option.bind_some, if_pos (by rw [List.length_map, List.length_range]; omega), sucw i (by omega)]
   dsimp only
   rw [range_snoc_map (fun i => numsL ((bytesOf t).drop (a + i * (p * 2))) 2 128 p) i, show a + i * (p * 2) + p * 2 = a + (i + 1) * (p * 2) by rw [Nat.succ_mul]; omega]
 · rw [hL]
   unfold imodel.b1
   rw [if_neg (by omega)]
theorem lays_g (h : S61) (n : Nat) (hn : n = 4 ∨ n = 8) (h0 : h.f0 = (n : Int)) (us : List Nat) (h5 : h.f5 = natL us) (hu : ∀ u ∈ us, u = 4 ∨ u = 8) (h2 : us.length ≤ 2) : ∀ (rest done : List Nat) (a k : Nat) (xs : List S52), us = done ++ rest → xs.length = done.length → a + laySz n rest ≤ t.size → rest.length + 3010 < k →
   imodel.l2 h k (done.length : Int) t (a : Int) bad xs = some ((us.length : Int), t, ((a + laySz n rest : Nat) : Int), bad, xs ++ layU (bytesOf t) n a rest)
 | [], done, a, k, xs, he, hx, hl, hk => by
   obtain ⟨k, rfl⟩ : ∃ q, k = q + 1 := ⟨k - 1, by omega⟩
   rw [List.append_nil] at he
   subst he
   show imodel.b2 h _ k _ _ _ _ _ = _
   unfold imodel.b2
   rw [h5, if_neg (by simp [natL])]
   simp [layU, laySz]
 | u :: rest, done, a, k, xs, he, hx, hl, hk => by
   obtain ⟨k, rfl⟩ : ∃ q, k = q + 1 := ⟨k - 1, by omega⟩
   have hlen : us.length = done.length + (rest.length + 1) := by rw [he, List.length_append, List.length_cons]
   have hz : laySz n (u :: rest) = lSz n u + laySz n rest := by simp [laySz]
   have hk2 : rest.length + 3010 < k := by rw [List.length_cons] at hk; omega
   have hul : (natL us).length = us.length := by simp [natL]
   have hget : (natL us).getD (done.length : Int).toNat 0 = (u : Int) := by
     rw [Int.toNat_natCast, List.getD_eq_getElem?_getD, natL, List.getElem?_map, he, List.getElem?_append_right (Nat.le_refl _), Nat.sub_self]; rfl
   have g := lay_g t ht bad a n u hn (hu u (by rw [he]; simp)) (by omega) k (by omega)
   have r := lays_g h n hn h0 us h5 hu h2 rest (done ++ [u]) (a + lSz n u) k (xs ++ [RL ((bytesOf t).drop a) n u]) (by rw [he, List.append_assoc]; rfl) (by simp [hx]) (by omega) hk2
   show imodel.b2 h (imodel.l2 h k) k _ _ _ _ _ = _
   unfold imodel.b2
   rw [h5, h0, if_pos (by omega), if_pos (by omega), hget, g, Option.bind_some, if_pos (by omega), sucw done.length (by omega)]
   dsimp only
   rw [show done.length + 1 = (done ++ [u]).length by simp, r, layU, List.append_assoc, hz, ← Nat.add_assoc]
   rfl
theorem model_g (h : S61) (n hd c mg : Nat) (us : List Nat) (hn : n = 4 ∨ n = 8) (hh : hd = 1 ∨ hd = 2) (hc : c ≤ 24) (h16 : mg ≤ 16) (h0 : h.f0 = (n : Int)) (h1 : h.f1 = (hd : Int)) (h2 : h.f2 = (c : Int)) (h3 : h.f3 = (mg : Int)) (h5 : h.f5 = natL us) (hu : ∀ u ∈ us, u = 4 ∨ u = 8) (hul : us.length ≤ 2)
   (a : Nat) (hl : a + bodySz n hd c mg us ≤ t.size) (k : Nat) (hk : 4000 < k) : imodel.g k ⟨t, (a : Int), bad⟩ h = some (RMod (bytesOf t) a n hd c mg us, ⟨t, ((a + bodySz n hd c mg us : Nat) : Int), bad⟩) := by
 have n8 : n ≤ 8 := by omega
 obtain ⟨z1, hz1⟩ : ∃ z, z = (256 + mg) * n := ⟨_, rfl⟩
 obtain ⟨z2, hz2⟩ : ∃ z, z = laySz n us := ⟨_, rfl⟩
 obtain ⟨z3, hz3⟩ : ∃ z, z = mSz n (256 + mg) := ⟨_, rfl⟩
 obtain ⟨z4, hz4⟩ : ∃ z, z = c * (n / hd / 2 * 2) := ⟨_, rfl⟩
 have hb : bodySz n hd c mg us = mg * 4 + z1 + z2 + n + z3 + z4 + z4 := by unfold bodySz; rw [← hz1, ← hz2, ← hz3, ← hz4]
 unfold imodel.g
 dsimp only
 rw [mrg_g t ht bad h mg h3 h16 a (by omega) k (by omega), Option.bind_some]
 dsimp only
 rw [emb_g t ht bad h n mg h0 h3 n8 h16 (a + mg * 4) (by omega) k (by omega), Option.bind_some]
 dsimp only
 have gl := lays_g t ht bad h n hn h0 us h5 hu hul us [] (a + mg * 4 + (256 + mg) * n) k [] rfl rfl (by omega) (by omega)
 have gl : imodel.l2 h k 0 t ((a + mg * 4 + (256 + mg) * n : Nat) : Int) bad [] = _ := gl
 rw [gl, Option.bind_some]
 dsimp only
 have g1 := list_g t ht bad (a + mg * 4 + (256 + mg) * n + laySz n us) 1 n 0 (by decide) (by decide) (by rw [Nat.mul_one]; omega) (by omega) k (by omega)
 rw [show ((1 : Nat) : Int) = 1 from rfl, Nat.mul_one] at g1
 rw [h0, g1, Option.bind_some]
 dsimp only
 rw [h3, vocw mg h16, mat_g t ht bad _ n (256 + mg) hn (by omega) (by omega) k (by omega), Option.bind_some]
 dsimp only
 rw [tur_step t ht bad h n hd c h0 h1 h2 hn hh hc _ (by omega) (imodel.l1 h) (fun _ _ _ _ _ _ => rfl) k (by omega), Option.bind_some]
 dsimp only
 rw [tur_step t ht bad h n hd c h0 h1 h2 hn hh hc _ (by omega) (imodel.l0 h) (fun _ _ _ _ _ _ => rfl) k (by omega), Option.bind_some]
 dsimp only
 unfold RMod bodySz
 rw [h1, h2, List.nil_append]
 simp only [Nat.add_assoc]
end
theorem xor_c {a b c : Nat} (h : a ^^^ c = b ^^^ c) : a = b := by
 have := congrArg (· ^^^ c) h
 simpa [Nat.xor_assoc, Nat.xor_self] using this
theorem xor_l {a b c : Nat} (h : c ^^^ a = c ^^^ b) : a = b := by
 rw [Nat.xor_comm c a, Nat.xor_comm c b] at h; exact xor_c h
theorem c1_inj (a b : Nat) (ha : a < 4294967296) (hb : b < 4294967296) (h : c1 a = c1 b) : a = b := by
 have low : ∀ x, x < 2147483648 → x.testBit 31 = false := fun x hx => Nat.testBit_lt_two_pow (show x < 2 ^ 31 from hx)
 have top : ∀ x, x < 2147483648 → (x ^^^ 3558460437).testBit 31 = true := fun x hx => by
   rw [Nat.testBit_xor, low x hx]; decide
 unfold c1 at h
 by_cases ca : a % 2 = 1
 · by_cases cb : b % 2 = 1
   · rw [if_pos ca, if_pos cb] at h
     have := xor_c h
     omega
   · rw [if_pos ca, if_neg cb] at h
     have t := top (a / 2) (by omega)
     rw [h, low _ (by omega)] at t; cases t
 · by_cases cb : b % 2 = 1
   · rw [if_neg ca, if_pos cb] at h
     have t := top (b / 2) (by omega)
     rw [← h, low _ (by omega)] at t; cases t
   · rw [if_neg ca, if_neg cb] at h
     omega
theorem c8_inj : ∀ (n a b : Nat), a < 4294967296 → b < 4294967296 → c8 n a = c8 n b → a = b
 | 0, _, _, _, _, h => h
 | n + 1, a, b, ha, hb, h => c1_inj a b ha hb (c8_inj n _ _ (c1_lt a ha) (c1_lt b hb) h)
theorem xor32 {s b : Nat} (h : s < 4294967296) (hb : b < 256) : s ^^^ b < 4294967296 := Nat.xor_lt_two_pow (n := 32) h (by omega)
theorem fold_inj : ∀ (l : List Nat) (s s' : Nat), (∀ z ∈ l, z < 256) → s < 4294967296 → s' < 4294967296 → l.foldl cB s = l.foldl cB s' → s = s'
 | [], _, _, _, _, _, h => h
 | b :: l, s, s', hl, hs, hs', h => by
   have hb := hl b (List.mem_cons_self ..)
   have := fold_inj l (cB s b) (cB s' b) (fun z hz => hl z (List.mem_cons_of_mem _ hz)) (cB_lt s b hs hb) (cB_lt s' b hs' hb) h
   exact xor_c (c8_inj 8 _ _ (xor32 hs hb) (xor32 hs' hb) this)
theorem fold_set : ∀ (l : List Nat) (i v s : Nat) (hi : i < l.length), (∀ z ∈ l, z < 256) → v < 256 → v ≠ l[i] → s < 4294967296 → (l.set i v).foldl cB s ≠ l.foldl cB s
 | b :: l, 0, v, s, _, hl, hv, hn, hs => fun h => by
   have hb := hl b (List.mem_cons_self ..)
   have := fold_inj l (cB s v) (cB s b) (fun z hz => hl z (List.mem_cons_of_mem _ hz)) (cB_lt s v hs hv) (cB_lt s b hs hb) h
   exact hn (xor_l (c8_inj 8 _ _ (xor32 hs hv) (xor32 hs hb) this))
 | b :: l, i + 1, v, s, hi, hl, hv, hn, hs => fold_set l i v (cB s b) (by simpa using hi) (fun z hz => hl z (List.mem_cons_of_mem _ hz)) hv (by simpa using hn) (cB_lt s b hs (hl b (List.mem_cons_self ..)))
theorem bytes_nats (t : ByteArray) : bytesOf t = (natsOf t).map fun n : Nat => (n : Int) := by
 unfold bytesOf natsOf; rw [List.map_map]; rfl
theorem map_inj (l m : List Nat) (h : (l.map fun n : Nat => (n : Int)) = m.map fun n : Nat => (n : Int)) : l = m := by
 have := congrArg (List.map Int.toNat) h
 simpa [List.map_map, Function.comp_def] using this
theorem nats_of {t t' : ByteArray} (h : bytesOf t = bytesOf t') : natsOf t = natsOf t' := by
 rw [bytes_nats, bytes_nats] at h; exact map_inj _ _ h
theorem bytes_eq {t t' : ByteArray} (h : bytesOf t = bytesOf t') : t = t' := by
 have h1 := nats_of h
 unfold natsOf at h1
 have h2 : t.data.toList = t'.data.toList := by
   have inj : ∀ l m : List UInt8, l.map (·.toNat) = m.map (·.toNat) → l = m := fun l => by
     induction l with
     | nil => intro m hm; cases m with | nil => rfl | cons _ _ => simp at hm
     | cons a l ih =>
       intro m hm
       cases m with
       | nil => simp at hm
       | cons b m =>
         simp only [List.map_cons, List.cons.injEq] at hm
         rw [UInt8.toNat_inj.1 hm.1, ih m hm.2]
   exact inj _ _ h1
 cases t; cases t'
 congr 1
 exact Array.toList_inj.1 h2
theorem bytes_app (a b : ByteArray) : bytesOf (a ++ b) = bytesOf a ++ bytesOf b := by
 unfold bytesOf; rw [ByteArray.data_append, Array.toList_append, List.map_append]
theorem four_bytes (a : Int) : byteL (four a) := fun z hz => by
 unfold four at hz
 simp only [List.mem_cons, List.not_mem_nil, or_false] at hz
 rcases hz with rfl | rfl | rfl | rfl <;> omega
theorem four_inj (a b : Nat) (ha : a < 4294967296) (hb : b < 4294967296) (h : four (a : Int) = four (b : Int)) : a = b := by
 unfold four at h
 simp only [List.cons.injEq, and_true] at h
 omega
theorem subw (s : Nat) (h : 4 ≤ s) (h2 : s ≤ 1000000) : wrap64 ((s : Int) - 4) = ((s - 4 : Nat) : Int) := by rw [w64 (by omega) (by omega)]; omega
theorem unsealed_g (t : ByteArray) (h4 : 4 ≤ t.size) (h : t.size ≤ 12004) (k : Nat) (hk : 1000000 < k) :
   impl_Unsealed.g k t = some (if bytesOf (t.extract (t.size - 4) t.size) = four ((crc (t.extract 0 (t.size - 4)) : Nat) : Int) then (t.extract 0 (t.size - 4), true) else (⟨#[]⟩, false)) := by
 have hsz : (t.extract 0 (t.size - 4)).size = t.size - 4 := by rw [size_extract _ _ _ (by omega)]; omega
 have hc : ((strOfNums (four ((crc (t.extract 0 (t.size - 4)) : Nat) : Int))).toList = (t.extract (t.size - 4) t.size).toList) ↔ bytesOf (t.extract (t.size - 4) t.size) = four ((crc (t.extract 0 (t.size - 4)) : Nat) : Int) := by
   constructor
   · intro e
     rw [ByteArray.toList_eq, ByteArray.toList_eq] at e
     have : bytesOf (t.extract (t.size - 4) t.size) = bytesOf (strOfNums (four ((crc (t.extract 0 (t.size - 4)) : Nat) : Int))) := by unfold bytesOf; rw [e]
     rw [this, bytesOf_nums _ (four_bytes _)]
   · intro e
     rw [show t.extract (t.size - 4) t.size = strOfNums (four ((crc (t.extract 0 (t.size - 4)) : Nat) : Int)) from bytes_eq (by rw [e, bytesOf_nums _ (four_bytes _)])]
 unfold impl_Unsealed.g
 rw [subw _ h4 (by omega), impl_inB, decide_eq_true (show (0 : Int) ≤ ((t.size - 4 : Nat) : Int) by omega), decide_eq_true (show ((t.size - 4 : Nat) : Int) ≤ 12000 by omega), Option.bind_some, if_pos (show (true && true) = true from rfl), if_pos ⟨by omega, by omega⟩, if_pos ⟨by omega, by omega⟩, Int.toNat_natCast, impl_sumOf _ (by omega) k (by omega), Option.bind_some]
 show (some (strOfNums (four ((crc (t.extract 0 (t.size - 4)) : Nat) : Int)))).bind _ = _
 rw [Option.bind_some]
 by_cases c : bytesOf (t.extract (t.size - 4) t.size) = four ((crc (t.extract 0 (t.size - 4)) : Nat) : Int)
 · rw [if_pos (hc.2 c), if_pos c, if_pos ⟨by omega, by omega⟩]
 · rw [if_neg (fun e => c (hc.1 e)), if_neg c]
theorem seal_bytes (T : ByteArray) : bytesOf (sealT T) = bytesOf T ++ four ((crc T : Nat) : Int) := by
 unfold sealT; rw [bytes_app, bytesOf_nums _ (four_bytes _)]
theorem seal_size (T : ByteArray) : (sealT T).size = T.size + 4 := by
 rw [← bytesOf_length, seal_bytes, List.length_append, bytesOf_length]; rfl
theorem parts_of (t T : ByteArray) (q : List Int) (h : bytesOf t = bytesOf T ++ q) (hq : q.length = 4) : t.size = T.size + 4 ∧ t.extract 0 (t.size - 4) = T ∧ bytesOf (t.extract (t.size - 4) t.size) = q := by
 have hs : t.size = T.size + 4 := by rw [← bytesOf_length, h, List.length_append, bytesOf_length, hq]
 have e : t.size - 4 = (bytesOf T).length := by rw [bytesOf_length]; omega
 refine ⟨hs, bytes_eq ?_, ?_⟩
 · rw [bytes_extract, h, List.drop_zero, Nat.sub_zero, e, List.take_left]
 · rw [bytes_extract, h, e, List.drop_left, List.take_of_length_le (by rw [bytesOf_length]; omega)]
theorem unsealed_file (T : ByteArray) (hT : T.size ≤ 12000) (k : Nat) (hk : 1000000 < k) : impl_Unsealed.g k (sealT T) = some (T, true) := by
 obtain ⟨h1, h2, h3⟩ := parts_of (sealT T) T _ (seal_bytes T) rfl
 rw [unsealed_g _ (by omega) (by omega) k hk, h2, h3, if_pos rfl]
theorem set_app (A q : List Int) (i : Nat) (v : Int) : (A ++ q).set i v = if i < A.length then A.set i v ++ q else A ++ q.set (i - A.length) v := by
 split
 · rename_i h; rw [List.set_append_left _ _ h]
 · rename_i h; rw [List.set_append_right _ _ (by omega)]
theorem set_bytes {l : List Int} (h : byteL l) (i : Nat) (v : Int) (hv : 0 ≤ v ∧ v ≤ 255) : byteL (l.set i v) := fun z hz => by
 rcases List.mem_or_eq_of_mem_set hz with g | rfl
 · exact h z g
 · exact hv
theorem unsealed_turned (T t : ByteArray) (hT : T.size ≤ 12000) (i : Nat) (v : Int) (hv : 0 ≤ v ∧ v ≤ 255) (hi : i < (sealT T).size) (hn : v ≠ (bytesOf (sealT T))[i]'(by rw [bytesOf_length]; exact hi)) (ht : bytesOf t = (bytesOf (sealT T)).set i v) (k : Nat) (hk : 1000000 < k) :
   impl_Unsealed.g k t = some (⟨#[]⟩, false) := by
 have hsz := seal_size T
 have hn2 : (bytesOf (sealT T))[i]? ≠ some v := by
   intro e; rw [List.getElem?_eq_getElem (by rw [bytesOf_length]; exact hi)] at e; injection e with e; exact hn e.symm
 rw [seal_bytes] at ht hn2
 rw [set_app] at ht
 by_cases c : i < (bytesOf T).length
 · rw [if_pos c] at ht
   have hb : bytesOf (strOfNums ((bytesOf T).set i v)) = (bytesOf T).set i v := bytesOf_nums _ (set_bytes (byteL_of T) i v hv)
   obtain ⟨h1, h2, h3⟩ := parts_of t (strOfNums ((bytesOf T).set i v)) _ (by rw [ht, hb]) rfl
   have hs1 : (strOfNums ((bytesOf T).set i v)).size = T.size := by rw [strOfNums_size, List.length_set, bytesOf_length]
   rw [unsealed_g _ (by omega) (by omega) k hk, h2, h3, if_neg]
   intro e
   have e2 := four_inj _ _ (crc_lt _) (crc_lt _) e
   have hN : natsOf (strOfNums ((bytesOf T).set i v)) = (natsOf T).set i v.toNat := by
     apply map_inj
     rw [← bytes_nats, hb, bytes_nats, List.map_set]
     congr 1; omega
   have ci : i < (natsOf T).length := by rw [nats_len, ← bytesOf_length]; exact c
   unfold crc at e2
   rw [hN] at e2
   refine fold_set (natsOf T) i v.toNat 4294967295 ci (nats_lt T) (by omega) (fun g => hn2 ?_) (by decide) e2.symm
   rw [List.getElem?_append_left c, bytes_nats, List.getElem?_map, List.getElem?_eq_getElem ci, ← g]
   show some ((v.toNat : Nat) : Int) = some v
   congr 1; omega
 · rw [if_neg c] at ht
   obtain ⟨h1, h2, h3⟩ := parts_of t T _ ht (by rw [List.length_set]; rfl)
   rw [unsealed_g _ (by omega) (by omega) k hk, h2, h3, if_neg]
   intro e
   have hj : i - (bytesOf T).length < (four ((crc T : Nat) : Int)).length := by rw [bytesOf_length] at c ⊢; show _ < 4; omega
   apply hn2
   rw [List.getElem?_append_right (by omega)]
   have := congrArg (fun l => l[i - (bytesOf T).length]?) e
   simp only [List.getElem?_set_self hj] at this
   exact this.symm
def upsN (x : S33) : List Nat := x.f5.map fun y => y.f6.f1.length
def hOf (x : S33) (n hd c : Nat) : S61 := ⟨(n : Int), (hd : Int), (c : Int), (x.f3.length : Int), (x.f5.length : Int), natL (upsN x), ((8 + x.f5.length : Nat) : Int)⟩
theorem byts_id (l : List Int) (h : ∀ z ∈ l, 0 ≤ z ∧ z ≤ 255) : byts 0 l = l := by
 unfold byts
 conv => rhs; rw [← List.map_id l]
 apply List.map_congr_left
 intro z hz
 have := h z hz
 show b8 (wrap64 (z + 0)) = z
 rw [b8_mod, w64 (by omega) (by omega)]; omega
section
variable {x : S33} {n hd c : Nat}
theorem headT_is (h : ModR x n hd c) : headT x = [84, 77, 49, (n : Int), (hd : Int), (c : Int), (x.f3.length : Int), (x.f5.length : Int)] := by
 unfold headT
 have h1 := h.n48
 have h2 := h.h12
 have h3 := h.c24
 have h4 := h.ml
 have h5 := h.ll
 rw [byts_id, h.dim, h.hds, h.ctx]
 · rfl
 · intro z hz
   rw [h.dim, h.hds, h.ctx] at hz
   simp only [List.mem_cons, List.not_mem_nil, or_false] at hz
   rcases hz with rfl | rfl | rfl | rfl | rfl <;> omega
theorem upsT_is (h : ModR x n hd c) : upsT x = natL (upsN x) := by
 unfold upsT natL upsN
 rw [List.map_map]
 apply List.map_congr_left
 intro y hy
 have := (h.lr y hy).u48
 show b8 (wrap64 ((y.f6.f1.length : Int) + 0)) = ((y.f6.f1.length : Nat) : Int)
 rw [b8_mod, w64 (by omega) (by omega)]; omega
theorem upsN_48 (h : ModR x n hd c) : ∀ u ∈ upsN x, u = 4 ∨ u = 8 := fun u hu => by
 obtain ⟨y, hy, rfl⟩ := List.mem_map.1 hu
 exact (h.lr y hy).u48
theorem upsN_len : (upsN x).length = x.f5.length := List.length_map ..
theorem natL_len (us : List Nat) : (natL us).length = us.length := List.length_map ..
theorem cut_g (t : ByteArray) (R : List Int) (h : bytesOf t = 84 :: 77 :: 49 :: R) : strings_CutPrefix.f t ⟨#[84, 77, 49]⟩ = some (t.extract 3 t.size, true) := by
 have hs : t.size = R.length + 3 := by rw [← bytesOf_length, h]; rfl
 have e : t.extract 0 3 = ⟨#[84, 77, 49]⟩ := bytes_eq (by rw [bytes_extract, h]; rfl)
 have e3 : (⟨#[84, 77, 49]⟩ : ByteArray).size = 3 := rfl
 unfold strings_CutPrefix.f stringslite_CutPrefix.f stringslite_HasPrefix.f
 rw [e3, if_pos (by omega), if_pos (by omega), if_pos (by omega), show ((3 : Nat) : Int).toNat = 3 from rfl, e, Option.bind_some, if_pos (by simp), if_pos (by omega), if_pos (by omega)]
 rfl
theorem bt_is {B : ByteArray} {j : Nat} {v : Int} (h : (bytesOf B)[j]? = some v) : wrap64 (bt B (j : Int)) = v := by
 have e := bt_getD B 0 j
 rw [Nat.zero_add, List.drop_zero, List.getD_eq_getElem?_getD, h] at e
 have b := byteL_of B v (List.mem_of_getElem? h)
 rw [e]
 exact w64 (by show -9223372036854775808 ≤ v; omega) (by show v ≤ 9223372036854775807; omega)
theorem head_loop (B : ByteArray) (p : List Int) (hp : p.length = 5) (us : List Nat) (R : List Int) (hB : bytesOf B = p ++ (natL us ++ R)) (hu : ∀ u ∈ us, u = 4 ∨ u = 8) (h2 : us.length ≤ 2) (hn : wrap64 (bt B 4) = (us.length : Int)) (d : Nat) : ∀ (k j : Nat), j + d = us.length → d < k →
   impl_readHead.l0 (B, true) k (j : Int) 0 0 0 0 0 [] 0 (natL (us.take j)) = some (.inr ((us.length : Int), 0, 0, 0, 0, 0, [], 0, natL us)) := by
 have hs : B.size = 5 + (us.length + R.length) := by rw [← bytesOf_length, hB, List.length_append, List.length_append, natL_len, hp]
 induction d with
 | zero =>
   intro k j hj hk
   obtain ⟨k, rfl⟩ := k1_ hk
   obtain rfl : j = us.length := by omega
   show impl_readHead.b0 _ _ k _ _ _ _ _ _ _ _ _ = _
   unfold impl_readHead.b0
   dsimp only
   rw [hn, if_neg (by omega), List.take_length]
 | succ d ih =>
   intro k j hj hk
   obtain ⟨k, rfl⟩ := k1_ hk
   have hlt : j < us.length := by omega
   have hu8 := hu _ (List.getElem_mem hlt)
   have hg : (bytesOf B)[5 + j]? = some ((us[j] : Nat) : Int) := by
     rw [hB, List.getElem?_append_right (by omega), hp, Nat.add_sub_cancel_left, List.getElem?_append_left (by rw [natL_len]; exact hlt), natL, List.getElem?_map, List.getElem?_eq_getElem hlt]; rfl
   have hw : widthB ((us[j] : Nat) : Int) = true := by unfold widthB; rcases hu8 with e | e <;> rw [e] <;> rfl
   show impl_readHead.b0 _ (impl_readHead.l0 (B, true) k) k _ _ _ _ _ _ _ _ _ = _
   unfold impl_readHead.b0
   dsimp only
   rw [hn, if_pos (by omega), wn (show 5 + (j : Int) = ((5 + j : Nat) : Int) by omega) (by omega) (by omega), if_pos (by omega), bt_is hg, impl_width, hw, Option.bind_some, if_pos rfl, if_pos (by rw [natL_len, List.length_take]; omega), sucw j (by omega), show natL (us.take j) ++ [((us[j] : Nat) : Int)] = natL (us.take (j + 1)) by unfold natL; rw [List.take_succ_eq_append_getElem hlt, List.map_append]; rfl]
   exact ih k (j + 1) (by omega) (by omega)
theorem head_g (h : ModR x n hd c) (t : ByteArray) (R : List Int) (ht : bytesOf t = headT x ++ (upsT x ++ R)) (k : Nat) (hk : 10 < k) : impl_readHead.g k t = some (hOf x n hd c, true) := by
 have h1 := h.n48
 have h2 := h.h12
 have h3 := h.c24
 have h3' := h.c4
 have h4 := h.ml
 have h5 := h.ll
 rw [headT_is h, upsT_is h] at ht
 have hB : bytesOf (t.extract 3 t.size) = [(n : Int), (hd : Int), (c : Int), (x.f3.length : Int), (x.f5.length : Int)] ++ (natL (upsN x) ++ R) := by
   rw [bytes_extract, List.take_of_length_le (by rw [List.length_drop, bytesOf_length]; omega), ht]; rfl
 unfold impl_readHead.g
 rw [cut_g t _ ht, Option.bind_some]
 generalize t.extract 3 t.size = B at hB ⊢
 have hs : B.size = 5 + (x.f5.length + R.length) := by rw [← bytesOf_length, hB, List.length_append, List.length_append, natL_len, upsN_len]; rfl
 have b0 : wrap64 (bt B 0) = (n : Int) := bt_is (j := 0) (by rw [hB]; rfl)
 have b1 : wrap64 (bt B 1) = (hd : Int) := bt_is (j := 1) (by rw [hB]; rfl)
 have b2 : wrap64 (bt B 2) = (c : Int) := bt_is (j := 2) (by rw [hB]; rfl)
 have b3 : wrap64 (bt B 3) = (x.f3.length : Int) := bt_is (j := 3) (by rw [hB]; rfl)
 have b4 : wrap64 (bt B 4) = (x.f5.length : Int) := bt_is (j := 4) (by rw [hB]; rfl)
 have hl := head_loop B _ rfl (upsN x) R hB (upsN_48 h) (by rw [upsN_len]; omega) (by rw [upsN_len]; exact b4) (upsN x).length k 0 (by omega) (by rw [upsN_len]; omega)
 have hl : impl_readHead.l0 (B, true) k 0 0 0 0 0 0 [] 0 [] = _ := hl
 have hw : widthB (n : Int) = true := by unfold widthB; rcases h1 with e | e <;> rw [e] <;> rfl
 dsimp only
 rw [b0, b1, b2, b3, b4, if_pos rfl, if_neg (by omega), if_pos (by omega), if_pos (by omega), if_pos (by omega), if_pos (by omega), if_pos (by omega), impl_width, hw, Option.bind_some, if_pos rfl,
   impl_inB, decide_eq_true (show (1 : Int) ≤ (hd : Int) by omega), decide_eq_true (show (hd : Int) ≤ 2 by omega), Option.bind_some, if_pos (show (true && true) = true from rfl),
   impl_inB, decide_eq_true (show (4 : Int) ≤ (c : Int) by omega), decide_eq_true (show (c : Int) ≤ 24 by omega), Option.bind_some, if_pos (show (true && true) = true from rfl), if_neg (by omega),
   impl_inB, decide_eq_true (show (1 : Int) ≤ (x.f5.length : Int) by omega), decide_eq_true (show (x.f5.length : Int) ≤ 2 by omega), Option.bind_some, if_pos (show (true && true) = true from rfl),
   wn (show 5 + (x.f5.length : Int) = ((5 + x.f5.length : Nat) : Int) by omega) (by omega) (by omega), if_neg (by omega), hl, Option.bind_some, wn (show 8 + (x.f5.length : Int) = ((8 + x.f5.length : Nat) : Int) by omega) (by omega) (by omega)]
 rfl
theorem mSz_le {w r : Nat} (hw : w = 4 ∨ w = 8) (hr : r ≤ 300) : mSz w r ≤ 2000 := by
 unfold mSz
 rcases hw with rfl | rfl <;> omega
theorem matBytes (w r : Nat) (hw : w = 4 ∨ w = 8) (hr : r ≤ 300) : impl_matrixBytes.f (w : Int) (r : Int) = some ((mSz w r : Nat) : Int) := by
 have h2 : w * r ≤ 2400 := by rcases hw with rfl | rfl <;> omega
 obtain ⟨N, hN⟩ : ∃ N, N = w * r := ⟨_, rfl⟩
 have hq : (N + 1) / 2 + N / 4 + 4 = mSz w r := by
   unfold mSz
   rw [Nat.mul_comm r w, ← hN]
   rcases hw with rfl | rfl <;> omega
 have e4 : Int.tdiv (N : Int) 4 = ((N / 4 : Nat) : Int) := by rw [Int.tdiv_eq_ediv_of_nonneg (by omega)]; omega
 unfold impl_matrixBytes.f
 rw [mulw w r N hN.symm (by omega), mulw r w N (by rw [hN, Nat.mul_comm]) (by omega), sucw N (by omega), tdiv_2, e4, w64 (i := (((N + 1) / 2 : Nat) : Int)) (by omega) (by omega), w64 (i := ((N / 4 : Nat) : Int)) (by omega) (by omega), addw _ _ (by omega) (by omega), wn (show (((N + 1) / 2 + N / 4 : Nat) : Int) + 4 = ((mSz w r : Nat) : Int) by omega) (by omega) (by omega)]
theorem bytes_from (y : S61) (n : Nat) (hn : n = 4 ∨ n = 8) (h0 : y.f0 = (n : Int)) (us : List Nat) (h5 : y.f5 = natL us) (hu : ∀ u ∈ us, u = 4 ∨ u = 8) (h2 : us.length ≤ 2) : ∀ (rest done : List Nat) (s k : Nat), us = done ++ rest → s + laySz n rest ≤ 100000 → rest.length < k →
   ibytes.l0 y k (s : Int) (done.length : Int) = some (((s + laySz n rest : Nat) : Int), (us.length : Int))
 | [], done, s, k, he, hs, hk => by
   obtain ⟨k, rfl⟩ : ∃ q, k = q + 1 := ⟨k - 1, by omega⟩
   rw [List.append_nil] at he
   subst he
   show ibytes.b0 _ _ k _ _ = _
   unfold ibytes.b0
   rw [h5, natL_len, if_neg (by omega)]
   simp [laySz]
 | u :: rest, done, s, k, he, hs, hk => by
   obtain ⟨k, rfl⟩ : ∃ q, k = q + 1 := ⟨k - 1, by omega⟩
   have hlen : us.length = done.length + (rest.length + 1) := by rw [he, List.length_append, List.length_cons]
   have hz : laySz n (u :: rest) = lSz n u + laySz n rest := by simp [laySz]
   have hget : (natL us).getD (done.length : Int).toNat 0 = (u : Int) := by
     rw [Int.toNat_natCast, List.getD_eq_getElem?_getD, natL, List.getElem?_map, he, List.getElem?_append_right (Nat.le_refl _), Nat.sub_self]; rfl
   have hu4 := hu u (by rw [he]; simp)
   have r := bytes_from y n hn h0 us h5 hu h2 rest (done ++ [u]) (s + lSz n u) k (by rw [he, List.append_assoc]; rfl) (by omega) (by rw [List.length_cons] at hk; omega)
   have q1 := mSz_le hn (show n ≤ 300 by omega)
   have q2 := mSz_le hn (show u ≤ 300 by omega)
   have q3 := mSz_le hu4 (show n ≤ 300 by omega)
   have hl : lSz n u = 2 * n + 4 * mSz n n + mSz n u + mSz u n := rfl
   show ibytes.b0 _ (ibytes.l0 y k) k _ _ = _
   unfold ibytes.b0
   rw [h5, h0, natL_len, if_pos (by omega), if_pos (by omega), hget, matBytes n n hn (by omega), Option.bind_some, matBytes n u hn (by omega), Option.bind_some, matBytes u n hu4 (by omega), Option.bind_some,
     wn (show 2 * (n : Int) = ((2 * n : Nat) : Int) by omega) (by omega) (by omega), wn (show 4 * ((mSz n n : Nat) : Int) = ((4 * mSz n n : Nat) : Int) by omega) (by omega) (by omega), addw _ _ (by omega) (by omega), addw _ _ (by omega) (by omega), addw _ _ (by omega) (by omega), addw _ _ (by omega) (by omega), sucw _ (by omega), ← hl, show done.length + 1 = (done ++ [u]).length by simp, r, hz, ← Nat.add_assoc]
theorem laySz_le {us : List Nat} (hn : n = 4 ∨ n = 8) (hu : ∀ u ∈ us, u = 4 ∨ u = 8) : laySz n us ≤ us.length * 400 := by
 induction us with
 | nil => simp [laySz]
 | cons u us ih =>
   have := lSz_le hn (hu u (List.mem_cons_self ..))
   have := ih (fun v hv => hu v (List.mem_cons_of_mem _ hv))
   have hz : laySz n (u :: us) = lSz n u + laySz n us := by simp [laySz]
   rw [hz, List.length_cons]; omega
theorem bytes_g (h : ModR x n hd c) (k : Nat) (hk : 10 < k) : ibytes.g k (hOf x n hd c) = some ((8 + x.f5.length + bodySz n hd c x.f3.length (upsN x) : Nat) : Int) := by
 have h1 := h.n48
 have h2 := h.h12
 have h3 := h.c24
 have h4 := h.ml
 have h5 := h.ll
 obtain ⟨p, hp⟩ : ∃ p, p = n / hd / 2 := ⟨_, rfl⟩
 have hp4 : p ≤ 4 := by rcases h1 with rfl | rfl <;> rcases h2 with rfl | rfl <;> omega
 have hcp : c * p ≤ 96 := by have := Nat.mul_le_mul h3 hp4; omega
 have hvn : (256 + x.f3.length) * n ≤ 2176 := by have := Nat.mul_le_mul (show 256 + x.f3.length ≤ 272 by omega) (show n ≤ 8 by omega); omega
 have hls := laySz_le h1 (upsN_48 h)
 rw [upsN_len] at hls
 have hm := mSz_le h1 (show 256 + x.f3.length ≤ 300 by omega)
 obtain ⟨V, hV⟩ : ∃ V, V = (256 + x.f3.length) * n := ⟨_, rfl⟩
 obtain ⟨Q, hQ⟩ : ∃ Q, Q = c * p := ⟨_, rfl⟩
 have hb : bodySz n hd c x.f3.length (upsN x) = x.f3.length * 4 + V + laySz n (upsN x) + n + mSz n (256 + x.f3.length) + 4 * Q := by
   unfold bodySz
   rw [← hp, ← hV, ← Nat.mul_assoc, ← hQ]; omega
 have hg := pairs_g (hOf x n hd c) n hd rfl rfl h1 h2 k
 rw [← hp] at hg
 have hbf := bytes_from (hOf x n hd c) n h1 rfl (upsN x) rfl (upsN_48 h) (by rw [upsN_len]; omega) (upsN x) [] (8 + x.f5.length + 4 * x.f3.length + V + n + mSz n (256 + x.f3.length) + 4 * Q) k rfl (by omega) (by rw [upsN_len]; omega)
 have hbf : ibytes.l0 (hOf x n hd c) k ((8 + x.f5.length + 4 * x.f3.length + V + n + mSz n (256 + x.f3.length) + 4 * Q : Nat) : Int) 0 = _ := hbf
 have e12 : 8 + x.f5.length + 4 * x.f3.length + V + n + mSz n (256 + x.f3.length) + 4 * Q + laySz n (upsN x) = 8 + x.f5.length + bodySz n hd c x.f3.length (upsN x) := by omega
 have q4 : 4 * c * p = 4 * Q := by rw [hQ, Nat.mul_assoc]
 unfold ibytes.g
 show ((impl_matrixBytes.f (n : Int) (wrap64 (256 + (x.f3.length : Int)))).bind fun t7 => ((ipairs.g k (hOf x n hd c)).bind fun t10 => (ibytes.l0 (hOf x n hd c) k (wrap64 (wrap64 (wrap64 (wrap64 (wrap64 (((8 + x.f5.length : Nat) : Int) + wrap64 (4 * (x.f3.length : Int))) + wrap64 (wrap64 (256 + (x.f3.length : Int)) * (n : Int))) + (n : Int)) + t7) + wrap64 (wrap64 (4 * (c : Int)) * t10))) 0).bind fun o => some o.1)) = _
 have hg : ipairs.g k (hOf x n hd c) = _ := hg
 rw [vocw _ h4, matBytes n _ h1 (by omega), Option.bind_some, hg, Option.bind_some, wn (show 4 * (x.f3.length : Int) = ((4 * x.f3.length : Nat) : Int) by omega) (by omega) (by omega), addw _ _ (by omega) (by omega), mulw _ n V hV.symm (by omega), addw _ _ (by omega) (by omega), addw _ _ (by omega) (by omega), addw _ _ (by omega) (by omega),
   wn (show 4 * (c : Int) = ((4 * c : Nat) : Int) by omega) (by omega) (by omega), mulw _ p _ q4 (by omega), addw _ _ (by omega) (by omega), hbf, Option.bind_some, e12]
theorem modT_size (h : ModR x n hd c) : (modT x).length = 8 + x.f5.length + bodySz n hd c x.f3.length (upsN x) := by
 have e : laySz n (upsN x) = sumS (fun y => lSz n y.f6.f1.length) x.f5 := by
   unfold laySz upsN
   rw [List.map_map]
   generalize x.f5 = l
   induction l with
   | nil => rfl
   | cons y l ih => rw [List.map_cons, List.sum_cons, ih, sumS_cons]; rfl
 rw [modT_len h]
 unfold bodySz
 rw [e]; omega
end
section
variable {x : S33} {n hd c : Nat}
theorem spec_ups (h : ModR x n hd c) (xs : List Int) (hx : xs.length ≤ 1000) (k : Nat) (hk : 100 < k) : sMT.l3 x k xs 0 = some (xs ++ upsT x, (x.f5.length : Int)) := by
 have hl := h.ll
 have g := loopCat0 x.f5 (fun y => [b8 (wrap64 ((y.f6.f1.length : Int) + 0))]) (fun k i xs => sMT.l3 x k xs (i : Int)) (fun xs => some (xs, (x.f5.length : Int))) 10 2000
   (fun k i hi xs hk hM => by
     show sMT.b3 x (sMT.l3 x k) k xs (i : Int) = _
     unfold sMT.b3
     have hM : xs.length + 1 ≤ 2000 := hM
     have hu := (h.lr _ (List.getElem_mem hi)).up.le
     have hu2 := (h.lr _ (List.getElem_mem hi)).up.rws
     rw [if_pos (by omega), if_pos (by omega), if_pos (by omega), getD_int x.f5 _ i hi, w64 (i := (i : Int) + 1) (by omega) (by omega), show ((i : Int) + 1) = ((i + 1 : Nat) : Int) by omega, w64 (i := (x.f5[i].f6.f1.length : Int) + 0) (by omega) (by omega), Int.add_zero]; rfl)
   (fun k xs => by
     show sMT.b3 x (sMT.l3 x k) k xs (x.f5.length : Int) = _
     unfold sMT.b3
     rw [if_neg (by omega)]) k xs (by omega) (by rw [flat_one, List.length_map]; omega)
 rw [flat_one] at g
 exact g
theorem spec_mrg (h : ModR x n hd c) (xs : List Int) (hx : xs.length ≤ 1000) (k : Nat) (hk : 100 < k) : sMT.l2 x k xs 0 = some (xs ++ mrgT x, (x.f3.length : Int)) := by
 have hl := h.ml
 have hf : (mrgT x).length = _ := mrgT_len
 exact loopCat0 x.f3 (fun m => two m.f0 ++ two m.f1) (fun k i xs => sMT.l2 x k xs (i : Int)) (fun xs => some (xs, (x.f3.length : Int))) 10 2000
   (fun k i hi xs hk hM => by
     have ht := h.mt _ (List.getElem_mem hi)
     show sMT.b2 x (sMT.l2 x k) k xs (i : Int) = _
     unfold sMT.b2
     have hM : xs.length + 4 ≤ 2000 := hM
     rw [if_pos (by omega), if_pos (by omega), getD_int x.f3 _ i hi, spec_two2 k _ (by omega) (by omega), Option.bind_some, if_pos (by rw [two_len]; omega), spec_two2 k _ (by omega) (by omega), Option.bind_some, if_pos (by rw [List.length_append, two_len, two_len]; omega), w64 (i := (i : Int) + 1) (by omega) (by omega), show ((i : Int) + 1) = ((i + 1 : Nat) : Int) by omega, List.append_assoc])
   (fun k xs => by
     show sMT.b2 x (sMT.l2 x k) k xs (x.f3.length : Int) = _
     unfold sMT.b2
     rw [if_neg (by omega)]) k xs (by omega) (by show xs.length + (mrgT x).length ≤ 2000; omega)
theorem spec_emb (h : ModR x n hd c) (xs : List Int) (hx : xs.length ≤ 1000) (k : Nat) (hk : 1000 < k) : sMT.l1 x k xs 0 = some (xs ++ embT x, (x.f4.length : Int)) := by
 have hl := h.ml
 have he := h.el
 have hn := h.n48
 have hf := embT_le h
 exact loopCat0 x.f4 (byts 128) (fun k i xs => sMT.l1 x k xs (i : Int)) (fun xs => some (xs, (x.f4.length : Int))) 20 5000
   (fun k i hi xs hk hM => by
     have hr := (h.er _ (List.getElem_mem hi)).1
     show sMT.b1 x (sMT.l1 x k) k xs (i : Int) = _
     unfold sMT.b1
     rw [if_pos (by omega), if_pos (by omega), getD_int x.f4 _ i hi, spec_bytes k 128 _ (by omega) (by omega), Option.bind_some, if_pos (by rw [byts_len]; omega), w64 (i := (i : Int) + 1) (by omega) (by omega), show ((i : Int) + 1) = ((i + 1 : Nat) : Int) by omega])
   (fun k xs => by
     show sMT.b1 x (sMT.l1 x k) k xs (x.f4.length : Int) = _
     unfold sMT.b1
     rw [if_neg (by omega)]) k xs (by omega) (by show xs.length + (embT x).length ≤ 5000; omega)
theorem spec_lays (h : ModR x n hd c) (xs : List Int) (hx : xs.length ≤ 5000) (k : Nat) (hk : 6000 < k) : sMT.l0 x k xs 0 = some (xs ++ laysT x, (x.f5.length : Int)) := by
 have hl := h.ll
 have hn := h.n48
 have hf := laysT_le h
 exact loopCat0 x.f5 layT (fun k i xs => sMT.l0 x k xs (i : Int)) (fun xs => some (xs, (x.f5.length : Int))) 5900 6500
   (fun k i hi xs hk hM => by
     have hy := h.lr _ (List.getElem_mem hi)
     obtain ⟨y, ey⟩ : ∃ y, x.f5[i] = y := ⟨_, rfl⟩
     rw [ey] at hy hM
     have hg : x.f5.getD (i : Int).toNat o52 = y := by rw [getD_int x.f5 _ i hi, ey]
     have g1 := hy.g1.1
     have g2 := hy.g2.1
     unfold layT at hM
     simp only [List.length_append, byts_len] at hM
     show sMT.b0 x (sMT.l0 x k) k xs (i : Int) = _
     unfold sMT.b0
     rw [if_pos (by omega), if_pos (by omega), hg, spec_bytes k 0 _ (by omega) (by omega), Option.bind_some, if_pos (by rw [byts_len]; omega), spec_matT hy.q k (by omega), Option.bind_some, if_pos (by simp only [List.length_append, byts_len]; omega), spec_matT hy.k k (by omega), Option.bind_some, if_pos (by simp only [List.length_append, byts_len]; omega),
       spec_matT hy.v k (by omega), Option.bind_some, if_pos (by simp only [List.length_append, byts_len]; omega), spec_matT hy.o k (by omega), Option.bind_some, if_pos (by simp only [List.length_append, byts_len]; omega), spec_bytes k 0 _ (by omega) (by omega), Option.bind_some, if_pos (by simp only [List.length_append, byts_len]; omega),
       spec_matT hy.up k (by omega), Option.bind_some, if_pos (by simp only [List.length_append, byts_len]; omega), spec_matT hy.dn k (by omega), Option.bind_some, if_pos (by simp only [List.length_append, byts_len]; omega), w64 (i := (i : Int) + 1) (by omega) (by omega), show ((i : Int) + 1) = ((i + 1 : Nat) : Int) by omega, ey]
     congr 1
     unfold layT
     simp only [List.append_assoc])
   (fun k xs => by
     show sMT.b0 x (sMT.l0 x k) k xs (x.f5.length : Int) = _
     unfold sMT.b0
     rw [if_neg (by omega)]) k xs (by omega) (by show xs.length + (laysT x).length ≤ 6500; omega)
theorem spec_head (h : ModR x n hd c) : [84, 77, 49] ++ [IntKind.u8.wrap x.f0, IntKind.u8.wrap x.f1, IntKind.u8.wrap x.f2, IntKind.u8.wrap (x.f3.length : Int), IntKind.u8.wrap (x.f5.length : Int)] = headT x := by
 have h1 := h.ml
 have h2 := h.ll
 have h3 := h.c24
 have h4 := h.n48
 have h5 := h.h12
 unfold headT byts b8
 simp only [List.map_cons, List.map_nil]
 rw [h.dim, h.hds, h.ctx, w64 (i := (n : Int) + 0) (by omega) (by omega), w64 (i := (hd : Int) + 0) (by omega) (by omega), w64 (i := (c : Int) + 0) (by omega) (by omega), w64 (i := (x.f3.length : Int) + 0) (by omega) (by omega), w64 (i := (x.f5.length : Int) + 0) (by omega) (by omega)]
 simp only [Int.add_zero]
end
theorem spec_text (x : S33) (hx : iModel x ≤ 1048576) (k : Nat) (hk : 7000000 < k) : sMT.g k x = some (if modelB x = true then (fileT x, true) else (⟨#[]⟩, false)) := by
 unfold sMT.g
 rw [spec_model x hx k (by omega), Option.bind_some]
 by_cases hb : modelB x = true
 · rw [if_pos hb, if_pos hb]
   obtain ⟨n, hd, c, h⟩ := mod_r x hb
   have h1 := embT_le h
   have h2 := headM_le h
   have h3 := laysT_le h
   have h4 := turT_le h.cs
   have h5 := turT_le h.sn
   have h6 := h.ml
   have h7 := h.ll
   have h8 := h.n48
   have h9 := modT_le h
   have g6 := h.ge.1
   have u1 : (upsT x).length = _ := upsT_len
   have u2 : (mrgT x).length = _ := mrgT_len
   rw [spec_head h, spec_ups h _ (by rw [headT_len]; omega) k (by omega), Option.bind_some]
   dsimp only
   rw [spec_mrg h _ (by rw [List.length_append, headT_len]; omega) k (by omega), Option.bind_some]
   dsimp only
   rw [spec_emb h _ (by simp only [List.length_append, headT_len]; omega) k (by omega), Option.bind_some]
   dsimp only
   rw [spec_lays h _ (by simp only [List.length_append, headT_len]; omega) k (by omega), Option.bind_some]
   dsimp only
   rw [spec_bytes k 0 _ (by omega) (by omega), Option.bind_some, if_pos (by simp only [List.length_append, headT_len, byts_len]; omega)]
   rw [spec_matT h.hm k (by omega), Option.bind_some, if_pos (by simp only [List.length_append, headT_len, byts_len]; omega)]
   rw [spec_turT _ _ _ h.cs k (by omega), Option.bind_some, if_pos (by simp only [List.length_append, headT_len, byts_len]; omega)]
   rw [spec_turT _ _ _ h.sn k (by omega), Option.bind_some, if_pos (by simp only [List.length_append, headT_len, byts_len]; omega)]
   have e : headT x ++ upsT x ++ mrgT x ++ embT x ++ laysT x ++ byts 0 x.f6 ++ matT x.f7 ++ turT x.f8.f0 ++ turT x.f8.f1 = modT x := by unfold modT; simp only [List.append_assoc]
   rw [e, w64 (by omega) (by omega), if_neg (by omega), spec_sealT _ (by rw [strOfNums_size]; omega) k (by omega), Option.bind_some]; rfl
 · rw [if_neg hb, if_neg hb]
theorem byteL_app {l m : List Int} (h : byteL l) (g : byteL m) : byteL (l ++ m) := fun z hz => by
 rcases List.mem_append.1 hz with a | a
 · exact h z a
 · exact g z a
theorem byteL_flat {α : Type} {T : α → List Int} {l : List α} (h : ∀ x ∈ l, byteL (T x)) : byteL (l.map T).flatten := fun z hz => by
 obtain ⟨q, hq, hz⟩ := List.mem_flatten.1 hz
 obtain ⟨x, hx, rfl⟩ := List.mem_map.1 hq
 exact h x hx z hz
theorem b8_bd (n : Int) : 0 ≤ b8 n ∧ b8 n ≤ 255 := by rw [b8_mod]; omega
theorem byts_byte (a : Int) (l : List Int) : byteL (byts a l) := fun z hz => by
 obtain ⟨x, _, rfl⟩ := List.mem_map.1 hz
 exact b8_bd _
theorem two_byte (n : Int) : byteL (two n) := fun z hz => by
 unfold two at hz
 simp only [List.mem_cons, List.not_mem_nil, or_false] at hz
 rcases hz with rfl | rfl <;> exact b8_bd _
theorem three_byte (n : Int) : byteL (three n) := fun z hz => by
 unfold three at hz
 simp only [List.mem_cons, List.not_mem_nil, or_false] at hz
 rcases hz with rfl | rfl | rfl <;> exact b8_bd _
section
variable {x : S33} {n hd c : Nat}
theorem matT_byte {m : S29} {w r : Nat} (h : MatR m w r) : byteL (matT m) :=
 byteL_app (packN_bytes _ h.flat.2) (byteL_app (byteL_flat fun _ _ => byts_byte 0 _) (byteL_app (three_byte _) (byts_byte 0 _)))
theorem layT_byte {y : S52} {u : Nat} (h : LayR y n u) : byteL (layT y) :=
 byteL_app (byts_byte _ _) (byteL_app (matT_byte h.q) (byteL_app (matT_byte h.k) (byteL_app (matT_byte h.v) (byteL_app (matT_byte h.o) (byteL_app (byts_byte _ _) (byteL_app (matT_byte h.up) (matT_byte h.dn)))))))
theorem turT_byte (l : List (List Int)) : byteL (turT l) := byteL_flat fun _ _ => byteL_flat fun _ _ => two_byte _
theorem modT_byte (h : ModR x n hd c) : byteL (modT x) := by
 refine byteL_app (byteL_app ?_ (byts_byte _ _)) (byteL_app ?_ (byteL_app (byteL_flat fun _ _ => byteL_app (two_byte _) (two_byte _)) (byteL_app (byteL_flat fun _ _ => byts_byte _ _) (byteL_app (byteL_flat fun y hy => layT_byte (h.lr y hy)) (byteL_app (byts_byte _ _) (byteL_app (matT_byte h.hm) (byteL_app (turT_byte _) (turT_byte _))))))))
 · intro z hz
   simp only [List.mem_cons, List.not_mem_nil, or_false] at hz
   rcases hz with rfl | rfl | rfl <;> decide
 · intro z hz
   obtain ⟨y, _, rfl⟩ := List.mem_map.1 hz
   exact b8_bd _
theorem layU_back (L : List Int) : ∀ (l : List S52) (a : Nat) (R : List Int), (∀ y ∈ l, LayR y n y.f6.f1.length) → L.drop a = (l.map layT).flatten ++ R → layU L n a (l.map fun y => y.f6.f1.length) = l
 | [], a, R, _, _ => rfl
 | y :: l, a, R, h, e => by
   have hy := h y (List.mem_cons_self ..)
   rw [List.map_cons, List.flatten_cons, List.append_assoc] at e
   rw [List.map_cons, layU, e, RL_back hy, layU_back L l _ R (fun z hz => h z (List.mem_cons_of_mem _ hz)) (drop_next e (layT_len hy))]
theorem RMod_back (h : ModR x n hd c) : RMod (modT x) (8 + x.f5.length) n hd c x.f3.length (upsN x) = x := by
 have eh : (modT x).drop 0 = headT x ++ (upsT x ++ (mrgT x ++ (embT x ++ (laysT x ++ (byts 0 x.f6 ++ (matT x.f7 ++ (turT x.f8.f0 ++ turT x.f8.f1))))))) := rfl
 have e0 := drop_next (drop_next eh headT_len) upsT_len
 rw [Nat.zero_add] at e0
 have hls : (laysT x).length = laySz n (upsN x) := by
   have := modT_size h
   rw [laysT_len h]
   unfold laySz upsN
   rw [List.map_map]
   generalize x.f5 = l
   induction l with
   | nil => rfl
   | cons y l ih => rw [List.map_cons, List.sum_cons, ← ih, sumS_cons]; rfl
 have e1 := drop_next e0 mrgT_len
 have e2 := drop_next e1 (embT_len h)
 have e3 := drop_next e2 hls
 have e4 := drop_next e3 (show _ = n by rw [byts_len]; exact h.ge.1)
 have e5 := drop_next e4 (show _ = mSz n (256 + x.f3.length) from h.hm.len)
 have e6 := drop_next e5 (turT_len _ _ _ h.cs)
 have gm : mrgU (modT x) (8 + x.f5.length) x.f3.length = x.f3 := by
   refine range_is x.f3 _ _ rfl fun i hi => ?_
   obtain ⟨r, hr⟩ := flat_drop (fun m : S54 => two m.f0 ++ two m.f1) 4 (embT x ++ (laysT x ++ (byts 0 x.f6 ++ (matT x.f7 ++ (turT x.f8.f0 ++ turT x.f8.f1))))) x.f3 i hi (fun _ _ => rfl)
   have d1 : (modT x).drop (8 + x.f5.length + i * 4) = two x.f3[i].f0 ++ (two x.f3[i].f1 ++ r) := by
     have hr : (mrgT x ++ _).drop (i * 4) = _ := hr
     rw [← List.drop_drop, e0, hr, List.append_assoc]
   have d2 := drop_next d1 (show _ = 2 from rfl)
   have hb := h.mt _ (List.getElem_mem hi)
   rw [d1, d2, num_two _ _ hb.1.1 (by omega), num_two _ _ hb.2.1 (by omega)]
 have gr : ∀ (l : List (List Int)) (p a : Nat) (R : List Int), turR l c p → (modT x).drop a = turT l ++ R → turU (modT x) a p c = l := by
   intro l p a R hl ha
   refine range_is l c _ hl.1 fun i hi => ?_
   have hb := hl.2.2.2 _ (List.getElem_mem hi)
   obtain ⟨r, hr⟩ := flat_drop (fun r : List Int => (r.map fun n => two (n + 128)).flatten) (p * 2) R l i hi (fun r hr => by rw [row_two, (hl.2.2.2 r hr).1])
   rw [← List.drop_drop, ha]
   have hr : (turT l ++ R).drop (i * (p * 2)) = _ := hr
   rw [hr]
   exact nums2_back _ _ _ hb.1 hb.2
 have ge : embU (modT x) (8 + x.f5.length + x.f3.length * 4) n (256 + x.f3.length) = x.f4 := by
   refine range_is x.f4 _ _ h.el fun i hi => ?_
   have hb := h.er _ (List.getElem_mem hi)
   obtain ⟨r, hr⟩ := flat_drop (byts 128) n (laysT x ++ (byts 0 x.f6 ++ (matT x.f7 ++ (turT x.f8.f0 ++ turT x.f8.f1)))) x.f4 i hi (fun r hr => by rw [byts_len, (h.er r hr).1])
   rw [← List.drop_drop, e1]
   have hr : (embT x ++ _).drop (i * n) = _ := hr
   rw [hr]
   exact nums_back _ 128 _ _ hb.1 (fun z hz => by have := hb.2 z hz; omega)
 have gl : layU (modT x) n _ (upsN x) = x.f5 := layU_back (n := n) (modT x) x.f5 _ _ h.lr e2
 unfold RMod
 rw [gm, ge, gl, e3, e4, nums_back _ 0 _ _ h.ge.1 (fun z hz => by have := h.ge.2 z hz; omega), RM_back h.hm, gr _ _ _ _ h.cs e5, gr x.f8.f1 _ _ [] h.sn (by rw [e6, List.append_nil]), ← h.dim, ← h.hds, ← h.ctx]
theorem modT_lo (h : ModR x n hd c) : 1000 ≤ (modT x).length := by
 rw [modT_len h]
 have : 256 * 4 ≤ (256 + x.f3.length) * n := Nat.mul_le_mul (by omega) (by have := h.n48; omega)
 omega
theorem fileT_size (h : ModR x n hd c) : (fileT x).size = (modT x).length + 4 := by
 show (sealT (strOfNums (modT x))).size = _
 rw [seal_size, strOfNums_size]
theorem fileT_bytes (h : ModR x n hd c) : bytesOf (fileT x) = modT x ++ four ((crc (strOfNums (modT x)) : Nat) : Int) := by
 show bytesOf (sealT (strOfNums (modT x))) = _
 rw [seal_bytes, bytesOf_nums _ (modT_byte h)]
theorem read_back (x : S33) (hx : iModel x ≤ 1048576) (hb : modelB x = true) (k : Nat) (hk : 7000000 < k) : iRM.g k (fileT x) = some (x, 0) := by
 obtain ⟨n, hd, c, h⟩ := mod_r x hb
 have h1 := modT_lo h
 have h2 := modT_le h
 have h3 := fileT_size h
 have h4 := modT_size h
 have hl := h.ll
 have hB : bytesOf (strOfNums (modT x)) = modT x := bytesOf_nums _ (modT_byte h)
 have hs : (strOfNums (modT x)).size = (modT x).length := strOfNums_size _
 have hg := model_g (strOfNums (modT x)) (by omega) false (hOf x n hd c) n hd c x.f3.length (upsN x) h.n48 h.h12 h.c24 h.ml rfl rfl rfl rfl rfl (upsN_48 h) (by rw [upsN_len]; omega) (8 + x.f5.length) (by omega) k (by omega)
 rw [hB, RMod_back h] at hg
 have hbk := bytes_g h k (by omega)
 unfold iRM.g
 rw [if_neg (by omega), show fileT x = sealT (strOfNums (modT x)) from rfl, unsealed_file _ (by omega) k (by omega), Option.bind_some, if_pos rfl]
 dsimp only
 rw [head_g h (strOfNums (modT x)) _ (by rw [hB]; rfl) k (by omega), Option.bind_some, if_pos rfl]
 show ((ibytes.g k (hOf x n hd c)).bind fun t32 => (if ((strOfNums (modT x)).size : Int) = t32 then ((imodel.g k ⟨strOfNums (modT x), ((8 + x.f5.length : Nat) : Int), false⟩ (hOf x n hd c)).bind _) else _)) = _
 rw [hbk, Option.bind_some, if_pos (by omega), hg, Option.bind_some, impl_text x hx k hk, if_pos hb, Option.bind_some, if_neg (by simp), if_pos rfl, if_pos (show (fileT x).toList = (sealT (strOfNums (modT x))).toList from rfl)]
theorem code_other (h : ModR x n hd c) (t : ByteArray) (R : List Int) (h24 : 24 ≤ t.size) (hs : t.size ≤ 12004) (ht : bytesOf (t.extract 0 (t.size - 4)) = headT x ++ (upsT x ++ R)) (hne : t.size ≠ (modT x).length + 4) (k : Nat) (hk : 7000000 < k) : ∃ m code, iRM.g k t = some (m, code) ∧ code ≠ 0 := by
 have h4 := modT_size h
 have hz : (t.extract 0 (t.size - 4)).size = t.size - 4 := by rw [size_extract _ _ _ (by omega)]; omega
 unfold iRM.g
 rw [if_neg (by omega), unsealed_g t (by omega) hs k (by omega), Option.bind_some]
 by_cases cc : bytesOf (t.extract (t.size - 4) t.size) = four ((crc (t.extract 0 (t.size - 4)) : Nat) : Int)
 · rw [if_pos cc, if_pos rfl]
   dsimp only
   rw [head_g h _ R ht k (by omega), Option.bind_some, if_pos rfl]
   show ∃ m code, ((ibytes.g k (hOf x n hd c)).bind fun t32 => (if ((t.extract 0 (t.size - 4)).size : Int) = t32 then _ else _)) = some (m, code) ∧ _
   rw [bytes_g h k (by omega), Option.bind_some, if_neg (by omega)]
   exact ⟨_, _, rfl, by decide⟩
 · rw [if_neg cc]
   exact ⟨_, _, rfl, by decide⟩
theorem pref_take (h : ModR x n hd c) (q : List Int) (m : Nat) (hm : 100 ≤ m) : ∃ R, (modT x ++ q).take m = headT x ++ (upsT x ++ R) := by
 have hl := h.ll
 have e : modT x ++ q = (headT x ++ upsT x) ++ ((mrgT x ++ (embT x ++ (laysT x ++ (byts 0 x.f6 ++ (matT x.f7 ++ (turT x.f8.f0 ++ turT x.f8.f1)))))) ++ q) := by
   unfold modT; simp only [List.append_assoc]
 have hz : (headT x ++ upsT x).length ≤ m := by rw [List.length_append, headT_len, upsT_len]; omega
 rw [e, List.take_append, List.take_of_length_le hz, List.append_assoc]
 exact ⟨_, rfl⟩
end
theorem bits_xor8 (a b : Nat) (ha : a < 256) (hb : b < 256) : Go.bits .xor .u8 (a : Int) (b : Int) = ((a ^^^ b : Nat) : Int) := by
 have e : (BitVec.ofInt IntKind.u8.bits (a : Int) ^^^ BitVec.ofInt IntKind.u8.bits (b : Int)).toNat = a ^^^ b := by
   rw [BitVec.toNat_xor, BitVec.ofInt_natCast, BitVec.ofInt_natCast, BitVec.toNat_ofNat, BitVec.toNat_ofNat, Nat.mod_eq_of_lt (by exact ha), Nat.mod_eq_of_lt (by exact hb)]
 show IntKind.u8.wrap ((BitVec.ofInt IntKind.u8.bits (a : Int) ^^^ BitVec.ofInt IntKind.u8.bits (b : Int)).toNat : Int) = _
 rw [e]
 have := Nat.xor_lt_two_pow (n := 8) (x := a) (y := b) ha hb
 rw [show IntKind.u8.wrap (((a ^^^ b : Nat)) : Int) = (((a ^^^ b : Nat)) : Int) % 256 from b8_mod _]; omega
theorem turn_byte (a d : Int) (ha : 0 ≤ a ∧ a ≤ 255) (hd : 1 ≤ d ∧ d ≤ 255) : (0 ≤ Go.bits .xor .u8 a d ∧ Go.bits .xor .u8 a d ≤ 255) ∧ Go.bits .xor .u8 a d ≠ a := by
 obtain ⟨p, rfl⟩ : ∃ p : Nat, a = p := ⟨a.toNat, by omega⟩
 obtain ⟨q, rfl⟩ : ∃ q : Nat, d = q := ⟨d.toNat, by omega⟩
 have := Nat.xor_lt_two_pow (n := 8) (x := p) (y := q) (by omega) (by omega)
 rw [bits_xor8 p q (by omega) (by omega)]
 refine ⟨by omega, fun e => ?_⟩
 have e : p ^^^ q = p := by omega
 have := xor_l (a := q) (b := 0) (c := p) (by rw [e, Nat.xor_zero])
 omega
theorem and_small (m : Nat) (hm : m < 9223372036854775808) (x : Int) : 0 ≤ Go.bits .and .i64 x (m : Int) ∧ Go.bits .and .i64 x (m : Int) ≤ (m : Int) := by
 simp only [Go.bits, BitVec.toNat_and]
 have h1 : (BitVec.ofInt IntKind.i64.bits x).toNat &&& (BitVec.ofInt IntKind.i64.bits (m : Int)).toNat ≤ m := by
   refine Nat.le_trans Nat.and_le_right ?_
   rw [BitVec.ofInt_natCast, BitVec.toNat_ofNat]
   exact Nat.mod_le _ _
 generalize (BitVec.ofInt IntKind.i64.bits x).toNat &&& (BitVec.ofInt IntKind.i64.bits (m : Int)).toNat = y at h1
 rw [IntKind.wrap_i64]
 omega
def Cu (b : List Int) (i : Int) : Prop := 0 ≤ i ∧ i ≤ (b.length : Int) ∧ b.length ≤ 1048576
theorem byteG (k : Nat) (b : List Int) (i h : Int) (hc : Cu b i) : ∃ v i' h', sB2.g k ⟨b, i, h⟩ = some (v, ⟨b, i', h'⟩) ∧ 0 ≤ v ∧ v ≤ 255 ∧ Cu b i' := by
 obtain ⟨h0, h1, h2⟩ := hc
 unfold sB2.g
 by_cases hl : i < (b.length : Int)
 · rw [if_pos hl, if_pos ⟨h0, hl⟩, w64 (i := i + 1) (by omega) (by omega)]
   exact ⟨_, _, _, rfl, (and_small 255 (by decide) _).1, (and_small 255 (by decide) _).2, by omega, by omega, h2⟩
 · rw [if_neg hl]
   exact ⟨_, _, _, rfl, (and_small 255 (by decide) _).1, (and_small 255 (by decide) _).2, h0, h1, h2⟩
theorem belowG (k : Nat) (b : List Int) (i h : Int) (hc : Cu b i) (n : Int) (hn : 0 < n) (hn2 : n ≤ 4294967296) : ∃ v i' h', sB.g k ⟨b, i, h⟩ n = some (v, ⟨b, i', h'⟩) ∧ 0 ≤ v ∧ v < n ∧ Cu b i' := by
 unfold sB.g
 rw [if_neg (by omega)]
 obtain ⟨v, i', h', e, v0, v1, hc'⟩ := byteG k b i h hc
 by_cases h256 : n ≤ 256
 · rw [if_pos h256, e]
   simp only [Option.bind_some]
   rw [if_pos (by omega), Int.tmod_eq_emod_of_nonneg v0]
   exact ⟨_, _, _, rfl, Int.emod_nonneg _ (by omega), Int.emod_lt_of_pos _ hn, hc'⟩
 · obtain ⟨v2, i2, h2, e2, v20, v21, hc2⟩ := byteG k b i' h' hc'
   obtain ⟨v3, i3, h3, e3, v30, v31, hc3⟩ := byteG k b i2 h2 hc2
   obtain ⟨v4, i4, h4, e4, v40, v41, hc4⟩ := byteG k b i3 h3 hc3
   rw [if_neg h256, e]
   simp only [Option.bind_some, e2, e3, e4]
   rw [if_pos (by omega), w64 (i := v * 16777216) (by omega) (by omega), w64 (i := v2 * 65536) (by omega) (by omega), w64 (i := v3 * 256) (by omega) (by omega), w64 (i := v * 16777216 + v2 * 65536) (by omega) (by omega), w64 (i := v * 16777216 + v2 * 65536 + v3 * 256) (by omega) (by omega), w64 (by omega) (by omega), Int.tmod_eq_emod_of_nonneg (by omega)]
   exact ⟨_, _, _, rfl, Int.emod_nonneg _ (by omega), Int.emod_lt_of_pos _ hn, hc4⟩
theorem byteG_k (k k' : Nat) (x : S83) : sB2.g k x = sB2.g k' x := rfl
theorem belowG_k (k k' : Nat) (x : S83) (n : Int) : sB.g k x n = sB.g k' x n := rfl
theorem onceG (k : Nat) (b : List Int) (i h : Int) (hc : Cu b i) (n : Int) (hn : 0 < n) (hn2 : n ≤ 4294967296) : ∃ v i' h', spec_l01Once.g k ⟨b, i, h⟩ n = some (v, ⟨b, i', h'⟩) ∧ Cu b i' := by
 obtain ⟨v, i', h', e, _, _, hc'⟩ := belowG k b i h hc n hn hn2
 unfold spec_l01Once.g
 rw [e, Option.bind_some]
 exact ⟨_, _, _, rfl, hc'⟩
theorem drawList (b : List Int) (m : Int) (hm : 0 < m) (hm2 : m ≤ 4294967296) (F : Int → Int) (P : Int → Prop) (hP : ∀ v, 0 ≤ v → v < m → P (F v)) (n : Nat) (hn : n ≤ 100000) (L : Nat → List Int → Int → Int → Int → Option (List Int × Int × Int × Int))
   (hL : ∀ k xs j i h, L (k + 1) xs j i h = if j < (n : Int) then ((sB.g k ⟨b, i, h⟩ m).bind fun t => if xs.length < 4294967296 then L k (xs ++ [F t.1]) (wrap64 (j + 1)) t.2.f1 t.2.f2 else none) else some (xs, j, i, h)) (d : Nat) :
   ∀ (j : Nat) (acc : List Int) (i h : Int), j + d = n → acc.length = j → Cu b i → (∀ z ∈ acc, P z) →
   ∃ r i' h', (∀ k, d < k → L k acc (j : Int) i h = some (r, (n : Int), i', h')) ∧ r.length = n ∧ (∀ z ∈ r, P z) ∧ Cu b i' := by
 induction d with
 | zero =>
   intro j acc i h hj ha hc hz
   refine ⟨acc, i, h, fun k hk => ?_, by omega, hz, hc⟩
   obtain ⟨k, rfl⟩ : ∃ m, k = m + 1 := ⟨k - 1, by omega⟩
   rw [hL, if_neg (by omega), show (j : Int) = (n : Int) by omega]
 | succ d ih =>
   intro j acc i h hj ha hc hz
   obtain ⟨v, i1, h1, e, v0, v1, hc1⟩ := belowG 0 b i h hc m hm hm2
   obtain ⟨r, i', h', hr, hl, hz', hc'⟩ := ih (j + 1) (acc ++ [F v]) i1 h1 (by omega) (by simp; omega) hc1 (fun z hz1 => by
     rcases List.mem_append.1 hz1 with h | h
     · exact hz z h
     · rw [List.mem_singleton.1 h]; exact hP v v0 v1)
   refine ⟨r, i', h', fun k hk => ?_, hl, hz', hc'⟩
   obtain ⟨k, rfl⟩ : ∃ m, k = m + 1 := ⟨k - 1, by omega⟩
   rw [hL, if_pos (by omega), belowG_k k 0, e, Option.bind_some, if_pos (by omega), w64 (by omega) (by omega), show ((j : Int) + 1) = ((j + 1 : Nat) : Int) by omega]
   exact hr k (by omega)
theorem drawList0 (b : List Int) (m : Int) (hm : 0 < m) (hm2 : m ≤ 4294967296) (F : Int → Int) (P : Int → Prop) (hP : ∀ v, 0 ≤ v → v < m → P (F v)) (n : Nat) (hn : n ≤ 100000) (L : Nat → List Int → Int → Int → Int → Option (List Int × Int × Int × Int))
   (hL : ∀ k xs j i h, L (k + 1) xs j i h = if j < (n : Int) then ((sB.g k ⟨b, i, h⟩ m).bind fun t => if xs.length < 4294967296 then L k (xs ++ [F t.1]) (wrap64 (j + 1)) t.2.f1 t.2.f2 else none) else some (xs, j, i, h)) (i h : Int) (hc : Cu b i) :
   ∃ r i' h', (∀ k, n < k → L k [] 0 i h = some (r, (n : Int), i', h')) ∧ r.length = n ∧ (∀ z ∈ r, P z) ∧ Cu b i' :=
 drawList b m hm hm2 F P hP n hn L hL n 0 [] i h (by omega) rfl hc (fun z hz => by cases hz)
theorem smallG (b : List Int) (n : Nat) (hn : n ≤ 100000) (i h : Int) (hc : Cu b i) : ∃ r i' h', (∀ k, n < k → sS.g k ⟨b, i, h⟩ (n : Int) = some (r, ⟨b, i', h'⟩)) ∧ r.length = n ∧ (∀ z ∈ r, -8 ≤ z ∧ z ≤ 7) ∧ Cu b i' := by
 obtain ⟨r, i', h', hr, g1, g2, g3⟩ := drawList0 b 16 (by omega) (by omega) (fun v => wrap64 (v - 8)) (fun z => -8 ≤ z ∧ z ≤ 7) (fun v a c => by show -8 ≤ wrap64 (v - 8) ∧ wrap64 (v - 8) ≤ 7; rw [w64 (by omega) (by omega)]; omega) n hn (sS.l0 ⟨b, i, h⟩ (n : Int)) (fun _ _ _ _ _ => rfl) i h hc
 refine ⟨r, i', h', fun k hk => ?_, g1, g2, g3⟩
 unfold sS.g
 rw [hr k hk, Option.bind_some]
theorem gainG (b : List Int) (n : Nat) (hn : n ≤ 100000) (i h : Int) (hc : Cu b i) : ∃ r i' h', (∀ k, n < k → sG.g k ⟨b, i, h⟩ (n : Int) = some (r, ⟨b, i', h'⟩)) ∧ r.length = n ∧ (∀ z ∈ r, 0 ≤ z ∧ z ≤ 127) ∧ Cu b i' := by
 obtain ⟨r, i', h', hr, g1, g2, g3⟩ := drawList0 b 100 (by omega) (by omega) (fun v => wrap64 (20 + v)) (fun z => 0 ≤ z ∧ z ≤ 127) (fun v a c => by show 0 ≤ wrap64 (20 + v) ∧ wrap64 (20 + v) ≤ 127; rw [w64 (by omega) (by omega)]; omega) n hn (sG.l0 ⟨b, i, h⟩ (n : Int)) (fun _ _ _ _ _ => rfl) i h hc
 refine ⟨r, i', h', fun k hk => ?_, g1, g2, g3⟩
 unfold sG.g
 rw [hr k hk, Option.bind_some]
def RowG (w : Nat) (r s : List Int) : Prop := r.length = w ∧ (∀ z ∈ r, -8 ≤ z ∧ z ≤ 7) ∧ s.length = w / 4 ∧ ∀ z ∈ s, 1 ≤ z ∧ z ≤ 30
theorem rowG_ok (w : Nat) (hw : w = 4 ∨ w = 8) (r s : List Int) (h : RowG w r s) : rowB r s = true := by
 obtain ⟨h1, h2, h3, h4⟩ := h
 unfold rowB widthB
 simp only [Bool.and_eq_true, Bool.or_eq_true, List.all_eq_true, decide_eq_true_eq]
 exact ⟨⟨⟨by omega, fun z hz => h2 z hz⟩, by omega⟩, fun z hz => by have := h4 z hz; omega⟩
theorem getD_l {α : Type} (l l' : List α) (i : Nat) (d : α) (h : i < l.length) : (l ++ l').getD i d = l.getD i d := by
 rw [List.getD_eq_getElem?_getD, List.getD_eq_getElem?_getD, List.getElem?_append_left h]
theorem getD_r {α : Type} (l : List α) (a : α) (i : Nat) (d : α) (h : i = l.length) : (l ++ [a]).getD i d = a := by
 subst h
 rw [List.getD_eq_getElem?_getD, List.getElem?_append_right (Nat.le_refl _), Nat.sub_self]; rfl
theorem rows_snoc (w : Nat) (R S : List (List Int)) (r s : List Int) (j : Nat) (hR : R.length = j) (hS : S.length = j) (h : ∀ q, q < j → RowG w (R.getD q []) (S.getD q [])) (h2 : RowG w r s) : ∀ q, q < j + 1 → RowG w ((R ++ [r]).getD q []) ((S ++ [s]).getD q []) := fun q hq => by
 by_cases hlt : q < j
 · rw [getD_l R [r] q [] (by omega), getD_l S [s] q [] (by omega)]; exact h q hlt
 · rw [getD_r R r q [] (by omega), getD_r S s q [] (by omega)]; exact h2
theorem matG_from (b : List Int) (x : S83) (hx : x.f0 = b) (w n : Nat) (hw : w = 4 ∨ w = 8) (hn : n ≤ 300) (d : Nat) : ∀ (j : Nat) (R S : List (List Int)) (i h : Int), j + d = n → R.length = j → S.length = j → Cu b i → (∀ q, q < j → RowG w (R.getD q []) (S.getD q [])) →
   ∃ R' S' i' h', (∀ k, d + 20 < k → sM.l0 x (w : Int) (n : Int) k (j : Int) i h R S = some ((n : Int), i', h', R', S')) ∧ R'.length = n ∧ S'.length = n ∧ Cu b i' ∧ ∀ q, q < n → RowG w (R'.getD q []) (S'.getD q []) := by
 induction d with
 | zero =>
   intro j R S i h hj hR hS hc hq
   refine ⟨R, S, i, h, fun k hk => ?_, by omega, by omega, hc, fun q hq' => hq q (by omega)⟩
   obtain ⟨k, rfl⟩ : ∃ m, k = m + 1 := ⟨k - 1, by omega⟩
   unfold sM.l0 sM.b0
   rw [if_neg (by omega), show (j : Int) = (n : Int) by omega]
 | succ d ih =>
   intro j R S i h hj hR hS hc hq
   obtain ⟨s, i1, h1, e1, s1, s2, hc1⟩ := drawList0 b 20 (by omega) (by omega) (fun v => wrap64 (1 + v)) (fun z => 1 ≤ z ∧ z ≤ 30) (fun v a c => by show 1 ≤ wrap64 (1 + v) ∧ wrap64 (1 + v) ≤ 30; rw [w64 (by omega) (by omega)]; omega) (w / 4) (by omega) (sM.l1 x (w : Int)) (fun k xs j i h => by
     show sM.b1 x (w : Int) (sM.l1 x (w : Int) k) k xs j i h = _
     unfold sM.b1
     rw [hx, tdiv4, w64 (i := ((w / 4 : Nat) : Int)) (by omega) (by omega)]) i h hc
   obtain ⟨r, i2, h2, e2, r1, r2, hc2⟩ := smallG b w (by omega) i1 h1 hc1
   obtain ⟨R', S', i', h', hr, g1, g2, g3, g4⟩ := ih (j + 1) (R ++ [r]) (S ++ [s]) i2 h2 (by omega) (by simp; omega) (by simp; omega) hc2 (rows_snoc w R S r s j hR hS hq ⟨r1, r2, s1, s2⟩)
   refine ⟨R', S', i', h', fun k hk => ?_, g1, g2, g3, g4⟩
   obtain ⟨k, rfl⟩ : ∃ m, k = m + 1 := ⟨k - 1, by omega⟩
   unfold sM.l0 sM.b0
   rw [if_pos (by omega), e1 k (by omega), Option.bind_some]
   show ((sS.g k (⟨x.f0, i1, h1⟩ : S83) (w : Int)).bind _) = _
   rw [hx, e2 k (by omega), Option.bind_some, if_pos (by omega), if_pos (by omega), w64 (by omega) (by omega), show ((j : Int) + 1) = ((j + 1 : Nat) : Int) by omega]
   exact hr k (by omega)
theorem matG (b : List Int) (i h : Int) (hc : Cu b i) (w n : Nat) (hw : w = 4 ∨ w = 8) (hn : n ≤ 300) :
   ∃ R S M H i' h', (∀ k, n + 20 < k → sM.g k ⟨b, i, h⟩ (w : Int) (n : Int) = some (⟨(w : Int), R, S, M, H⟩, ⟨b, i', h'⟩)) ∧ R.length = n ∧ S.length = n ∧ 1 ≤ M ∧ M ≤ 40 ∧ 6 ≤ H ∧ H ≤ 10 ∧ Cu b i' ∧ ∀ q, q < n → RowG w (R.getD q []) (S.getD q []) := by
 obtain ⟨m, i1, h1, e1, m0, m1, hc1⟩ := belowG 0 b i h hc 40 (by omega) (by omega)
 obtain ⟨s, i2, h2, e2, s0, s1, hc2⟩ := belowG 0 b i1 h1 hc1 5 (by omega) (by omega)
 obtain ⟨R, S, i', h', hr, g1, g2, g3, g4⟩ := matG_from b ⟨b, i, h⟩ rfl w n hw hn n 0 [] [] i2 h2 (by omega) rfl rfl hc2 (fun q hq => by omega)
 refine ⟨R, S, 1 + m, 6 + s, i', h', fun k hk => ?_, g1, g2, by omega, by omega, by omega, by omega, g3, g4⟩
 unfold sM.g
 rw [belowG_k k 0, e1, Option.bind_some, belowG_k k 0, e2, Option.bind_some]
 have hr' := hr k hk
 rw [show ((0 : Nat) : Int) = 0 from rfl] at hr'
 rw [hr', Option.bind_some, w64 (i := 1 + m) (by omega) (by omega), w64 (i := 6 + s) (by omega) (by omega)]
def cosAt (p k : Nat) : Int := 128 - 2 * (((p * (k + 1)) % 64 : Nat) : Int)
def sinAt (p k : Nat) : Int := (((8 * p + 16 * k) % 128 : Nat) : Int)
def rowOf (f : Nat → Nat → Int) (n p : Nat) : List Int := (List.range n).map (f p)
def rowsOf (f : Nat → Nat → Int) (n c : Nat) : List (List Int) := (List.range c).map (rowOf f n)
theorem range_succ_map {α : Type} (f : Nat → α) (n : Nat) : (List.range (n + 1)).map f = (List.range n).map f ++ [f n] := by rw [List.range_succ, List.map_append]; rfl
theorem cos_at (p k : Nat) (hp : p ≤ 24) (hk : k ≤ 4) : wrap64 (128 - (wrap64 (2 * (Int.tmod (wrap64 ((p : Int) * (wrap64 ((k : Int) + 1)))) 64)))) = cosAt p k := by
 have h1 : p * (k + 1) ≤ 24 * 5 := Nat.mul_le_mul hp (by omega)
 rw [w64 (i := (k : Int) + 1) (by omega) (by omega), show (k : Int) + 1 = ((k + 1 : Nat) : Int) by omega, show (p : Int) * ((k + 1 : Nat) : Int) = ((p * (k + 1) : Nat) : Int) by rw [Int.natCast_mul], w64 (i := ((p * (k + 1) : Nat) : Int)) (by omega) (by omega)]
 unfold cosAt
 generalize p * (k + 1) = q
 rw [Int.tmod_eq_emod_of_nonneg (by omega), w64 (i := 2 * ((q : Int) % 64)) (by omega) (by omega), w64 (by omega) (by omega)]
 omega
theorem sin_at (p k : Nat) (hp : p ≤ 24) (hk : k ≤ 4) : Int.tmod (wrap64 ((wrap64 (8 * (p : Int))) + (wrap64 (16 * (k : Int))))) 128 = sinAt p k := by
 rw [w64 (i := 8 * (p : Int)) (by omega) (by omega), w64 (i := 16 * (k : Int)) (by omega) (by omega), w64 (by omega) (by omega), Int.tmod_eq_emod_of_nonneg (by omega)]
 unfold sinAt; omega
theorem cos_bd (p k : Nat) : -128 ≤ cosAt p k ∧ cosAt p k ≤ 128 := by unfold cosAt; omega
theorem sin_bd (p k : Nat) : -128 ≤ sinAt p k ∧ sinAt p k ≤ 128 := by unfold sinAt; omega
theorem rowOf_len (f : Nat → Nat → Int) (n p : Nat) : (rowOf f n p).length = n := by simp [rowOf]
theorem rowsOf_len (f : Nat → Nat → Int) (n c : Nat) : (rowsOf f n c).length = c := by simp [rowsOf]
theorem rowOf_all (f : Nat → Nat → Int) (hf : ∀ p k, -128 ≤ f p k ∧ f p k ≤ 128) (n p : Nat) : ((rowOf f n p).all fun x => decide (-128 ≤ x) && decide (x ≤ 128)) = true := by
 rw [List.all_eq_true]
 intro x hx
 obtain ⟨k, _, rfl⟩ := List.mem_map.mp hx
 simp [hf p k]
theorem rowsOf_size (f : Nat → Nat → Int) (n c : Nat) (hn : n ≤ 4) : ∀ c, mIntss (rowsOf f n c) ≤ c * 5 ∧ ((rowsOf f n c).map List.length).sum ≤ c * 4
 | 0 => by simp [rowsOf, mIntss, szL, sumS]
 | c + 1 => by
   have ih := rowsOf_size f n c hn c
   have e : rowsOf f n (c + 1) = rowsOf f n c ++ [rowOf f n c] := range_succ_map _ _
   have e2 := mIntss_eq (rowsOf f n (c + 1))
   have e3 := mIntss_eq (rowsOf f n c)
   rw [sumS_map_sum] at e2 e3
   rw [e2, e, List.map_append, List.sum_append, List.length_append]
   simp only [List.map_cons, List.map_nil, List.sum_cons, List.sum_nil, List.length_cons, List.length_nil, rowOf_len]
   omega
theorem rows_good (f : Nat → Nat → Int) (hf : ∀ p k, -128 ≤ f p k ∧ f p k ≤ 128) (n c : Nat) : (rowsOf f n c).all (rowT (n : Int)) = true := by
 rw [List.all_eq_true]
 intro r hr
 obtain ⟨p, _, rfl⟩ := List.mem_map.1 hr
 unfold rowT
 rw [rowOf_len, rowOf_all f hf, decide_eq_true rfl]; rfl
theorem spec_turnsOk (n c : Nat) (h1 : 1 ≤ n) (hn : n ≤ 4) (h4 : 4 ≤ c) (hc : c ≤ 24) (k : Nat) (hk : 100 < k) : sTO.g k ⟨rowsOf cosAt n c, rowsOf sinAt n c⟩ (c : Int) (n : Int) = some true := by
 rw [spec_turns _ _ _ _ k hk]
 unfold turnsB
 rw [rows_good cosAt cos_bd, rows_good sinAt sin_bd, rowsOf_len, rowsOf_len, decide_eq_true (show (4 : Int) ≤ (c : Int) by omega), decide_eq_true (show (c : Int) ≤ 24 by omega), decide_eq_true (show (1 : Int) ≤ (n : Int) by omega), decide_eq_true (show (n : Int) ≤ 4 by omega), decide_eq_true rfl]; rfl
theorem spec_turns_row (n p : Nat) (hn : n ≤ 4) (hp : p ≤ 24) : ∀ d i k, i + d = n → d < k →
   sTF.l1 (n : Int) (p : Int) k (rowOf cosAt i p) (rowOf sinAt i p) (i : Int) = some (rowOf cosAt n p, rowOf sinAt n p, (n : Int))
 | 0, i, k, h1, h2 => by
   obtain ⟨k, rfl⟩ : ∃ m, k = m + 1 := ⟨k - 1, by omega⟩
   obtain rfl : i = n := by omega
   show sTF.b1 _ _ _ k _ _ _ = _
   unfold sTF.b1
   rw [if_neg (by omega)]
 | d + 1, i, k, h1, h2 => by
   obtain ⟨k, rfl⟩ : ∃ m, k = m + 1 := ⟨k - 1, by omega⟩
   show sTF.b1 _ _ (sTF.l1 _ _ k) k _ _ _ = _
   unfold sTF.b1
   rw [if_pos (by omega), if_pos (by rw [rowOf_len]; omega), if_pos (by rw [rowOf_len]; omega), cos_at p i hp (by omega), sin_at p i hp (by omega), w64 (i := (i : Int) + 1) (by omega) (by omega), show (i : Int) + 1 = ((i + 1 : Nat) : Int) by omega,
     show rowOf cosAt i p ++ [cosAt p i] = rowOf cosAt (i + 1) p from (range_succ_map _ _).symm, show rowOf sinAt i p ++ [sinAt p i] = rowOf sinAt (i + 1) p from (range_succ_map _ _).symm, spec_turns_row n p hn hp d (i + 1) k (by omega) (by omega)]
theorem spec_turns_rows (n c : Nat) (hn : n ≤ 4) (hc : c ≤ 24) : ∀ d p k, p + d = c → d + 60 < k →
   sTF.l0 (c : Int) (n : Int) k (p : Int) (rowsOf cosAt n p) (rowsOf sinAt n p) = some ((c : Int), rowsOf cosAt n c, rowsOf sinAt n c)
 | 0, p, k, h1, h2 => by
   obtain ⟨k, rfl⟩ : ∃ m, k = m + 1 := ⟨k - 1, by omega⟩
   obtain rfl : p = c := by omega
   show sTF.b0 _ _ _ k _ _ _ = _
   unfold sTF.b0
   rw [if_neg (by omega)]
 | d + 1, p, k, h1, h2 => by
   obtain ⟨k, rfl⟩ : ∃ m, k = m + 1 := ⟨k - 1, by omega⟩
   have e0 : sTF.l1 (n : Int) (p : Int) k [] [] 0 = _ := spec_turns_row n p hn (by omega) n 0 k (by omega) (by omega)
   show sTF.b0 _ _ (sTF.l0 _ _ k) k _ _ _ = _
   unfold sTF.b0
   rw [if_pos (by omega), e0, Option.bind_some, if_pos (by rw [rowsOf_len]; omega), if_pos (by rw [rowsOf_len]; omega), w64 (i := (p : Int) + 1) (by omega) (by omega), show (p : Int) + 1 = ((p + 1 : Nat) : Int) by omega]
   dsimp only
   rw [show rowsOf cosAt n p ++ [rowOf cosAt n p] = rowsOf cosAt n (p + 1) from (range_succ_map _ _).symm, show rowsOf sinAt n p ++ [rowOf sinAt n p] = rowsOf sinAt n (p + 1) from (range_succ_map _ _).symm]
   exact spec_turns_rows n c hn hc d (p + 1) k (by omega) (by omega)
theorem spec_turnsFor (n c : Nat) (h1 : 1 ≤ n) (hn : n ≤ 4) (h4 : 4 ≤ c) (hc : c ≤ 24) (k : Nat) (hk : 300 < k) : sTF.g k (c : Int) (n : Int) = some (⟨rowsOf cosAt n c, rowsOf sinAt n c⟩, true) := by
 have e := spec_turns_rows n c hn hc c 0 k (by omega) (by omega)
 have e : sTF.l0 (c : Int) (n : Int) k 0 [] [] = _ := e
 unfold sTF.g sI.f
 rw [if_pos (by omega), Option.bind_some, if_pos (by simp; omega), if_pos (by omega), Option.bind_some, if_pos (by simp; omega), e, Option.bind_some]
 dsimp only
 rw [spec_turnsOk n c h1 hn h4 hc k (by omega), Option.bind_some]
theorem onceG_k (k k' : Nat) (x : S83) (n : Int) : spec_l01Once.g k x n = spec_l01Once.g k' x n := rfl
theorem pickG (x : S83) (i h : Int) (hc : Cu x.f0 i) (j : Nat) (hj : j ≤ 8) (n : Int) (hn : 0 < n) (hn2 : n ≤ 100) (a : Int) : ∃ i' h' A, (∀ k, ((if (j : Int) > 0 then ((spec_l01Once.g k (⟨x.f0, i, h⟩ : S83) n).bind fun t222 => (if t222.1 = true then ((sB.g k (⟨x.f0, t222.2.f1, t222.2.f2⟩ : S83) (j : Int)).bind fun t226 => (some (t226.2.f1, t226.2.f2, wrap64 (256 + t226.1)))) else (some (t222.2.f1, t222.2.f2, a)))) else (some (i, h, a))) : Option (Int × Int × Int)) = some (i', h', A)) ∧ Cu x.f0 i' := by
 by_cases hz : (j : Int) > 0
 · obtain ⟨v, i1, h1, e, hc1⟩ := onceG 0 x.f0 i h hc n hn (by omega)
   obtain ⟨u, i2, h2, e2, _, _, hc2⟩ := belowG 0 x.f0 i1 h1 hc1 (j : Int) (by omega) (by omega)
   cases v with
   | true => exact ⟨i2, h2, _, fun k => by rw [if_pos hz, onceG_k k 0, e, Option.bind_some, if_pos rfl, belowG_k k 0, e2, Option.bind_some], hc2⟩
   | false => exact ⟨i1, h1, _, fun k => by rw [if_pos hz, onceG_k k 0, e, Option.bind_some, if_neg (by simp)], hc1⟩
 · exact ⟨i, h, a, fun k => by rw [if_neg hz], hc⟩
theorem mergesB_len (l : List S54) (h : mergesB l = true) : l.length ≤ 16 := by
 unfold mergesB at h; simp only [Bool.and_eq_true, decide_eq_true_eq] at h; exact h.1
theorem sumS_bd {α : Type} (s : α → Nat) (c : Nat) : ∀ l : List α, (∀ x ∈ l, s x ≤ c) → sumS s l ≤ l.length * c
 | [], _ => Nat.zero_le _
 | x :: l, h => by
   have h1 := h x (List.mem_cons_self ..)
   have h2 := sumS_bd s c l (fun y hy => h y (List.mem_cons_of_mem _ hy))
   rw [sumS_cons, List.length_cons, Nat.succ_mul]; omega
theorem mem_getD {α : Type} (l : List α) (z x : α) (h : x ∈ l) : ∃ q, q < l.length ∧ l.getD q z = x := by
 obtain ⟨q, hq, e⟩ := List.getElem_of_mem h
 exact ⟨q, hq, by rw [List.getD_eq_getElem?_getD, List.getElem?_eq_getElem hq]; exact e⟩
theorem wst_low (r s : List Int) (w : Nat) (hw : w = 4 ∨ w = 8) (h : RowG w r s) : wst r s ≤ 600000 := by
 have hb := rowG_ok w hw r s h
 obtain ⟨h1, h2, h3, h4⟩ := h
 have key : ∀ n, n ≤ r.length → 0 ≤ wstTo r s n ∧ wstTo r s n ≤ 30480 * (n : Int) := by
   intro n
   induction n with
   | zero => intro _; exact ⟨Int.le_refl _, by show (0 : Int) ≤ _; omega⟩
   | succ n ih =>
     intro hn
     obtain ⟨a, b⟩ := ih (by omega)
     obtain ⟨_, _, t3, t4, _⟩ := wst_term r s hb n (by omega)
     have hs := h4 _ (rd_mem s (n / 4) (by omega))
     have e : wstTo r s (n + 1) = wstTo r s n + rd s ((n / 4 : Nat) : Int) * 127 * ((rd r (n : Int)).natAbs : Int) := rfl
     have m : rd s ((n / 4 : Nat) : Int) * 127 * ((rd r (n : Int)).natAbs : Int) ≤ 3810 * 8 := Int.mul_le_mul (by omega) t3 (by omega) (by omega)
     rw [e]; omega
 unfold wst
 rw [if_pos hb]
 have := (key r.length (Nat.le_refl _)).2
 omega
theorem wst_pos (r s : List Int) (w : Nat) (hw : w = 4 ∨ w = 8) (h : RowG w r s) (p : Nat) (hp : p < w) (hn : r.getD p 0 ≠ 0) : 0 < wst r s := by
 have hb := rowG_ok w hw r s h
 obtain ⟨h1, h2, h3, h4⟩ := h
 have e0 : rd r (p : Int) = r.getD p 0 := by rw [rd_get r p (by omega), List.getD_eq_getElem?_getD, List.getElem?_eq_getElem (by omega)]; rfl
 have key : ∀ n, n ≤ r.length → 0 ≤ wstTo r s n ∧ (p < n → 0 < wstTo r s n) := by
   intro n
   induction n with
   | zero => intro _; exact ⟨Int.le_refl _, fun h => absurd h (Nat.not_lt_zero _)⟩
   | succ n ih =>
     intro hn'
     obtain ⟨a, b⟩ := ih (by omega)
     obtain ⟨t1, _, _, t4, _⟩ := wst_term r s hb n (by omega)
     have hs := h4 _ (rd_mem s (n / 4) (by omega))
     have e : wstTo r s (n + 1) = wstTo r s n + rd s ((n / 4 : Nat) : Int) * 127 * ((rd r (n : Int)).natAbs : Int) := rfl
     refine ⟨by rw [e]; omega, fun hlt => ?_⟩
     by_cases c : p = n
     · have n1 : 1 ≤ ((rd r (n : Int)).natAbs : Int) := by
         have : rd r (n : Int) ≠ 0 := by rw [← c, e0]; exact hn
         omega
       have m : 127 * 1 ≤ rd s ((n / 4 : Nat) : Int) * 127 * ((rd r (n : Int)).natAbs : Int) := Int.mul_le_mul (by omega) n1 (by omega) t1
       rw [e]; omega
     · have := b (by omega)
       rw [e]; omega
 unfold wst
 rw [if_pos hb]
 exact (key r.length (Nat.le_refl _)).2 (by omega)
theorem mat_good (w n : Nat) (hw : w = 4 ∨ w = 8) (hn : n ≤ 300) (R S : List (List Int)) (M H : Int) (hR : R.length = n) (hS : S.length = n) (m0 : 0 ≤ M) (m1 : M ≤ 65536) (s0 : 0 ≤ H) (s1 : H ≤ 24) (h : ∀ q, q < n → RowG w (R.getD q []) (S.getD q [])) :
   mfit ⟨(w : Int), R, S, M, H⟩ (w : Int) (n : Int) = true ∧ iMatrix ⟨(w : Int), R, S, M, H⟩ ≤ 12 * n := by
 constructor
 · unfold mfit fitB matB lowB widthB
   simp only [Bool.and_eq_true, Bool.or_eq_true, decide_eq_true_eq, List.all_eq_true, List.drop_zero, List.mem_range]
   refine ⟨⟨⟨⟨⟨⟨⟨⟨by omega, by omega⟩, by omega⟩, m0⟩, m1⟩, s0⟩, s1⟩, fun q hq => ?_⟩, trivial, by omega, fun q hq => ?_⟩
   · have g := h q (by omega)
     exact ⟨by rw [g.1], rowG_ok w hw _ _ g⟩
   · exact wst_low _ _ w hw (h q (by omega))
 · unfold iMatrix
   have a : sumS (fun l : List Int => l.length) R ≤ R.length * 8 := sumS_bd _ 8 R (fun r hr => by
     obtain ⟨q, hq, rfl⟩ := mem_getD R [] r hr
     have := (h q (by omega)).1; omega)
   have c : sumS (fun l : List Int => l.length) S ≤ S.length * 2 := sumS_bd _ 2 S (fun r hr => by
     obtain ⟨q, hq, rfl⟩ := mem_getD S [] r hr
     have := (h q (by omega)).2.2.1; omega)
   show mIntss R + mIntss S ≤ _
   rw [mIntss_eq, mIntss_eq]
   omega
theorem gain_good (l : List Int) (n : Nat) (hl : l.length = n) (h : ∀ z ∈ l, 0 ≤ z ∧ z ≤ 127) : gainB l (n : Int) = true := by
 unfold gainB
 rw [if_pos (by omega)]
 simp only [Bool.and_eq_true, decide_eq_true_eq, List.all_eq_true]
 exact h
def Hid (p : Prop) : Prop := p
theorem Hid.out {p : Prop} (h : Hid p) : p := h
def LayG (D : Nat) (y : S52) : Prop := layerB y (D : Int) = true ∧ iLayer y ≤ 1000 ∧ (y.f6.f1.length = 4 ∨ y.f6.f1.length = 8)
def layChain {ρ : Type} (k : Nat) (b : List Int) (i h : Int) (D U : Int) (F : S52 → Int → Int → Option ρ) : Option ρ :=
 (sG.g k (⟨b, i, h⟩ : S83) D).bind fun t227 => (sG.g k (⟨b, t227.2.f1, t227.2.f2⟩ : S83) D).bind fun t234 => (sM.g k (⟨b, t234.2.f1, t234.2.f2⟩ : S83) D D).bind fun t245 => (sM.g k (⟨b, t245.2.f1, t245.2.f2⟩ : S83) D D).bind fun t258 => (sM.g k (⟨b, t258.2.f1, t258.2.f2⟩ : S83) D D).bind fun t271 => (sM.g k (⟨b, t271.2.f1, t271.2.f2⟩ : S83) D D).bind fun t284 => (sM.g k (⟨b, t284.2.f1, t284.2.f2⟩ : S83) D U).bind fun t297 => (sM.g k (⟨b, t297.2.f1, t297.2.f2⟩ : S83) U D).bind fun t310 =>
   F (⟨t227.1, (⟨t245.1.f0, t245.1.f1, t245.1.f2, t245.1.f3, t245.1.f4⟩ : S29), (⟨t258.1.f0, t258.1.f1, t258.1.f2, t258.1.f3, t258.1.f4⟩ : S29), (⟨t271.1.f0, t271.1.f1, t271.1.f2, t271.1.f3, t271.1.f4⟩ : S29), (⟨t284.1.f0, t284.1.f1, t284.1.f2, t284.1.f3, t284.1.f4⟩ : S29), t234.1, (⟨t297.1.f0, t297.1.f1, t297.1.f2, t297.1.f3, t297.1.f4⟩ : S29), (⟨t310.1.f0, t310.1.f1, t310.1.f2, t310.1.f3, t310.1.f4⟩ : S29)⟩ : S52) t310.2.f1 t310.2.f2
theorem matGood (b : List Int) (i h : Int) (hc : Cu b i) (w n : Nat) (hw : w = 4 ∨ w = 8) (hn : n ≤ 300) :
   ∃ m i' h', (∀ k, 330 < k → sM.g k ⟨b, i, h⟩ (w : Int) (n : Int) = some (m, ⟨b, i', h'⟩)) ∧ mfit m (w : Int) (n : Int) = true ∧ iMatrix m ≤ 12 * n ∧ m.f1.length = n ∧ Cu b i' := by
 obtain ⟨R, S, M, H, i', h', e, r, s, m, m', p, p', hc', g⟩ := matG b i h hc w n hw hn
 obtain ⟨a, c⟩ := mat_good w n hw hn R S M H r s (by omega) (by omega) (by omega) (by omega) g
 exact ⟨_, i', h', fun k hk => e k (by omega), a, c, r, hc'⟩
theorem lay_all (D U : Nat) (hU : U = 4 ∨ U = 8) (g1 g2 : List Int) (m1 m2 m3 m4 m5 m6 : S29) (l1 : g1.length = D) (l2 : g2.length = D) (b1 : ∀ z ∈ g1, 0 ≤ z ∧ z ≤ 127) (b2 : ∀ z ∈ g2, 0 ≤ z ∧ z ≤ 127)
   (a1 : mfit m1 (D : Int) (D : Int) = true) (a2 : mfit m2 (D : Int) (D : Int) = true) (a3 : mfit m3 (D : Int) (D : Int) = true) (a4 : mfit m4 (D : Int) (D : Int) = true) (a5 : mfit m5 (D : Int) (U : Int) = true) (a6 : mfit m6 (U : Int) (D : Int) = true) (r5 : m5.f1.length = U) : layerB ⟨g1, m1, m2, m3, m4, g2, m5, m6⟩ (D : Int) = true := by
 unfold layerB
 show (gainB g1 (D : Int) && (gainB g2 (D : Int) && (widthB (m5.f1.length : Int) && (mfit m1 (D : Int) (D : Int) && (mfit m2 (D : Int) (D : Int) && (mfit m3 (D : Int) (D : Int) && (mfit m4 (D : Int) (D : Int) && (mfit m5 (D : Int) (m5.f1.length : Int) && mfit m6 (m5.f1.length : Int) (D : Int))))))))) = true
 rw [r5, gain_good g1 D l1 b1, gain_good g2 D l2 b2, a1, a2, a3, a4, a5, a6]
 cases hU with
 | inl h => rw [h]; rfl
 | inr h => rw [h]; rfl
theorem layDraw (b : List Int) (i h : Int) (hc : Cu b i) (D U : Nat) (hD : D = 4 ∨ D = 8) (hU : U = 4 ∨ U = 8) : ∃ y i' h', (∀ k, 330 < k → ∀ {ρ : Type} (F : S52 → Int → Int → Option ρ), layChain k b i h (D : Int) (U : Int) F = F y i' h') ∧ LayG D y ∧ Cu b i' := by
 have d8 : D ≤ 8 := by omega
 have u8 : U ≤ 8 := by omega
 obtain ⟨g1, i3, h3, e3, l1, b1, hc3⟩ := gainG b D (by omega) i h hc
 obtain ⟨g2, i4, h4, e4, l2, b2, hc4⟩ := gainG b D (by omega) i3 h3 hc3
 obtain ⟨m1, i5, h5, e5, a1, c1, r1, hc5⟩ := matGood b i4 h4 hc4 D D hD (by omega)
 obtain ⟨m2, i6, h6, e6, a2, c2, r2, hc6⟩ := matGood b i5 h5 hc5 D D hD (by omega)
 obtain ⟨m3, i7, h7, e7, a3, c3, r3, hc7⟩ := matGood b i6 h6 hc6 D D hD (by omega)
 obtain ⟨m4, i8, h8, e8, a4, c4, r4, hc8⟩ := matGood b i7 h7 hc7 D D hD (by omega)
 obtain ⟨m5, i9, h9, e9, a5, c5, r5, hc9⟩ := matGood b i8 h8 hc8 D U hD (by omega)
 obtain ⟨m6, i10, h10, e10, a6, c6, r6, hc10⟩ := matGood b i9 h9 hc9 U D hU (by omega)
 refine ⟨⟨g1, m1, m2, m3, m4, g2, m5, m6⟩, i10, h10, fun k hk ρ F => ?_, ⟨lay_all D U hU g1 g2 m1 m2 m3 m4 m5 m6 l1 l2 b1 b2 a1 a2 a3 a4 a5 a6 r5, ?_, ?_⟩, hc10⟩
 · have hk' : D < k := by clear e3 e4 e5 e6 e7 e8 e9 e10; omega
   unfold layChain
   rw [e3 k hk', Option.bind_some, e4 k hk', Option.bind_some, e5 k hk, Option.bind_some, e6 k hk, Option.bind_some, e7 k hk, Option.bind_some, e8 k hk, Option.bind_some, e9 k hk, Option.bind_some, e10 k hk, Option.bind_some]
 · show g1.length + (iMatrix m1 + (iMatrix m2 + (iMatrix m3 + (iMatrix m4 + (g2.length + (iMatrix m5 + iMatrix m6)))))) ≤ 1000
   clear e3 e4 e5 e6 e7 e8 e9 e10
   omega
 · show m5.f1.length = 4 ∨ m5.f1.length = 8
   rw [r5]; exact hU
theorem layG_from (b : List Int) (D : Nat) (hD : D = 4 ∨ D = 8) (L : Nat → Int → Int → Int → List S52 → Option (Int × Int × Int × List S52))
   (hL : ∀ k j i h xs, L (k + 1) j i h xs = ((sB.g k (⟨b, i, h⟩ : S83) 2).bind fun t216 => if j < wrap64 (1 + t216.1) then ((sB.g k (⟨b, t216.2.f1, t216.2.f2⟩ : S83) 2).bind fun t222 => layChain k b t222.2.f1 t222.2.f2 (D : Int) (wrap64 (4 * wrap64 (1 + t222.1))) (fun y a c => if xs.length < 4294967296 then L k (wrap64 (j + 1)) a c (xs ++ [y]) else none)) else some (j, t216.2.f1, t216.2.f2, xs))) (d : Nat) :
   ∀ (j : Nat) (xs : List S52) (i h : Int), j + d = 2 → xs.length = j → (∀ y ∈ xs, LayG D y) → Cu b i →
   ∃ r i' h' q, (∀ k, d + 340 < k → L k (j : Int) i h xs = some (q, i', h', r)) ∧ (1 ≤ r.length ∧ r.length ≤ 2) ∧ (∀ y ∈ r, LayG D y) ∧ Cu b i' := by
 induction d with
 | zero =>
   intro j xs i h hj hl hx hc
   obtain ⟨v, i1, h1, e, v0, v1, hc1⟩ := belowG 0 b i h hc 2 (by omega) (by omega)
   refine ⟨xs, i1, h1, (j : Int), fun k hk => ?_, by omega, hx, hc1⟩
   obtain ⟨k, rfl⟩ : ∃ m, k = m + 1 := ⟨k - 1, by omega⟩
   rw [hL, belowG_k k 0, e, Option.bind_some, w64 (i := 1 + v) (by omega) (by omega), if_neg (by omega)]
 | succ d ih =>
   intro j xs i h hj hl hx hc
   obtain ⟨v, i1, h1, e, v0, v1, hc1⟩ := belowG 0 b i h hc 2 (by omega) (by omega)
   by_cases hlt : (j : Int) < 1 + v
   · obtain ⟨u, i2, h2, e2, u0, u1, hc2⟩ := belowG 0 b i1 h1 hc1 2 (by omega) (by omega)
     obtain ⟨U, hU, hU2⟩ : ∃ U : Nat, 4 * (1 + u) = (U : Int) ∧ (U = 4 ∨ U = 8) := ⟨(4 * (1 + u)).toNat, by omega, by omega⟩
     obtain ⟨y, i3, h3, e3, gy, hc3⟩ := layDraw b i2 h2 hc2 D U hD hU2
     obtain ⟨r, i', h', q, hr, q1, q2, q3⟩ := ih (j + 1) (xs ++ [y]) i3 h3 (by omega) (by simp; omega) (fun y' hy => by
       rcases List.mem_append.1 hy with hy | hy
       · exact hx y' hy
       · rw [List.mem_singleton.1 hy]; exact gy) hc3
     refine ⟨r, i', h', q, fun k hk => ?_, q1, q2, q3⟩
     obtain ⟨k, rfl⟩ : ∃ m, k = m + 1 := ⟨k - 1, by omega⟩
     rw [hL, belowG_k k 0, e, Option.bind_some, w64 (i := 1 + v) (by omega) (by omega), if_pos hlt, belowG_k k 0, e2, Option.bind_some, w64 (i := 1 + u) (by omega) (by omega), w64 (i := 4 * (1 + u)) (by omega) (by omega), hU, e3 k (by omega), if_pos (by omega), w64 (by omega) (by omega), show ((j : Int) + 1) = ((j + 1 : Nat) : Int) by omega]
     exact hr k (by omega)
   · refine ⟨xs, i1, h1, (j : Int), fun k hk => ?_, by omega, hx, hc1⟩
     obtain ⟨k, rfl⟩ : ∃ m, k = m + 1 := ⟨k - 1, by omega⟩
     rw [hL, belowG_k k 0, e, Option.bind_some, w64 (i := 1 + v) (by omega) (by omega), if_neg hlt]
theorem layG (x : S83) (D : Nat) (hD : D = 4 ∨ D = 8) (t5 : Int × S83) (ht : wrap64 (4 * wrap64 (1 + t5.1)) = (D : Int)) (i h : Int) (hc : Cu x.f0 i) : ∃ r i' h' q, (∀ k, 345 < k → sR.l2 x t5 k 0 i h [] = some (q, i', h', r)) ∧ (1 ≤ r.length ∧ r.length ≤ 2) ∧ (∀ y ∈ r, LayG D y) ∧ Cu x.f0 i' := by
 obtain ⟨r, i', h', q, hr, g⟩ := layG_from x.f0 D hD (sR.l2 x t5) (fun k j i h xs => by
   show sR.b2 x t5 (sR.l2 x t5 k) k j i h xs = _
   unfold sR.b2 layChain
   rw [ht]) 2 0 [] i h (by omega) rfl (fun y hy => by cases hy) hc
 exact ⟨r, i', h', q, fun k hk => hr k (by omega), g⟩
theorem appList (F : Int → Int) (P : Int → Prop) (n : Nat) (hn : n ≤ 100000) (hP : ∀ j : Nat, j < n → P (F (j : Int))) (L : Nat → List Int → Int → Option (List Int × Int)) (hL : ∀ k xs j, L (k + 1) xs j = if j < (n : Int) then (if xs.length < 4294967296 then L k (xs ++ [F j]) (wrap64 (j + 1)) else none) else some (xs, j)) (d : Nat) :
   ∀ (j : Nat) (acc : List Int), j + d = n → acc.length = j → (∀ z ∈ acc, P z) → ∃ r, (∀ k, d < k → L k acc (j : Int) = some (r, (n : Int))) ∧ r.length = n ∧ ∀ z ∈ r, P z := by
 induction d with
 | zero =>
   intro j acc hj ha hz
   refine ⟨acc, fun k hk => ?_, by omega, hz⟩
   obtain ⟨k, rfl⟩ : ∃ m, k = m + 1 := ⟨k - 1, by omega⟩
   rw [hL, if_neg (by omega), show (j : Int) = (n : Int) by omega]
 | succ d ih =>
   intro j acc hj ha hz
   obtain ⟨r, hr, h1, h2⟩ := ih (j + 1) (acc ++ [F (j : Int)]) (by omega) (by simp; omega) (fun z hz1 => by
     rcases List.mem_append.1 hz1 with h | h
     · exact hz z h
     · rw [List.mem_singleton.1 h]; exact hP j (by omega))
   refine ⟨r, fun k hk => ?_, h1, h2⟩
   obtain ⟨k, rfl⟩ : ∃ m, k = m + 1 := ⟨k - 1, by omega⟩
   rw [hL, if_pos (by omega), if_pos (by omega), w64 (by omega) (by omega), show ((j : Int) + 1) = ((j + 1 : Nat) : Int) by omega]
   exact hr k (by omega)
theorem small_prod (i k A B : Int) (h0 : 0 ≤ i) (h1 : i ≤ A) (k0 : 0 ≤ k) (k1 : k ≤ B) : 0 ≤ i * k ∧ i * k ≤ A * B := ⟨Int.mul_nonneg h0 k0, Int.mul_le_mul h1 k1 k0 (by omega)⟩
theorem embG (D V : Nat) (hD : D = 4 ∨ D = 8) (hV : V ≤ 300) (t5 t31 : Int × S83) (ht : Hid (wrap64 (4 * wrap64 (1 + t5.1)) = (D : Int))) (s0 : 0 ≤ t31.1) (s1 : t31.1 < 1000) (d : Nat) : ∀ (j : Nat) (acc : List (List Int)), j + d = V → acc.length = j → (∀ r ∈ acc, rowI (D : Int) r = true) →
   ∃ R, (∀ k, d + 20 < k → sR.l3 t5 (V : Int) t31 k (j : Int) acc = some ((V : Int), R)) ∧ R.length = V ∧ ∀ r ∈ R, rowI (D : Int) r = true := by
 induction d with
 | zero =>
   intro j acc hj ha hz
   refine ⟨acc, fun k hk => ?_, by omega, hz⟩
   obtain ⟨k, rfl⟩ : ∃ m, k = m + 1 := ⟨k - 1, by omega⟩
   unfold sR.l3 sR.b3
   rw [if_neg (by omega), show (j : Int) = (V : Int) by omega]
 | succ d ih =>
   intro j acc hj ha hz
   obtain ⟨r, hr, r1, r2⟩ := appList (fun i554 => wrap64 ((Int.tmod (wrap64 ((wrap64 ((wrap64 (t31.1 + (wrap64 ((j : Int) * 37)))) + (wrap64 (i554 * 91)))) + (wrap64 ((wrap64 ((j : Int) * i554)) * 13)))) 255) - 127)) (fun z => -127 ≤ z ∧ z ≤ 127) D (by omega) (fun q hq => by
     have hp := small_prod (j : Int) (q : Int) 300 8 (by omega) (by omega) (by omega) (by omega)
     show -127 ≤ wrap64 _ ∧ wrap64 _ ≤ 127
     rw [w64 (i := (j : Int) * 37) (by omega) (by omega), w64 (i := t31.1 + (j : Int) * 37) (by omega) (by omega), w64 (i := (q : Int) * 91) (by omega) (by omega), w64 (i := (j : Int) * (q : Int)) (by omega) (by omega), w64 (i := t31.1 + (j : Int) * 37 + (q : Int) * 91) (by omega) (by omega), w64 (i := (j : Int) * (q : Int) * 13) (by omega) (by omega)]
     generalize (j : Int) * (q : Int) = p at hp ⊢
     rw [w64 (i := t31.1 + (j : Int) * 37 + (q : Int) * 91 + p * 13) (by omega) (by omega), Int.tmod_eq_emod_of_nonneg (by omega), w64 (by omega) (by omega)]
     omega) (sR.l4 t5 t31 (j : Int)) (fun k xs i => by
     show sR.b4 t5 t31 (j : Int) (sR.l4 t5 t31 (j : Int) k) k xs i = _
     unfold sR.b4
     rw [show _ = _ from ht]) D 0 [] (by omega) rfl (fun z hz => by cases hz)
   obtain ⟨R, hR, R1, R2⟩ := ih (j + 1) (acc ++ [r]) (by omega) (by simp; omega) (fun y hy => by
     rcases List.mem_append.1 hy with hy | hy
     · exact hz y hy
     · rw [List.mem_singleton.1 hy]
       unfold rowI
       simp only [Bool.and_eq_true, decide_eq_true_eq, List.all_eq_true]
       exact ⟨by omega, r2⟩)
   refine ⟨R, fun k hk => ?_, R1, R2⟩
   obtain ⟨k, rfl⟩ : ∃ m, k = m + 1 := ⟨k - 1, by omega⟩
   have hr' := hr k (by omega)
   rw [show ((0 : Nat) : Int) = 0 from rfl] at hr'
   unfold sR.l3 sR.b3
   rw [if_pos (by omega), hr', Option.bind_some, if_pos (by omega), w64 (by omega) (by omega), show ((j : Int) + 1) = ((j + 1 : Nat) : Int) by omega]
   exact hR k (by omega)
def headAt (seed step i p : Int) : Int := wrap64 ((Int.tmod (wrap64 ((wrap64 ((wrap64 (seed + (wrap64 (i * (wrap64 (1 + step)))))) + (wrap64 (p * 7)))) + (wrap64 (i * p)))) 16) - 8)
theorem headAt_first (seed step : Int) (s0 : 0 ≤ seed) (s1 : seed < 1000) : headAt seed step 0 0 ≠ 0 ∨ headAt seed step 0 1 ≠ 0 := by
 unfold headAt
 generalize wrap64 (1 + step) = u
 have z : wrap64 0 = 0 := by decide +kernel
 have s7 : wrap64 7 = 7 := by decide +kernel
 have hw : wrap64 seed = seed := w64 (by omega) (by omega)
 have hv : wrap64 (seed + 7) = seed + 7 := w64 (by omega) (by omega)
 simp only [Int.zero_mul, Int.one_mul, z, s7, Int.add_zero, hw, hv]
 rw [Int.tmod_eq_emod_of_nonneg (by omega), Int.tmod_eq_emod_of_nonneg (by omega), w64 (i := seed % 16 - 8) (by omega) (by omega), w64 (i := (seed + 7) % 16 - 8) (by omega) (by omega)]
 omega
theorem headRow (D : Nat) (hD : D = 4 ∨ D = 8) (t5 t31 t72 : Int × S83) (ht : Hid (wrap64 (4 * wrap64 (1 + t5.1)) = (D : Int))) (s0 : 0 ≤ t31.1) (s1 : t31.1 < 1000) (p0 : 0 ≤ t72.1) (p1 : t72.1 < 40) (j : Nat) (hj : j ≤ 300) (d : Nat) : ∀ (q : Nat) (r s : List Int), q + d = D → r.length = q → s.length = (q + 3) / 4 → (∀ z ∈ r, -8 ≤ z ∧ z ≤ 7) → (∀ z ∈ s, 1 ≤ z ∧ z ≤ 30) → (∀ p, p < q → r.getD p 0 = headAt t31.1 t72.1 (j : Int) (p : Int)) →
   ∃ r' s', (∀ k, d < k → sR.l1 t5 t31 t72 (j : Int) k r s (q : Int) = some (r', s', (D : Int))) ∧ RowG D r' s' ∧ ∀ p, p < D → r'.getD p 0 = headAt t31.1 t72.1 (j : Int) (p : Int) := by
 induction d with
 | zero =>
   intro q r s hq hr hs h1 h2 hv
   refine ⟨r, s, fun k hk => ?_, ⟨by omega, h1, by omega, h2⟩, fun p hp => hv p (by omega)⟩
   obtain ⟨k, rfl⟩ : ∃ m, k = m + 1 := ⟨k - 1, by omega⟩
   unfold sR.l1 sR.b1
   rw [show _ = _ from ht, if_neg (by omega), show (q : Int) = (D : Int) by omega]
 | succ d ih =>
   intro q r s hq hr hs h1 h2 hv
   have hp := small_prod (j : Int) (q : Int) 300 8 (by omega) (by omega) (by omega) (by omega)
   have hp2 := small_prod (j : Int) (1 + t72.1) 300 40 (by omega) (by omega) (by omega) (by omega)
   obtain ⟨a, ha, a0, a1⟩ : ∃ a, wrap64 ((Int.tmod (wrap64 ((wrap64 ((wrap64 (t31.1 + (wrap64 ((j : Int) * (wrap64 (1 + t72.1)))))) + (wrap64 ((q : Int) * 7)))) + (wrap64 ((j : Int) * (q : Int))))) 16) - 8) = a ∧ -8 ≤ a ∧ a ≤ 7 := by
     refine ⟨_, rfl, ?_⟩
     rw [w64 (i := 1 + t72.1) (by omega) (by omega), w64 (i := (j : Int) * (1 + t72.1)) (by omega) (by omega), w64 (i := (j : Int) * (q : Int)) (by omega) (by omega)]
     generalize (j : Int) * (1 + t72.1) = u at hp2 ⊢
     generalize (j : Int) * (q : Int) = p at hp ⊢
     rw [w64 (i := t31.1 + u) (by omega) (by omega), w64 (i := (q : Int) * 7) (by omega) (by omega), w64 (i := t31.1 + u + (q : Int) * 7) (by omega) (by omega), w64 (i := t31.1 + u + (q : Int) * 7 + p) (by omega) (by omega), Int.tmod_eq_emod_of_nonneg (by omega), w64 (by omega) (by omega)]
     omega
   obtain ⟨c, hc, c0, c1⟩ : ∃ c, wrap64 (1 + (Int.tmod (wrap64 ((wrap64 ((wrap64 ((j : Int) * 3)) + (q : Int))) + t31.1)) 30)) = c ∧ 1 ≤ c ∧ c ≤ 30 := by
     refine ⟨_, rfl, ?_⟩
     rw [w64 (i := (j : Int) * 3) (by omega) (by omega), w64 (i := (j : Int) * 3 + (q : Int)) (by omega) (by omega), w64 (i := (j : Int) * 3 + (q : Int) + t31.1) (by omega) (by omega), Int.tmod_eq_emod_of_nonneg (by omega), w64 (by omega) (by omega)]
     omega
   have hv' : ∀ p, p < q + 1 → (r ++ [a]).getD p 0 = headAt t31.1 t72.1 (j : Int) (p : Int) := fun p hp => by
     by_cases hlt : p < q
     · rw [getD_l r [a] p 0 (by omega)]; exact hv p hlt
     · rw [getD_r r a p 0 (by omega), show p = q by omega]; exact ha.symm
   have h1' : ∀ z ∈ r ++ [a], -8 ≤ z ∧ z ≤ 7 := fun z hz => by
     rcases List.mem_append.1 hz with hz | hz
     · exact h1 z hz
     · rw [List.mem_singleton.1 hz]; exact ⟨a0, a1⟩
   by_cases h4 : q % 4 = 0
   · obtain ⟨r', s', hr', g⟩ := ih (q + 1) (r ++ [a]) (s ++ [c]) (by omega) (by simp; omega) (by simp; omega) h1' (fun z hz => by
       rcases List.mem_append.1 hz with hz | hz
       · exact h2 z hz
       · rw [List.mem_singleton.1 hz]; exact ⟨c0, c1⟩) hv'
     refine ⟨r', s', fun k hk => ?_, g⟩
     obtain ⟨k, rfl⟩ : ∃ m, k = m + 1 := ⟨k - 1, by omega⟩
     unfold sR.l1 sR.b1
     rw [show _ = _ from ht, if_pos (by omega), if_pos (by omega), if_pos (by rw [Int.tmod_eq_emod_of_nonneg (by omega)]; omega), if_pos (by omega), Option.bind_some, ha, hc, w64 (by omega) (by omega), show ((q : Int) + 1) = ((q + 1 : Nat) : Int) by omega]
     exact hr' k (by omega)
   · obtain ⟨r', s', hr', g⟩ := ih (q + 1) (r ++ [a]) s (by omega) (by simp; omega) (by omega) h1' h2 hv'
     refine ⟨r', s', fun k hk => ?_, g⟩
     obtain ⟨k, rfl⟩ : ∃ m, k = m + 1 := ⟨k - 1, by omega⟩
     unfold sR.l1 sR.b1
     rw [show _ = _ from ht, if_pos (by omega), if_pos (by omega), if_neg (by rw [Int.tmod_eq_emod_of_nonneg (by omega)]; omega), Option.bind_some, ha, w64 (by omega) (by omega), show ((q : Int) + 1) = ((q + 1 : Nat) : Int) by omega]
     exact hr' k (by omega)
theorem headG (D V : Nat) (hD : D = 4 ∨ D = 8) (hV : V ≤ 300) (t5 t31 t72 : Int × S83) (ht : Hid (wrap64 (4 * wrap64 (1 + t5.1)) = (D : Int))) (s0 : 0 ≤ t31.1) (s1 : t31.1 < 1000) (p0 : 0 ≤ t72.1) (p1 : t72.1 < 40) (d : Nat) : ∀ (j : Nat) (R S : List (List Int)), j + d = V → R.length = j → S.length = j → (∀ q, q < j → RowG D (R.getD q []) (S.getD q [])) → Hid (0 < j → ∃ p, p < D ∧ (R.getD 0 []).getD p 0 ≠ 0) →
   ∃ R' S', (∀ k, d + 20 < k → sR.l0 t5 (V : Int) t31 t72 k (j : Int) R S = some ((V : Int), R', S')) ∧ R'.length = V ∧ S'.length = V ∧ (∀ q, q < V → RowG D (R'.getD q []) (S'.getD q [])) ∧ Hid (0 < V → ∃ p, p < D ∧ (R'.getD 0 []).getD p 0 ≠ 0) := by
 induction d with
 | zero =>
   intro j R S hj hR hS h hz
   refine ⟨R, S, fun k hk => ?_, by omega, by omega, fun q hq => h q (by omega), fun h0 => hz.out (by omega)⟩
   obtain ⟨k, rfl⟩ : ∃ m, k = m + 1 := ⟨k - 1, by omega⟩
   unfold sR.l0 sR.b0
   rw [if_neg (by omega), show (j : Int) = (V : Int) by omega]
 | succ d ih =>
   intro j R S hj hR hS h hz
   obtain ⟨r, s, hr, g, gv⟩ := headRow D hD t5 t31 t72 ht s0 s1 p0 p1 j (by omega) D 0 [] [] (by omega) rfl (by rfl) (fun z hz => by cases hz) (fun z hz => by cases hz) (fun p hp => absurd hp (Nat.not_lt_zero _))
   obtain ⟨R', S', hr', g1, g2, g3⟩ := ih (j + 1) (R ++ [r]) (S ++ [s]) (by omega) (by simp; omega) (by simp; omega) (rows_snoc D R S r s j hR hS h g) (fun _ => by
     by_cases j0 : j = 0
     · subst j0
       rw [getD_r R r 0 [] (by omega)]
       rcases headAt_first t31.1 t72.1 s0 s1 with n | n
       · exact ⟨0, by omega, by rw [gv 0 (by omega)]; exact n⟩
       · exact ⟨1, by omega, by rw [gv 1 (by omega)]; exact n⟩
     · rw [getD_l R [r] 0 [] (by omega)]; exact hz.out (by omega))
   refine ⟨R', S', fun k hk => ?_, g1, g2, g3⟩
   obtain ⟨k, rfl⟩ : ∃ m, k = m + 1 := ⟨k - 1, by omega⟩
   have hr2 := hr k (by omega)
   rw [show ((0 : Nat) : Int) = 0 from rfl] at hr2
   unfold sR.l0 sR.b0
   rw [if_pos (by omega), hr2, Option.bind_some, if_pos (by omega), if_pos (by omega), w64 (by omega) (by omega), show ((j : Int) + 1) = ((j + 1 : Nat) : Int) by omega]
   exact hr' k (by omega)
theorem mergesG_from (x : S83) (d : Nat) : ∀ (j : Nat) (xs : List S54) (i h : Int), j + d = 9 → mergesB xs = true → Cu x.f0 i →
   ∃ r i' h', (∀ k, d + 2100 < k → ((sM2.l0 x k xs (j : Int) i h).bind fun o => match o with | .inl r_ => some r_ | .inr ⟨xs11, _, i15, i16⟩ => some (xs11, (⟨x.f0, i15, i16⟩ : S83))) = some (r, ⟨x.f0, i', h'⟩)) ∧ mergesB r = true ∧ Cu x.f0 i' := by
 induction d with
 | zero =>
   intro j xs i h hj hm hc
   obtain ⟨v, i1, h1, e, v0, v1, hc1⟩ := belowG 0 x.f0 i h hc 9 (by omega) (by omega)
   refine ⟨xs, i1, h1, fun k hk => ?_, hm, hc1⟩
   obtain ⟨k, rfl⟩ : ∃ m, k = m + 1 := ⟨k - 1, by omega⟩
   unfold sM2.l0 sM2.b0
   rw [belowG_k k 0, e, Option.bind_some, if_neg (by omega)]; rfl
 | succ d ih =>
   intro j xs i h hj hm hc
   obtain ⟨v, i1, h1, e, v0, v1, hc1⟩ := belowG 0 x.f0 i h hc 9 (by omega) (by omega)
   by_cases hlt : (j : Int) < v
   · obtain ⟨a, i2, h2, e2, a0, a1, hc2⟩ := belowG 0 x.f0 i1 h1 hc1 3 (by omega) (by omega)
     obtain ⟨c, i3, h3, e3, c0, c1, hc3⟩ := belowG 0 x.f0 i2 h2 hc2 3 (by omega) (by omega)
     obtain ⟨i4, h4, A, e4, hc4⟩ := pickG x i3 h3 hc3 j (by omega) 2 (by omega) (by omega) (wrap64 (97 + a))
     obtain ⟨i5, h5, B, e5, hc5⟩ := pickG x i4 h4 hc4 j (by omega) 3 (by omega) (by omega) (wrap64 (97 + c))
     have hl := mergesB_len xs hm
     obtain ⟨ys, hys, hmy⟩ : ∃ ys, (∀ k, 2000 < k → ((sMO.g k (([] : List S54) ++ xs ++ [(⟨A, B⟩ : S54)])).bind fun t116 => (if t116 = true then (some (([] : List S54) ++ xs ++ [(⟨A, B⟩ : S54)])) else (some xs))) = some ys) ∧ mergesB ys = true := by
       cases g : mergesB (([] : List S54) ++ xs ++ [(⟨A, B⟩ : S54)]) with
       | true => exact ⟨_, fun k hk => by rw [spec_merges _ k hk, Option.bind_some, g, if_pos rfl], g⟩
       | false => exact ⟨xs, fun k hk => by rw [spec_merges _ k hk, Option.bind_some, g, if_neg (by simp)], hm⟩
     by_cases hle : (ys.length : Int) ≤ (j : Int)
     · refine ⟨ys, i5, h5, fun k hk => ?_, hmy, hc5⟩
       obtain ⟨k, rfl⟩ : ∃ m, k = m + 1 := ⟨k - 1, by omega⟩
       unfold sM2.l0 sM2.b0
       rw [belowG_k k 0, e, Option.bind_some, if_pos hlt, belowG_k k 0, e2, Option.bind_some, belowG_k k 0, e3, Option.bind_some, e4 k, Option.bind_some, e5 k, Option.bind_some, if_pos (by omega), if_pos (by simp; omega), hys k (by omega), Option.bind_some, if_pos hle]; rfl
     · obtain ⟨r, i', h', hr, g1, g2⟩ := ih (j + 1) ys i5 h5 (by omega) hmy hc5
       refine ⟨r, i', h', fun k hk => ?_, g1, g2⟩
       obtain ⟨k, rfl⟩ : ∃ m, k = m + 1 := ⟨k - 1, by omega⟩
       unfold sM2.l0 sM2.b0
       rw [belowG_k k 0, e, Option.bind_some, if_pos hlt, belowG_k k 0, e2, Option.bind_some, belowG_k k 0, e3, Option.bind_some, e4 k, Option.bind_some, e5 k, Option.bind_some, if_pos (by omega), if_pos (by simp; omega), hys k (by omega), Option.bind_some, if_neg hle, Option.bind_some, w64 (by omega) (by omega), show ((j : Int) + 1) = ((j + 1 : Nat) : Int) by omega]
       exact hr k (by omega)
   · refine ⟨xs, i1, h1, fun k hk => ?_, hm, hc1⟩
     obtain ⟨k, rfl⟩ : ∃ m, k = m + 1 := ⟨k - 1, by omega⟩
     unfold sM2.l0 sM2.b0
     rw [belowG_k k 0, e, Option.bind_some, if_neg hlt]; rfl
theorem mergesG (b : List Int) (i h : Int) (hc : Cu b i) : ∃ r i' h', (∀ k, 2200 < k → sM2.g k ⟨b, i, h⟩ = some (r, ⟨b, i', h'⟩)) ∧ mergesB r = true ∧ Cu b i' := by
 obtain ⟨r, i', h', hr, g1, g2⟩ := mergesG_from ⟨b, i, h⟩ 9 0 [] i h (by omega) (by decide) hc
 exact ⟨r, i', h', fun k hk => hr k (by omega), g1, g2⟩
theorem turns_good (f : Nat → Nat → Int) (hf : ∀ p k, -128 ≤ f p k ∧ f p k ≤ 128) (n c : Nat) : (rowsOf f n c).all (rowT (n : Int)) = true := by
 rw [List.all_eq_true]
 intro r hr
 obtain ⟨p, _, rfl⟩ := List.mem_map.1 hr
 unfold rowT
 rw [rowOf_len, rowOf_all f hf, decide_eq_true rfl]; rfl
structure GoodM (D : Nat) (m : S33) : Prop where
 dim : D = 4 ∨ D = 8
 f0 : m.f0 = (D : Int)
 ok : modelB m = true
 size : iModel m ≤ 1048576
 lay : ∀ y ∈ m.f5, LayG D y
 lays : 1 ≤ m.f5.length ∧ m.f5.length ≤ 2
 cos : (m.f8.f0.length : Int) = m.f2
 ctx : 4 ≤ m.f2 ∧ m.f2 ≤ 18
 pos : Hid (∃ q, q < m.f7.f1.length ∧ 0 < wst (m.f7.f1.getD q []) (m.f7.f2.getD q []))
theorem good_of (D Hn C P V : Nat) (hD : D = 4 ∨ D = 8) (hH : Hn = 1 ∨ Hn = 2) (hC : 4 ≤ C ∧ C ≤ 18) (hP : Hid (wrap64 (Int.tdiv (wrap64 (Int.tdiv (D : Int) (Hn : Int))) 2) = (P : Int))) (hP1 : 1 ≤ P ∧ P ≤ 4) (ms : List S54) (hms : mergesB ms = true) (hV : V = 256 + ms.length) (R : List (List Int)) (hR : R.length = V) (hR2 : ∀ r ∈ R, rowI (D : Int) r = true)
   (ls : List S52) (hl : 1 ≤ ls.length ∧ ls.length ≤ 2) (hl2 : ∀ y ∈ ls, LayG D y) (g : List Int) (hg : g.length = D) (hg2 : ∀ z ∈ g, 0 ≤ z ∧ z ≤ 127) (HR HS : List (List Int)) (h1 : HR.length = V) (h2 : HS.length = V) (h3 : ∀ q, q < V → RowG D (HR.getD q []) (HS.getD q [])) (h4 : Hid (0 < V → ∃ p, p < D ∧ (HR.getD 0 []).getD p 0 ≠ 0)) :
   GoodM D ⟨(D : Int), (Hn : Int), (C : Int), ms, R, ls, g, ⟨(D : Int), HR, HS, 1, 1⟩, ⟨rowsOf cosAt P C, rowsOf sinAt P C⟩⟩ := by
 have hm := mergesB_len ms hms
 obtain ⟨a, c⟩ := mat_good D V hD (by omega) HR HS 1 1 h1 h2 (by omega) (by omega) (by omega) (by omega) h3
 have hv : Hid (wrap64 (256 + (ms.length : Int)) = (V : Int)) := by show wrap64 (256 + (ms.length : Int)) = (V : Int); rw [w64 (by omega) (by omega)]; omega
 refine ⟨hD, rfl, ?_, ?_, hl2, hl, ?_, ?_, ?_⟩
 · unfold modelB vocabM
   show (widthB (D : Int) && ((decide (1 ≤ (Hn : Int)) && decide ((Hn : Int) ≤ 2)) && (mergesB ms && (decide ((R.length : Int) = wrap64 (256 + (ms.length : Int))) && ((decide (1 ≤ (ls.length : Int)) && decide ((ls.length : Int) ≤ 2)) &&
     (R.all (rowI (D : Int)) && (ls.all (fun y => layerB y (D : Int)) && (gainB g (D : Int) && (mfit ⟨(D : Int), HR, HS, 1, 1⟩ (D : Int) (wrap64 (256 + (ms.length : Int))) && turnsB (rowsOf cosAt P C) (rowsOf sinAt P C) (C : Int) (wrap64 (Int.tdiv (wrap64 (Int.tdiv (D : Int) (Hn : Int))) 2))))))))))) = true
   have w1 : widthB (D : Int) = true := by rcases hD with h | h <;> rw [h] <;> rfl
   have w2 : R.all (rowI (D : Int)) = true := List.all_eq_true.mpr hR2
   have w3 : ls.all (fun y => layerB y (D : Int)) = true := List.all_eq_true.mpr (fun y hy => (hl2 y hy).1)
   have w4 : turnsB (rowsOf cosAt P C) (rowsOf sinAt P C) (C : Int) (P : Int) = true := by
     unfold turnsB
     rw [turns_good cosAt cos_bd, turns_good sinAt sin_bd, rowsOf_len, rowsOf_len, decide_eq_true (show (4 : Int) ≤ (C : Int) by omega), decide_eq_true (show (C : Int) ≤ 24 by omega), decide_eq_true (show (1 : Int) ≤ (P : Int) by omega), decide_eq_true (show (P : Int) ≤ 4 by omega), decide_eq_true rfl]; rfl
   rw [show wrap64 (256 + (ms.length : Int)) = (V : Int) from hv, show wrap64 (Int.tdiv (wrap64 (Int.tdiv (D : Int) (Hn : Int))) 2) = (P : Int) from hP, w1, w2, w3, w4, hms, a, gain_good g D hg hg2, decide_eq_true (show (1 : Int) ≤ (Hn : Int) by omega), decide_eq_true (show (Hn : Int) ≤ 2 by omega), decide_eq_true (show (R.length : Int) = (V : Int) by omega), decide_eq_true (show (1 : Int) ≤ (ls.length : Int) by omega), decide_eq_true (show (ls.length : Int) ≤ 2 by omega)]; rfl
 · show ms.length + (mIntss R + (iLayers ls + (g.length + (iMatrix ⟨(D : Int), HR, HS, 1, 1⟩ + (mIntss (rowsOf cosAt P C) + mIntss (rowsOf sinAt P C)))))) ≤ 1048576
   have s1 := (rowsOf_size cosAt P C (by omega) C).1
   have s2 := (rowsOf_size sinAt P C (by omega) C).1
   have s3 : sumS (fun l : List Int => l.length) R ≤ R.length * 8 := sumS_bd _ 8 R (fun r hr => by
     have := hR2 r hr
     unfold rowI at this
     simp only [Bool.and_eq_true, decide_eq_true_eq] at this
     omega)
   have s4 : sumS iLayer ls ≤ ls.length * 1000 := sumS_bd _ 1000 ls (fun y hy => (hl2 y hy).2.1)
   have e1 := mIntss_eq R
   have e2 : iLayers ls = ls.length + sumS iLayer ls := rfl
   omega
 · show ((rowsOf cosAt P C).length : Int) = (C : Int)
   rw [rowsOf_len]
 · exact ⟨by show (4 : Int) ≤ (C : Int); omega, by show (C : Int) ≤ 18; omega⟩
 · obtain ⟨p, hp, hn⟩ := h4.out (by omega)
   exact ⟨0, by show 0 < HR.length; omega, wst_pos _ _ D hD (h3 0 (by omega)) p hp hn⟩
theorem pairs_of (D Hn : Nat) (hD : D = 4 ∨ D = 8) (hH : Hn = 1 ∨ Hn = 2) : ∃ P : Nat, wrap64 (Int.tdiv (wrap64 (Int.tdiv (D : Int) (Hn : Int))) 2) = (P : Int) ∧ 1 ≤ P ∧ P ≤ 4 := by
 rcases hD with rfl | rfl <;> rcases hH with rfl | rfl
 · exact ⟨2, by decide +kernel, by omega, by omega⟩
 · exact ⟨1, by decide +kernel, by omega, by omega⟩
 · exact ⟨4, by decide +kernel, by omega, by omega⟩
 · exact ⟨2, by decide +kernel, by omega, by omega⟩
theorem rightG (b : List Int) (i h : Int) (hc : Cu b i) : ∃ m i' h' D, (∀ k, 4000 < k → sR.g k ⟨b, i, h⟩ = some (m, ⟨b, i', h'⟩)) ∧ GoodM D m ∧ Cu b i' := by
 obtain ⟨v5, i1, h1, e1, v50, v51, hc1⟩ := belowG 0 b i h hc 2 (by omega) (by omega)
 obtain ⟨v8, i2, h2, e2, v80, v81, hc2⟩ := belowG 0 b i1 h1 hc1 2 (by omega) (by omega)
 obtain ⟨v11, i3, h3, e3, v110, v111, hc3⟩ := belowG 0 b i2 h2 hc2 15 (by omega) (by omega)
 obtain ⟨ms, i4, h4, e4, hms, hc4⟩ := mergesG b i3 h3 hc3
 obtain ⟨v31, i5, h5, e5, v310, v311, hc5⟩ := belowG 0 b i4 h4 hc4 1000 (by omega) (by omega)
 obtain ⟨D, hD, hD2⟩ : ∃ D : Nat, wrap64 (4 * wrap64 (1 + v5)) = (D : Int) ∧ (D = 4 ∨ D = 8) := ⟨(4 * (1 + v5)).toNat, by rw [w64 (i := 1 + v5) (by omega) (by omega), w64 (by omega) (by omega)]; omega, by omega⟩
 obtain ⟨Hn, hH, hH2⟩ : ∃ Hn : Nat, wrap64 (1 + v8) = (Hn : Int) ∧ (Hn = 1 ∨ Hn = 2) := ⟨(1 + v8).toNat, by rw [w64 (by omega) (by omega)]; omega, by omega⟩
 obtain ⟨C, hC, hC2⟩ : ∃ C : Nat, wrap64 (4 + v11) = (C : Int) ∧ (4 ≤ C ∧ C ≤ 18) := ⟨(4 + v11).toNat, by rw [w64 (by omega) (by omega)]; omega, by omega⟩
 obtain ⟨P, hP, hP1⟩ := pairs_of D Hn hD2 hH2
 have hm := mergesB_len ms hms
 have hV : ∀ k (y : S33), y.f3 = ms → sV.g k y = some (((256 + ms.length : Nat)) : Int) := fun k y hy => by
   show some (wrap64 (256 + (y.f3.length : Int))) = _
   rw [hy, w64 (by omega) (by omega)]
   exact congrArg some (by omega)
 have n0 : (Hn : Int) ≠ 0 := by omega
 have vl : 256 + ms.length ≤ 300 := by omega
 obtain ⟨R, hR, R1, R2⟩ := embG D (256 + ms.length) hD2 vl (v5, ⟨b, i1, h1⟩) (v31, ⟨b, i5, h5⟩) hD v310 v311 (256 + ms.length) 0 [] (Nat.zero_add _) rfl (fun r hr => by cases hr)
 obtain ⟨ls, i6, h6, q6, hls, ls1, ls2, hc6⟩ := layG ⟨b, i, h⟩ D hD2 (v5, ⟨b, i1, h1⟩) hD i5 h5 hc5
 obtain ⟨g, i7, h7, e7, g1, g2, hc7⟩ := gainG b D (by rcases hD2 with rfl | rfl <;> decide) i6 h6 hc6
 obtain ⟨v72, i8, h8, e8, v720, v721, hc8⟩ := belowG 0 b i7 h7 hc7 40 (by decide) (by decide)
 obtain ⟨HR, HS, hHR, H1, H2, H3, H4⟩ := headG D (256 + ms.length) hD2 vl (v5, ⟨b, i1, h1⟩) (v31, ⟨b, i5, h5⟩) (v72, ⟨b, i8, h8⟩) hD v310 v311 v720 v721 (256 + ms.length) 0 [] [] (Nat.zero_add _) rfl rfl (fun q hq => absurd hq (Nat.not_lt_zero _)) (fun h => absurd h (Nat.lt_irrefl _))
 have gd := good_of D Hn C P (256 + ms.length) hD2 hH2 hC2 hP hP1 ms hms rfl R R1 R2 ls ls1 ls2 g g1 g2 HR HS H1 H2 H3 H4
 refine ⟨_, i8, h8, D, fun k hk => ?_, gd, hc8⟩
 have k1 : 2200 < k := Nat.lt_trans (by decide) hk
 have k2 : 256 + ms.length + 20 < k := by clear hR hHR hls e4 e7 hD hH hC hP e1 e2 e3 e5 e8 gd; omega
 have k3 : 345 < k := Nat.lt_trans (by decide) hk
 have k4 : 300 < k := Nat.lt_trans (by decide) hk
 have k5 : D < k := by rcases hD2 with rfl | rfl <;> exact Nat.lt_trans (by decide) hk
 have t := spec_turnsFor P C hP1.1 hP1.2 hC2.1 (Nat.le_trans hC2.2 (by decide)) k k4
 have r3 := hR k k2
 have r0 := hHR k k2
 rw [show ((0 : Nat) : Int) = 0 from rfl] at r3 r0
 unfold sR.g
 rw [belowG_k k 0, e1, Option.bind_some, belowG_k k 0, e2, Option.bind_some, belowG_k k 0, e3, Option.bind_some, e4 k k1, Option.bind_some, hV k _ rfl, Option.bind_some, belowG_k k 0, e5, Option.bind_some, r3, Option.bind_some]
 rw [show sR.l2 ⟨b, i, h⟩ (v5, ⟨b, i1, h1⟩) k 0 i5 h5 [] = _ from hls k k3, Option.bind_some, hD, e7 k k5, Option.bind_some, belowG_k k 0, e8, Option.bind_some, r0, Option.bind_some, hH, if_pos n0, hC, hP, t, Option.bind_some]
theorem new_from (l : List Int) (hl : l.length ≤ 1048576) (d : Nat) : ∀ (j : Nat) (h : Int), j + d = l.length → ∃ r q, ∀ k, d < k → sN.l0 l k h (j : Int) = some (r, q) := by
 induction d with
 | zero =>
   intro j h hj
   refine ⟨h, (j : Int), fun k hk => ?_⟩
   obtain ⟨k, rfl⟩ : ∃ m, k = m + 1 := ⟨k - 1, by omega⟩
   unfold sN.l0 sN.b0
   rw [if_neg (by omega)]
 | succ d ih =>
   intro j h hj
   by_cases c : (j : Int) < 4000
   · obtain ⟨r, q, e⟩ := ih (j + 1) (Go.bits .and .i64 (wrap64 ((wrap64 ((wrap64 (h * 131)) + (wrap64 ((l.getD (j : Int).toNat 0))))) + 7)) 1073741823) (by omega)
     refine ⟨r, q, fun k hk => ?_⟩
     obtain ⟨k, rfl⟩ : ∃ m, k = m + 1 := ⟨k - 1, by omega⟩
     unfold sN.l0 sN.b0
     rw [if_pos (by omega), if_pos c, if_pos (by omega), w64 (i := (j : Int) + 1) (by omega) (by omega), show ((j : Int) + 1) = ((j + 1 : Nat) : Int) by omega]
     exact e k (by omega)
   · refine ⟨h, (j : Int), fun k hk => ?_⟩
     obtain ⟨k, rfl⟩ : ∃ m, k = m + 1 := ⟨k - 1, by omega⟩
     unfold sN.l0 sN.b0
     rw [if_pos (by omega), if_neg c]
theorem newG (l : List Int) (hl : l.length ≤ 1048576) : ∃ h, (∀ k, l.length < k → sN.g k l = some ⟨l, 0, h⟩) ∧ Cu l 0 := by
 obtain ⟨r, q, e⟩ := new_from l hl l.length 0 (wrap64 (11201 + (l.length : Int))) (Nat.zero_add _)
 refine ⟨r, fun k hk => ?_, by omega, by omega, hl⟩
 have e' := e k hk
 rw [show ((0 : Nat) : Int) = 0 from rfl] at e'
 unfold sN.g
 rw [e', Option.bind_some]
theorem modelB_parts (x : S33) (h : modelB x = true) : widthB x.f0 = true ∧ (1 ≤ x.f1 ∧ x.f1 ≤ 2) ∧ mergesB x.f3 = true ∧ (x.f4.length : Int) = vocabM x ∧ (1 ≤ (x.f5.length : Int) ∧ (x.f5.length : Int) ≤ 2) ∧ (∀ r ∈ x.f4, rowI x.f0 r = true) ∧ (∀ y ∈ x.f5, layerB y x.f0 = true) ∧ gainB x.f6 x.f0 = true ∧ mfit x.f7 x.f0 (vocabM x) = true ∧ turnsB x.f8.f0 x.f8.f1 x.f2 (wrap64 (Int.tdiv (wrap64 (Int.tdiv x.f0 x.f1)) 2)) = true := by
 unfold modelB at h
 simp only [Bool.and_eq_true, decide_eq_true_eq, List.all_eq_true] at h
 exact ⟨h.1, h.2.1, h.2.2.1, h.2.2.2.1, h.2.2.2.2.1, h.2.2.2.2.2.1, h.2.2.2.2.2.2.1, h.2.2.2.2.2.2.2.1, h.2.2.2.2.2.2.2.2.1, h.2.2.2.2.2.2.2.2.2⟩
theorem good_vocab {D : Nat} {m : S33} (g : GoodM D m) : wrap64 (256 + (m.f3.length : Int)) = ((256 + m.f3.length : Nat) : Int) ∧ m.f3.length ≤ 16 := by
 have h := mergesB_len _ (modelB_parts m g.ok).2.2.1
 exact ⟨by rw [w64 (by omega) (by omega)]; omega, h⟩
theorem toks_from (x : S33 × S83) (b : List Int) (D : Nat) (g : GoodM D x.1) (d : Nat) : ∀ (j : Nat) (acc : List Int) (i h : Int), j + d = 6 → acc.length = j → (j : Int) ≤ x.1.f2 → Cu b i → (∀ z ∈ acc, 0 ≤ z ∧ z < ((256 + x.1.f3.length : Nat) : Int)) →
   ∃ r q i' h', (∀ k, d < k → sDRM.l0 b x k acc (j : Int) i h = some (r, q, i', h')) ∧ (1 ≤ r.length ∧ r.length ≤ 6 ∧ (r.length : Int) ≤ x.1.f2) ∧ (∀ z ∈ r, 0 ≤ z ∧ z < ((256 + x.1.f3.length : Nat) : Int)) := by
 obtain ⟨gv, gl⟩ := good_vocab g
 have gc := g.ctx
 induction d with
 | zero =>
   intro j acc i h hj ha hx hc hz
   obtain ⟨v, i1, h1, e, v0, v1, hc1⟩ := belowG 0 b i h hc 6 (by omega) (by omega)
   refine ⟨acc, (j : Int), i1, h1, fun k hk => ?_, by omega, hz⟩
   obtain ⟨k, rfl⟩ : ∃ m, k = m + 1 := ⟨k - 1, by omega⟩
   unfold sDRM.l0 sDRM.b0
   rw [belowG_k k 0, e, Option.bind_some, w64 (i := 1 + v) (by omega) (by omega), if_neg (by omega)]
 | succ d ih =>
   intro j acc i h hj ha hx hc hz
   obtain ⟨v, i1, h1, e, v0, v1, hc1⟩ := belowG 0 b i h hc 6 (by omega) (by omega)
   by_cases c1 : (j : Int) < 1 + v
   · by_cases c2 : (j : Int) < x.1.f2
     · obtain ⟨u, i2, h2, e2, u0, u1, hc2⟩ := belowG 0 b i1 h1 hc1 ((256 + x.1.f3.length : Nat) : Int) (by omega) (by omega)
       obtain ⟨r, q, i', h', hr, r1, r2⟩ := ih (j + 1) (acc ++ [u]) i2 h2 (by omega) (by simp; omega) (by omega) hc2 (fun z hz1 => by
         rcases List.mem_append.1 hz1 with hz1 | hz1
         · exact hz z hz1
         · rw [List.mem_singleton.1 hz1]; exact ⟨u0, u1⟩)
       refine ⟨r, q, i', h', fun k hk => ?_, r1, r2⟩
       obtain ⟨k, rfl⟩ : ∃ m, k = m + 1 := ⟨k - 1, by omega⟩
       have gv' : sV.g k x.1 = some ((256 + x.1.f3.length : Nat) : Int) := congrArg some gv
       unfold sDRM.l0 sDRM.b0
       rw [belowG_k k 0, e, Option.bind_some, w64 (i := 1 + v) (by omega) (by omega), if_pos c1, if_pos c2, gv', Option.bind_some, belowG_k k 0, e2, Option.bind_some, if_pos (by omega), w64 (i := (j : Int) + 1) (by omega) (by omega), show ((j : Int) + 1) = ((j + 1 : Nat) : Int) by omega]
       exact hr k (by omega)
     · refine ⟨acc, (j : Int), i1, h1, fun k hk => ?_, by omega, hz⟩
       obtain ⟨k, rfl⟩ : ∃ m, k = m + 1 := ⟨k - 1, by omega⟩
       unfold sDRM.l0 sDRM.b0
       rw [belowG_k k 0, e, Option.bind_some, w64 (i := 1 + v) (by omega) (by omega), if_pos c1, if_neg c2]
   · refine ⟨acc, (j : Int), i1, h1, fun k hk => ?_, by omega, hz⟩
     obtain ⟨k, rfl⟩ : ∃ m, k = m + 1 := ⟨k - 1, by omega⟩
     unfold sDRM.l0 sDRM.b0
     rw [belowG_k k 0, e, Option.bind_some, w64 (i := 1 + v) (by omega) (by omega), if_neg c1]
theorem drawnG (l : List Int) (hl : l.length ≤ 1048576) : ∃ m ts D, (∀ k, 1100000 < k → sDRM.g k l = some (m, ts)) ∧ GoodM D m ∧ (1 ≤ ts.length ∧ ts.length ≤ 6 ∧ (ts.length : Int) ≤ m.f2) ∧ (∀ z ∈ ts, 0 ≤ z ∧ z < ((256 + m.f3.length : Nat) : Int)) := by
 obtain ⟨h0, e0, hc0⟩ := newG l hl
 obtain ⟨m, i1, h1, D, e1, g, hc1⟩ := rightG l 0 h0 hc0
 obtain ⟨ts, q, i2, h2, e2, t1, t2⟩ := toks_from (m, ⟨l, i1, h1⟩) l D g 6 0 [] i1 h1 (by omega) rfl (by have := g.ctx; show ((0 : Nat) : Int) ≤ m.f2; omega) hc1 (fun z hz => by cases hz)
 refine ⟨m, ts, D, fun k hk => ?_, g, t1, t2⟩
 have e2' := e2 k (by omega)
 rw [show ((0 : Nat) : Int) = 0 from rfl] at e2'
 unfold sDRM.g
 rw [e0 k (by omega), Option.bind_some, e1 k (by omega), Option.bind_some, e2', Option.bind_some]
theorem placesG (l : List Int) (hl : l.length ≤ 1048576) : ∃ p, (∀ k, 1100000 < k → sDP.g k l = some p) ∧ p.length = 12 ∧ ∀ z ∈ p, 0 ≤ z ∧ z < 10000 := by
 obtain ⟨h0, e0, hc0⟩ := newG l hl
 obtain ⟨v, i1, h1, e1, _, _, hc1⟩ := byteG 0 l 0 h0 hc0
 obtain ⟨p, i2, h2, e2, hp, hz, _⟩ := drawList0 l 10000 (by decide) (by decide) (fun v => v) (fun v => 0 ≤ v ∧ v < 10000) (fun v a b => ⟨a, b⟩) 12 (by decide) (sDP.l0 l) (fun _ _ _ _ _ => rfl) i1 h1 hc1
 refine ⟨p, fun k hk => ?_, hp, hz⟩
 have e2 := e2 k (by omega)
 unfold sDP.g
 rw [e0 k (by omega), Option.bind_some]
 show ((sB2.g k ⟨l, 0, h0⟩).bind _) = _
 rw [byteG_k k 0, e1, Option.bind_some]
 dsimp only
 rw [e2]; rfl
theorem place_at (p : List Int) (hp : p.length = 12) (hz : ∀ z ∈ p, 0 ≤ z ∧ z < 10000) (j : Nat) (hj : j < 12) : 0 ≤ p.getD (j : Int).toNat 0 ∧ p.getD (j : Int).toNat 0 < 10000 := by
 rw [getD_int p 0 j (by omega)]; exact hz _ (List.getElem_mem _)
theorem tmod_at (a : Int) (n : Nat) (h0 : 0 ≤ a) (hn : 0 < n) : ∃ i : Nat, Int.tmod a (n : Int) = (i : Int) ∧ i < n := by
 refine ⟨(a % (n : Int)).toNat, ?_, ?_⟩
 · rw [Int.tmod_eq_emod_of_nonneg h0]
   have := Int.emod_nonneg a (show (n : Int) ≠ 0 by omega)
   omega
 · have := Int.emod_nonneg a (show (n : Int) ≠ 0 by omega)
   have := Int.emod_lt_of_pos a (show (0 : Int) < (n : Int) by omega)
   omega
theorem FnFiles : laws_FnFiles.Pure := by
 intro l ok
 refine ⟨9000000, ?_⟩
 unfold laws_FnFiles.g laws_big.f
 rw [Option.bind_some]
 by_cases hb : (l.length : Int) > 1048576
 · rw [if_pos (decide_eq_true hb)]
 · rw [if_neg (by simpa using hb)]
   obtain ⟨m, ts, D, e, g, _, _⟩ := drawnG l (by omega)
   obtain ⟨p, ep, hp, hz⟩ := placesG l (by omega)
   obtain ⟨n, hd, c, h⟩ := mod_r m g.ok
   have h1 := modT_lo h
   have h2 := modT_le h
   have h3 := fileT_size h
   have hB : (bytesOf (fileT m)).length = (fileT m).size := bytesOf_length _
   have p0 := place_at p hp hz 0 (by decide)
   have p1 := place_at p hp hz 1 (by decide)
   have p2 := place_at p hp hz 2 (by decide)
   have p3 := place_at p hp hz 3 (by decide)
   rw [show ((0 : Nat) : Int) = (0 : Int) from rfl] at p0
   rw [show ((1 : Nat) : Int) = (1 : Int) from rfl] at p1
   rw [show ((2 : Nat) : Int) = (2 : Int) from rfl] at p2
   rw [show ((3 : Nat) : Int) = (3 : Int) from rfl] at p3
   have ef : impl_FileBytes.g 9000000 m = some ((fileT m).size : Int) := by
     unfold impl_FileBytes.g
     rw [impl_text m g.size _ (by omega), if_pos g.ok, Option.bind_some]
   rw [e _ (by omega), Option.bind_some]
   dsimp only
   rw [impl_text m g.size _ (by omega), if_pos g.ok, Option.bind_some]
   dsimp only
   rw [read_back m g.size g.ok _ (by omega), Option.bind_some]
   dsimp only
   rw [spec_text m g.size _ (by omega), if_pos g.ok, Option.bind_some, if_pos rfl, if_pos rfl, if_pos rfl, if_pos rfl, ef, Option.bind_some, if_pos rfl, spec_model m g.size _ (by omega), g.ok, Option.bind_some, if_pos rfl, ep _ (by omega), Option.bind_some, if_pos (by omega), if_pos (by omega), if_pos (by omega), if_pos (by omega)]
   generalize p.getD (0 : Int).toNat 0 = P0 at p0 ⊢
   generalize p.getD (1 : Int).toNat 0 = P1 at p1 ⊢
   generalize p.getD (2 : Int).toNat 0 = P2 at p2 ⊢
   generalize p.getD (3 : Int).toNat 0 = P3 at p3 ⊢
   obtain ⟨i, ei, hi⟩ := tmod_at (10000 * P0 + P1) (bytesOf (fileT m)).length (by omega) (by omega)
   obtain ⟨q, eq, hq⟩ := tmod_at P2 255 p2.1 (by decide)
   obtain ⟨j, ej, hj⟩ := tmod_at P3 19 p3.1 (by decide)
   rw [show ((255 : Nat) : Int) = 255 from rfl] at eq
   rw [show ((19 : Nat) : Int) = 19 from rfl] at ej
   have hq2 : 1 ≤ 1 + (q : Int) ∧ 1 + (q : Int) ≤ 255 := by clear ei eq ej; omega
   have hd8 : IntKind.u8.wrap (wrap64 (1 + (q : Int))) = 1 + (q : Int) := by
     clear ei eq ej
     rw [w64 (by omega) (by omega), show IntKind.u8.wrap (1 + (q : Int)) = (1 + (q : Int)) % 256 from b8_mod _]; omega
   have hl : (bytesOf (fileT m))[i] = (bytesOf (fileT m)).getD (i : Int).toNat 0 := (getD_int _ 0 i hi).symm
   have hab := byteL_of (fileT m) _ (List.getElem_mem hi)
   obtain ⟨v1, v2⟩ := turn_byte _ (1 + (q : Int)) hab hq2
   have hcw : wrap64 (wrap64 (((fileT m).size : Int) - 1) - (j : Int)) = (((fileT m).size - 1 - j : Nat) : Int) := by
     clear ei eq ej hd8
     rw [w64 (i := ((fileT m).size : Int) - 1) (by omega) (by omega), w64 (by omega) (by omega)]; omega
   have hw1 : wrap64 (wrap64 (10000 * P0) + P1) = 10000 * P0 + P1 := by
     clear ei eq ej hd8 hcw
     rw [w64 (i := 10000 * P0) (by omega) (by omega), w64 (i := 10000 * P0 + P1) (by omega) (by omega)]
   rw [hw1, ei, eq, ej, hd8, hcw]
   clear hd8 hcw ei eq ej hw1
   rw [if_pos (by omega), if_pos (by omega), Int.toNat_natCast]
   have hv : (bytesOf (fileT m)).getD i 0 = (bytesOf (fileT m))[i] := by rw [hl, Int.toNat_natCast]
   rw [hv]
   have hby : byteL ((bytesOf (fileT m)).set i (Go.bits .xor .u8 (bytesOf (fileT m))[i] (1 + (q : Int)))) := set_bytes (byteL_of _) i _ v1
   have hun := unsealed_turned (strOfNums (modT m)) (strOfNums ((bytesOf (fileT m)).set i (Go.bits .xor .u8 (bytesOf (fileT m))[i] (1 + (q : Int))))) (by rw [strOfNums_size]; omega) i _ v1 (by rw [hB] at hi; exact hi) v2 (bytesOf_nums _ hby) 9000000 (by omega)
   have hts : (strOfNums ((bytesOf (fileT m)).set i (Go.bits .xor .u8 (bytesOf (fileT m))[i] (1 + (q : Int))))).size = (fileT m).size := by rw [strOfNums_size, List.length_set, hB]
   have ht : ∃ y, iRM.g 9000000 (strOfNums ((bytesOf (fileT m)).set i (Go.bits .xor .u8 (bytesOf (fileT m))[i] (1 + (q : Int))))) = some (y, 2) := by
     unfold iRM.g
     rw [if_neg (by omega), hun, Option.bind_some]
     exact ⟨_, rfl⟩
   obtain ⟨y, ht⟩ := ht
   rw [ht, Option.bind_some, if_pos (by omega), if_pos (by omega), Int.toNat_natCast]
   have hcs : ((fileT m).extract 0 ((fileT m).size - 1 - j)).size = (fileT m).size - 1 - j := by rw [size_extract _ _ _ (by omega)]; omega
   obtain ⟨R1, hR1⟩ := pref_take h (four ((crc (strOfNums (modT m)) : Nat) : Int)) ((fileT m).size - 1 - j - 4) (by omega)
   obtain ⟨m1, c1, r1, n1⟩ := code_other h ((fileT m).extract 0 ((fileT m).size - 1 - j)) R1 (by omega) (by omega) (by rw [hcs, bytes_extract, bytes_extract, List.drop_zero, List.drop_zero, Nat.sub_zero, Nat.sub_zero, List.take_take, Nat.min_eq_left (by omega), fileT_bytes h]; exact hR1) (by omega) 9000000 (by omega)
   have hxs : (fileT m ++ (⟨#[120]⟩ : ByteArray)).size = (fileT m).size + 1 := by rw [ByteArray.size_append]; rfl
   obtain ⟨R2, hR2⟩ := pref_take h (four ((crc (strOfNums (modT m)) : Nat) : Int) ++ [120]) ((fileT m).size + 1 - 4) (by omega)
   obtain ⟨m2, c2, r2, n2⟩ := code_other h (fileT m ++ (⟨#[120]⟩ : ByteArray)) R2 (by omega) (by omega) (by rw [hxs, bytes_extract, List.drop_zero, Nat.sub_zero, bytes_app, fileT_bytes h, List.append_assoc]; exact hR2) (by omega) 9000000 (by omega)
   rw [r1, Option.bind_some, if_pos (by show (fileT m).size + 1 < _; omega), r2, Option.bind_some, if_pos rfl, if_neg n1]
   show some (c2 != 0) = some true
   rw [bne_iff_ne.2 n2]
end Go.Proofs.Ytbdbadkinjbpcaa.Pure
