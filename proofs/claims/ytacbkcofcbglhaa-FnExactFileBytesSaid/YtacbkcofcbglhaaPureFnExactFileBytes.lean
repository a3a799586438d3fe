/- The program's FileBytes returns what the reference's FileBytes returns, and leaves its argument alone, for all arguments. No conditions. -/
import Derived.Test.YtacbkcofcbglhaaGFnExactFileBytes4
namespace Go.Proofs.Ytacbkcofcbglhaa.Pure
open Go.RowKit Go.Proofs.Ytacbkcofcbglhaa.PFnExactFileBytes Go.Proofs.YtacbkcofcbglhaaW.PrintWords Go.Proofs.YtacbkcofcbglhaaW.PrintLast Go.Proofs.YtacbkcofcbglhaaW.PrintMore
set_option linter.unusedVariables false
set_option linter.unusedSimpArgs false

theorem w64 {i : Int} (h0 : -9223372036854775808 ≤ i) (h : i ≤ 9223372036854775807) : wrap64 i = i := by unfold wrap64; omega
theorem rd_get (l : List Int) (i : Nat) (h : i < l.length) : rd l (i : Int) = l[i] := by simp [rd, List.getD_eq_getElem?_getD, h]


theorem getD_int {α : Type} (l : List α) (z : α) (i : Nat) (h : i < l.length) : l.getD (i : Int).toNat z = l[i] := by simp [List.getD_eq_getElem?_getD, h]
/-- what the parts of a list come to. -/
def sumS {α : Type} (s : α → Nat) : List α → Nat
  | [] => 0
  | x :: l => s x + sumS s l
theorem sumS_le {α : Type} (s : α → Nat) : ∀ (l : List α) (x : α), x ∈ l → s x ≤ sumS s l
  | [], _, h => by cases h
  | y :: l, x, h => by
    have e : sumS s (y :: l) = s y + sumS s l := rfl
    rcases List.mem_cons.mp h with g | g
    · rw [g, e]; omega
    · have := sumS_le s l x g; rw [e]; omega
theorem sumS_cons {α : Type} (s : α → Nat) (x : α) (l : List α) : sumS s (x :: l) = s x + sumS s l := rfl
/-- a list's size: its length and its parts'. -/
def szL {α : Type} (s : α → Nat) (l : List α) : Nat := l.length + sumS s l
/-- how a size is taken off: none is left, or the rest. -/
def lessS (n : Int) (s : Nat) : Option Int := some (if n < (s : Int) then -1 else n - (s : Int))
theorem sz_then {p : Option Int} {G : Int → Option Int} {n : Int} {a b : Nat} (h : p = lessS n a) (h0 : 0 ≤ n) (hG : (a : Int) ≤ n → G (n - a) = lessS (n - a) b) :
    (p.bind fun t => if t < 0 then some (-1) else G t) = lessS n (a + b) := by
  rw [h]; unfold lessS; rw [Option.bind_some]
  by_cases c : n < (a : Int)
  · rw [if_pos c, if_pos (by omega), if_pos (by omega)]
  · rw [if_neg c, if_neg (by omega), hG (by omega)]
    unfold lessS
    by_cases d : n - (a : Int) < (b : Int)
    · rw [if_pos d, if_pos (by omega)]
    · rw [if_neg d, if_neg (by omega)]; congr 1; omega
theorem sz_end {p : Option Int} {n : Int} {a : Nat} (h : p = lessS n a) (h0 : 0 ≤ n) : (p.bind fun t => if t < 0 then some (-1) else some t) = lessS n a := by
  have := sz_then (G := fun t => some t) (b := 0) h h0 (fun g => by unfold lessS; rw [if_neg (by omega)]; congr 1; omega)
  simpa using this
section
variable {α : Type} (z : α) (F : Nat → List α → Int → Int → Option Int) (E : Nat → α → Int → Option Int) (s : α → Nat) (ok : α → Prop)
end
section
variable {α β γ : Type} (z : α) (zb : β) (F : Nat → List α → List β → Int → Option (List β)) (E : Nat → α → Option γ) (c : γ → β) (g : α → β) (s : α → Nat) (ok : α → Prop)
end
section
variable {α : Type} (z : α) (F : Nat → List α → List α → Int → Option Bool) (E : Nat → α → Option Bool) (s : α → Nat)
end

/-- a loop that puts a list behind another, for each of a list. -/
theorem loopCat {α β ρ : Type} (l : List α) (g : α → List β) (F : Nat → Nat → List β → Option ρ) (r : List β → Option ρ) (c M : Nat)
    (hs : ∀ k i (h : i < l.length) xs, c < k → xs.length + (g l[i]).length ≤ M → F (k + 1) i xs = F k (i + 1) (xs ++ g l[i])) (he : ∀ k xs, F (k + 1) l.length xs = r xs) (d : Nat) :
    ∀ (k i : Nat) (xs : List β), i + d = l.length → d + c < k → xs.length + (((l.drop i).map g).flatten).length ≤ M → F k i xs = r (xs ++ ((l.drop i).map g).flatten) := by
  induction d with
  | zero =>
    intro k i xs hi hk hM
    obtain ⟨k, rfl⟩ : ∃ m, k = m + 1 := ⟨k - 1, by omega⟩
    obtain rfl : i = l.length := by omega
    rw [he, List.drop_length]; simp
  | succ d ih =>
    intro k i xs hi hk hM
    obtain ⟨k, rfl⟩ : ∃ m, k = m + 1 := ⟨k - 1, by omega⟩
    have hlt : i < l.length := by omega
    rw [List.drop_eq_getElem_cons hlt, List.map_cons, List.flatten_cons, List.length_append] at hM
    rw [hs k i hlt xs (by omega) (by omega), ih k (i + 1) _ (by omega) (by omega) (by rw [List.length_append]; omega), List.drop_eq_getElem_cons hlt, List.map_cons, List.flatten_cons, List.append_assoc]
theorem loopCat0 {α β ρ : Type} (l : List α) (g : α → List β) (F : Nat → Nat → List β → Option ρ) (r : List β → Option ρ) (c M : Nat)
    (hs : ∀ k i (h : i < l.length) xs, c < k → xs.length + (g l[i]).length ≤ M → F (k + 1) i xs = F k (i + 1) (xs ++ g l[i])) (he : ∀ k xs, F (k + 1) l.length xs = r xs)
    (k : Nat) (xs : List β) (hk : l.length + c < k) (hM : xs.length + ((l.map g).flatten).length ≤ M) : F k 0 xs = r (xs ++ (l.map g).flatten) := by
  have := loopCat l g F r c M hs he l.length k 0 xs (by omega) hk (by rw [List.drop_zero]; exact hM)
  rw [List.drop_zero] at this
  exact this
theorem flat_one {α β : Type} (l : List α) (g : α → β) : (l.map fun x => [g x]).flatten = l.map g := by
  induction l with
  | nil => rfl
  | cons x l ih => rw [List.map_cons, List.flatten_cons, ih]; rfl
theorem flat_len {α β : Type} (l : List α) (g : α → List β) (n : Nat) (h : ∀ x ∈ l, (g x).length = n) : ((l.map g).flatten).length = l.length * n := by
  induction l with
  | nil => simp
  | cons x l ih => rw [List.map_cons, List.flatten_cons, List.length_append, ih (fun y hy => h y (List.mem_cons_of_mem _ hy)), h x (List.mem_cons_self ..), List.length_cons, Nat.add_mul]; omega
theorem flat_le {α β : Type} (l : List α) (g : α → List β) (n : Nat) (h : ∀ x ∈ l, (g x).length ≤ n) : ((l.map g).flatten).length ≤ l.length * n := by
  induction l with
  | nil => simp
  | cons x l ih => rw [List.map_cons, List.flatten_cons, List.length_append, List.length_cons, Nat.add_mul]; have := ih (fun y hy => h y (List.mem_cons_of_mem _ hy)); have := h x (List.mem_cons_self ..); omega

theorem wn {a b : Int} (h : a = b) (h0 : -9223372036854775808 ≤ b) (h1 : b ≤ 9223372036854775807) : wrap64 a = b := by rw [h]; exact w64 h0 h1
def b8 (n : Int) : Int := IntKind.u8.wrap n
def byts (more : Int) (l : List Int) : List Int := l.map fun n => b8 (wrap64 (n + more))
def two (n : Int) : List Int := [b8 (n / 256), b8 n]
def three (n : Int) : List Int := [b8 (n / 65536), b8 (n / 256), b8 n]
theorem byts_len (m : Int) (l : List Int) : (byts m l).length = l.length := List.length_map ..
theorem b8_mod (n : Int) : b8 n = n % 256 := by simp [b8, IntKind.wrap, IntKind.signed, IntKind.bits]
theorem put_all (k : Nat) (xs : List Int) (a : Int) (l : List Int) (hl : l.length ≤ 10000) (hx : xs.length ≤ 100000) (hk : l.length < k) : impl_writer_put.g k ⟨xs⟩ a l = some ⟨xs ++ byts a l⟩ := by
  unfold impl_writer_put.g
  have h := loopCat0 l (fun n => [b8 (wrap64 (n + a))]) (fun k i xs => impl_writer_put.l0 a l k (i : Int) xs) (fun xs => some ((l.length : Int), xs)) 0 120000
    (fun k i h xs _ hM => by
      show impl_writer_put.b0 a l (impl_writer_put.l0 a l k) k (i : Int) xs = _
      unfold impl_writer_put.b0
      rw [if_pos (by omega), if_pos (by omega), if_pos (by omega), getD_int l _ i h, w64 (by omega) (by omega), show ((i : Int) + 1) = ((i + 1 : Nat) : Int) by omega]; rfl)
    (fun k xs => by
      show impl_writer_put.b0 a l (impl_writer_put.l0 a l k) k (l.length : Int) xs = _
      unfold impl_writer_put.b0
      rw [if_neg (by omega)]) k xs (by omega) (by rw [flat_one, List.length_map]; omega)
  rw [flat_one] at h
  have h : impl_writer_put.l0 a l k 0 xs = _ := h
  rw [h, Option.bind_some]; rfl
theorem spec_bytes (k : Nat) (a : Int) (l : List Int) (hl : l.length ≤ 10000) (hk : l.length < k) : spec_l11Bytes.g k l a = some (byts a l) := by
  unfold spec_l11Bytes.g
  have h := loopCat0 l (fun n => [b8 (wrap64 (n + a))]) (fun k i xs => spec_l11Bytes.l0 l a k xs (i : Int)) (fun xs => some (xs, (l.length : Int))) 0 120000
    (fun k i h xs _ hM => by
      show spec_l11Bytes.b0 l a (spec_l11Bytes.l0 l a k) k xs (i : Int) = _
      unfold spec_l11Bytes.b0
      rw [if_pos (by omega), if_pos (by omega), if_pos (by omega), getD_int l _ i h, w64 (i := (i : Int) + 1) (by omega) (by omega), show ((i : Int) + 1) = ((i + 1 : Nat) : Int) by omega]; rfl)
    (fun k xs => by
      show spec_l11Bytes.b0 l a (spec_l11Bytes.l0 l a k) k xs (l.length : Int) = _
      unfold spec_l11Bytes.b0
      rw [if_neg (by omega)]) k [] (by omega) (by rw [flat_one, List.length_map, List.length_nil]; omega)
  rw [flat_one, List.nil_append] at h
  have h : spec_l11Bytes.l0 l a k [] 0 = _ := h
  rw [h, Option.bind_some]; rfl
theorem shr0 (n : Int) : shr .i64 n 0 = n := by unfold shr; simp
theorem shr8 (n : Int) : shr .i64 n 8 = n / 256 := by unfold shr; rfl
theorem shr16 (n : Int) : shr .i64 n 16 = n / 65536 := by unfold shr; rfl
theorem wide_two (k : Nat) (xs : List Int) (n : Int) (hx : xs.length ≤ 100000) (hk : 3 < k) : impl_writer_wide.g k ⟨xs⟩ n 2 = some ⟨xs ++ two n⟩ := by
  obtain ⟨k, rfl⟩ : ∃ m, k = m + 3 := ⟨k - 3, by omega⟩
  unfold impl_writer_wide.g
  rw [show wrap64 (2 - 1) = 1 from wn (by decide) (by decide) (by decide)]
  show ((impl_writer_wide.b0 n (impl_writer_wide.l0 n (k + 2)) (k + 2) 1 xs).bind _) = _
  unfold impl_writer_wide.b0
  rw [if_pos (by decide), show wrap64 (8 * 1) = 8 from wn (by decide) (by decide) (by decide), if_pos (by decide), if_pos (by omega), show wrap64 (1 - 1) = 0 from wn (by decide) (by decide) (by decide)]
  show ((impl_writer_wide.b0 n (impl_writer_wide.l0 n (k + 1)) (k + 1) 0 _).bind _) = _
  unfold impl_writer_wide.b0
  rw [if_pos (by decide), show wrap64 (8 * 0) = 0 from wn (by decide) (by decide) (by decide), if_pos (by decide), if_pos (by rw [List.length_append, List.length_cons, List.length_nil]; omega), show wrap64 (0 - 1) = -1 from wn (by decide) (by decide) (by decide)]
  show ((impl_writer_wide.b0 n (impl_writer_wide.l0 n k) k (-1) _).bind _) = _
  unfold impl_writer_wide.b0
  rw [if_neg (by decide), Option.bind_some, shr8, shr0, List.append_assoc]; rfl
theorem wide_three (k : Nat) (xs : List Int) (n : Int) (hx : xs.length ≤ 100000) (hk : 4 < k) : impl_writer_wide.g k ⟨xs⟩ n 3 = some ⟨xs ++ three n⟩ := by
  obtain ⟨k, rfl⟩ : ∃ m, k = m + 4 := ⟨k - 4, by omega⟩
  unfold impl_writer_wide.g
  rw [show wrap64 (3 - 1) = 2 from wn (by decide) (by decide) (by decide)]
  show ((impl_writer_wide.b0 n (impl_writer_wide.l0 n (k + 3)) (k + 3) 2 xs).bind _) = _
  unfold impl_writer_wide.b0
  rw [if_pos (by decide), show wrap64 (8 * 2) = 16 from wn (by decide) (by decide) (by decide), if_pos (by decide), if_pos (by omega), show wrap64 (2 - 1) = 1 from wn (by decide) (by decide) (by decide)]
  show ((impl_writer_wide.b0 n (impl_writer_wide.l0 n (k + 2)) (k + 2) 1 _).bind _) = _
  unfold impl_writer_wide.b0
  rw [if_pos (by decide), show wrap64 (8 * 1) = 8 from wn (by decide) (by decide) (by decide), if_pos (by decide), if_pos (by rw [List.length_append, List.length_cons, List.length_nil]; omega), show wrap64 (1 - 1) = 0 from wn (by decide) (by decide) (by decide)]
  show ((impl_writer_wide.b0 n (impl_writer_wide.l0 n (k + 1)) (k + 1) 0 _).bind _) = _
  unfold impl_writer_wide.b0
  rw [if_pos (by decide), show wrap64 (8 * 0) = 0 from wn (by decide) (by decide) (by decide), if_pos (by decide), if_pos (by rw [List.length_append, List.length_append, List.length_cons, List.length_nil, List.length_cons, List.length_nil]; omega), show wrap64 (0 - 1) = -1 from wn (by decide) (by decide) (by decide)]
  show ((impl_writer_wide.b0 n (impl_writer_wide.l0 n k) k (-1) _).bind _) = _
  unfold impl_writer_wide.b0
  rw [if_neg (by decide), Option.bind_some, shr16, shr8, shr0, List.append_assoc, List.append_assoc]; rfl
theorem spec_two2 (k : Nat) (n : Int) (h0 : 0 ≤ n) (h1 : n ≤ 9223372036854775807) : spec_l11Two.g k n = some (two n) := by
  unfold spec_l11Two.g two b8
  have e1 : Int.tdiv n 256 = n / 256 := Int.tdiv_eq_ediv_of_nonneg h0
  have e2 : Int.tmod n 256 = n % 256 := Int.tmod_eq_emod_of_nonneg h0
  rw [e1, e2, w64 (by omega) (by omega)]
  have := b8_mod (n % 256)
  have := b8_mod n
  unfold b8 at *
  congr 3
  omega

theorem all_from (lo hi : Int) (l : List Int) (hl : l.length ≤ 9223372036854775806) (d : Nat) : ∀ (k i : Nat), i ≤ l.length → l.length - i = d → d < k →
    (spec_l05All.l0 l lo hi k (i : Int)).bind (fun o => match o with | .inl r_ => some r_ | .inr _ => some true) = some ((l.drop i).all fun x => decide (lo ≤ x) && decide (x ≤ hi)) := by
  induction d with
  | zero =>
    intro k i hi' hd hk
    obtain ⟨k, rfl⟩ : ∃ m, k = m + 1 := ⟨k - 1, by omega⟩
    rw [List.drop_of_length_le (by omega)]
    unfold spec_l05All.l0 spec_l05All.b0; rw [if_neg (by omega)]; rfl
  | succ d ih =>
    intro k i hi' hd hk
    obtain ⟨k, rfl⟩ : ∃ m, k = m + 1 := ⟨k - 1, by omega⟩
    have hlt : i < l.length := by omega
    unfold spec_l05All.l0 spec_l05All.b0
    rw [if_pos (by omega), if_pos (by omega), getD_int l 0 i hlt, List.drop_eq_getElem_cons hlt, List.all_cons]
    unfold spec_l01In.f
    by_cases h1 : l[i] ≥ lo
    · rw [if_pos h1]
      simp only [Option.bind_some]
      by_cases h2 : l[i] ≤ hi
      · rw [decide_eq_true h2, if_pos rfl, w64 (by omega) (by omega), show ((i : Int) + 1) = ((i + 1 : Nat) : Int) by omega, ih k (i + 1) (by omega) (by omega) (by omega)]
        simp [h1]
      · rw [decide_eq_false h2]; simp
    · rw [if_neg h1]; simp only [Option.bind_some]; rw [decide_eq_false h1]; simp
theorem all_tells (lo hi : Int) (l : List Int) (hl : l.length ≤ 9223372036854775806) (k : Nat) (hk : l.length < k) : spec_l05All.g k l lo hi = some (l.all fun x => decide (lo ≤ x) && decide (x ≤ hi)) := by
  unfold spec_l05All.g
  have := all_from lo hi l hl l.length k 0 (by omega) (by omega) hk
  rw [List.drop_zero] at this
  exact this

theorem all_range {α : Type} (P : α → Bool) (z : α) (R : List α) : R.all P = (List.range R.length).all fun p => P (R.getD p z) := by
  rw [Bool.eq_iff_iff, List.all_eq_true, List.all_eq_true]
  constructor
  · intro h p hp
    have := List.mem_range.1 hp
    rw [List.getD_eq_getElem?_getD, List.getElem?_eq_getElem this]; exact h _ (List.getElem_mem _)
  · intro h x hx
    obtain ⟨p, hp, rfl⟩ := List.mem_iff_getElem.1 hx
    have := h p (List.mem_range.2 hp)
    rwa [List.getD_eq_getElem?_getD, List.getElem?_eq_getElem hp] at this
theorem all_drop (P : Nat → Bool) (n i : Nat) (h : i < n) : ((List.range n).drop i).all P = (P i && ((List.range n).drop (i + 1)).all P) := by
  rw [List.drop_eq_getElem_cons (by simpa using h), List.all_cons, List.getElem_range]
theorem all_both (P Q : Nat → Bool) (l : List Nat) : (l.all fun i => P i && Q i) = (l.all P && l.all Q) := by
  rw [Bool.eq_iff_iff, Bool.and_eq_true, List.all_eq_true, List.all_eq_true, List.all_eq_true]
  constructor
  · intro h; exact ⟨fun x hx => (Bool.and_eq_true_iff.1 (h x hx)).1, fun x hx => (Bool.and_eq_true_iff.1 (h x hx)).2⟩
  · intro h x hx; rw [h.1 x hx, h.2 x hx]; rfl
def rowT (n : Int) (l : List Int) : Bool := decide ((l.length : Int) = n) && l.all fun x => decide (-128 ≤ x) && decide (x ≤ 128)
def turnsB (R S : List (List Int)) (a n : Int) : Bool := (decide (4 ≤ a) && decide (a ≤ 24)) && ((decide (1 ≤ n) && decide (n ≤ 4)) && ((decide ((R.length : Int) = a) && R.all (rowT n)) && (decide ((S.length : Int) = a) && S.all (rowT n))))
theorem impl_turns (R S : List (List Int)) (a n : Int) {k : Nat} : impl_TurnsOk.g k ⟨R, S⟩ a n = some (turnsB R S a n) := by
  unfold impl_TurnsOk.g impl_in.f turnsB
  dsimp only
  by_cases h1 : 4 ≤ a
  · rw [if_pos h1, Option.bind_some, decide_eq_true h1]
    by_cases h2 : a ≤ 24
    · rw [decide_eq_true h2, if_pos rfl]
      by_cases h3 : 1 ≤ n
      · rw [if_pos h3, Option.bind_some, decide_eq_true h3]
        by_cases h4 : n ≤ 4
        · rw [decide_eq_true h4, if_pos rfl]
          have e : ∀ T : List (List Int), impl_turnLists.f T a n = some (decide ((T.length : Int) = a) && T.all (rowT n)) := fun T => rfl
          rw [e R, e S, Option.bind_some]
          cases decide ((R.length : Int) = a) && R.all (rowT n) with
          | false => rfl
          | true => rw [if_pos rfl, Option.bind_some]; rfl
        · rw [decide_eq_false h4, if_neg (by simp)]; rfl
      · rw [if_neg h3, Option.bind_some, if_neg (by simp), decide_eq_false h3]; rfl
    · rw [decide_eq_false h2, if_neg (by simp)]; rfl
  · rw [if_neg h1, Option.bind_some, if_neg (by simp), decide_eq_false h1]; rfl
theorem spec_turns_from (R S : List (List Int)) (a : Nat) (n : Int) (hR : R.length = a) (hS : S.length = a) (ha : a ≤ 24) (hn : 1 ≤ n ∧ n ≤ 4) (d : Nat) : ∀ (k i : Nat), i + d = a → d + 10 < k →
    (spec_TurnsOk.l0 ⟨R, S⟩ (a : Int) n k (i : Int)).bind (fun o => match o with | .inl r_ => some r_ | .inr _ => some true) = some (((List.range a).drop i).all fun p => rowT n (R.getD p []) && rowT n (S.getD p [])) := by
  induction d with
  | zero =>
    intro k i hi hk
    obtain ⟨k, rfl⟩ : ∃ m, k = m + 1 := ⟨k - 1, by omega⟩
    unfold spec_TurnsOk.l0 spec_TurnsOk.b0
    dsimp only
    rw [if_neg (by omega), List.drop_of_length_le (by simp; omega)]; rfl
  | succ d ih =>
    intro k i hi hk
    obtain ⟨k, rfl⟩ : ∃ m, k = m + 1 := ⟨k - 1, by omega⟩
    unfold spec_TurnsOk.l0 spec_TurnsOk.b0
    dsimp only
    rw [if_pos (by omega), if_pos (by omega), all_drop _ _ i (by omega), Int.toNat_natCast]
    unfold rowT
    by_cases h1 : ((R.getD i []).length : Int) = n
    · rw [if_pos h1, if_pos (by omega), decide_eq_true h1, Bool.true_and]
      by_cases h2 : ((S.getD i []).length : Int) = n
      · rw [if_pos h2, decide_eq_true h2, Bool.true_and, all_tells _ _ _ (by omega) k (by omega), all_tells _ _ _ (by omega) k (by omega), Option.bind_some]
        cases (R.getD i []).all fun x => decide (-128 ≤ x) && decide (x ≤ 128) with
        | false => rfl
        | true =>
          rw [if_pos rfl, Option.bind_some]
          cases (S.getD i []).all fun x => decide (-128 ≤ x) && decide (x ≤ 128) with
          | false => rfl
          | true => rw [if_pos rfl, w64 (by omega) (by omega), show ((i : Int) + 1) = ((i + 1 : Nat) : Int) by omega, ih k (i + 1) (by omega) (by omega)]; rfl
      · rw [if_neg h2, decide_eq_false h2]; simp
    · rw [if_neg h1, decide_eq_false h1]; rfl
theorem spec_turns (R S : List (List Int)) (a n : Int) (k : Nat) (hk : 100 < k) : spec_TurnsOk.g k ⟨R, S⟩ a n = some (turnsB R S a n) := by
  unfold spec_TurnsOk.g spec_l01In.f turnsB
  dsimp only
  by_cases h1 : 4 ≤ a
  · rw [if_pos h1, Option.bind_some, decide_eq_true h1]
    by_cases h2 : a ≤ 24
    · rw [decide_eq_true h2, if_pos rfl]
      by_cases h3 : 1 ≤ n
      · rw [if_pos h3, Option.bind_some, decide_eq_true h3]
        by_cases h4 : n ≤ 4
        · rw [decide_eq_true h4, if_pos rfl]
          by_cases h5 : (R.length : Int) = a
          · rw [if_pos h5, decide_eq_true h5]
            by_cases h6 : (S.length : Int) = a
            · rw [if_pos h6, decide_eq_true h6]
              have g := spec_turns_from R S R.length n rfl (by omega) (by omega) ⟨h3, h4⟩ R.length k 0 (by omega) (by omega)
              rw [← h5]
              refine g.trans ?_
              have hl : S.length = R.length := by omega
              rw [List.drop_zero, all_both, all_range (rowT n) [] R, all_range (rowT n) [] S, hl]
              simp
            · rw [if_neg h6, decide_eq_false h6]; simp
          · rw [if_neg h5, decide_eq_false h5]; simp
        · rw [decide_eq_false h4, if_neg (by simp)]; simp
      · rw [if_neg h3, Option.bind_some, if_neg (by simp), decide_eq_false h3]; simp
    · rw [decide_eq_false h2, if_neg (by simp)]; simp
  · rw [if_neg h1, Option.bind_some, if_neg (by simp), decide_eq_false h1]; simp

def widthB (n : Int) : Bool := decide (n = 4) || decide (n = 8)
theorem tmod4 (n : Int) (h0 : 4 ≤ n) (h1 : n ≤ 8) : (Int.tmod n 4 == 0) = widthB n := by
  have : n = 4 ∨ n = 5 ∨ n = 6 ∨ n = 7 ∨ n = 8 := by omega
  rcases this with rfl | rfl | rfl | rfl | rfl <;> rfl
theorem width_facts (n : Int) (h : widthB n = true) : n = 4 ∨ n = 8 := by
  unfold widthB at h; simpa using h
theorem width_no (n : Int) (h : ¬ (4 ≤ n ∧ n ≤ 8)) : widthB n = false := by
  unfold widthB; rw [decide_eq_false (by omega), decide_eq_false (by omega)]; rfl
def rowB (r s : List Int) : Bool := widthB (r.length : Int) && (r.all fun z => decide (-8 ≤ z) && decide (z ≤ 7)) && decide ((s.length : Int) = (r.length : Int) / 4) && s.all fun z => decide (1 ≤ z) && decide (z ≤ 127)
theorem row_facts (r s : List Int) (h : rowB r s = true) : (r.length = 4 ∨ r.length = 8) ∧ (∀ z ∈ r, -8 ≤ z ∧ z ≤ 7) ∧ s.length = r.length / 4 ∧ ∀ z ∈ s, 1 ≤ z ∧ z ≤ 127 := by
  unfold rowB at h
  simp only [Bool.and_eq_true, List.all_eq_true, decide_eq_true_eq] at h
  have := width_facts _ h.1.1.1
  exact ⟨by omega, h.1.1.2, by omega, h.2⟩
theorem rd_mem (l : List Int) (i : Nat) (h : i < l.length) : rd l (i : Int) ∈ l := by rw [rd_get l i h]; exact List.getElem_mem h
theorem tdiv4 (i : Nat) : Int.tdiv (i : Int) 4 = ((i / 4 : Nat) : Int) := by
  rw [Int.tdiv_eq_ediv_of_nonneg (by omega)]; omega

def atM (l : List S112) (i : Nat) : S112 := l.getD i ⟨0, 0⟩
def sameM (a b : S112) : Bool := a.f0 == b.f0 && a.f1 == b.f1
def sz1 (s : List Int) (x : Int) : Int := if x < 256 then 1 else rd s (x - 256)
def szs (l : List S112) : Nat → List Int
  | 0 => []
  | i + 1 => szs l i ++ [sz1 (szs l i) (atM l i).f0 + sz1 (szs l i) (atM l i).f1]
def szN (l : List S112) (i : Nat) : Int := sz1 (szs l i) (atM l i).f0 + sz1 (szs l i) (atM l i).f1
def tokB (i : Nat) (x : Int) : Bool := decide (0 ≤ x) && decide (x ≤ 255 + (i : Int))
def toksB (l : List S112) (i : Nat) : Bool := tokB i (atM l i).f0 && tokB i (atM l i).f1
def freshB (l : List S112) (i : Nat) : Bool := (List.range i).all fun j => !sameM (atM l j) (atM l i)
def sizB (l : List S112) (i : Nat) : Bool := toksB l i && decide (szN l i ≤ 64)
theorem szs_len (l : List S112) : ∀ i, (szs l i).length = i
  | 0 => rfl
  | i + 1 => by rw [szs, List.length_append, szs_len l i]; rfl
def lowS (s : List Int) : Prop := ∀ z ∈ s, 0 ≤ z ∧ z ≤ 64
theorem sz1_bd (s : List Int) (x : Int) (i : Nat) (hs : lowS s) (hl : s.length = i) (h : tokB i x = true) : 0 ≤ sz1 s x ∧ sz1 s x ≤ 64 ∧ (¬ x < 256 → 0 ≤ x - 256 ∧ x - 256 < (s.length : Int)) ∧ 0 ≤ x ∧ x ≤ 255 + (i : Int) := by
  unfold tokB at h
  simp only [Bool.and_eq_true, decide_eq_true_eq] at h
  unfold sz1
  by_cases c : x < 256
  · rw [if_pos c]; exact ⟨by omega, by omega, fun h => (h c).elim, h.1, h.2⟩
  · rw [if_neg c]
    have g : rd s (x - 256) ∈ s := by
      have := rd_mem s (x - 256).toNat (by omega)
      rwa [show (((x - 256).toNat : Nat) : Int) = x - 256 by omega] at this
    have := hs _ g
    exact ⟨this.1, this.2, fun _ => ⟨by omega, by omega⟩, h.1, h.2⟩
theorem low_snoc (s : List Int) (x : Int) (h : lowS s) (h0 : 0 ≤ x) (h1 : x ≤ 64) : lowS (s ++ [x]) := fun z hz => by
  rcases List.mem_append.1 hz with g | g
  · exact h z g
  · rw [List.mem_singleton.1 g]; exact ⟨h0, h1⟩
theorem spec_in (x lo hi : Int) : spec_l01In.f x lo hi = some (decide (lo ≤ x) && decide (x ≤ hi)) := by
  unfold spec_l01In.f
  by_cases c : x ≥ lo
  · rw [if_pos c, decide_eq_true (show lo ≤ x from c)]; rfl
  · rw [if_neg c, decide_eq_false (show ¬ lo ≤ x from c)]; rfl
theorem impl_inB (x lo hi : Int) : impl_in.f x lo hi = some (decide (lo ≤ x) && decide (x ≤ hi)) := by
  unfold impl_in.f
  by_cases c : x ≥ lo
  · rw [if_pos c, decide_eq_true (show lo ≤ x from c)]; rfl
  · rw [if_neg c, decide_eq_false (show ¬ lo ≤ x from c)]; rfl
theorem szN_bd (l : List S112) (i : Nat) (hs : lowS (szs l i)) (ht : toksB l i = true) : 0 ≤ szN l i ∧ szN l i ≤ 128 := by
  unfold toksB at ht
  rw [Bool.and_eq_true] at ht
  obtain ⟨a0, a1, _⟩ := sz1_bd (szs l i) _ i hs (szs_len l i) ht.1
  obtain ⟨b0, b1, _⟩ := sz1_bd (szs l i) _ i hs (szs_len l i) ht.2
  unfold szN; omega
def mergesB (l : List S112) : Bool := decide (l.length ≤ 16) && ((List.range l.length).all fun i => freshB l i && sizB l i)
theorem impl_token (x : Int) (i : Nat) (hi : i ≤ 16) : impl_isToken.f x (i : Int) = some (tokB i x) := by
  unfold impl_isToken.f
  rw [impl_inB, Option.bind_some, w64 (by omega) (by omega)]; rfl
theorem impl_one (s : List Int) (x : Int) (i : Nat) (hs : lowS s) (hl : s.length = i) (hi : i ≤ 16) (h : tokB i x = true) (k : Nat) : impl_sizesOf_1.g k x s = some (sz1 s x) := by
  obtain ⟨a0, a1, a2, a3, a4⟩ := sz1_bd s x i hs hl h
  unfold impl_sizesOf_1.g sz1
  by_cases c : x < 256
  · rw [if_pos c, if_pos c]
  · have := a2 c
    rw [if_neg c, if_neg c, w64 (by omega) (by omega), if_pos this]; rfl
theorem impl_sizes_from (l : List S112) (hl : l.length ≤ 16) (d : Nat) : ∀ (k i : Nat), i + d = l.length → lowS (szs l i) → d + 30 < k →
    ∃ r : List Int × Bool, (impl_sizesOf.l0 l k (i : Int) (szs l i)).bind (fun o => match o with | .inl r_ => some r_ | .inr ⟨_, xs⟩ => some (xs, true)) = some r ∧ r.2 = ((List.range l.length).drop i).all (sizB l) := by
  induction d with
  | zero =>
    intro k i hi hs hk
    obtain ⟨k, rfl⟩ : ∃ m, k = m + 1 := ⟨k - 1, by omega⟩
    unfold impl_sizesOf.l0 impl_sizesOf.b0
    rw [if_neg (by omega), List.drop_of_length_le (by simp; omega)]
    exact ⟨_, rfl, rfl⟩
  | succ d ih =>
    intro k i hi hs hk
    obtain ⟨k, rfl⟩ : ∃ m, k = m + 1 := ⟨k - 1, by omega⟩
    unfold impl_sizesOf.l0 impl_sizesOf.b0
    rw [if_pos (by omega), if_pos (by omega), Int.toNat_natCast, all_drop _ _ i (by omega)]
    show ∃ r, ((impl_isToken.f (atM l i).f0 (i : Int)).bind fun t45 => if t45 = true then (impl_isToken.f (atM l i).f1 (i : Int)).bind _ else _).bind _ = some r ∧ _
    rw [impl_token _ i (by omega), Option.bind_some]
    unfold sizB toksB
    cases h1 : tokB i (atM l i).f0 with
    | false => rw [if_neg (by simp)]; exact ⟨_, rfl, rfl⟩
    | true =>
      rw [if_pos rfl, impl_token _ i (by omega), Option.bind_some]
      cases h2 : tokB i (atM l i).f1 with
      | false => rw [if_neg (by simp)]; exact ⟨_, rfl, rfl⟩
      | true =>
        have ht : toksB l i = true := by unfold toksB; rw [h1, h2]; rfl
        have hb := szN_bd l i hs ht
        have hsl := szs_len l i
        rw [if_pos rfl]
        show ∃ r, ((impl_sizesOf_1.g k (atM l i).f0 (szs l i)).bind fun t57 => (impl_sizesOf_1.g k (atM l i).f1 (szs l i)).bind _).bind _ = some r ∧ _
        rw [impl_one _ _ i hs hsl (by omega) h1, Option.bind_some, impl_one _ _ i hs hsl (by omega) h2, Option.bind_some]
        show ∃ r, (if wrap64 (szN l i) > 64 then _ else if (szs l i).length < 4294967296 then impl_sizesOf.l0 l k (wrap64 ((i : Int) + 1)) (szs l i ++ [wrap64 (szN l i)]) else _).bind _ = some r ∧ _
        rw [w64 (i := szN l i) (by omega) (by omega)]
        by_cases c : szN l i > 64
        · rw [if_pos c, decide_eq_false (by omega)]; exact ⟨_, rfl, by simp⟩
        · rw [if_neg c, if_pos (by omega), decide_eq_true (by omega), w64 (by omega) (by omega), show ((i : Int) + 1) = ((i + 1 : Nat) : Int) by omega]
          obtain ⟨r, e1, e2⟩ := ih k (i + 1) (by omega) (low_snoc _ _ hs hb.1 (Int.not_lt.mp c)) (by omega)
          exact ⟨r, e1, by rw [e2]; rfl⟩
theorem spec_fresh {β : Type} (l : List S112) (i : Nat) (rest : Option (Bool ⊕ β)) (hi : i < l.length) (hl : l.length ≤ 16) (d : Nat) : ∀ (k j : Nat), j + d = i → d < k →
    (spec_MergesOk.l1 l (i : Int) k (j : Int)).bind (fun o => match o with | .inl r_ => some (Sum.inl r_) | .inr _ => rest) = if (((List.range i).drop j).all fun j => !sameM (atM l j) (atM l i)) = true then rest else some (Sum.inl false) := by
  induction d with
  | zero =>
    intro k j hj hk
    obtain ⟨k, rfl⟩ : ∃ m, k = m + 1 := ⟨k - 1, by omega⟩
    unfold spec_MergesOk.l1 spec_MergesOk.b1
    rw [if_neg (by omega), List.drop_of_length_le (by simp; omega)]; rfl
  | succ d ih =>
    intro k j hj hk
    obtain ⟨k, rfl⟩ : ∃ m, k = m + 1 := ⟨k - 1, by omega⟩
    unfold spec_MergesOk.l1 spec_MergesOk.b1
    rw [if_pos (by omega), if_pos (by omega), all_drop _ _ j (by omega), Int.toNat_natCast, Int.toNat_natCast]
    show (if sameM (atM l j) (atM l i) = true then some (Sum.inl false) else _ : Option (Bool ⊕ Int)).bind _ = _
    cases sameM (atM l j) (atM l i) with
    | true => rfl
    | false => rw [if_neg (by simp), Bool.not_false, Bool.true_and, w64 (by omega) (by omega), show ((j : Int) + 1) = ((j + 1 : Nat) : Int) by omega, ih k (j + 1) (by omega) (by omega)]
theorem spec_two (l : List S112) (i : Nat) (hi : i < l.length) (hl : l.length ≤ 16) (hs : lowS (szs l i)) (ht : toksB l i = true) (k : Nat) : spec_MergesOk.l2 l (szs l i) (i : Int) (k + 3) 0 0 = some (szN l i, 2) := by
  unfold toksB at ht
  rw [Bool.and_eq_true] at ht
  have hsl := szs_len l i
  have w1 : wrap64 (0 + 1) = 1 := w64 (by omega) (by omega)
  have w2 : wrap64 (1 + 1) = 2 := w64 (by omega) (by omega)
  obtain ⟨a0, a1, a2, a3, a4⟩ := sz1_bd (szs l i) _ i hs hsl ht.1
  obtain ⟨b0, b1, b2, b3, b4⟩ := sz1_bd (szs l i) _ i hs hsl ht.2
  have step : ∀ (k : Nat) (q j x : Int), 0 ≤ q → q ≤ 64 → (j = 0 ∧ x = (atM l i).f0 ∨ j = 1 ∧ x = (atM l i).f1) → 0 ≤ sz1 (szs l i) x → sz1 (szs l i) x ≤ 64 → (¬ x < 256 → 0 ≤ x - 256 ∧ x - 256 < ((szs l i).length : Int)) → 0 ≤ x → x ≤ 255 + (i : Int) →
      spec_MergesOk.l2 l (szs l i) (i : Int) (k + 1) q j = spec_MergesOk.l2 l (szs l i) (i : Int) k (q + sz1 (szs l i) x) (j + 1) := by
    intro k q j x q0 q1 hx c0 c1 c2 c3 c4
    have e : (if j = 1 then some (l.getD (i : Int).toNat o112).f1 else some (l.getD (i : Int).toNat o112).f0) = some x := by
      rw [Int.toNat_natCast]
      rcases hx with ⟨rfl, rfl⟩ | ⟨rfl, rfl⟩ <;> rfl
    show spec_MergesOk.b2 l (szs l i) (i : Int) (spec_MergesOk.l2 l (szs l i) (i : Int) k) k q j = _
    unfold spec_MergesOk.b2
    rw [if_pos (by rcases hx with h | h <;> omega), e, Option.bind_some]
    unfold sz1 at c0 c1 ⊢
    by_cases c : x < 256
    · rw [if_pos c, if_pos c, Option.bind_some, w64 (i := q + 1) (by omega) (by omega), w64 (i := j + 1) (by rcases hx with h | h <;> omega) (by rcases hx with h | h <;> omega)]
    · rw [if_neg c] at c0 c1
      have := c2 c
      rw [if_neg c, if_neg c, w64 (i := x - 256) (by omega) (by omega), if_pos (by omega)]
      show (some (wrap64 (q + rd (szs l i) (x - 256)))).bind _ = _
      rw [Option.bind_some, w64 (i := q + rd (szs l i) (x - 256)) (by omega) (by omega), w64 (i := j + 1) (by rcases hx with h | h <;> omega) (by rcases hx with h | h <;> omega)]
  rw [step (k + 2) 0 0 (atM l i).f0 (by omega) (by omega) (.inl ⟨rfl, rfl⟩) a0 a1 a2 a3 a4, Int.zero_add, Int.zero_add, step (k + 1) _ 1 (atM l i).f1 a0 a1 (.inr ⟨rfl, rfl⟩) b0 b1 b2 b3 b4]
  show spec_MergesOk.b2 l (szs l i) (i : Int) (spec_MergesOk.l2 l (szs l i) (i : Int) k) k _ _ = _
  unfold spec_MergesOk.b2
  rw [if_neg (by omega)]; rfl
theorem spec_merges_from (l : List S112) (hl : l.length ≤ 16) (d : Nat) : ∀ (k i : Nat), i + d = l.length → lowS (szs l i) → 60 * d + 60 < k →
    (spec_MergesOk.l0 l k (szs l i) (i : Int)).bind (fun o => match o with | .inl r_ => some r_ | .inr ⟨_, _⟩ => some true) = some (((List.range l.length).drop i).all fun i => freshB l i && sizB l i) := by
  induction d with
  | zero =>
    intro k i hi hs hk
    obtain ⟨k, rfl⟩ : ∃ m, k = m + 1 := ⟨k - 1, by omega⟩
    unfold spec_MergesOk.l0 spec_MergesOk.b0
    rw [if_neg (by omega), List.drop_of_length_le (by simp; omega)]; rfl
  | succ d ih =>
    intro k i hi hs hk
    obtain ⟨k, rfl⟩ : ∃ m, k = m + 10 := ⟨k - 10, by omega⟩
    show (spec_MergesOk.b0 l (spec_MergesOk.l0 l (k + 9)) (k + 9) (szs l i) (i : Int)).bind _ = _
    unfold spec_MergesOk.b0
    rw [if_pos (by omega), if_pos (by omega), spec_in, spec_in, all_drop _ _ i (by omega), Int.toNat_natCast, Option.bind_some, w64 (i := 255 + (i : Int)) (by omega) (by omega)]
    unfold sizB toksB
    show (if tokB i (atM l i).f0 = true then (some (tokB i (atM l i).f1)).bind _ else _).bind _ = _
    cases h1 : tokB i (atM l i).f0 with
    | false => rw [if_neg (by simp)]; simp
    | true =>
      rw [if_pos rfl, Option.bind_some]
      cases h2 : tokB i (atM l i).f1 with
      | false => rw [if_neg (by simp)]; simp
      | true =>
        have ht : toksB l i = true := by unfold toksB; rw [h1, h2]; rfl
        have hb := szN_bd l i hs ht
        have hsl := szs_len l i
        have := fun rest => spec_fresh (β := List Int × Int) l i rest (by omega) hl i (k + 9) 0 (by omega) (by omega)
        rw [if_pos rfl, show k + 9 = (k + 6) + 3 by omega, spec_two l i (by omega) hl hs ht (k + 6), Option.bind_some]
        rw [show ((0 : Nat) : Int) = 0 from rfl, List.drop_zero] at this
        show ((spec_MergesOk.l1 l (i : Int) (k + 9) 0).bind _).bind _ = _
        refine (congrArg (fun o : Option (Bool ⊕ (List Int × Int)) => o.bind (fun o => match o with | .inl r_ => some r_ | .inr ⟨_, _⟩ => some true)) (this (if szN l i > 64 then some (Sum.inl false) else if (szs l i).length < 4294967296 then spec_MergesOk.l0 l (k + 9) (szs l i ++ [szN l i]) (wrap64 ((i : Int) + 1)) else none))).trans ?_
        unfold freshB
        cases (List.range i).all fun j => !sameM (atM l j) (atM l i) with
        | false => rfl
        | true =>
          rw [if_pos rfl]
          by_cases c : szN l i > 64
          · rw [if_pos c, decide_eq_false (by omega)]; rfl
          · rw [if_neg c, decide_eq_true (by omega), if_pos (by omega), w64 (by omega) (by omega), show ((i : Int) + 1) = ((i + 1 : Nat) : Int) by omega]
            have e := ih (k + 9) (i + 1) (by omega) (low_snoc _ _ hs hb.1 (Int.not_lt.mp c)) (by omega)
            rw [show szs l (i + 1) = szs l i ++ [szN l i] from rfl] at e
            rw [e]; rfl
theorem spec_merges (l : List S112) (k : Nat) (hk : 2000 < k) : spec_MergesOk.g k l = some (mergesB l) := by
  unfold spec_MergesOk.g mergesB
  by_cases c : (l.length : Int) > 16
  · rw [if_pos c, decide_eq_false (by omega)]; rfl
  · rw [if_neg c, decide_eq_true (by omega), Bool.true_and]
    have := spec_merges_from l (by omega) l.length k 0 (by omega) (fun z hz => by cases hz) (by omega)
    rw [List.drop_zero] at this
    exact this
theorem impl_index_from (l : List S112) (m : S112) (hl : l.length ≤ 16) (d : Nat) : ∀ (k j : Nat), j + d = l.length → d < k →
    ∃ r : Int, (slices_Index_impl_Merge_impl_Merge.l0 l m k (j : Int)).bind (fun o => match o with | .inl r_ => some r_ | .inr _ => some (-1)) = some r ∧ decide (r ≥ 0) = !(((List.range l.length).drop j).all fun j => !sameM (atM l j) m) := by
  induction d with
  | zero =>
    intro k j hj hk
    obtain ⟨k, rfl⟩ : ∃ m, k = m + 1 := ⟨k - 1, by omega⟩
    unfold slices_Index_impl_Merge_impl_Merge.l0 slices_Index_impl_Merge_impl_Merge.b0
    rw [if_neg (by omega), List.drop_of_length_le (by simp; omega)]
    exact ⟨_, rfl, rfl⟩
  | succ d ih =>
    intro k j hj hk
    obtain ⟨k, rfl⟩ : ∃ m, k = m + 1 := ⟨k - 1, by omega⟩
    unfold slices_Index_impl_Merge_impl_Merge.l0 slices_Index_impl_Merge_impl_Merge.b0
    rw [if_pos (by omega), if_pos (by omega), all_drop _ _ j (by omega), Int.toNat_natCast]
    have e : (m.f0 == (atM l j).f0 && (m.f1 == (atM l j).f1)) = sameM (atM l j) m := by unfold sameM; rw [show (m.f0 == (atM l j).f0) = ((atM l j).f0 == m.f0) from BEq.comm, show (m.f1 == (atM l j).f1) = ((atM l j).f1 == m.f1) from BEq.comm]
    show ∃ r, (if (m.f0 == (atM l j).f0 && (m.f1 == (atM l j).f1)) = true then _ else _ : Option (Int ⊕ Int)).bind _ = some r ∧ _
    rw [e]
    cases sameM (atM l j) m with
    | true => rw [if_pos rfl]; exact ⟨_, rfl, by rw [decide_eq_true (by omega)]; rfl⟩
    | false =>
      rw [if_neg (by simp), w64 (by omega) (by omega), show ((j : Int) + 1) = ((j + 1 : Nat) : Int) by omega]
      exact ih k (j + 1) (by omega) (by omega)
theorem impl_contains (l : List S112) (i : Nat) (hi : i < l.length) (hl : l.length ≤ 16) (k : Nat) (hk : 20 < k) : slices_Contains_impl_Merge_impl_Merge.g k (l.take i) ⟨(atM l i).f0, (atM l i).f1⟩ = some (!freshB l i) := by
  have e : (l.take i).length = i := by rw [List.length_take]; omega
  obtain ⟨r, h1, h2⟩ := impl_index_from (l.take i) (atM l i) (by omega) i k 0 (by omega) (by omega)
  unfold slices_Contains_impl_Merge_impl_Merge.g
  have h3 : slices_Index_impl_Merge_impl_Merge.g k (l.take i) (atM l i) = some r := h1
  show ((slices_Index_impl_Merge_impl_Merge.g k (l.take i) (atM l i)).bind _) = _
  rw [h3, Option.bind_some]
  show some (decide (r ≥ 0)) = _
  rw [h2, List.drop_zero, e]
  unfold freshB
  congr 2
  rw [Bool.eq_iff_iff, List.all_eq_true, List.all_eq_true]
  have g : ∀ j, j ∈ List.range i → atM (l.take i) j = atM l j := fun j hj => by
    have := List.mem_range.1 hj
    unfold atM; rw [List.getD_eq_getElem?_getD, List.getD_eq_getElem?_getD, List.getElem?_take_of_lt this]
  exact ⟨fun h j hj => by rw [← g j hj]; exact h j hj, fun h j hj => by rw [g j hj]; exact h j hj⟩
theorem impl_fresh_from (l : List S112) (hl : l.length ≤ 16) (rest : Option Bool) (c : Bool) (hc : rest = some c) (d : Nat) : ∀ (k i : Nat), i + d = l.length → d + 30 < k →
    (impl_MergesOk.l0 l k (i : Int)).bind (fun o => match o with | .inl r_ => some r_ | .inr _ => rest) = some (((List.range l.length).drop i).all (freshB l) && c) := by
  induction d with
  | zero =>
    intro k i hi hk
    obtain ⟨k, rfl⟩ : ∃ m, k = m + 1 := ⟨k - 1, by omega⟩
    unfold impl_MergesOk.l0 impl_MergesOk.b0
    rw [if_neg (by omega), List.drop_of_length_le (by simp; omega), hc]; rfl
  | succ d ih =>
    intro k i hi hk
    obtain ⟨k, rfl⟩ : ∃ m, k = m + 1 := ⟨k - 1, by omega⟩
    unfold impl_MergesOk.l0 impl_MergesOk.b0
    rw [if_pos (by omega), if_pos (by omega), if_pos (by omega), Int.toNat_natCast, all_drop _ _ i (by omega)]
    show ((slices_Contains_impl_Merge_impl_Merge.g k (l.take i) ⟨(atM l i).f0, (atM l i).f1⟩).bind _).bind _ = _
    rw [impl_contains l i (by omega) hl k (by omega), Option.bind_some]
    cases freshB l i with
    | false => rfl
    | true => rw [if_neg (by simp), w64 (by omega) (by omega), show ((i : Int) + 1) = ((i + 1 : Nat) : Int) by omega, ih k (i + 1) (by omega) (by omega)]; rfl
theorem impl_merges (l : List S112) (k : Nat) (hk : 100 < k) : impl_MergesOk.g k l = some (mergesB l) := by
  unfold impl_MergesOk.g mergesB
  by_cases c : (l.length : Int) > 16
  · rw [if_pos c, decide_eq_false (by omega)]; rfl
  · rw [if_neg c, decide_eq_true (by omega), Bool.true_and, all_both]
    obtain ⟨r, e1, e2⟩ := impl_sizes_from l (by omega) l.length k 0 (by omega) (fun z hz => by cases hz) (by omega)
    rw [List.drop_zero] at e2
    have g := impl_fresh_from l (by omega) ((impl_sizesOf.g k l).bind fun t => some t.2) r.2 (by
      have e3 : impl_sizesOf.g k l = some r := e1
      rw [e3, Option.bind_some]) l.length k 0 (by omega) (by omega)
    rw [List.drop_zero, e2] at g
    exact g

section
variable {α ρ : Type} (l : List α) (B : α → Bool)
/-- slices.IndexFunc and ContainsFunc of what is not so. -/
theorem loopAny (z : α) (L : Nat → Int → Option (Int ⊕ Int)) (E : Nat → α → Option Bool) (c : Nat)
    (hL : ∀ k i, L (k + 1) i = if i < (l.length : Int) then (if 0 ≤ i ∧ i < (l.length : Int) then ((E k (l.getD i.toNat z)).bind fun t => if t = true then some (.inl i) else L k (wrap64 (i + 1))) else none) else some (.inr i))
    (hE : ∀ k, c < k → ∀ x ∈ l, E k x = some (!B x)) (hl : l.length ≤ 4611686018427387904) (d : Nat) : ∀ (k i : Nat), i + d = l.length → d + c < k →
    ∃ r : Int, (L k (i : Int)).bind (fun o => match o with | .inl r_ => some r_ | .inr _ => some (-1)) = some r ∧ decide (r ≥ 0) = !((l.drop i).all B) := by
  induction d with
  | zero =>
    intro k i hi hk
    obtain ⟨k, rfl⟩ : ∃ m, k = m + 1 := ⟨k - 1, by omega⟩
    rw [hL, if_neg (by omega), List.drop_of_length_le (by omega)]
    exact ⟨_, rfl, rfl⟩
  | succ d ih =>
    intro k i hi hk
    obtain ⟨k, rfl⟩ : ∃ m, k = m + 1 := ⟨k - 1, by omega⟩
    have hlt : i < l.length := by omega
    rw [hL, if_pos (by omega), if_pos (by omega), getD_int l z i hlt, hE k (by omega) _ (List.getElem_mem hlt), Option.bind_some, List.drop_eq_getElem_cons hlt, List.all_cons]
    cases hb : B l[i] with
    | false => exact ⟨(i : Int), rfl, by rw [decide_eq_true (by omega)]; rfl⟩
    | true =>
      obtain ⟨r, e, g⟩ := ih k (i + 1) (by omega) (by omega)
      refine ⟨r, ?_, by rw [g]; rfl⟩
      rw [if_neg (by simp), w64 (by omega) (by omega), show ((i : Int) + 1) = ((i + 1 : Nat) : Int) by omega]
      exact e
theorem loopAny0 (z : α) (L : Nat → Int → Option (Int ⊕ Int)) (E : Nat → α → Option Bool) (c : Nat)
    (hL : ∀ k i, L (k + 1) i = if i < (l.length : Int) then (if 0 ≤ i ∧ i < (l.length : Int) then ((E k (l.getD i.toNat z)).bind fun t => if t = true then some (.inl i) else L k (wrap64 (i + 1))) else none) else some (.inr i))
    (hE : ∀ k, c < k → ∀ x ∈ l, E k x = some (!B x)) (hl : l.length ≤ 4611686018427387904) (k : Nat) (hk : l.length + c < k) :
    (((L k 0).bind (fun o => match o with | .inl r_ => some r_ | .inr _ => some (-1))).bind fun t => some (decide (t ≥ 0))) = some (!(l.all B)) := by
  obtain ⟨r, e, g⟩ := loopAny l B z L E c hL hE hl l.length k 0 (by omega) hk
  rw [List.drop_zero] at g
  rw [show (0 : Int) = ((0 : Nat) : Int) from rfl, e, Option.bind_some]
  exact congrArg some g
end

theorem spec_width (n : Int) : spec_l05Width.f n = some (widthB n) := by
  unfold spec_l05Width.f spec_l01In.f
  by_cases h1 : n ≥ 4
  · rw [if_pos h1, Option.bind_some]
    by_cases h2 : n ≤ 8
    · rw [decide_eq_true h2, if_pos rfl, tmod4 n h1 h2]
    · rw [decide_eq_false h2, if_neg (by simp), width_no n (by omega)]
  · rw [if_neg h1, Option.bind_some, if_neg (by simp), width_no n (by omega)]
theorem spec_row (r s : List Int) (hr : r.length ≤ 9223372036854775806) (hs : s.length ≤ 9223372036854775806) (k : Nat) (hk : r.length + s.length < k) : spec_l05Fits.g k r s = some (rowB r s) := by
  unfold spec_l05Fits.g rowB
  rw [spec_width, Option.bind_some, Int.tdiv_eq_ediv_of_nonneg (by omega), w64 (i := (r.length : Int) / 4) (by omega) (by omega), all_tells _ _ r hr k (by omega), all_tells _ _ s hs k (by omega)]
  cases h1 : widthB (r.length : Int) with
  | false => rfl
  | true =>
    rw [if_pos rfl, Option.bind_some]
    cases h2 : r.all fun z => decide (-8 ≤ z) && decide (z ≤ 7) with
    | false => simp
    | true =>
      rw [if_pos rfl]
      by_cases h3 : (s.length : Int) = (r.length : Int) / 4
      · rw [if_pos h3, Option.bind_some, decide_eq_true h3]; rfl
      · rw [if_neg h3, decide_eq_false h3]; rfl

theorem impl_width (n : Int) : impl_isWidth.f n = some (widthB n) := by
  unfold impl_isWidth.f impl_in.f
  by_cases h1 : n ≥ 4
  · rw [if_pos h1, Option.bind_some]
    by_cases h2 : n ≤ 8
    · rw [decide_eq_true h2, if_pos rfl, tmod4 n h1 h2]
    · rw [decide_eq_false h2, if_neg (by simp), width_no n (by omega)]
  · rw [if_neg h1, Option.bind_some, if_neg (by simp), width_no n (by omega)]
theorem impl_row (r s : List Int) (hr : r.length ≤ 9223372036854775807) {k : Nat} : impl_rowOk.g k r s = some (rowB r s) := by
  unfold impl_rowOk.g impl_allIn.f rowB
  rw [impl_width, Option.bind_some, Int.tdiv_eq_ediv_of_nonneg (by omega), w64 (i := (r.length : Int) / 4) (by omega) (by omega)]
  cases h1 : widthB (r.length : Int) with
  | false => rfl
  | true =>
    rw [if_pos rfl, Option.bind_some]
    cases h2 : r.all fun z => decide (-8 ≤ z) && decide (z ≤ 7) with
    | false => simp
    | true =>
      rw [if_pos rfl]
      by_cases h3 : (s.length : Int) = (r.length : Int) / 4
      · rw [if_pos h3, Option.bind_some, decide_eq_true h3]; rfl
      · rw [if_neg h3, decide_eq_false h3]; rfl

def matB (w : Int) (R S : List (List Int)) (m h : Int) : Bool := widthB w && decide (R.length ≤ 300) && decide (S.length = R.length) && decide (0 ≤ m) && decide (m ≤ 65536) && decide (0 ≤ h) && decide (h ≤ 24) && (List.range R.length).all fun i => decide (((R.getD i []).length : Int) = w) && rowB (R.getD i []) (S.getD i [])
theorem mat_facts (w : Int) (R S : List (List Int)) (m h : Int) (g : matB w R S m h = true) : (w = 4 ∨ w = 8) ∧ R.length ≤ 300 ∧ S.length = R.length ∧ 0 ≤ m ∧ m ≤ 65536 ∧ 0 ≤ h ∧ h ≤ 24 ∧ ∀ i, i < R.length → ((R.getD i []).length : Int) = w ∧ rowB (R.getD i []) (S.getD i []) = true := by
  unfold matB at g
  simp only [Bool.and_eq_true, List.all_eq_true, decide_eq_true_eq, List.mem_range] at g
  exact ⟨width_facts _ g.1.1.1.1.1.1.1, g.1.1.1.1.1.1.2, g.1.1.1.1.1.2, g.1.1.1.1.2, g.1.1.1.2, g.1.1.2, g.1.2, fun i hi => g.2 i hi⟩
theorem all_range_from (P : Nat → Bool) (n i : Nat) (h : i < n) : ((List.range n).drop i).all P = (P i && ((List.range n).drop (i + 1)).all P) := by
  rw [List.drop_eq_getElem_cons (by simpa using h), List.all_cons, List.getElem_range]
theorem impl_mat_from (w : Int) (R S : List (List Int)) (m h : Int) (hl : R.length ≤ 300) (hs : S.length = R.length) (hlen : ∀ r ∈ R, r.length ≤ 9223372036854775807) (d : Nat) : ∀ (k i : Nat), i + d = R.length → d < k →
    (impl_MatrixOk.l0 ⟨w, R, S, m, h⟩ k (i : Int)).bind (fun o => match o with | .inl r_ => some r_ | .inr _ => some true) = some (((List.range R.length).drop i).all fun i => decide (((R.getD i []).length : Int) = w) && rowB (R.getD i []) (S.getD i [])) := by
  induction d with
  | zero =>
    intro k i hi hk
    obtain ⟨k, rfl⟩ : ∃ m, k = m + 1 := ⟨k - 1, by omega⟩
    unfold impl_MatrixOk.l0 impl_MatrixOk.b0
    dsimp only
    rw [if_neg (by omega), List.drop_of_length_le (by simp; omega)]; rfl
  | succ d ih =>
    intro k i hi hk
    obtain ⟨k, rfl⟩ : ∃ m, k = m + 1 := ⟨k - 1, by omega⟩
    have hmem : (R.getD i []).length ≤ 9223372036854775807 := hlen _ (by rw [List.getD_eq_getElem?_getD, List.getElem?_eq_getElem (by omega)]; exact List.getElem_mem _)
    unfold impl_MatrixOk.l0 impl_MatrixOk.b0
    dsimp only
    rw [if_pos (by omega), if_pos (by omega), all_range_from _ _ i (by omega), Int.toNat_natCast]
    by_cases h1 : ((R.getD i []).length : Int) = w
    · rw [if_pos h1, if_pos (by omega), decide_eq_true h1, impl_row _ _ hmem, Option.bind_some, w64 (by omega) (by omega), show ((i : Int) + 1) = ((i + 1 : Nat) : Int) by omega]
      cases hr : rowB (R.getD i []) (S.getD i []) with
      | true => rw [if_pos rfl, ih k (i + 1) (by omega) (by omega)]; rfl
      | false => rfl
    · rw [if_neg h1, decide_eq_false h1]; rfl
theorem impl_mat (w : Int) (R S : List (List Int)) (m h : Int) (hR : R.length ≤ 9223372036854775807) (hlen : ∀ r ∈ R, r.length ≤ 9223372036854775807) (k : Nat) (hk : 310 < k) : impl_MatrixOk.g k ⟨w, R, S, m, h⟩ = some (matB w R S m h) := by
  unfold impl_MatrixOk.g impl_in.f matB
  dsimp only
  rw [impl_width, Option.bind_some]
  cases h1 : widthB w with
  | false => rfl
  | true =>
    rw [if_pos rfl]
    by_cases h2 : R.length ≤ 300
    · rw [if_neg (by omega), decide_eq_true h2]
      by_cases h3 : S.length = R.length
      · rw [if_pos (by omega), decide_eq_true h3]
        by_cases h4 : 0 ≤ m
        · rw [if_pos h4, Option.bind_some, decide_eq_true h4]
          by_cases h5 : m ≤ 65536
          · rw [decide_eq_true h5, if_pos rfl]
            by_cases h6 : 0 ≤ h
            · rw [if_pos h6, Option.bind_some, decide_eq_true h6]
              by_cases h7 : h ≤ 24
              · rw [decide_eq_true h7, if_pos rfl]
                have := impl_mat_from w R S m h h2 h3 hlen R.length k 0 (by omega) (by omega)
                rw [List.drop_zero] at this
                exact this
              · rw [decide_eq_false h7]; rfl
            · rw [if_neg h6, Option.bind_some, decide_eq_false h6]; rfl
          · rw [decide_eq_false h5]; rfl
        · rw [if_neg h4, Option.bind_some, decide_eq_false h4]; rfl
      · rw [if_neg (by omega), decide_eq_false h3]; rfl
    · rw [if_pos (by omega), decide_eq_false h2]; rfl

/-- what a row can come to at most. -/
def wstTo (r s : List Int) : Nat → Int
  | 0 => 0
  | n + 1 => wstTo r s n + rd s ((n / 4 : Nat) : Int) * 127 * ((rd r (n : Int)).natAbs : Int)
def wst (r s : List Int) : Int := if rowB r s = true then wstTo r s r.length else 0
theorem wst_term (r s : List Int) (h : rowB r s = true) (i : Nat) (hi : i < r.length) : 0 ≤ rd s ((i / 4 : Nat) : Int) * 127 ∧ rd s ((i / 4 : Nat) : Int) * 127 ≤ 16129 ∧ ((rd r (i : Int)).natAbs : Int) ≤ 8 ∧ 0 ≤ rd s ((i / 4 : Nat) : Int) * 127 * ((rd r (i : Int)).natAbs : Int) ∧ rd s ((i / 4 : Nat) : Int) * 127 * ((rd r (i : Int)).natAbs : Int) ≤ 129032 := by
  obtain ⟨h1, h2, h3, h4⟩ := row_facts r s h
  have a := h4 _ (rd_mem s (i / 4) (by omega))
  have b := h2 _ (rd_mem r i hi)
  have c : ((rd r (i : Int)).natAbs : Int) ≤ 8 := by omega
  have p0 : 0 ≤ rd s ((i / 4 : Nat) : Int) * 127 := by omega
  have p1 : rd s ((i / 4 : Nat) : Int) * 127 ≤ 16129 := by omega
  refine ⟨p0, p1, c, Int.mul_nonneg p0 (by omega), ?_⟩
  calc rd s ((i / 4 : Nat) : Int) * 127 * ((rd r (i : Int)).natAbs : Int) ≤ 16129 * ((rd r (i : Int)).natAbs : Int) := Int.mul_le_mul_of_nonneg_right p1 (by omega)
    _ ≤ 129032 := by omega
theorem wst_bd (r s : List Int) (h : rowB r s = true) : ∀ n, n ≤ r.length → 0 ≤ wstTo r s n ∧ wstTo r s n ≤ 129032 * (n : Int)
  | 0, _ => by unfold wstTo; omega
  | n + 1, hn => by
    have ih := wst_bd r s h n (by omega)
    obtain ⟨_, _, _, ht⟩ := wst_term r s h n (by omega)
    unfold wstTo
    omega
theorem spec_abs (x : Int) (h0 : -8 ≤ x) (h1 : x ≤ 7) : spec_l05Abs.f x = some (x.natAbs : Int) := by
  unfold spec_l05Abs.f
  by_cases c : x < 0
  · rw [if_pos c, w64 (by omega) (by omega)]; congr 1; omega
  · rw [if_neg c]; congr 1; omega
theorem getD_mem (R : List (List Int)) (i : Nat) (h : i < R.length) : R.getD i [] ∈ R := by rw [List.getD_eq_getElem?_getD, List.getElem?_eq_getElem h]; exact List.getElem_mem _
/-- every row of a matrix comes to little enough. -/
def lowB (R S : List (List Int)) (i : Nat) : Bool := ((List.range R.length).drop i).all fun i => decide (wst (R.getD i []) (S.getD i []) ≤ 600000)
/-- a matrix of these bounds, of which every row comes to little enough. -/
def fitB (w : Int) (R S : List (List Int)) (m h a b : Int) : Bool := matB w R S m h && (decide (w = a) && (decide ((R.length : Int) = b) && lowB R S 0))
theorem spec_wst_from (r s : List Int) (h : rowB r s = true) (d : Nat) : ∀ (k i : Nat), i + d = r.length → d < k → spec_Worst.l0 r s k (wstTo r s i) (i : Int) = some (wstTo r s r.length, (r.length : Int)) := by
  obtain ⟨h1, h2, h3, h4⟩ := row_facts r s h
  induction d with
  | zero =>
    intro k i hi hk
    obtain ⟨k, rfl⟩ : ∃ m, k = m + 1 := ⟨k - 1, by omega⟩
    obtain rfl : i = r.length := by omega
    unfold spec_Worst.l0 spec_Worst.b0
    rw [if_neg (by omega)]
  | succ d ih =>
    intro k i hi hk
    obtain ⟨k, rfl⟩ : ∃ m, k = m + 1 := ⟨k - 1, by omega⟩
    obtain ⟨t1, t2, t3, t4, t5⟩ := wst_term r s h i (by omega)
    have hs := wst_bd r s h i (by omega)
    have b := h2 _ (rd_mem r i (by omega))
    unfold spec_Worst.l0 spec_Worst.b0
    rw [if_pos (by omega), tdiv4, w64 (i := ((i / 4 : Nat) : Int)) (by omega) (by omega), if_pos (by omega), if_pos (by omega)]
    show ((spec_l05Abs.f (rd r (i : Int))).bind fun t => spec_Worst.l0 r s k (wrap64 (wstTo r s i + wrap64 (wrap64 (rd s ((i / 4 : Nat) : Int) * 127) * t))) _) = _
    rw [spec_abs _ b.1 b.2, Option.bind_some, w64 (i := rd s ((i / 4 : Nat) : Int) * 127) (by omega) (by omega), w64 (i := rd s ((i / 4 : Nat) : Int) * 127 * _) (by omega) (by omega), w64 (i := wstTo r s i + _) (by omega) (by omega), w64 (i := (i : Int) + 1) (by omega) (by omega), show ((i : Int) + 1) = ((i + 1 : Nat) : Int) by omega]
    exact ih k (i + 1) (by omega) (by omega)
theorem impl_absW (x : Int) (h0 : -8 ≤ x) (h1 : x ≤ 7) : (if x < wrap64 (0 - x) then wrap64 (0 - x) else x) = (x.natAbs : Int) := by
  rw [w64 (by omega) (by omega)]
  by_cases c : x < 0 - x
  · rw [if_pos c]; omega
  · rw [if_neg c]; omega
theorem impl_wst_from (r s : List Int) (h : rowB r s = true) (d : Nat) : ∀ (k i : Nat), i + d = r.length → d < k → impl_Worst.l0 r s k (wstTo r s i) (i : Int) = some (wstTo r s r.length, (r.length : Int)) := by
  obtain ⟨h1, h2, h3, h4⟩ := row_facts r s h
  induction d with
  | zero =>
    intro k i hi hk
    obtain ⟨k, rfl⟩ : ∃ m, k = m + 1 := ⟨k - 1, by omega⟩
    obtain rfl : i = r.length := by omega
    unfold impl_Worst.l0 impl_Worst.b0
    rw [if_neg (by omega)]
  | succ d ih =>
    intro k i hi hk
    obtain ⟨k, rfl⟩ : ∃ m, k = m + 1 := ⟨k - 1, by omega⟩
    obtain ⟨t1, t2, t3, t4, t5⟩ := wst_term r s h i (by omega)
    have hs := wst_bd r s h i (by omega)
    have b := h2 _ (rd_mem r i (by omega))
    unfold impl_Worst.l0 impl_Worst.b0
    rw [if_pos (by omega), if_pos (by omega), tdiv4, w64 (i := ((i / 4 : Nat) : Int)) (by omega) (by omega), if_pos (by omega)]
    show impl_Worst.l0 r s k (wrap64 (wstTo r s i + wrap64 (wrap64 (rd s ((i / 4 : Nat) : Int) * 127) * (if rd r (i : Int) < wrap64 (0 - rd r (i : Int)) then wrap64 (0 - rd r (i : Int)) else rd r (i : Int))))) _ = _
    rw [impl_absW _ b.1 b.2, w64 (i := rd s ((i / 4 : Nat) : Int) * 127) (by omega) (by omega), w64 (i := rd s ((i / 4 : Nat) : Int) * 127 * _) (by omega) (by omega), w64 (i := wstTo r s i + _) (by omega) (by omega), w64 (i := (i : Int) + 1) (by omega) (by omega), show ((i : Int) + 1) = ((i + 1 : Nat) : Int) by omega]
    exact ih k (i + 1) (by omega) (by omega)
theorem spec_wst (r s : List Int) (hr : r.length ≤ 9223372036854775806) (hs : s.length ≤ 9223372036854775806) (k : Nat) (hk : r.length + s.length < k) (hk2 : 10 < k) : spec_Worst.g k r s = some (wst r s) := by
  unfold spec_Worst.g wst
  rw [spec_row r s hr hs k hk, Option.bind_some]
  by_cases h : rowB r s = true
  · obtain ⟨h1, h2, h3, h4⟩ := row_facts r s h
    have e : spec_Worst.l0 r s k 0 0 = _ := spec_wst_from r s h r.length k 0 (by omega) (by omega)
    rw [if_pos h, if_pos h, e]; rfl
  · rw [if_neg h, if_neg h]
theorem impl_wst (r s : List Int) (hr : r.length ≤ 9223372036854775807) (k : Nat) (hk2 : 10 < k) : impl_Worst.g k r s = some (wst r s) := by
  unfold impl_Worst.g wst
  rw [impl_row r s hr, Option.bind_some]
  by_cases h : rowB r s = true
  · obtain ⟨h1, h2, h3, h4⟩ := row_facts r s h
    have e : impl_Worst.l0 r s k 0 0 = _ := impl_wst_from r s h r.length k 0 (by omega) (by omega)
    rw [if_pos h, if_pos h, e]; rfl
  · rw [if_neg h, if_neg h]

theorem spec_mat_from (w : Int) (R S : List (List Int)) (m h : Int) (hl : R.length ≤ 300) (hs : S.length = R.length) (hR : ∀ r ∈ R, r.length ≤ 1048576) (hS : ∀ r ∈ S, r.length ≤ 1048576) (d : Nat) : ∀ (k i : Nat), i + d = R.length → d + 2097153 < k →
    (spec_MatrixOk.l0 ⟨w, R, S, m, h⟩ k (i : Int)).bind (fun o => match o with | .inl r_ => some r_ | .inr _ => some true) = some (((List.range R.length).drop i).all fun i => decide (((R.getD i []).length : Int) = w) && rowB (R.getD i []) (S.getD i [])) := by
  induction d with
  | zero =>
    intro k i hi hk
    obtain ⟨k, rfl⟩ : ∃ m, k = m + 1 := ⟨k - 1, by omega⟩
    unfold spec_MatrixOk.l0 spec_MatrixOk.b0
    dsimp only
    rw [if_neg (by omega), List.drop_of_length_le (by simp; omega)]; rfl
  | succ d ih =>
    intro k i hi hk
    obtain ⟨k, rfl⟩ : ∃ m, k = m + 1 := ⟨k - 1, by omega⟩
    have m1 := hR _ (getD_mem R i (by omega))
    have m2 := hS _ (getD_mem S i (by omega))
    unfold spec_MatrixOk.l0 spec_MatrixOk.b0
    dsimp only
    rw [if_pos (by omega), if_pos (by omega), all_range_from _ _ i (by omega), Int.toNat_natCast]
    by_cases h1 : ((R.getD i []).length : Int) = w
    · rw [if_pos h1, if_pos (by omega), decide_eq_true h1, spec_row _ _ (by omega) (by omega) k (by omega), Option.bind_some, w64 (by omega) (by omega), show ((i : Int) + 1) = ((i + 1 : Nat) : Int) by omega]
      cases hr : rowB (R.getD i []) (S.getD i []) with
      | true => rw [if_pos rfl, ih k (i + 1) (by omega) (by omega)]; rfl
      | false => rfl
    · rw [if_neg h1, decide_eq_false h1]; rfl
theorem spec_mat (w : Int) (R S : List (List Int)) (m h : Int) (hR : ∀ r ∈ R, r.length ≤ 1048576) (hS : ∀ r ∈ S, r.length ≤ 1048576) (k : Nat) (hk : 3000000 < k) : spec_MatrixOk.g k ⟨w, R, S, m, h⟩ = some (matB w R S m h) := by
  unfold spec_MatrixOk.g spec_l01In.f matB
  dsimp only
  rw [spec_width, Option.bind_some]
  cases h1 : widthB w with
  | false => rfl
  | true =>
    rw [if_pos rfl]
    by_cases h2 : R.length ≤ 300
    · rw [if_neg (by omega), decide_eq_true h2]
      by_cases h3 : S.length = R.length
      · rw [if_pos (by omega), decide_eq_true h3]
        by_cases h4 : 0 ≤ m
        · rw [if_pos h4, Option.bind_some, decide_eq_true h4]
          by_cases h5 : m ≤ 65536
          · rw [decide_eq_true h5, if_pos rfl]
            by_cases h6 : 0 ≤ h
            · rw [if_pos h6, Option.bind_some, decide_eq_true h6]
              by_cases h7 : h ≤ 24
              · rw [decide_eq_true h7, if_pos rfl]
                have := spec_mat_from w R S m h h2 h3 hR hS R.length k 0 (by omega) (by omega)
                rw [List.drop_zero] at this
                exact this
              · rw [decide_eq_false h7]; rfl
            · rw [if_neg h6, Option.bind_some, decide_eq_false h6]; rfl
          · rw [decide_eq_false h5]; rfl
        · rw [if_neg h4, Option.bind_some, decide_eq_false h4]; rfl
      · rw [if_neg (by omega), decide_eq_false h3]; rfl
    · rw [if_pos (by omega), decide_eq_false h2]; rfl

theorem spec_low_from (w : Int) (R S : List (List Int)) (m h : Int) (hl : R.length ≤ 300) (hs : S.length = R.length) (hR : ∀ r ∈ R, r.length ≤ 1048576) (hS : ∀ r ∈ S, r.length ≤ 1048576) (d : Nat) : ∀ (k i : Nat) (x : Int), i + d = R.length → d + 2097153 < k →
    ∃ v j, spec_l10Worst.l0 ⟨w, R, S, m, h⟩ k x (i : Int) = some (v, j) ∧ (v ≤ 600000 ↔ x ≤ 600000 ∧ lowB R S i = true) := by
  induction d with
  | zero =>
    intro k i x hi hk
    obtain ⟨k, rfl⟩ : ∃ m, k = m + 1 := ⟨k - 1, by omega⟩
    unfold spec_l10Worst.l0 spec_l10Worst.b0
    dsimp only
    rw [if_neg (by omega)]
    exact ⟨x, _, rfl, by unfold lowB; rw [List.drop_of_length_le (by simp; omega)]; simp⟩
  | succ d ih =>
    intro k i x hi hk
    obtain ⟨k, rfl⟩ : ∃ m, k = m + 1 := ⟨k - 1, by omega⟩
    have m1 := hR _ (getD_mem R i (by omega))
    have m2 := hS _ (getD_mem S i (by omega))
    unfold spec_l10Worst.l0 spec_l10Worst.b0
    dsimp only
    rw [if_pos (by omega), if_pos (by omega), if_pos (by omega), Int.toNat_natCast, spec_wst _ _ (by omega) (by omega) k (by omega) (by omega), Option.bind_some, w64 (by omega) (by omega), show ((i : Int) + 1) = ((i + 1 : Nat) : Int) by omega]
    have e : lowB R S i = (decide (wst (R.getD i []) (S.getD i []) ≤ 600000) && lowB R S (i + 1)) := by unfold lowB; rw [all_range_from _ _ i (by omega)]
    rw [e, Bool.and_eq_true, decide_eq_true_eq]
    by_cases c : wst (R.getD i []) (S.getD i []) > x
    · rw [if_pos c, Option.bind_some]
      obtain ⟨v, j, h1, h2⟩ := ih k (i + 1) (wst (R.getD i []) (S.getD i [])) (by omega) (by omega)
      exact ⟨v, j, h1, by rw [h2]; constructor <;> intro g <;> (obtain ⟨g1, g2⟩ := g; first | exact ⟨by omega, g1, g2⟩ | exact ⟨g2.1, g2.2⟩)⟩
    · rw [if_neg c, Option.bind_some]
      obtain ⟨v, j, h1, h2⟩ := ih k (i + 1) x (by omega) (by omega)
      exact ⟨v, j, h1, by rw [h2]; constructor <;> intro g <;> (obtain ⟨g1, g2⟩ := g; first | exact ⟨g1, by omega, g2⟩ | exact ⟨g1, g2.2⟩)⟩
theorem impl_low_from (w : Int) (R S : List (List Int)) (m h : Int) (hl : R.length ≤ 300) (hs : S.length = R.length) (hR : ∀ r ∈ R, r.length ≤ 1048576) (d : Nat) : ∀ (k i : Nat), i + d = R.length → d + 20 < k →
    (impl_withinBudget.l0 ⟨w, R, S, m, h⟩ k (i : Int)).bind (fun o => match o with | .inl r_ => some r_ | .inr _ => some true) = some (lowB R S i) := by
  induction d with
  | zero =>
    intro k i hi hk
    obtain ⟨k, rfl⟩ : ∃ m, k = m + 1 := ⟨k - 1, by omega⟩
    unfold impl_withinBudget.l0 impl_withinBudget.b0
    dsimp only
    rw [if_neg (by omega)]
    unfold lowB; rw [List.drop_of_length_le (by simp; omega)]; rfl
  | succ d ih =>
    intro k i hi hk
    obtain ⟨k, rfl⟩ : ∃ m, k = m + 1 := ⟨k - 1, by omega⟩
    have m1 := hR _ (getD_mem R i (by omega))
    unfold impl_withinBudget.l0 impl_withinBudget.b0
    dsimp only
    rw [if_pos (by omega), if_pos (by omega), if_pos (by omega), Int.toNat_natCast, impl_wst _ _ (by omega) k (by omega), Option.bind_some, w64 (by omega) (by omega), show ((i : Int) + 1) = ((i + 1 : Nat) : Int) by omega]
    have e : lowB R S i = (decide (wst (R.getD i []) (S.getD i []) ≤ 600000) && lowB R S (i + 1)) := by unfold lowB; rw [all_range_from _ _ i (by omega)]
    rw [e]
    by_cases c : wst (R.getD i []) (S.getD i []) > 600000
    · rw [if_pos c, decide_eq_false (by omega)]; rfl
    · rw [if_neg c, decide_eq_true (by omega), Bool.true_and, ih k (i + 1) (by omega) (by omega)]
theorem spec_fit (w : Int) (R S : List (List Int)) (m h a b : Int) (hR : ∀ r ∈ R, r.length ≤ 1048576) (hS : ∀ r ∈ S, r.length ≤ 1048576) (k : Nat) (hk : 3000000 < k) : spec_l10Matrix.g k ⟨w, R, S, m, h⟩ a b = some (fitB w R S m h a b) := by
  unfold spec_l10Matrix.g fitB
  dsimp only
  rw [spec_mat w R S m h hR hS k hk, Option.bind_some]
  by_cases h1 : matB w R S m h = true
  · obtain ⟨f1, f2, f3, _⟩ := mat_facts w R S m h h1
    rw [if_pos h1, h1, Bool.true_and]
    by_cases h2 : w = a
    · rw [if_pos h2, decide_eq_true h2, Bool.true_and]
      by_cases h3 : (R.length : Int) = b
      · rw [if_pos h3, decide_eq_true h3, Bool.true_and]
        obtain ⟨v, j, e1, e2⟩ := spec_low_from w R S m h f2 f3 hR hS R.length k 0 0 (by omega) (by omega)
        unfold spec_l10Worst.g
        rw [show (0 : Int) = ((0 : Nat) : Int) from rfl] at e1 ⊢
        rw [e1, Option.bind_some, Option.bind_some]
        congr 1
        cases g : lowB R S 0 with
        | true => exact decide_eq_true (e2.2 ⟨by omega, g⟩)
        | false => exact decide_eq_false (fun g2 => by have := (e2.1 g2).2; rw [g] at this; cases this)
      · rw [if_neg h3, decide_eq_false h3]; rfl
    · rw [if_neg h2, decide_eq_false h2]; rfl
  · rw [if_neg h1, Bool.eq_false_iff.mpr h1]; rfl
theorem impl_fit (w : Int) (R S : List (List Int)) (m h a b : Int) (hl : R.length ≤ 9223372036854775807) (hR : ∀ r ∈ R, r.length ≤ 1048576) (k : Nat) (hk : 1000 < k) : impl_withinBudget.g k ⟨w, R, S, m, h⟩ a b = some (fitB w R S m h a b) := by
  unfold impl_withinBudget.g fitB
  dsimp only
  rw [impl_mat w R S m h hl (fun r hr => by have := hR r hr; omega) k (by omega), Option.bind_some]
  by_cases h1 : matB w R S m h = true
  · obtain ⟨f1, f2, f3, _⟩ := mat_facts w R S m h h1
    rw [if_pos h1, h1, Bool.true_and]
    by_cases h2 : w = a
    · rw [if_pos h2, decide_eq_true h2, Bool.true_and]
      by_cases h3 : (R.length : Int) = b
      · rw [if_pos h3, decide_eq_true h3, Bool.true_and]
        exact impl_low_from w R S m h f2 f3 hR R.length k 0 (by omega) (by omega)
      · rw [if_neg h3, decide_eq_false h3]; rfl
    · rw [if_neg h2, decide_eq_false h2]; rfl
  · rw [if_neg h1, Bool.eq_false_iff.mpr h1]; rfl

def gainB (l : List Int) (n : Int) : Bool := if (l.length : Int) = n then l.all fun x => decide (0 ≤ x) && decide (x ≤ 127) else false
theorem impl_gainB (l : List Int) (n : Int) {k : Nat} : impl_GainOk.g k l n = some (gainB l n) := by
  unfold impl_GainOk.g impl_allIn.f gainB
  split <;> rfl
theorem spec_gainB (l : List Int) (n : Int) (hl : l.length ≤ 1048576) (k : Nat) (hk : l.length < k) : spec_GainOk.g k l n = some (gainB l n) := by
  unfold spec_GainOk.g gainB
  rw [all_tells 0 127 l (by omega) k hk]
  split <;> rfl

theorem szInts_tells (l : List Int) (hl : l.length ≤ 9223372036854775807) (n : Int) (h0 : 0 ≤ n) (h1 : n ≤ 1048576) {k : Nat} : laws_szIntS.g k l n = lessS n l.length := by
  unfold laws_szIntS.g lessS
  rw [w64 (i := n - (l.length : Int)) (by omega) (by omega)]
  by_cases c : n < (l.length : Int)
  · rw [if_pos (by omega), if_pos c]
  · rw [if_neg (by omega), if_neg c]

theorem to_from (l : List Int) (hl : l.length ≤ 9223372036854775806) (d : Nat) : ∀ (k i : Nat), i ≤ l.length → l.length - i = d → d < k →
    laws_toIntS.l0 l k (i : Int) (l.take i ++ List.replicate (l.length - i) 0) = some ((l.length : Int), l) := by
  induction d with
  | zero =>
    intro k i hi' hd hk
    obtain ⟨k, rfl⟩ : ∃ m, k = m + 1 := ⟨k - 1, by omega⟩
    unfold laws_toIntS.l0 laws_toIntS.b0; rw [if_neg (by omega), List.take_of_length_le (by omega), hd, show (i : Int) = (l.length : Int) by omega]; simp
  | succ d ih =>
    intro k i hi' hd hk
    obtain ⟨k, rfl⟩ : ∃ m, k = m + 1 := ⟨k - 1, by omega⟩
    have hlt : i < l.length := by omega
    unfold laws_toIntS.l0 laws_toIntS.b0
    rw [if_pos (by omega), if_pos (by omega), if_pos ⟨by omega, by simp; omega⟩, getD_int l 0 i hlt, w64 (by omega) (by omega), show ((i : Int) + 1) = ((i + 1 : Nat) : Int) by omega]
    have e : (l.take i ++ List.replicate (l.length - i) (0 : Int)).set (i : Int).toNat l[i] = l.take (i + 1) ++ List.replicate (l.length - (i + 1)) 0 := by
      rw [Int.toNat_natCast, List.set_append_right _ _ (by simp; omega), show l.length - i = (l.length - (i + 1)) + 1 by omega, List.replicate_succ, List.length_take, Nat.min_eq_left (by omega), Nat.sub_self, List.set_cons_zero, List.take_succ_eq_append_getElem hlt, List.append_assoc]
      rfl
    rw [e]
    exact ih k (i + 1) (by omega) (by omega) (by omega)
theorem to_tells (l : List Int) (hl : l.length < 4294967296) (k : Nat) (hk : l.length < k) : laws_toIntS.g k l = some l := by
  unfold laws_toIntS.g
  rw [if_pos (by omega), Int.toNat_natCast]
  have := to_from l (by omega) l.length k 0 (by omega) (by omega) hk
  have h0 : laws_toIntS.l0 l k 0 (List.replicate l.length 0) = some ((l.length : Int), l) := by simpa using this
  rw [h0]; rfl

theorem eq_from (a b : List Int) (hl : a.length ≤ 9223372036854775806) (hab : a.length = b.length) (d : Nat) : ∀ (k i : Nat), i ≤ a.length → a.length - i = d → d < k →
    (laws_eqIntS.l0 a b k (i : Int)).bind (fun o => match o with | .inl r_ => some r_ | .inr _ => some true) = some (decide (a.drop i = b.drop i)) := by
  induction d with
  | zero =>
    intro k i hi' hd hk
    obtain ⟨k, rfl⟩ : ∃ m, k = m + 1 := ⟨k - 1, by omega⟩
    rw [List.drop_of_length_le (by omega), List.drop_of_length_le (by omega)]
    unfold laws_eqIntS.l0 laws_eqIntS.b0; rw [if_neg (by omega)]; simp
  | succ d ih =>
    intro k i hi' hd hk
    obtain ⟨k, rfl⟩ : ∃ m, k = m + 1 := ⟨k - 1, by omega⟩
    have hlt : i < a.length := by omega
    have hltb : i < b.length := by omega
    unfold laws_eqIntS.l0 laws_eqIntS.b0
    rw [if_pos (by omega), if_pos (by omega), if_pos (by omega), getD_int a 0 i hlt, getD_int b 0 i hltb, List.drop_eq_getElem_cons hlt, List.drop_eq_getElem_cons hltb]
    by_cases h : a[i] = b[i]
    · rw [if_pos h, w64 (by omega) (by omega), show ((i : Int) + 1) = ((i + 1 : Nat) : Int) by omega, ih k (i + 1) (by omega) (by omega) (by omega)]
      congr 1
      rw [decide_eq_decide]
      simp only [h, List.cons.injEq, true_and]
    · rw [if_neg h, decide_eq_false (fun e => h (List.cons.inj e).1)]; rfl
theorem eq_tells (a b : List Int) (hl : a.length ≤ 9223372036854775806) (k : Nat) (hk : a.length < k) : laws_eqIntS.g k a b = some (decide (a = b)) := by
  unfold laws_eqIntS.g
  by_cases h : a.length = b.length
  · rw [if_pos (by omega)]
    have := eq_from a b hl h a.length k 0 (by omega) (by omega) hk
    rw [List.drop_zero, List.drop_zero] at this
    exact this
  · rw [if_neg (by omega), decide_eq_false]
    intro e; rw [e] at h; exact h rfl

section
variable {α β : Type} (z : α) (zb : β) (l : List α) (L : Nat → Int → List β → Option (Int × List β)) (E : Nat → α → Option β) (g : α → β) (s : α → Nat)
theorem to_fromW (hL : ∀ k i xs, L (k + 1) i xs = if i < (l.length : Int) then (if 0 ≤ i ∧ i < (l.length : Int) then ((E k (l.getD i.toNat z)).bind fun t => (if 0 ≤ i ∧ i < ((xs.length : Nat) : Int) then (L k (wrap64 (i + 1)) (xs.set i.toNat t)) else none)) else none) else some (i, xs))
    (hE : ∀ k, ∀ x ∈ l, s x < k → E k x = some (g x)) (hl : l.length ≤ 9223372036854775807) (d : Nat) : ∀ (k i : Nat), i ≤ l.length → l.length - i = d → d + sumS s (l.drop i) < k →
    ∃ j, L k (i : Int) ((l.take i).map g ++ List.replicate (l.length - i) zb) = some (j, l.map g) := by
  induction d with
  | zero =>
    intro k i hi hd hk
    obtain ⟨k, rfl⟩ : ∃ m, k = m + 1 := ⟨k - 1, by omega⟩
    rw [hL, if_neg (by omega), List.take_of_length_le (by omega), hd]; simp
  | succ d ih =>
    intro k i hi hd hk
    obtain ⟨k, rfl⟩ : ∃ m, k = m + 1 := ⟨k - 1, by omega⟩
    have hlt : i < l.length := by omega
    rw [List.drop_eq_getElem_cons hlt, sumS_cons] at hk
    rw [hL, if_pos (by omega), if_pos (by omega), getD_int l _ i hlt, hE k l[i] (List.getElem_mem hlt) (by omega), Option.bind_some, if_pos (by simp; omega), w64 (by omega) (by omega), show ((i : Int) + 1) = ((i + 1 : Nat) : Int) by omega]
    have e : ((l.take i).map g ++ List.replicate (l.length - i) zb).set (i : Int).toNat (g l[i]) = (l.take (i + 1)).map g ++ List.replicate (l.length - (i + 1)) zb := by
      rw [Int.toNat_natCast, List.set_append_right _ _ (by simp; omega), show l.length - i = (l.length - (i + 1)) + 1 by omega, List.replicate_succ, List.length_map, List.length_take, Nat.min_eq_left (by omega), Nat.sub_self, List.set_cons_zero, List.take_succ_eq_append_getElem hlt, List.map_append, List.append_assoc]
      rfl
    rw [e]
    exact ih k (i + 1) (by omega) (by omega) (by omega)
theorem to_listW (hL : ∀ k i xs, L (k + 1) i xs = if i < (l.length : Int) then (if 0 ≤ i ∧ i < (l.length : Int) then ((E k (l.getD i.toNat z)).bind fun t => (if 0 ≤ i ∧ i < ((xs.length : Nat) : Int) then (L k (wrap64 (i + 1)) (xs.set i.toNat t)) else none)) else none) else some (i, xs))
    (hE : ∀ k, ∀ x ∈ l, s x < k → E k x = some (g x)) (hl : l.length < 4294967296) (k : Nat) (hk : szL s l < k) :
    (if 0 ≤ (l.length : Int) ∧ (l.length : Int) < 4294967296 then ((L k 0 (List.replicate (l.length : Int).toNat zb)).bind (fun o => (some o.2))) else none) = some (l.map g) := by
  unfold szL at hk
  obtain ⟨j, e⟩ := to_fromW z zb l L E g s hL hE (by omega) l.length k 0 (by omega) (by omega) (by rw [List.drop_zero]; omega)
  rw [if_pos ⟨by omega, by omega⟩, Int.toNat_natCast]
  simp only [List.take_zero, List.map_nil, List.nil_append, Nat.sub_zero] at e
  rw [show (0 : Int) = ((0 : Nat) : Int) from rfl, e]; rfl
end
section
variable {α : Type} (z : α) (l : List α) (L : Nat → Int → Option (Bool ⊕ Int)) (E : Nat → α → Option Bool) (s : α → Nat)
theorem eq_fromW (hL : ∀ k i, L (k + 1) i = if i < (l.length : Int) then (if 0 ≤ i ∧ i < (l.length : Int) then (if 0 ≤ i ∧ i < (l.length : Int) then ((E k (l.getD i.toNat z)).bind fun t => (if t = true then (L k (wrap64 (i + 1))) else (some (Sum.inl false)))) else none) else none) else some (Sum.inr i))
    (hE : ∀ k, ∀ x ∈ l, s x < k → E k x = some true) (hl : l.length ≤ 9223372036854775807) (d : Nat) : ∀ (k i : Nat), i ≤ l.length → l.length - i = d → d + sumS s (l.drop i) < k → ∃ j, L k (i : Int) = some (.inr j) := by
  induction d with
  | zero =>
    intro k i hi hd hk
    obtain ⟨k, rfl⟩ : ∃ m, k = m + 1 := ⟨k - 1, by omega⟩
    rw [hL, if_neg (by omega)]; exact ⟨_, rfl⟩
  | succ d ih =>
    intro k i hi hd hk
    obtain ⟨k, rfl⟩ : ∃ m, k = m + 1 := ⟨k - 1, by omega⟩
    have hlt : i < l.length := by omega
    rw [List.drop_eq_getElem_cons hlt, sumS_cons] at hk
    rw [hL, if_pos (by omega), if_pos (by omega), if_pos (by omega), getD_int l _ i hlt, hE k l[i] (List.getElem_mem hlt) (by omega), Option.bind_some, if_pos rfl, w64 (by omega) (by omega), show ((i : Int) + 1) = ((i + 1 : Nat) : Int) by omega]
    exact ih k (i + 1) (by omega) (by omega) (by omega)
theorem eq_listW (hL : ∀ k i, L (k + 1) i = if i < (l.length : Int) then (if 0 ≤ i ∧ i < (l.length : Int) then (if 0 ≤ i ∧ i < (l.length : Int) then ((E k (l.getD i.toNat z)).bind fun t => (if t = true then (L k (wrap64 (i + 1))) else (some (Sum.inl false)))) else none) else none) else some (Sum.inr i))
    (hE : ∀ k, ∀ x ∈ l, s x < k → E k x = some true) (hl : l.length ≤ 9223372036854775807) (k : Nat) (hk : szL s l < k) :
    (if (l.length : Int) = (l.length : Int) then ((L k 0).bind (fun o => match o with | .inl r_ => some r_ | .inr _ => (some true))) else (some false)) = some true := by
  unfold szL at hk
  obtain ⟨j, e⟩ := eq_fromW z l L E s hL hE hl l.length k 0 (by omega) (by omega) (by rw [List.drop_zero]; omega)
  rw [if_pos rfl, show (0 : Int) = ((0 : Nat) : Int) from rfl, e]; rfl
end
theorem szL_zero {α : Type} (l : List α) : szL (fun _ : α => 0) l = l.length := by
  have : ∀ l : List α, sumS (fun _ => 0) l = 0 := fun l => by induction l with | nil => rfl | cons a l ih => rw [sumS_cons, ih]
  unfold szL; rw [this]; rfl
section
variable {α : Type} (z : α) (l : List α) (L : Nat → Int → Int → Option (Int ⊕ (Int × Int))) (E : Nat → α → Int → Option Int) (s : α → Nat)
theorem sz_fromW (hL : ∀ k n i, L (k + 1) n i = if i < (l.length : Int) then (if 0 ≤ i ∧ i < (l.length : Int) then ((E k (l.getD i.toNat z) n).bind fun t => (if t < 0 then (some (Sum.inl (-1))) else (L k t (wrap64 (i + 1))))) else none) else some (Sum.inr (n, i)))
    (hE : ∀ k x n, x ∈ l → s x < k → 0 ≤ n → n ≤ 1048576 → E k x n = lessS n (s x)) (hl : l.length ≤ 9223372036854775807) (d : Nat) :
    ∀ (k i : Nat) (n : Int), i ≤ l.length → l.length - i = d → d + sumS s (l.drop i) < k → 0 ≤ n → n ≤ 1048576 → (L k n (i : Int)).bind (fun o => match o with | .inl r_ => some r_ | .inr ⟨m, _⟩ => some m) = lessS n (sumS s (l.drop i)) := by
  induction d with
  | zero =>
    intro k i n hi hd hk h0 h1
    obtain ⟨k, rfl⟩ : ∃ m, k = m + 1 := ⟨k - 1, by omega⟩
    rw [hL, if_neg (by omega), List.drop_of_length_le (by omega)]
    unfold lessS; rw [if_neg (by show ¬ n < ((0 : Nat) : Int); omega)]
    show some n = some (n - ((0 : Nat) : Int)); congr 1; omega
  | succ d ih =>
    intro k i n hi hd hk h0 h1
    obtain ⟨k, rfl⟩ : ∃ m, k = m + 1 := ⟨k - 1, by omega⟩
    have hlt : i < l.length := by omega
    rw [List.drop_eq_getElem_cons hlt, sumS_cons] at hk
    rw [List.drop_eq_getElem_cons hlt, sumS_cons, hL, if_pos (by omega), if_pos (by omega), getD_int l _ i hlt, hE k l[i] n (List.getElem_mem hlt) (by omega) h0 h1]
    unfold lessS
    rw [Option.bind_some]
    by_cases c : n < (s l[i] : Int)
    · rw [if_pos c, if_pos (by omega), if_pos (by omega)]; rfl
    · rw [if_neg c, if_neg (by omega), w64 (by omega) (by omega), show ((i : Int) + 1) = ((i + 1 : Nat) : Int) by omega, ih k (i + 1) _ (by omega) (by omega) (by omega) (by omega) (by omega)]
      unfold lessS
      by_cases e : n - (s l[i] : Int) < (sumS s (l.drop (i + 1)) : Int)
      · rw [if_pos e, if_pos (by omega)]
      · rw [if_neg e, if_neg (by omega)]; congr 1; omega
theorem sz_listW (hL : ∀ k n i, L (k + 1) n i = if i < (l.length : Int) then (if 0 ≤ i ∧ i < (l.length : Int) then ((E k (l.getD i.toNat z) n).bind fun t => (if t < 0 then (some (Sum.inl (-1))) else (L k t (wrap64 (i + 1))))) else none) else some (Sum.inr (n, i)))
    (hE : ∀ k x n, x ∈ l → s x < k → 0 ≤ n → n ≤ 1048576 → E k x n = lessS n (s x)) (hl : l.length ≤ 9223372036854775807) (k : Nat) (n : Int) (hk : szL s l < k) (h0 : 0 ≤ n) (h1 : n ≤ 1048576) :
    (if wrap64 (n - (l.length : Int)) < 0 then some (-1) else ((L k (wrap64 (n - (l.length : Int))) 0).bind (fun o => match o with | .inl r_ => some r_ | .inr ⟨m, _⟩ => some m))) = lessS n (szL s l) := by
  unfold szL at hk ⊢
  rw [w64 (i := n - (l.length : Int)) (by omega) (by omega)]
  unfold lessS
  by_cases c : n < (l.length : Int)
  · rw [if_pos (by omega), if_pos (by omega)]
  · have := sz_fromW z l L E s hL hE hl l.length k 0 (n - (l.length : Int)) (by omega) (by omega) (by rw [List.drop_zero]; omega) (by omega) (by omega)
    rw [List.drop_zero] at this
    rw [if_neg (by omega), show (0 : Int) = ((0 : Nat) : Int) from rfl, this]
    unfold lessS
    by_cases e : n - (l.length : Int) < (sumS s l : Int)
    · rw [if_pos e, if_pos (by omega)]
    · rw [if_neg e, if_neg (by omega)]; congr 1; omega
end

def mIntss : List (List Int) → Nat := szL (fun l => l.length)
theorem eqIntSS_same (k : Nat) (x : List (List Int)) (h : mIntss x ≤ 9000000) (hk : mIntss x < k) : laws_eqIntSS.g k x x = some true :=
  eq_listW [] x (laws_eqIntSS.l0 x x) (fun k y => laws_eqIntS.g k y y) (fun l => l.length) (fun _ _ => rfl) (fun k y hy h' => by
    have := sumS_le (fun l : List Int => l.length) x y hy
    have e : mIntss x = x.length + sumS (fun l => l.length) x := rfl
    rw [eq_tells y y (by omega) k h', decide_eq_true rfl]) (by have e : mIntss x = x.length + sumS (fun l => l.length) x := rfl; omega) k hk

theorem mIntss_eq (x : List (List Int)) : mIntss x = x.length + sumS (fun l => l.length) x := rfl
theorem szIntSS_less (k : Nat) (x : List (List Int)) (n : Int) (hx : x.length ≤ 9223372036854775807) (hxx : ∀ y ∈ x, y.length ≤ 9223372036854775807) (hk : mIntss x < k) (h0 : 0 ≤ n) (h1 : n ≤ 1048576) : laws_szIntSS.g k x n = lessS n (mIntss x) :=
  sz_listW [] x (laws_szIntSS.l0 x) (fun k y n => laws_szIntS.g k y n) (fun l => l.length) (fun _ _ _ => rfl) (fun k y n hy _ h0 h1 => szInts_tells y (hxx y hy) n h0 h1) hx k n hk h0 h1
theorem toIntSS_same (k : Nat) (x : List (List Int)) (h : mIntss x ≤ 9000000) (hk : mIntss x < k) : laws_toIntSS.g k x = some x := by
  have e := mIntss_eq x
  have := to_listW [] [] x (laws_toIntSS.l0 x) (fun k y => laws_toIntS.g k y) id (fun l : List Int => l.length) (fun _ _ _ => rfl) (fun k y hy h' => to_tells y (by have := sumS_le (fun l : List Int => l.length) x y hy; omega) k h') (by omega) k (by unfold szL; omega)
  rw [List.map_id] at this
  exact this

def mMatrix (x : S27) : Nat := mIntss x.f1 + mIntss x.f2
def mLayer (x : S44) : Nat := x.f0.length + (mMatrix x.f1 + (mMatrix x.f2 + (mMatrix x.f3 + (mMatrix x.f4 + (x.f5.length + (mMatrix x.f6 + mMatrix x.f7))))))
def gMatrix (x : S27) : S36 := ⟨x.f0, x.f1, x.f2, x.f3, x.f4⟩
def gLayer (x : S44) : S48 := ⟨x.f0, gMatrix x.f1, gMatrix x.f2, gMatrix x.f3, gMatrix x.f4, x.f5, gMatrix x.f6, gMatrix x.f7⟩
theorem toMatrix_m (k : Nat) (x : S27) (h : mMatrix x ≤ 1048576) (hk : mMatrix x < k) : laws_toMatrix.g k x = some (gMatrix x) := by
  have g : mMatrix x = mIntss x.f1 + mIntss x.f2 := rfl
  unfold laws_toMatrix.g
  rw [toIntSS_same k x.f1 (by omega) (by omega), Option.bind_some, toIntSS_same k x.f2 (by omega) (by omega), Option.bind_some]; rfl
def iMatrix (x : S36) : Nat := mIntss x.f1 + mIntss x.f2
def iLayer (x : S48) : Nat := x.f0.length + (iMatrix x.f1 + (iMatrix x.f2 + (iMatrix x.f3 + (iMatrix x.f4 + (x.f5.length + (iMatrix x.f6 + iMatrix x.f7))))))
theorem sumS_map' {α β : Type} (g : α → β) (s : α → Nat) (t : β → Nat) (h : ∀ x, t (g x) = s x) : ∀ l : List α, sumS t (l.map g) = sumS s l
  | [] => rfl
  | x :: l => by rw [List.map_cons, sumS_cons, sumS_cons, h, sumS_map' g s t h l]
theorem i_layer (x : S44) : iLayer (gLayer x) = mLayer x := rfl
theorem eqMatrix_i (k : Nat) (x : S36) (h : iMatrix x ≤ 1048576) (hk : iMatrix x < k) : laws_eqMatrix.g k x x = some true := by
  have g : iMatrix x = mIntss x.f1 + mIntss x.f2 := rfl
  unfold laws_eqMatrix.g
  rw [if_pos rfl, eqIntSS_same k x.f1 (by omega) (by omega), Option.bind_some, if_pos rfl, eqIntSS_same k x.f2 (by omega) (by omega), Option.bind_some, if_pos rfl, if_pos rfl, if_pos rfl]
theorem szIntss_ok (k : Nat) (x : List (List Int)) (n : Int) (ok : okT23 x) (hk : mIntss x < k) (h0 : 0 ≤ n) (h1 : n ≤ 1048576) : laws_szIntSS.g k x n = lessS n (mIntss x) :=
  szIntSS_less k x n ok.1 (fun y hy => (ok.2 y hy).1) hk h0 h1
theorem szMatrix_m (k : Nat) (x : S27) (n : Int) (ok : okT27 x) (hk : mMatrix x < k) (h0 : 0 ≤ n) (h1 : n ≤ 1048576) : laws_szMatrix.g k x n = lessS n (mMatrix x) := by
  have h : mMatrix x = mIntss x.f1 + mIntss x.f2 := rfl
  exact sz_then (szIntss_ok k x.f1 n ok.2.1 (by omega) h0 h1) h0 fun g => sz_end (szIntss_ok k x.f2 _ ok.2.2.1 (by omega) (by omega) (by omega)) (by omega)
theorem eqInts_i (k : Nat) (x : List Int) (h : x.length ≤ 1048576) (hk : x.length < k) : laws_eqIntS.g k x x = some true := by rw [eq_tells x x (by omega) k hk, decide_eq_true rfl]

theorem szLayer_g (k : Nat) (x : S44) (n : Int) (ok : okT44 x) (hk : mLayer x < k) (h0 : 0 ≤ n) (h1 : n ≤ 1048576) : laws_szLayer.g k x n = lessS n (mLayer x) := by
  have h : mLayer x = x.f0.length + (mMatrix x.f1 + (mMatrix x.f2 + (mMatrix x.f3 + (mMatrix x.f4 + (x.f5.length + (mMatrix x.f6 + mMatrix x.f7)))))) := rfl
  obtain ⟨o0, o1, o2, o3, o4, o5, o6, o7⟩ := ok
  unfold laws_szLayer.g
  rw [h]
  exact sz_then (szInts_tells x.f0 o0.1 n h0 h1) h0 fun g0 => sz_then (szMatrix_m k x.f1 _ o1 (by omega) (by omega) (by omega)) (by omega) fun g1 => sz_then (szMatrix_m k x.f2 _ o2 (by omega) (by omega) (by omega)) (by omega) fun g2 =>
    sz_then (szMatrix_m k x.f3 _ o3 (by omega) (by omega) (by omega)) (by omega) fun g3 => sz_then (szMatrix_m k x.f4 _ o4 (by omega) (by omega) (by omega)) (by omega) fun g4 => sz_then (szInts_tells x.f5 o5.1 _ (by omega) (by omega)) (by omega) fun g5 =>
    sz_then (szMatrix_m k x.f6 _ o6 (by omega) (by omega) (by omega)) (by omega) fun g6 => sz_end (szMatrix_m k x.f7 _ o7 (by omega) (by omega) (by omega)) (by omega)
theorem toLayer_g (k : Nat) (x : S44) (h : mLayer x ≤ 1048576) (hk : mLayer x < k) : laws_toLayer.g k x = some (gLayer x) := by
  have g : mLayer x = x.f0.length + (mMatrix x.f1 + (mMatrix x.f2 + (mMatrix x.f3 + (mMatrix x.f4 + (x.f5.length + (mMatrix x.f6 + mMatrix x.f7)))))) := rfl
  unfold laws_toLayer.g
  rw [to_tells x.f0 (by omega) k (by omega), Option.bind_some, toMatrix_m k x.f1 (by omega) (by omega), Option.bind_some, toMatrix_m k x.f2 (by omega) (by omega), Option.bind_some, toMatrix_m k x.f3 (by omega) (by omega), Option.bind_some, toMatrix_m k x.f4 (by omega) (by omega), Option.bind_some,
    to_tells x.f5 (by omega) k (by omega), Option.bind_some, toMatrix_m k x.f6 (by omega) (by omega), Option.bind_some, toMatrix_m k x.f7 (by omega) (by omega), Option.bind_some]
  rfl
theorem eqLayer_g (k : Nat) (x : S48) (h : iLayer x ≤ 1048576) (hk : iLayer x < k) : laws_eqLayer.g k x x = some true := by
  have g : iLayer x = x.f0.length + (iMatrix x.f1 + (iMatrix x.f2 + (iMatrix x.f3 + (iMatrix x.f4 + (x.f5.length + (iMatrix x.f6 + iMatrix x.f7)))))) := rfl
  unfold laws_eqLayer.g
  rw [eqInts_i k x.f0 (by omega) (by omega), Option.bind_some, if_pos rfl, eqMatrix_i k x.f1 (by omega) (by omega), Option.bind_some, if_pos rfl, eqMatrix_i k x.f2 (by omega) (by omega), Option.bind_some, if_pos rfl, eqMatrix_i k x.f3 (by omega) (by omega), Option.bind_some, if_pos rfl,
    eqMatrix_i k x.f4 (by omega) (by omega), Option.bind_some, if_pos rfl, eqInts_i k x.f5 (by omega) (by omega), Option.bind_some, if_pos rfl, eqMatrix_i k x.f6 (by omega) (by omega), Option.bind_some, if_pos rfl, eqMatrix_i k x.f7 (by omega) (by omega), Option.bind_some, if_pos rfl]

theorem mat_rows (x : S36) (h : iMatrix x ≤ 1048576) : x.f1.length ≤ 1048576 ∧ (∀ r ∈ x.f1, r.length ≤ 1048576) ∧ ∀ r ∈ x.f2, r.length ≤ 1048576 := by
  unfold iMatrix at h
  have e1 := mIntss_eq x.f1
  have e2 := mIntss_eq x.f2
  unfold szL at e1 e2
  refine ⟨by omega, fun r hr => ?_, fun r hr => ?_⟩
  · have := sumS_le (fun l : List Int => l.length) x.f1 r hr; omega
  · have := sumS_le (fun l : List Int => l.length) x.f2 r hr; omega
def mfit (x : S36) (a b : Int) : Bool := fitB x.f0 x.f1 x.f2 x.f3 x.f4 a b
theorem spec_mfit (x : S36) (a b : Int) (h : iMatrix x ≤ 1048576) (k : Nat) (hk : 3000000 < k) : spec_l10Matrix.g k x a b = some (mfit x a b) := by
  obtain ⟨h1, h2, h3⟩ := mat_rows x h
  exact spec_fit _ _ _ _ _ _ _ h2 h3 k hk
def layerB (x : S48) (n : Int) : Bool := gainB x.f0 n && (gainB x.f5 n && (widthB (x.f6.f1.length : Int) && (mfit x.f1 n n && (mfit x.f2 n n && (mfit x.f3 n n && (mfit x.f4 n n && (mfit x.f6 n (x.f6.f1.length : Int) && mfit x.f7 (x.f6.f1.length : Int) n)))))))
theorem mfit_width (x : S36) (a b : Int) (h : mfit x a b = true) : widthB a = true := by
  unfold mfit fitB at h
  simp only [Bool.and_eq_true, decide_eq_true_eq] at h
  obtain ⟨h1, h2, _⟩ := h
  unfold matB at h1
  simp only [Bool.and_eq_true] at h1
  rw [← h2]; exact h1.1.1.1.1.1.1.1
theorem if_and (a : Bool) (b : Option Bool) (c : Bool) (h : a = true → b = some c) : (if a = true then b else some false) = some (a && c) := by
  cases a with
  | false => rfl
  | true => rw [if_pos rfl, h rfl]; rfl
theorem bind_and (p : Option Bool) (a : Bool) (b : Option Bool) (c : Bool) (hp : p = some a) (h : a = true → b = some c) : (p.bind fun t => if t = true then b else some false) = some (a && c) := by
  rw [hp, Option.bind_some]; exact if_and a b c h
theorem spec_layer (x : S48) (n : Int) (h : iLayer x ≤ 1048576) (k : Nat) (hk : 3000000 < k) : spec_LayerOk.g k x n = some (layerB x n) := by
  have e : iLayer x = x.f0.length + (iMatrix x.f1 + (iMatrix x.f2 + (iMatrix x.f3 + (iMatrix x.f4 + (x.f5.length + (iMatrix x.f6 + iMatrix x.f7)))))) := rfl
  have g : spec_LayerOk.g k x n = some (widthB n && (widthB (x.f6.f1.length : Int) && (gainB x.f0 n && (gainB x.f5 n && (mfit x.f1 n n && (mfit x.f2 n n && (mfit x.f3 n n && (mfit x.f4 n n && (mfit x.f6 n (x.f6.f1.length : Int) && mfit x.f7 (x.f6.f1.length : Int) n))))))))) := by
    unfold spec_LayerOk.g
    refine bind_and _ _ _ _ (spec_width n) fun _ => bind_and _ _ _ _ (spec_width _) fun _ => bind_and _ _ _ _ (spec_gainB x.f0 n (by omega) k (by omega)) fun _ => bind_and _ _ _ _ (spec_gainB x.f5 n (by omega) k (by omega)) fun _ => bind_and _ _ _ _ (spec_mfit x.f1 n n (by omega) k hk) fun _ =>
      bind_and _ _ _ _ (spec_mfit x.f2 n n (by omega) k hk) fun _ => bind_and _ _ _ _ (spec_mfit x.f3 n n (by omega) k hk) fun _ => bind_and _ _ _ _ (spec_mfit x.f4 n n (by omega) k hk) fun _ => bind_and _ _ _ _ (spec_mfit x.f6 n _ (by omega) k hk) fun _ => ?_
    rw [spec_mfit x.f7 _ n (by omega) k hk, Option.bind_some]
  rw [g]
  unfold layerB
  congr 1
  cases h1 : mfit x.f1 n n with
  | false => simp
  | true => rw [mfit_width _ _ _ h1]; cases gainB x.f0 n <;> cases gainB x.f5 n <;> cases widthB (x.f6.f1.length : Int) <;> rfl
theorem impl_mfit (x : S36) (a b : Int) (h : iMatrix x ≤ 1048576) (k : Nat) (hk : 1000 < k) : impl_withinBudget.g k x a b = some (mfit x a b) := by
  obtain ⟨h1, h2, h3⟩ := mat_rows x h
  exact impl_fit _ _ _ _ _ _ _ (by omega) h2 k hk
theorem impl_four (x : S48) (n : Int) (h : iLayer x ≤ 1048576) (rest : Option Bool) (c : Bool) (hr : rest = some c) (k : Nat) (hk : 2000 < k) :
    (impl_LayerOk.l0 x n k 0).bind (fun o => match o with | .inl r_ => some r_ | .inr _ => rest) = some (mfit x.f1 n n && (mfit x.f2 n n && (mfit x.f3 n n && (mfit x.f4 n n && c)))) := by
  have e : iLayer x = x.f0.length + (iMatrix x.f1 + (iMatrix x.f2 + (iMatrix x.f3 + (iMatrix x.f4 + (x.f5.length + (iMatrix x.f6 + iMatrix x.f7)))))) := rfl
  obtain ⟨k, rfl⟩ : ∃ m, k = m + 5 := ⟨k - 5, by omega⟩
  have step : ∀ (k i : Nat) (m : S36) (d : Bool), i < 4 → [x.f1, x.f2, x.f3, x.f4].getD i o36 = m → iMatrix m ≤ 1048576 → 1000 < k →
      (impl_LayerOk.l0 x n k ((i + 1 : Nat) : Int)).bind (fun o => match o with | .inl r_ => some r_ | .inr _ => rest) = some d → (impl_LayerOk.l0 x n (k + 1) (i : Int)).bind (fun o => match o with | .inl r_ => some r_ | .inr _ => rest) = some (mfit m n n && d) := by
    intro k i m d hi hm hM hk hd
    unfold impl_LayerOk.l0 impl_LayerOk.b0
    rw [if_pos (by omega), if_pos (by omega), Int.toNat_natCast, hm, impl_mfit m n n hM k hk, Option.bind_some, w64 (by omega) (by omega), show ((i : Int) + 1) = ((i + 1 : Nat) : Int) by omega]
    cases mfit m n n with
    | false => rfl
    | true => rw [if_pos rfl, hd]; rfl
  refine step (k + 4) 0 x.f1 _ (by omega) rfl (by omega) (by omega) ?_
  refine step (k + 3) 1 x.f2 _ (by omega) rfl (by omega) (by omega) ?_
  refine step (k + 2) 2 x.f3 _ (by omega) rfl (by omega) (by omega) ?_
  refine step (k + 1) 3 x.f4 _ (by omega) rfl (by omega) (by omega) ?_
  unfold impl_LayerOk.l0 impl_LayerOk.b0
  rw [if_neg (by omega), hr]; rfl
theorem impl_layer (x : S48) (n : Int) (h : iLayer x ≤ 1048576) (k : Nat) (hk : 2000 < k) : impl_LayerOk.g k x n = some (layerB x n) := by
  have e : iLayer x = x.f0.length + (iMatrix x.f1 + (iMatrix x.f2 + (iMatrix x.f3 + (iMatrix x.f4 + (x.f5.length + (iMatrix x.f6 + iMatrix x.f7)))))) := rfl
  unfold impl_LayerOk.g layerB
  refine bind_and _ _ _ _ (impl_gainB x.f0 n) fun _ => bind_and _ _ _ _ (impl_gainB x.f5 n) fun _ => bind_and _ _ _ _ (impl_width _) fun _ => ?_
  refine impl_four x n h _ _ (bind_and _ _ _ _ (impl_mfit x.f6 n _ (by omega) k (by omega)) fun _ => ?_) k hk
  rw [impl_mfit x.f7 _ n (by omega) k (by omega), Option.bind_some]

def mMerges (x : List S129) : Nat := x.length
def mTurns (x : S29) : Nat := mIntss x.f0 + mIntss x.f1
def mLayers : List S44 → Nat := szL mLayer
def mModel (x : S31) : Nat := mMerges x.f3 + (mIntss x.f4 + (mLayers x.f5 + (x.f6.length + (mMatrix x.f7 + mTurns x.f8))))
def gMerge (x : S129) : S112 := ⟨x.f0, x.f1⟩
def gMerges : List S129 → List S112 := List.map gMerge
def gLayers : List S44 → List S48 := List.map gLayer
theorem szTurns_m (k : Nat) (x : S29) (n : Int) (ok : okT29 x) (hk : mTurns x < k) (h0 : 0 ≤ n) (h1 : n ≤ 1048576) : laws_szTurns.g k x n = lessS n (mTurns x) := by
  have h : mTurns x = mIntss x.f0 + mIntss x.f1 := rfl
  exact sz_then (szIntss_ok k x.f0 n ok.1 (by omega) h0 h1) h0 fun g => sz_end (szIntss_ok k x.f1 _ ok.2 (by omega) (by omega) (by omega)) (by omega)
theorem toMerges_m (k : Nat) (x : List S129) (h : mMerges x ≤ 1048576) (hk : mMerges x < k) : laws_toMergeS.g k x = some (gMerges x) := by
  unfold mMerges at h hk
  exact to_listW o129 o112 x (laws_toMergeS.l0 x) (fun k y => laws_toMerge.g k y) gMerge (fun _ => 0) (fun _ _ _ => rfl) (fun k y _ _ => rfl) (by omega) k (by rw [szL_zero]; exact hk)
theorem toTurns_m (k : Nat) (x : S29) (h : mTurns x ≤ 1048576) (hk : mTurns x < k) : laws_toTurns.g k x = some ⟨x.f0, x.f1⟩ := by
  have g : mTurns x = mIntss x.f0 + mIntss x.f1 := rfl
  unfold laws_toTurns.g
  rw [toIntSS_same k x.f0 (by omega) (by omega), Option.bind_some, toIntSS_same k x.f1 (by omega) (by omega), Option.bind_some]
def iLayers : List S48 → Nat := szL iLayer
theorem i_layers (x : List S44) : iLayers (gLayers x) = mLayers x := by unfold iLayers mLayers gLayers szL; rw [sumS_map' gLayer mLayer iLayer i_layer, List.length_map]
theorem eqTurns_i (k : Nat) (x : S37) (h : mIntss x.f0 + mIntss x.f1 ≤ 1048576) (hk : mIntss x.f0 + mIntss x.f1 < k) : laws_eqTurns.g k x x = some true := by
  unfold laws_eqTurns.g
  rw [eqIntSS_same k x.f0 (by omega) (by omega), Option.bind_some, if_pos rfl, eqIntSS_same k x.f1 (by omega) (by omega), Option.bind_some, if_pos rfl]
theorem eqMerges_i (k : Nat) (x : List S112) (h : x.length ≤ 1048576) (hk : x.length < k) : laws_eqMergeS.g k x x = some true :=
  eq_listW o112 x (laws_eqMergeS.l0 x x) (fun k y => laws_eqMerge.g k y y) (fun _ => 0) (fun _ _ => rfl) (fun k y _ _ => by unfold laws_eqMerge.g; rw [if_pos rfl, if_pos rfl]) (by omega) k (by rw [szL_zero]; exact hk)
-- the same over wp.py's own prints
theorem szMerges_m (x : List S129) (n : Int) (hl : x.length ≤ 9223372036854775807) (h0 : 0 ≤ n) (h1 : n ≤ 1048576) {k : Nat} : laws_szMergeS.g k x n = lessS n (mMerges x) := by
  unfold laws_szMergeS.g lessS mMerges
  rw [w64 (i := n - (x.length : Int)) (by omega) (by omega)]
  by_cases c : n < (x.length : Int)
  · rw [if_pos (by omega), if_pos c]
  · rw [if_neg (by omega), if_neg c]

theorem szLayers_from (l : List S44) (hl : l.length ≤ 9223372036854775807) (hok : ∀ x ∈ l, okT44 x) (d : Nat) : ∀ (k i : Nat) (n : Int), i ≤ l.length → l.length - i = d → d + sumS mLayer (l.drop i) < k → 0 ≤ n → n ≤ 1048576 →
    (laws_szLayerS.l0 l k n (i : Int)).bind (fun o => match o with | .inl r_ => some r_ | .inr ⟨a, _⟩ => some a) = lessS n (sumS mLayer (l.drop i)) := by
  induction d with
  | zero =>
    intro k i n hi hd hk h0 h1
    obtain ⟨k, rfl⟩ : ∃ m, k = m + 1 := ⟨k - 1, by omega⟩
    rw [List.drop_of_length_le (by omega)]
    unfold laws_szLayerS.l0 laws_szLayerS.b0
    rw [if_neg (by omega)]
    show some n = some (if n < 0 then -1 else n - 0)
    rw [if_neg (by omega)]; simp
  | succ d ih =>
    intro k i n hi hd hk h0 h1
    obtain ⟨k, rfl⟩ : ∃ m, k = m + 1 := ⟨k - 1, by omega⟩
    have hlt : i < l.length := by omega
    rw [List.drop_eq_getElem_cons hlt, sumS_cons] at hk ⊢
    unfold laws_szLayerS.l0 laws_szLayerS.b0
    rw [if_pos (by omega), if_pos (by omega), getD_int l _ i hlt, szLayer_g k l[i] n (hok _ (List.getElem_mem hlt)) (by omega) h0 h1]
    unfold lessS
    rw [Option.bind_some]
    by_cases c : n < (mLayer l[i] : Int)
    · rw [if_pos c, if_pos (by omega), if_pos (by omega)]; rfl
    · rw [if_neg c, if_neg (by omega), w64 (by omega) (by omega), show ((i : Int) + 1) = ((i + 1 : Nat) : Int) by omega, ih k (i + 1) _ (by omega) (by omega) (by omega) (by omega) (by omega)]
      unfold lessS
      by_cases e : n - (mLayer l[i] : Int) < (sumS mLayer (l.drop (i + 1)) : Int)
      · rw [if_pos e, if_pos (by omega)]
      · rw [if_neg e, if_neg (by omega)]; congr 1; omega
theorem szLayers_g (k : Nat) (l : List S44) (n : Int) (ok : okT24 l) (hk : mLayers l < k) (h0 : 0 ≤ n) (h1 : n ≤ 1048576) : laws_szLayerS.g k l n = lessS n (mLayers l) := by
  have hl := ok.1
  unfold mLayers szL at hk ⊢
  unfold laws_szLayerS.g
  rw [w64 (i := n - (l.length : Int)) (by omega) (by omega)]
  by_cases c : n - (l.length : Int) < 0
  · rw [if_pos c]; unfold lessS; rw [if_pos (by omega)]
  · rw [if_neg c]
    have := szLayers_from l hl ok.2 l.length k 0 (n - l.length) (by omega) (by omega) (by rw [List.drop_zero]; omega) (by omega) (by omega)
    rw [List.drop_zero] at this
    rw [show (0 : Int) = ((0 : Nat) : Int) from rfl]
    refine this.trans ?_
    unfold lessS
    by_cases e : n - (l.length : Int) < (sumS mLayer l : Int)
    · rw [if_pos e, if_pos (by omega)]
    · rw [if_neg e, if_neg (by omega)]; congr 1; omega
theorem szModel_g (k : Nat) (x : S31) (n : Int) (ok : okT31 x) (hk : mModel x < k) (h0 : 0 ≤ n) (h1 : n ≤ 1048576) : laws_szModel.g k x n = lessS n (mModel x) := by
  have h : mModel x = mMerges x.f3 + (mIntss x.f4 + (mLayers x.f5 + (x.f6.length + (mMatrix x.f7 + mTurns x.f8)))) := rfl
  obtain ⟨o0, o1, o2, o3, o4, o5, o6, o7, o8⟩ := ok
  unfold laws_szModel.g
  rw [h]
  exact sz_then (szMerges_m x.f3 n o3.1 h0 h1) h0 fun g0 => sz_then (szIntss_ok k x.f4 _ o4 (by omega) (by omega) (by omega)) (by omega) fun g1 => sz_then (szLayers_g k x.f5 _ o5 (by omega) (by omega) (by omega)) (by omega) fun g2 =>
    sz_then (szInts_tells x.f6 o6.1 _ (by omega) (by omega)) (by omega) fun g3 => sz_then (szMatrix_m k x.f7 _ o7 (by omega) (by omega) (by omega)) (by omega) fun g4 => sz_end (szTurns_m k x.f8 _ o8 (by omega) (by omega) (by omega)) (by omega)
theorem toLayers_from (l : List S44) (hl : l.length ≤ 9223372036854775807) (hs : ∀ x ∈ l, mLayer x ≤ 1048576) (d : Nat) : ∀ (k i : Nat), i ≤ l.length → l.length - i = d → d + sumS mLayer (l.drop i) < k →
    ∃ j, laws_toLayerS.l0 l k (i : Int) ((l.take i).map gLayer ++ List.replicate (l.length - i) o48) = some (j, l.map gLayer) := by
  induction d with
  | zero =>
    intro k i hi hd hk
    obtain ⟨k, rfl⟩ : ∃ m, k = m + 1 := ⟨k - 1, by omega⟩
    unfold laws_toLayerS.l0 laws_toLayerS.b0
    rw [if_neg (by omega), List.take_of_length_le (by omega), hd]; simp
  | succ d ih =>
    intro k i hi hd hk
    obtain ⟨k, rfl⟩ : ∃ m, k = m + 1 := ⟨k - 1, by omega⟩
    have hlt : i < l.length := by omega
    rw [List.drop_eq_getElem_cons hlt, sumS_cons] at hk
    unfold laws_toLayerS.l0 laws_toLayerS.b0
    rw [if_pos (by omega), if_pos (by omega), getD_int l _ i hlt, toLayer_g k l[i] (hs _ (List.getElem_mem hlt)) (by omega), Option.bind_some, if_pos (by simp; omega), w64 (by omega) (by omega), show ((i : Int) + 1) = ((i + 1 : Nat) : Int) by omega]
    have e : ((l.take i).map gLayer ++ List.replicate (l.length - i) o48).set (i : Int).toNat (gLayer l[i]) = (l.take (i + 1)).map gLayer ++ List.replicate (l.length - (i + 1)) o48 := by
      rw [Int.toNat_natCast, List.set_append_right _ _ (by simp; omega), show l.length - i = (l.length - (i + 1)) + 1 by omega, List.replicate_succ, List.length_map, List.length_take, Nat.min_eq_left (by omega), Nat.sub_self, List.set_cons_zero, List.take_succ_eq_append_getElem hlt, List.map_append, List.append_assoc]
      rfl
    rw [e]
    exact ih k (i + 1) (by omega) (by omega) (by omega)
theorem toLayers_g (k : Nat) (l : List S44) (h : mLayers l ≤ 1048576) (hk : mLayers l < k) : laws_toLayerS.g k l = some (gLayers l) := by
  unfold mLayers szL at h hk
  obtain ⟨j, e⟩ := toLayers_from l (by omega) (fun x hx => by have := sumS_le mLayer l x hx; omega) l.length k 0 (by omega) (by omega) (by rw [List.drop_zero]; omega)
  unfold laws_toLayerS.g
  rw [if_pos ⟨by omega, by omega⟩, Int.toNat_natCast]
  simp only [List.take_zero, List.map_nil, List.nil_append, Nat.sub_zero] at e
  rw [show (0 : Int) = ((0 : Nat) : Int) from rfl, e]; rfl
def gModel (x : S31) : S39 := ⟨x.f0, x.f1, x.f2, gMerges x.f3, x.f4, gLayers x.f5, x.f6, gMatrix x.f7, ⟨x.f8.f0, x.f8.f1⟩⟩
theorem toModel_g (k : Nat) (x : S31) (h : mModel x ≤ 1048576) (hk : mModel x < k) : laws_toModel.g k x = some (gModel x) := by
  have g : mModel x = mMerges x.f3 + (mIntss x.f4 + (mLayers x.f5 + (x.f6.length + (mMatrix x.f7 + mTurns x.f8)))) := rfl
  unfold laws_toModel.g
  rw [toMerges_m k x.f3 (by omega) (by omega), Option.bind_some, toIntSS_same k x.f4 (by omega) (by omega), Option.bind_some, toLayers_g k x.f5 (by omega) (by omega), Option.bind_some, to_tells x.f6 (by omega) k (by omega), Option.bind_some,
    toMatrix_m k x.f7 (by omega) (by omega), Option.bind_some, toTurns_m k x.f8 (by omega) (by omega), Option.bind_some]
  rfl
theorem eqLayers_from (l : List S48) (hl : l.length ≤ 9223372036854775807) (hs : ∀ x ∈ l, iLayer x ≤ 1048576) (d : Nat) : ∀ (k i : Nat), i ≤ l.length → l.length - i = d → d + sumS iLayer (l.drop i) < k →
    ∃ j, laws_eqLayerS.l0 l l k (i : Int) = some (.inr j) := by
  induction d with
  | zero =>
    intro k i hi hd hk
    obtain ⟨k, rfl⟩ : ∃ m, k = m + 1 := ⟨k - 1, by omega⟩
    unfold laws_eqLayerS.l0 laws_eqLayerS.b0
    rw [if_neg (by omega)]; exact ⟨_, rfl⟩
  | succ d ih =>
    intro k i hi hd hk
    obtain ⟨k, rfl⟩ : ∃ m, k = m + 1 := ⟨k - 1, by omega⟩
    have hlt : i < l.length := by omega
    rw [List.drop_eq_getElem_cons hlt, sumS_cons] at hk
    unfold laws_eqLayerS.l0 laws_eqLayerS.b0
    rw [if_pos (by omega), if_pos (by omega), if_pos (by omega), getD_int l _ i hlt, eqLayer_g k l[i] (hs _ (List.getElem_mem hlt)) (by omega), Option.bind_some, if_pos rfl, w64 (by omega) (by omega), show ((i : Int) + 1) = ((i + 1 : Nat) : Int) by omega]
    exact ih k (i + 1) (by omega) (by omega) (by omega)
theorem eqLayers_g (k : Nat) (l : List S48) (h : iLayers l ≤ 1048576) (hk : iLayers l < k) : laws_eqLayerS.g k l l = some true := by
  unfold iLayers szL at h hk
  obtain ⟨j, e⟩ := eqLayers_from l (by omega) (fun x hx => by have := sumS_le iLayer l x hx; omega) l.length k 0 (by omega) (by omega) (by rw [List.drop_zero]; omega)
  unfold laws_eqLayerS.g
  rw [if_pos rfl, show (0 : Int) = ((0 : Nat) : Int) from rfl, e]; rfl
def iModel (x : S39) : Nat := x.f3.length + (mIntss x.f4 + (iLayers x.f5 + (x.f6.length + (iMatrix x.f7 + (mIntss x.f8.f0 + mIntss x.f8.f1)))))
theorem i_model (x : S31) : iModel (gModel x) = mModel x := by
  show (x.f3.map gMerge).length + (mIntss x.f4 + (iLayers (gLayers x.f5) + (x.f6.length + (mMatrix x.f7 + mTurns x.f8)))) = _
  rw [i_layers, List.length_map]; rfl
theorem eqModel_g (k : Nat) (x : S39) (h : iModel x ≤ 1048576) (hk : iModel x < k) : laws_eqModel.g k x x = some true := by
  unfold iModel at h hk
  unfold laws_eqModel.g
  rw [if_pos rfl, if_pos rfl, if_pos rfl, eqMerges_i k x.f3 (by omega) (by omega), Option.bind_some, if_pos rfl, eqIntSS_same k x.f4 (by omega) (by omega), Option.bind_some, if_pos rfl, eqLayers_g k x.f5 (by omega) (by omega), Option.bind_some, if_pos rfl,
    eqInts_i k x.f6 (by omega) (by omega), Option.bind_some, if_pos rfl, eqMatrix_i k x.f7 (by omega) (by omega), Option.bind_some, if_pos rfl, eqTurns_i k x.f8 (by omega) (by omega), Option.bind_some, if_pos rfl]


def vocabM (x : S39) : Int := wrap64 (256 + (x.f3.length : Int))
def rowI (n : Int) (l : List Int) : Bool := decide ((l.length : Int) = n) && l.all fun x => decide (-127 ≤ x) && decide (x ≤ 127)
/-- what a good model is. -/
def modelB (x : S39) : Bool := widthB x.f0 && ((decide (1 ≤ x.f1) && decide (x.f1 ≤ 2)) && (mergesB x.f3 && (decide ((x.f4.length : Int) = vocabM x) && ((decide (1 ≤ (x.f5.length : Int)) && decide ((x.f5.length : Int) ≤ 2)) &&
  (x.f4.all (rowI x.f0) && (x.f5.all (fun y => layerB y x.f0) && (gainB x.f6 x.f0 && (mfit x.f7 x.f0 (vocabM x) && turnsB x.f8.f0 x.f8.f1 x.f2 (wrap64 (Int.tdiv (wrap64 (Int.tdiv x.f0 x.f1)) 2))))))))))
theorem spec_layers_from (x : S39) (L : Nat → Int → Option (Bool ⊕ Int)) (hL : ∀ k i, L (k + 1) i = spec_ModelOk.b0 x (L k) k i) (hl : x.f5.length ≤ 1048576) (hs : ∀ y ∈ x.f5, iLayer y ≤ 1048576) (rest : Option Bool) (c : Bool) (hc : rest = some c) (d : Nat) : ∀ (k i : Nat), i + d = x.f5.length → d + 3000001 < k →
    (L k (i : Int)).bind (fun o => match o with | .inl r_ => some r_ | .inr _ => rest) = some (((List.range x.f5.length).drop i).all (fun i => layerB (x.f5.getD i o48) x.f0) && c) := by
  induction d with
  | zero =>
    intro k i hi hk
    obtain ⟨k, rfl⟩ : ∃ m, k = m + 1 := ⟨k - 1, by omega⟩
    rw [hL]; unfold spec_ModelOk.b0
    rw [if_neg (by omega), List.drop_of_length_le (by simp; omega), hc]; rfl
  | succ d ih =>
    intro k i hi hk
    obtain ⟨k, rfl⟩ : ∃ m, k = m + 1 := ⟨k - 1, by omega⟩
    have hm : x.f5.getD i o48 ∈ x.f5 := by rw [List.getD_eq_getElem?_getD, List.getElem?_eq_getElem (by omega)]; exact List.getElem_mem _
    rw [hL]; unfold spec_ModelOk.b0
    rw [if_pos (by omega), if_pos (by omega), Int.toNat_natCast, all_drop _ _ i (by omega), spec_layer _ _ (hs _ hm) k (by omega), Option.bind_some]
    cases layerB (x.f5.getD i o48) x.f0 with
    | false => rfl
    | true => rw [if_pos rfl, w64 (by omega) (by omega), show ((i : Int) + 1) = ((i + 1 : Nat) : Int) by omega, ih k (i + 1) (by omega) (by omega)]; rfl
theorem spec_rows_from (x : S39) (L : Nat → Int → Option (Bool ⊕ Int)) (hL : ∀ k i, L (k + 1) i = spec_ModelOk.b1 x (L k) k i) (hw : x.f0 ≤ 8) (hl : x.f4.length ≤ 1048576) (rest : Option Bool) (c : Bool) (hc : rest = some c) (d : Nat) : ∀ (k i : Nat), i + d = x.f4.length → d + 20 < k →
    (L k (i : Int)).bind (fun o => match o with | .inl r_ => some r_ | .inr _ => rest) = some (((List.range x.f4.length).drop i).all (fun i => rowI x.f0 (x.f4.getD i [])) && c) := by
  induction d with
  | zero =>
    intro k i hi hk
    obtain ⟨k, rfl⟩ : ∃ m, k = m + 1 := ⟨k - 1, by omega⟩
    rw [hL]; unfold spec_ModelOk.b1
    rw [if_neg (by omega), List.drop_of_length_le (by simp; omega), hc]; rfl
  | succ d ih =>
    intro k i hi hk
    obtain ⟨k, rfl⟩ : ∃ m, k = m + 1 := ⟨k - 1, by omega⟩
    rw [hL]; unfold spec_ModelOk.b1
    rw [if_pos (by omega), if_pos (by omega), Int.toNat_natCast, all_drop _ _ i (by omega)]
    unfold rowI
    by_cases h1 : ((x.f4.getD i []).length : Int) = x.f0
    · rw [if_pos h1, decide_eq_true h1, all_tells _ _ _ (by omega) k (by omega), Option.bind_some, Bool.true_and]
      cases (x.f4.getD i []).all fun x => decide (-127 ≤ x) && decide (x ≤ 127) with
      | false => rfl
      | true => rw [if_pos rfl, w64 (by omega) (by omega), show ((i : Int) + 1) = ((i + 1 : Nat) : Int) by omega, ih k (i + 1) (by omega) (by omega)]; rfl
    · rw [if_neg h1, decide_eq_false h1]; rfl
theorem model_size (x : S39) (h : iModel x ≤ 1048576) : x.f3.length ≤ 1048576 ∧ x.f4.length ≤ 1048576 ∧ x.f5.length ≤ 1048576 ∧ (∀ y ∈ x.f5, iLayer y ≤ 1048576) ∧ x.f6.length ≤ 1048576 ∧ iMatrix x.f7 ≤ 1048576 := by
  unfold iModel at h
  have e := mIntss_eq x.f4
  have g : iLayers x.f5 = x.f5.length + sumS iLayer x.f5 := rfl
  exact ⟨by omega, by omega, by omega, fun y hy => by have := sumS_le iLayer x.f5 y hy; omega, by omega, by omega⟩
theorem impl_rows_from (x : S39) (l : List (List Int)) (hl : l.length ≤ 1048576) (d : Nat) : ∀ (k i : Nat), i + d = l.length → d < k →
    ∃ r : Int, (slices_IndexFunc_int_int_73.l0 l x k (i : Int)).bind (fun o => match o with | .inl r_ => some r_ | .inr _ => some (-1)) = some r ∧ decide (r ≥ 0) = !(((List.range l.length).drop i).all fun i => rowI x.f0 (l.getD i [])) := by
  induction d with
  | zero =>
    intro k i hi hk
    obtain ⟨k, rfl⟩ : ∃ m, k = m + 1 := ⟨k - 1, by omega⟩
    unfold slices_IndexFunc_int_int_73.l0 slices_IndexFunc_int_int_73.b0
    rw [if_neg (by omega), List.drop_of_length_le (by simp; omega)]
    exact ⟨_, rfl, rfl⟩
  | succ d ih =>
    intro k i hi hk
    obtain ⟨k, rfl⟩ : ∃ m, k = m + 1 := ⟨k - 1, by omega⟩
    unfold slices_IndexFunc_int_int_73.l0 slices_IndexFunc_int_int_73.b0
    have e : impl_ModelOk_1.g k (l.getD i []) x = some (!rowI x.f0 (l.getD i [])) := by
      unfold impl_ModelOk_1.g rowI impl_allIn.f
      by_cases c : ((l.getD i []).length : Int) = x.f0
      · rw [if_pos c, decide_eq_true c]; rfl
      · rw [if_neg c, decide_eq_false c]; rfl
    rw [if_pos (by omega), if_pos (by omega), Int.toNat_natCast, all_drop _ _ i (by omega), e, Option.bind_some]
    cases rowI x.f0 (l.getD i []) with
    | false => rw [if_pos (show (!false) = true from rfl)]; exact ⟨_, rfl, by rw [decide_eq_true (by omega)]; rfl⟩
    | true =>
      rw [if_neg (by simp), w64 (by omega) (by omega), show ((i : Int) + 1) = ((i + 1 : Nat) : Int) by omega]
      exact ih k (i + 1) (by omega) (by omega)
theorem impl_layers_from (x : S39) (l : List S48) (hl : l.length ≤ 1048576) (hs : ∀ y ∈ l, iLayer y ≤ 1048576) (d : Nat) : ∀ (k i : Nat), i + d = l.length → d + 3000 < k →
    ∃ r : Int, (slices_IndexFunc_impl_Layer_impl_Layer_76.l0 l x k (i : Int)).bind (fun o => match o with | .inl r_ => some r_ | .inr _ => some (-1)) = some r ∧ decide (r ≥ 0) = !(((List.range l.length).drop i).all fun i => layerB (l.getD i o48) x.f0) := by
  induction d with
  | zero =>
    intro k i hi hk
    obtain ⟨k, rfl⟩ : ∃ m, k = m + 1 := ⟨k - 1, by omega⟩
    unfold slices_IndexFunc_impl_Layer_impl_Layer_76.l0 slices_IndexFunc_impl_Layer_impl_Layer_76.b0
    rw [if_neg (by omega), List.drop_of_length_le (by simp; omega)]
    exact ⟨_, rfl, rfl⟩
  | succ d ih =>
    intro k i hi hk
    obtain ⟨k, rfl⟩ : ∃ m, k = m + 1 := ⟨k - 1, by omega⟩
    unfold slices_IndexFunc_impl_Layer_impl_Layer_76.l0 slices_IndexFunc_impl_Layer_impl_Layer_76.b0
    have hm : l.getD i o48 ∈ l := by rw [List.getD_eq_getElem?_getD, List.getElem?_eq_getElem (by omega)]; exact List.getElem_mem _
    have e : impl_ModelOk_2.g k (l.getD i o48) x = some (!layerB (l.getD i o48) x.f0) := by
      unfold impl_ModelOk_2.g
      rw [impl_layer _ _ (hs _ hm) k (by omega)]; rfl
    rw [if_pos (by omega), if_pos (by omega), Int.toNat_natCast, all_drop _ _ i (by omega), e, Option.bind_some]
    cases layerB (l.getD i o48) x.f0 with
    | false => rw [if_pos (show (!false) = true from rfl)]; exact ⟨_, rfl, by rw [decide_eq_true (by omega)]; rfl⟩
    | true =>
      rw [if_neg (by simp), w64 (by omega) (by omega), show ((i : Int) + 1) = ((i + 1 : Nat) : Int) by omega]
      exact ih k (i + 1) (by omega) (by omega)
theorem bind_nand (p : Option Bool) (a : Bool) (b : Option Bool) (c : Bool) (hp : p = some (!a)) (h : a = true → b = some c) : (p.bind fun t => if t = true then some false else b) = some (a && c) := by
  rw [hp, Option.bind_some]
  cases a with
  | false => rfl
  | true => rw [if_neg (by simp), h rfl]; rfl
theorem impl_model (x : S39) (h : iModel x ≤ 1048576) (k : Nat) (hk : 5000000 < k) : impl_ModelOk.g k x = some (modelB x) := by
  obtain ⟨s3, s4, s5, s5', s6, s7⟩ := model_size x h
  unfold impl_ModelOk.g modelB
  refine bind_and _ _ _ _ (impl_width x.f0) fun hw => bind_and _ _ _ _ (impl_inB x.f1 1 2) fun h1 => bind_and _ _ _ _ (impl_merges x.f3 k (by omega)) fun _ => ?_
  have h0 : x.f1 ≠ 0 := by simp only [Bool.and_eq_true, decide_eq_true_eq] at h1; omega
  rw [show impl_Vocab.g k x = some (vocabM x) from rfl, Option.bind_some]
  by_cases c : (x.f4.length : Int) = vocabM x
  · rw [if_pos c, decide_eq_true c, Bool.true_and]
    obtain ⟨r1, e1, g1⟩ := impl_rows_from x x.f4 s4 x.f4.length k 0 (by omega) (by omega)
    obtain ⟨r2, e2, g2⟩ := impl_layers_from x x.f5 s5 s5' x.f5.length k 0 (by omega) (by omega)
    rw [List.drop_zero, ← all_range (rowI x.f0) [] x.f4] at g1
    rw [List.drop_zero, ← all_range (fun y => layerB y x.f0) o48 x.f5] at g2
    refine bind_and _ _ _ _ (impl_inB _ 1 2) fun _ => bind_nand _ _ _ _ ?_ fun _ => bind_nand _ _ _ _ ?_ fun _ => bind_and _ _ _ _ (impl_gainB x.f6 x.f0) fun _ => ?_
    · have e3 : slices_IndexFunc_int_int_73.g k x.f4 x = some r1 := e1
      unfold slices_ContainsFunc_int_int_73.g
      rw [e3, Option.bind_some, g1]
    · have e3 : slices_IndexFunc_impl_Layer_impl_Layer_76.g k x.f5 x = some r2 := e2
      unfold slices_ContainsFunc_impl_Layer_impl_Layer_76.g
      rw [e3, Option.bind_some, g2]
    · rw [Option.bind_some]
      refine bind_and _ _ _ _ (impl_mfit x.f7 x.f0 _ s7 k (by omega)) fun _ => ?_
      rw [if_pos h0, impl_turns, Option.bind_some]
  · rw [if_neg c, decide_eq_false c]; rfl
-- the same over wp.py's own prints
theorem spec_model_tail (x : S39) (h : iModel x ≤ 1048576) (hw : x.f0 ≤ 8) (h0 : x.f1 ≠ 0) (L0 L1 : Nat → Int → Option (Bool ⊕ Int)) (hL0 : ∀ k i, L0 (k + 1) i = spec_ModelOk.b0 x (L0 k) k i) (hL1 : ∀ k i, L1 (k + 1) i = spec_ModelOk.b1 x (L1 k) k i) (k : Nat) (hk : 5000000 < k) :
    ((spec_MergesOk.g k x.f3).bind fun t16 => (if t16 = true then ((spec_Vocab.g k x).bind fun t24 => (if (x.f4.length : Int) = t24 then ((spec_l01In.f (x.f5.length : Int) 1 2).bind fun t32 => (if t32 = true then ((L1 k 0).bind (fun o110 => match o110 with | .inl r_ => some r_ | .inr i42 => ((L0 k 0).bind (fun o91 => match o91 with | .inl r_ => some r_ | .inr i51 => ((spec_GainOk.g k x.f6 x.f0).bind fun t60 => (if t60 = true then ((spec_Vocab.g k x).bind fun t72 => ((spec_l10Matrix.g k x.f7 x.f0 t72).bind fun t75 => (if t75 = true then (if x.f1 ≠ 0 then ((spec_TurnsOk.g k x.f8 x.f2 (wrap64 (Int.tdiv (wrap64 (Int.tdiv x.f0 x.f1)) 2))).bind fun t88 => (some t88)) else none) else (some false)))) else (some false))))))) else (some false))) else (some false))) else (some false)))
      = some (mergesB x.f3 && (decide ((x.f4.length : Int) = vocabM x) && ((decide (1 ≤ (x.f5.length : Int)) && decide ((x.f5.length : Int) ≤ 2)) &&
  (x.f4.all (rowI x.f0) && (x.f5.all (fun y => layerB y x.f0) && (gainB x.f6 x.f0 && (mfit x.f7 x.f0 (vocabM x) && turnsB x.f8.f0 x.f8.f1 x.f2 (wrap64 (Int.tdiv (wrap64 (Int.tdiv x.f0 x.f1)) 2))))))))) := by
  obtain ⟨s3, s4, s5, s5', s6, s7⟩ := model_size x h
  have hv : spec_Vocab.g k x = some (vocabM x) := rfl
  refine bind_and _ _ _ _ (spec_merges x.f3 k (by omega)) fun _ => ?_
  rw [hv, Option.bind_some]
  by_cases c : (x.f4.length : Int) = vocabM x
  · rw [if_pos c, decide_eq_true c, Bool.true_and]
    refine bind_and _ _ _ _ (spec_in _ 1 2) fun _ => ?_
    have t1 : ((spec_GainOk.g k x.f6 x.f0).bind fun t60 => (if t60 = true then ((spec_Vocab.g k x).bind fun t72 => ((spec_l10Matrix.g k x.f7 x.f0 t72).bind fun t75 => (if t75 = true then (if x.f1 ≠ 0 then ((spec_TurnsOk.g k x.f8 x.f2 (wrap64 (Int.tdiv (wrap64 (Int.tdiv x.f0 x.f1)) 2))).bind fun t88 => (some t88)) else none) else (some false)))) else (some false)))
        = some (gainB x.f6 x.f0 && (mfit x.f7 x.f0 (vocabM x) && turnsB x.f8.f0 x.f8.f1 x.f2 (wrap64 (Int.tdiv (wrap64 (Int.tdiv x.f0 x.f1)) 2)))) := by
      refine bind_and _ _ _ _ (spec_gainB x.f6 x.f0 s6 k (by omega)) fun _ => ?_
      rw [hv, Option.bind_some]
      refine bind_and _ _ _ _ (spec_mfit x.f7 x.f0 _ s7 k (by omega)) fun _ => ?_
      rw [if_pos h0, spec_turns x.f8.f0 x.f8.f1 _ _ k (by omega), Option.bind_some]
    have r1 := spec_rows_from x L1 hL1 hw s4 _ _ (spec_layers_from x L0 hL0 s5 s5' _ _ t1 x.f5.length k 0 (by omega) (by omega)) x.f4.length k 0 (by omega) (by omega)
    rw [List.drop_zero, List.drop_zero, ← all_range (rowI x.f0) [] x.f4, ← all_range (fun y => layerB y x.f0) o48 x.f5] at r1
    exact r1
  · rw [if_neg c, decide_eq_false c]; rfl
theorem spec_model (x : S39) (h : iModel x ≤ 1048576) (k : Nat) (hk : 5000000 < k) : spec_ModelOk.g k x = some (modelB x) := by
  unfold spec_ModelOk.g modelB
  refine bind_and _ _ _ _ (spec_width x.f0) fun hw => ?_
  have hw8 : x.f0 ≤ 8 := by have := width_facts _ hw; omega
  by_cases c1 : x.f1 = 1
  · rw [if_pos c1, show (decide (1 ≤ x.f1) && decide (x.f1 ≤ 2)) = true by rw [c1]; rfl, Bool.true_and]
    exact spec_model_tail x h hw8 (by omega) (spec_ModelOk.l0 x) (spec_ModelOk.l1 x) (fun _ _ => rfl) (fun _ _ => rfl) k hk
  · rw [if_neg c1]
    by_cases c2 : x.f1 = 2
    · rw [if_pos c2, show (decide (1 ≤ x.f1) && decide (x.f1 ≤ 2)) = true by rw [c2]; rfl, Bool.true_and]
      exact spec_model_tail x h hw8 (by omega) (spec_ModelOk.l2 x) (spec_ModelOk.l3 x) (fun _ _ => rfl) (fun _ _ => rfl) k hk
    · rw [if_neg c2, show (decide (1 ≤ x.f1) && decide (x.f1 ≤ 2)) = false by rw [Bool.eq_false_iff]; intro g; simp only [Bool.and_eq_true, decide_eq_true_eq] at g; omega]; rfl
def nibs (l : List Int) : Prop := ∀ z ∈ l, -8 ≤ z ∧ z ≤ 7
/-- a right matrix, as numbers. -/
structure MatR (m : S36) (w r : Nat) : Prop where
  wid : (m.f0 : Int) = (w : Int)
  w48 : w = 4 ∨ w = 8
  rws : m.f1.length = r
  scls : m.f2.length = r
  le : r ≤ 300
  row : ∀ l ∈ m.f1, l.length = w ∧ nibs l
  sc : ∀ l ∈ m.f2, l.length = w / 4 ∧ ∀ z ∈ l, 1 ≤ z ∧ z ≤ 127
  mul : 0 ≤ m.f3 ∧ m.f3 ≤ 65536
  sh : 0 ≤ m.f4 ∧ m.f4 ≤ 24
theorem mat_r (m : S36) (a b : Nat) (h : mfit m (a : Int) (b : Int) = true) : MatR m a b := by
  unfold mfit fitB at h
  simp only [Bool.and_eq_true, decide_eq_true_eq] at h
  obtain ⟨h1, h2, h3, _⟩ := h
  obtain ⟨f1, f2, f3, f4, f5, f6, f7, f8⟩ := mat_facts _ _ _ _ _ h1
  have hr : ∀ i (hi : i < m.f1.length), (m.f1[i].length : Int) = m.f0 ∧ rowB m.f1[i] (m.f2.getD i []) = true := fun i hi => by
    have := f8 i hi
    rwa [List.getD_eq_getElem?_getD, List.getElem?_eq_getElem hi] at this
  refine ⟨h2, by omega, by omega, by omega, by omega, fun l hl => ?_, fun l hl => ?_, ⟨f4, f5⟩, ⟨f6, f7⟩⟩
  · obtain ⟨i, hi, rfl⟩ := List.getElem_of_mem hl
    obtain ⟨g1, g2⟩ := hr i hi
    exact ⟨by omega, (row_facts _ _ g2).2.1⟩
  · obtain ⟨i, hi, rfl⟩ := List.getElem_of_mem hl
    obtain ⟨g1, g2⟩ := hr i (by omega)
    rw [List.getD_eq_getElem?_getD, List.getElem?_eq_getElem hi] at g2
    obtain ⟨_, _, g3, g4⟩ := row_facts _ _ g2
    have g3 : m.f2[i].length = _ := g3
    exact ⟨by rw [g3]; congr 1; omega, g4⟩
def gainR (l : List Int) (n : Nat) : Prop := l.length = n ∧ ∀ z ∈ l, 0 ≤ z ∧ z ≤ 127
theorem gain_r (l : List Int) (n : Nat) (h : gainB l (n : Int) = true) : gainR l n := by
  unfold gainB at h
  split at h
  · rename_i c
    simp only [List.all_eq_true, Bool.and_eq_true, decide_eq_true_eq] at h
    exact ⟨by omega, h⟩
  · cases h
structure LayR (y : S48) (n u : Nat) : Prop where
  u48 : u = 4 ∨ u = 8
  g1 : gainR y.f0 n
  q : MatR y.f1 n n
  k : MatR y.f2 n n
  v : MatR y.f3 n n
  o : MatR y.f4 n n
  g2 : gainR y.f5 n
  up : MatR y.f6 n u
  dn : MatR y.f7 u n
theorem lay_r (y : S48) (n : Nat) (h : layerB y (n : Int) = true) : LayR y n y.f6.f1.length := by
  unfold layerB at h
  simp only [Bool.and_eq_true] at h
  obtain ⟨h0, h5, hw, h1, h2, h3, h4, h6, h7⟩ := h
  have := width_facts _ hw
  exact ⟨by omega, gain_r _ _ h0, mat_r _ _ _ h1, mat_r _ _ _ h2, mat_r _ _ _ h3, mat_r _ _ _ h4, gain_r _ _ h5, mat_r _ _ _ h6, mat_r _ _ _ h7⟩
def turR (l : List (List Int)) (c p : Nat) : Prop := l.length = c ∧ c ≤ 24 ∧ p ≤ 4 ∧ ∀ r ∈ l, r.length = p ∧ ∀ z ∈ r, -128 ≤ z ∧ z ≤ 128
/-- a right model, as numbers: width n, heads hd, places c. -/
structure ModR (x : S39) (n hd c : Nat) : Prop where
  dim : x.f0 = (n : Int)
  n48 : n = 4 ∨ n = 8
  hds : x.f1 = (hd : Int)
  h12 : hd = 1 ∨ hd = 2
  ctx : x.f2 = (c : Int)
  c4 : 4 ≤ c
  c24 : c ≤ 24
  ml : x.f3.length ≤ 16
  mt : ∀ m ∈ x.f3, (0 ≤ m.f0 ∧ m.f0 ≤ 300) ∧ (0 ≤ m.f1 ∧ m.f1 ≤ 300)
  el : x.f4.length = 256 + x.f3.length
  er : ∀ r ∈ x.f4, r.length = n ∧ ∀ z ∈ r, -127 ≤ z ∧ z ≤ 127
  ll : 1 ≤ x.f5.length ∧ x.f5.length ≤ 2
  lr : ∀ y ∈ x.f5, LayR y n y.f6.f1.length
  ge : gainR x.f6 n
  hm : MatR x.f7 n (256 + x.f3.length)
  cs : turR x.f8.f0 c (n / hd / 2)
  sn : turR x.f8.f1 c (n / hd / 2)
theorem tur_r (l : List (List Int)) (a p : Int) (c q : Nat) (h1 : (l.length : Int) = a) (h2 : l.all (rowT p) = true) (ha : a = (c : Int)) (hp : p = (q : Int)) (hc : c ≤ 24) (hq : q ≤ 4) : turR l c q := by
  refine ⟨by omega, hc, hq, fun r hr => ?_⟩
  have := List.all_eq_true.1 h2 r hr
  unfold rowT at this
  simp only [List.all_eq_true, Bool.and_eq_true, decide_eq_true_eq] at this
  exact ⟨by omega, this.2⟩
theorem merges_r (l : List S112) (h : mergesB l = true) : l.length ≤ 16 ∧ ∀ m ∈ l, (0 ≤ m.f0 ∧ m.f0 ≤ 300) ∧ (0 ≤ m.f1 ∧ m.f1 ≤ 300) := by
  unfold mergesB at h
  rw [Bool.and_eq_true, decide_eq_true_eq] at h
  obtain ⟨ml, mt⟩ := h
  refine ⟨ml, fun m hm => ?_⟩
  obtain ⟨i, hi, rfl⟩ := List.getElem_of_mem hm
  have g := List.all_eq_true.1 mt i (List.mem_range.2 hi)
  rw [Bool.and_eq_true] at g
  have g := g.2
  unfold sizB toksB tokB at g
  rw [show atM l i = l[i] by unfold atM; rw [List.getD_eq_getElem?_getD, List.getElem?_eq_getElem hi]; rfl] at g
  simp only [Bool.and_eq_true, decide_eq_true_eq] at g
  obtain ⟨⟨⟨a1, a2⟩, ⟨a3, a4⟩⟩, _⟩ := g
  exact ⟨⟨a1, by omega⟩, ⟨a3, by omega⟩⟩
theorem rowI_r (r : List Int) (n : Nat) (h : rowI (n : Int) r = true) : r.length = n ∧ ∀ z ∈ r, -127 ≤ z ∧ z ≤ 127 := by
  unfold rowI at h
  simp only [Bool.and_eq_true, decide_eq_true_eq, List.all_eq_true] at h
  exact ⟨by omega, h.2⟩
theorem turns_r (R S : List (List Int)) (a : Int) (p : Nat) (h : turnsB R S a (p : Int) = true) : ∃ c : Nat, a = (c : Int) ∧ 4 ≤ c ∧ c ≤ 24 ∧ turR R c p ∧ turR S c p := by
  unfold turnsB at h
  simp only [Bool.and_eq_true, decide_eq_true_eq] at h
  obtain ⟨⟨c0, c1⟩, ⟨_, p4⟩, ⟨t1, t2⟩, ⟨t3, t4⟩⟩ := h
  obtain ⟨c, hc⟩ : ∃ n : Nat, a = (n : Int) := ⟨a.toNat, by omega⟩
  exact ⟨c, hc, by omega, by omega, tur_r _ _ _ c _ t1 t2 hc rfl (by omega) (by omega), tur_r _ _ _ c _ t3 t4 hc rfl (by omega) (by omega)⟩
theorem heads_is (n hd : Nat) (n48 : n = 4 ∨ n = 8) (h12 : hd = 1 ∨ hd = 2) : wrap64 (Int.tdiv (wrap64 (Int.tdiv (n : Int) (hd : Int))) 2) = ((n / hd / 2 : Nat) : Int) := by
  rcases n48 with rfl | rfl <;> rcases h12 with rfl | rfl <;> decide +kernel
theorem vocab_is (x : S39) (h : x.f3.length ≤ 16) : vocabM x = ((256 + x.f3.length : Nat) : Int) := by unfold vocabM; rw [w64 (by omega) (by omega)]; omega
theorem nat_of {a : Int} (h : a = 4 ∨ a = 8) : ∃ n : Nat, a = (n : Int) ∧ (n = 4 ∨ n = 8) := by
  rcases h with rfl | rfl
  · exact ⟨4, rfl, .inl rfl⟩
  · exact ⟨8, rfl, .inr rfl⟩
theorem nat_12 {a : Int} (h : 1 ≤ a) (h2 : a ≤ 2) : ∃ n : Nat, a = (n : Int) ∧ (n = 1 ∨ n = 2) := ⟨a.toNat, by omega, by omega⟩
theorem mod_r (x : S39) (h : modelB x = true) : ∃ n hd c, ModR x n hd c := by
  unfold modelB at h
  obtain ⟨h0, h⟩ := Bool.and_eq_true .. ▸ h
  obtain ⟨h1, h⟩ := Bool.and_eq_true .. ▸ h
  obtain ⟨h3, h⟩ := Bool.and_eq_true .. ▸ h
  obtain ⟨h4, h⟩ := Bool.and_eq_true .. ▸ h
  obtain ⟨h5, h⟩ := Bool.and_eq_true .. ▸ h
  obtain ⟨h6, h⟩ := Bool.and_eq_true .. ▸ h
  obtain ⟨h7, h⟩ := Bool.and_eq_true .. ▸ h
  obtain ⟨h8, h⟩ := Bool.and_eq_true .. ▸ h
  obtain ⟨h9, h10⟩ := Bool.and_eq_true .. ▸ h
  obtain ⟨n, hn, n48⟩ := nat_of (width_facts _ h0)
  rw [Bool.and_eq_true, decide_eq_true_eq, decide_eq_true_eq] at h1
  obtain ⟨hd, hhd, h12⟩ := nat_12 h1.1 h1.2
  obtain ⟨ml, mt⟩ := merges_r _ h3
  rw [hn, hhd, heads_is n hd n48 h12] at h10
  obtain ⟨c, hc, c4, c24, t1, t2⟩ := turns_r _ _ _ _ h10
  rw [vocab_is x ml, decide_eq_true_eq] at h4
  rw [vocab_is x ml, hn] at h9
  rw [hn] at h6 h7 h8
  rw [Bool.and_eq_true, decide_eq_true_eq, decide_eq_true_eq] at h5
  clear h h0 h1 h3 h10
  exact ⟨n, hd, c, hn, n48, hhd, h12, hc, c4, c24, ml, mt, by omega, fun r hr => rowI_r r n (List.all_eq_true.1 h6 r hr), ⟨by omega, by omega⟩, fun y hy => lay_r y n (List.all_eq_true.1 h7 y hy), gain_r _ _ h8, mat_r _ _ _ h9, t1, t2⟩

def nb (n : Int) : Int := (n + 16) % 16
def packN : List Int → List Int
  | [] => []
  | [a] => [nb a]
  | a :: b :: r => (nb a + 16 * nb b) :: packN r
theorem nib1 : ∀ i : Fin 16, Go.bits .or .u8 0 (shl .u8 (IntKind.u8.wrap (Go.bits .and .i64 ((i.val : Int) - 8) 15)) 0) = nb ((i.val : Int) - 8) := by decide +kernel
theorem nib2 : ∀ i j : Fin 16, Go.bits .or .u8 (nb ((i.val : Int) - 8)) (shl .u8 (IntKind.u8.wrap (Go.bits .and .i64 ((j.val : Int) - 8) 15)) 4) = nb ((i.val : Int) - 8) + 16 * nb ((j.val : Int) - 8) := by decide +kernel
theorem nib_fin (a : Int) (h : -8 ≤ a ∧ a ≤ 7) : ∃ i : Fin 16, a = (i.val : Int) - 8 := ⟨⟨(a + 8).toNat, by omega⟩, by show a = ((a + 8).toNat : Int) - 8; omega⟩
theorem nb_bd (a : Int) : 0 ≤ nb a ∧ nb a ≤ 15 := by unfold nb; omega
theorem packN_len : ∀ l : List Int, (packN l).length = (l.length + 1) / 2
  | [] => rfl
  | [a] => by simp [packN]
  | a :: b :: r => by rw [packN, List.length_cons, packN_len r, List.length_cons, List.length_cons]; omega
theorem drop_at {l : List Int} {n : Nat} {a : Int} {r : List Int} (h : l.drop n = a :: r) : n < l.length ∧ l[n]? = some a ∧ l.drop (n + 1) = r ∧ a ∈ l := by
  have h1 : l[n]? = some a := by
    have := congrArg (fun q => q[0]?) h
    rw [List.getElem?_drop] at this
    simpa using this
  refine ⟨(List.getElem?_eq_some_iff.1 h1).1, h1, ?_, List.mem_of_getElem? h1⟩
  have := congrArg (List.drop 1) h
  rw [List.drop_drop] at this
  simpa using this
theorem getD_at {l : List Int} {n : Nat} {a : Int} (h : l[n]? = some a) : l.getD (n : Int).toNat 0 = a := by
  rw [Int.toNat_natCast, List.getD_eq_getElem?_getD, h]; rfl
theorem tdiv_2 (n : Nat) : Int.tdiv (n : Int) 2 = ((n / 2 : Nat) : Int) := by rw [Int.tdiv_eq_ediv_of_nonneg (by omega)]; omega
theorem tmod_2 (n : Nat) : Int.tmod (n : Int) 2 = ((n % 2 : Nat) : Int) := by rw [Int.tmod_eq_emod_of_nonneg (by omega)]; omega
theorem spec_nb (a : Int) (h : -8 ≤ a ∧ a ≤ 7) : Int.tmod (wrap64 (a + 16)) 16 = nb a := by
  rw [w64 (by omega) (by omega), Int.tmod_eq_emod_of_nonneg (by omega)]; rfl
theorem spec_in8 (a : Int) (h : -8 ≤ a ∧ a ≤ 7) : spec_l01In.f a (-8) 7 = some true := by rw [spec_in, decide_eq_true h.1, decide_eq_true h.2]; rfl
theorem rep_set (m : Nat) (xs : List Int) (v : Int) (h : 0 < m) : (xs ++ List.replicate m (0 : Int)).set xs.length v = (xs ++ [v]) ++ List.replicate (m - 1) 0 := by
  obtain ⟨m, rfl⟩ : ∃ q, m = q + 1 := ⟨m - 1, by omega⟩
  rw [List.set_append_right _ _ (by omega), Nat.sub_self, List.replicate_succ, List.set_cons_zero, List.append_assoc]; rfl
theorem impl_pack_from (l : List Int) (hl : l.length ≤ 10000) (hn : nibs l) : ∀ (rest xs : List Int) (j k : Nat), l.drop (2 * j) = rest → 2 * j ≤ l.length → xs.length = j → rest.length < k →
    impl_PackNibbles.l0 l k ((2 * j : Nat) : Int) (xs ++ List.replicate ((rest.length + 1) / 2) 0) = some ((l.length : Int), xs ++ packN rest)
  | [], xs, j, k, hd, hj, hx, hk => by
    obtain ⟨k, rfl⟩ : ∃ m, k = m + 1 := ⟨k - 1, by simp at hk; omega⟩
    have := List.drop_eq_nil_iff.1 hd
    show impl_PackNibbles.b0 l _ k _ _ = _
    unfold impl_PackNibbles.b0
    rw [if_neg (by omega), packN, show ((2 * j : Nat) : Int) = (l.length : Int) by omega]; rfl
  | [a], xs, j, k, hd, hj, hx, hk => by
    obtain ⟨k, rfl⟩ : ∃ m, k = m + 2 := ⟨k - 2, by simp at hk; omega⟩
    obtain ⟨h1, h2, h3, h4⟩ := drop_at hd
    have := List.drop_eq_nil_iff.1 h3
    obtain ⟨i, hi⟩ := nib_fin a (hn a h4)
    have hz : (xs ++ List.replicate 1 (0 : Int)).getD ((j : Nat) : Int).toNat 0 = 0 := getD_at (by rw [List.getElem?_append_right (by omega), hx, Nat.sub_self]; rfl)
    have hs : (xs ++ List.replicate 1 (0 : Int)).set ((j : Nat) : Int).toNat (nb a) = (xs ++ [nb a]) ++ List.replicate (1 - 1) 0 := by rw [Int.toNat_natCast, ← hx]; exact rep_set 1 xs _ (by omega)
    have hb := nib1 i
    rw [← hi] at hb
    have em : (([a] : List Int).length + 1) / 2 = 1 := by rw [List.length_cons, List.length_nil]
    rw [em]
    show impl_PackNibbles.b0 l (impl_PackNibbles.l0 l (k + 1)) (k + 1) _ (xs ++ List.replicate 1 0) = _
    unfold impl_PackNibbles.b0
    rw [if_pos (by omega), if_pos (by omega), tdiv_2, show (2 * j) / 2 = j by omega, w64 (i := ((j : Nat) : Int)) (by omega) (by omega), if_pos (by rw [List.length_append, List.length_replicate]; omega), tmod_2, show (2 * j) % 2 = 0 by omega, wn (show 4 * ((0 : Nat) : Int) = 0 by omega) (by decide) (by decide), if_pos (by decide), hz, getD_at h2, hb, hs, w64 (i := ((2 * j : Nat) : Int) + 1) (by omega) (by omega)]
    show impl_PackNibbles.b0 l (impl_PackNibbles.l0 l k) k _ _ = _
    unfold impl_PackNibbles.b0
    rw [if_neg (by omega), show ((2 * j : Nat) : Int) + 1 = (l.length : Int) by omega, packN, Nat.sub_self, List.replicate_zero, List.append_nil]
  | a :: b :: r, xs, j, k, hd, hj, hx, hk => by
    obtain ⟨k, rfl⟩ : ∃ m, k = m + 2 := ⟨k - 2, by simp at hk; omega⟩
    obtain ⟨h1, h2, h3, h4⟩ := drop_at hd
    obtain ⟨g1, g2, g3, g4⟩ := drop_at h3
    obtain ⟨i, hi⟩ := nib_fin a (hn a h4)
    obtain ⟨i2, hi2⟩ := nib_fin b (hn b g4)
    have hb := nib1 i
    rw [← hi] at hb
    have hb2 := nib2 i i2
    rw [← hi, ← hi2] at hb2
    obtain ⟨m, hm⟩ : ∃ m, m = (r.length + 1) / 2 := ⟨_, rfl⟩
    have em : ((a :: b :: r).length + 1) / 2 = m + 1 := by rw [List.length_cons, List.length_cons]; omega
    have hz : (xs ++ List.replicate (m + 1) (0 : Int)).getD ((j : Nat) : Int).toNat 0 = 0 := getD_at (by rw [List.getElem?_append_right (by omega), hx, Nat.sub_self]; rfl)
    have hs : (xs ++ List.replicate (m + 1) (0 : Int)).set ((j : Nat) : Int).toNat (nb a) = (xs ++ [nb a]) ++ List.replicate m 0 := by rw [Int.toNat_natCast, ← hx]; exact rep_set (m + 1) xs _ (by omega)
    have hz2 : ((xs ++ [nb a]) ++ List.replicate m (0 : Int)).getD ((j : Nat) : Int).toNat 0 = nb a := getD_at (by rw [List.append_assoc, List.getElem?_append_right (by omega), hx, Nat.sub_self]; rfl)
    have hs2 : ((xs ++ [nb a]) ++ List.replicate m (0 : Int)).set ((j : Nat) : Int).toNat (nb a + 16 * nb b) = (xs ++ [nb a + 16 * nb b]) ++ List.replicate m 0 := by
      rw [Int.toNat_natCast, List.append_assoc, List.set_append_right _ _ (by omega), hx, Nat.sub_self, List.append_assoc]; rfl
    have e : ((2 * j : Nat) : Int) + 1 = ((2 * j + 1 : Nat) : Int) := by omega
    have e2 : ((2 * j + 1 : Nat) : Int) + 1 = ((2 * (j + 1) : Nat) : Int) := by omega
    rw [em]
    show impl_PackNibbles.b0 l (impl_PackNibbles.l0 l (k + 1)) (k + 1) _ (xs ++ List.replicate (m + 1) 0) = _
    unfold impl_PackNibbles.b0
    rw [if_pos (by omega), if_pos (by omega), tdiv_2, show (2 * j) / 2 = j by omega, w64 (i := ((j : Nat) : Int)) (by omega) (by omega), if_pos (by rw [List.length_append, List.length_replicate]; omega), tmod_2, show (2 * j) % 2 = 0 by omega, wn (show 4 * ((0 : Nat) : Int) = 0 by omega) (by decide) (by decide), if_pos (by decide), hz, getD_at h2, hb, hs, w64 (i := ((2 * j : Nat) : Int) + 1) (by omega) (by omega), e]
    show impl_PackNibbles.b0 l (impl_PackNibbles.l0 l k) k _ _ = _
    unfold impl_PackNibbles.b0
    rw [if_pos (by omega), if_pos (by omega), tdiv_2, show (2 * j + 1) / 2 = j by omega, w64 (i := ((j : Nat) : Int)) (by omega) (by omega), if_pos (by rw [List.length_append, List.length_append, List.length_replicate, List.length_cons, List.length_nil]; omega), tmod_2, show (2 * j + 1) % 2 = 1 by omega, wn (show 4 * ((1 : Nat) : Int) = 4 by omega) (by decide) (by decide), if_pos (by decide), hz2, getD_at g2, hb2, hs2, w64 (i := ((2 * j + 1 : Nat) : Int) + 1) (by omega) (by omega), e2]
    rw [hm, impl_pack_from l hl hn r (xs ++ [nb a + 16 * nb b]) (j + 1) k (by rw [show 2 * (j + 1) = 2 * j + 1 + 1 by omega]; exact g3) (by omega) (by rw [List.length_append, List.length_cons, List.length_nil]; omega) (by simp at hk; omega), packN, List.append_assoc]
    rfl
theorem impl_nibs_any (l : List Int) (hl : l.length ≤ 2400) (hn : nibs l) (k : Nat) (hk : l.length < k) : slices_ContainsFunc_int_int_155.g k l = some false := by
  have hE : ∀ k, 0 < k → ∀ x ∈ l, impl_PackNibbles_1.g k x = some (!(fun _ => true) x) := fun k _ x hx => by
    have h := hn x hx
    unfold impl_PackNibbles_1.g impl_isNibble.g
    rw [impl_inB, decide_eq_true h.1, decide_eq_true h.2]; rfl
  have h := loopAny0 l (fun _ => true) (0 : Int) (fun k i => slices_IndexFunc_int_int_155.l0 l k i) (fun k x => impl_PackNibbles_1.g k x) 0 (fun k i => rfl) hE (by omega) k (by omega)
  have ha : (l.all fun _ => true) = true := by simp
  have h : slices_ContainsFunc_int_int_155.g k l = some (!(l.all fun _ => true)) := h
  rw [h, ha]; rfl
theorem impl_pack (l : List Int) (hl : l.length ≤ 2400) (hn : nibs l) (k : Nat) (hk : l.length < k) : impl_PackNibbles.g k l = some (strOfNums (packN l), true) := by
  unfold impl_PackNibbles.g
  have e1 : wrap64 ((l.length : Int) + 1) = ((l.length + 1 : Nat) : Int) := by rw [w64 (by omega) (by omega)]; omega
  have h := impl_pack_from l (by omega) hn l [] 0 k rfl (by omega) rfl hk
  rw [List.nil_append, List.nil_append] at h
  have h : impl_PackNibbles.l0 l k 0 (List.replicate ((l.length + 1) / 2) 0) = some ((l.length : Int), packN l) := h
  rw [if_neg (by omega), impl_nibs_any l hl hn k hk, Option.bind_some, if_neg (by decide), e1, tdiv_2, w64 (i := (((l.length + 1) / 2 : Nat) : Int)) (by omega) (by omega), if_pos (by omega), Int.toNat_natCast, h, Option.bind_some]
-- the same over wp.py's own prints
theorem spec_pack_from (l : List Int) (hl : l.length ≤ 10000) (hn : nibs l) : ∀ (rest xs : List Int) (j k : Nat), l.drop (2 * j) = rest → 2 * j ≤ l.length → xs.length = j → rest.length < k → (spec_PackNibbles.l0 l k xs ((2 * j : Nat) : Int)).bind (fun o => match o with | .inl r_ => some r_ | .inr ⟨xs, _⟩ => some (strOfNums xs, true)) = some (strOfNums (xs ++ packN rest), true)
  | [], xs, j, k, hd, hj, hx, hk => by
    obtain ⟨k, rfl⟩ : ∃ m, k = m + 1 := ⟨k - 1, by simp at hk; omega⟩
    have := List.drop_eq_nil_iff.1 hd
    show (spec_PackNibbles.b0 l _ k xs _).bind _ = _
    unfold spec_PackNibbles.b0
    rw [if_neg (by omega), packN, List.append_nil]; rfl
  | [a], xs, j, k, hd, hj, hx, hk => by
    obtain ⟨k, rfl⟩ : ∃ m, k = m + 2 := ⟨k - 2, by simp at hk; omega⟩
    obtain ⟨h1, h2, h3, h4⟩ := drop_at hd
    have := List.drop_eq_nil_iff.1 h3
    have ha := hn a h4
    have hb := nb_bd a
    have hu : IntKind.u8.wrap (nb a) = nb a := by rw [show IntKind.u8.wrap (nb a) = nb a % 256 from b8_mod _]; omega
    show (spec_PackNibbles.b0 l (spec_PackNibbles.l0 l (k + 1)) (k + 1) xs _).bind _ = _
    unfold spec_PackNibbles.b0
    rw [if_pos (by omega), if_pos (by omega), getD_at h2, spec_in8 a ha, Option.bind_some, if_pos rfl, tmod_2, if_pos (by omega), if_pos (by omega), spec_nb a ha, hu, Option.bind_some]
    show (spec_PackNibbles.l0 l (k + 1) (xs ++ [nb a]) (wrap64 (((2 * j : Nat) : Int) + 1))).bind _ = _
    rw [w64 (by omega) (by omega)]
    show (spec_PackNibbles.b0 l _ k _ _).bind _ = _
    unfold spec_PackNibbles.b0
    rw [if_neg (by omega)]; rfl
  | a :: b :: r, xs, j, k, hd, hj, hx, hk => by
    obtain ⟨k, rfl⟩ : ∃ m, k = m + 2 := ⟨k - 2, by simp at hk; omega⟩
    obtain ⟨h1, h2, h3, h4⟩ := drop_at hd
    obtain ⟨g1, g2, g3, g4⟩ := drop_at h3
    have ha := hn a h4
    have hb := hn b g4
    have ba := nb_bd a
    have bb := nb_bd b
    have u : ∀ n : Int, 0 ≤ n → n ≤ 255 → IntKind.u8.wrap n = n := fun n _ _ => by rw [show IntKind.u8.wrap n = n % 256 from b8_mod _]; omega
    have hr : (xs ++ [nb a]).getD ((j : Nat) : Int).toNat 0 = nb a := getD_at (by rw [List.getElem?_append_right (by omega), hx, Nat.sub_self]; rfl)
    have e : ((2 * j : Nat) : Int) + 1 = ((2 * j + 1 : Nat) : Int) := by omega
    have e2 : ((2 * j + 1 : Nat) : Int) + 1 = ((2 * (j + 1) : Nat) : Int) := by omega
    have es : (xs ++ [nb a]).set j (nb a + 16 * nb b) = xs ++ [nb a + 16 * nb b] := by rw [List.set_append_right _ _ (by omega), hx, Nat.sub_self]; rfl
    show (spec_PackNibbles.b0 l (spec_PackNibbles.l0 l (k + 1)) (k + 1) xs _).bind _ = _
    unfold spec_PackNibbles.b0
    rw [if_pos (by omega), if_pos (by omega), getD_at h2, spec_in8 a ha, Option.bind_some, if_pos rfl, tmod_2, if_pos (by omega), if_pos (by omega), spec_nb a ha, u (nb a) (by omega) (by omega), Option.bind_some]
    show (spec_PackNibbles.l0 l (k + 1) (xs ++ [nb a]) (wrap64 (((2 * j : Nat) : Int) + 1))).bind _ = _
    rw [w64 (i := ((2 * j : Nat) : Int) + 1) (by omega) (by omega), e]
    show (spec_PackNibbles.b0 l (spec_PackNibbles.l0 l k) k _ _).bind _ = _
    unfold spec_PackNibbles.b0
    rw [if_pos (by omega), if_pos (by omega), getD_at g2, spec_in8 b hb, Option.bind_some, if_pos rfl, tmod_2, if_neg (by omega), tdiv_2, show (2 * j + 1) / 2 = j by omega, w64 (i := ((j : Nat) : Int)) (by omega) (by omega), if_pos (by rw [List.length_append, List.length_cons, List.length_nil]; omega), hr, spec_nb b hb,
      w64 (i := 16 * nb b) (by omega) (by omega), u (16 * nb b) (by omega) (by omega), u (nb a + 16 * nb b) (by omega) (by omega), Int.toNat_natCast, es, Option.bind_some]
    show (spec_PackNibbles.l0 l k (xs ++ [nb a + 16 * nb b]) (wrap64 (((2 * j + 1 : Nat) : Int) + 1))).bind _ = _
    rw [w64 (i := ((2 * j + 1 : Nat) : Int) + 1) (by omega) (by omega), e2,
      spec_pack_from l hl hn r (xs ++ [nb a + 16 * nb b]) (j + 1) k (by rw [show 2 * (j + 1) = 2 * j + 1 + 1 by omega]; exact g3) (by omega) (by rw [List.length_append, List.length_cons, List.length_nil]; omega) (by simp at hk; omega), packN, List.append_assoc]
    rfl
theorem spec_pack (l : List Int) (hl : l.length ≤ 2400) (hn : nibs l) (k : Nat) (hk : l.length < k) : spec_PackNibbles.g k l = some (strOfNums (packN l), true) := by
  unfold spec_PackNibbles.g
  rw [if_neg (by omega)]
  have := spec_pack_from l (by omega) hn l [] 0 k rfl (by omega) rfl hk
  rw [List.nil_append] at this
  exact this

def byteL (l : List Int) : Prop := ∀ z ∈ l, 0 ≤ z ∧ z ≤ 255
theorem bytesOf_nums (l : List Int) (h : byteL l) : bytesOf (strOfNums l) = l := by
  unfold bytesOf strOfNums
  rw [List.map_map]
  have : ∀ z ∈ l, ((fun b : UInt8 => (b.toNat : Int)) ∘ fun n : Int => UInt8.ofNat n.toNat) z = z := fun z hz => by
    have := h z hz
    show ((UInt8.ofNat z.toNat).toNat : Int) = z
    rw [UInt8.toNat_ofNat']
    omega
  rw [List.map_congr_left this, List.map_id'']
  exact fun _ => rfl
theorem strOfNums_size (l : List Int) : (strOfNums l).size = l.length := by
  show ((l.map _).toArray).size = _
  simp
theorem packN_bytes (l : List Int) (h : nibs l) : byteL (packN l) := by
  induction l using packN.induct with
  | case1 => intro z hz; cases hz
  | case2 a => intro z hz; rw [packN, List.mem_singleton] at hz; have := nb_bd a; omega
  | case3 a b r ih =>
    intro z hz
    rw [packN] at hz
    rcases List.mem_cons.1 hz with hz | hz
    · have := nb_bd a; have := nb_bd b; omega
    · exact ih (fun y hy => h y (List.mem_cons_of_mem _ (List.mem_cons_of_mem _ hy))) z hz
def matT (m : S36) : List Int := packN m.f1.flatten ++ ((m.f2.map (byts 0)).flatten ++ (three m.f3 ++ byts 0 [m.f4]))
section
variable {m : S36} {w r : Nat}
theorem MatR.flat (h : MatR m w r) : m.f1.flatten.length = r * w ∧ nibs m.f1.flatten := by
  refine ⟨?_, fun z hz => ?_⟩
  · have := flat_len m.f1 id w (fun l hl => (h.row l hl).1)
    rw [List.map_id, h.rws] at this
    exact this
  · obtain ⟨l, hl, hz⟩ := List.mem_flatten.1 hz
    exact (h.row l hl).2 z hz
theorem MatR.rw (h : MatR m w r) : r * w ≤ 2400 ∧ r * (w / 4) ≤ 600 := by
  have := h.le
  rcases h.w48 with e | e <;> subst e <;> constructor <;> omega
theorem MatR.scs (h : MatR m w r) : ((m.f2.map (byts 0)).flatten).length = r * (w / 4) := by
  rw [flat_len m.f2 (byts 0) (w / 4) (fun l hl => by rw [byts_len]; exact (h.sc l hl).1), h.scls]
theorem MatR.len (h : MatR m w r) : (matT m).length = (r * w + 1) / 2 + r * (w / 4) + 4 := by
  unfold matT three
  rw [List.length_append, List.length_append, List.length_append, packN_len, h.flat.1, h.scs, byts_len]
  simp only [List.length_cons, List.length_nil]
  omega
theorem impl_mat_rows (h : MatR m w r) (k : Nat) (hk : 310 < k) : impl_writer_matrix.l1 m k [] 0 = some (m.f1.flatten, (m.f1.length : Int)) := by
  have hf := h.flat.1
  have hb := h.rw
  have hl := h.le
  have g := loopCat0 m.f1 id (fun k i xs => impl_writer_matrix.l1 m k xs (i : Int)) (fun xs => some (xs, (m.f1.length : Int))) 0 120000
    (fun k i hi xs _ hM => by
      show impl_writer_matrix.b1 m (impl_writer_matrix.l1 m k) k xs (i : Int) = _
      unfold impl_writer_matrix.b1
      have hm : xs.length + (m.f1[i]).length ≤ 120000 := hM
      have := h.rws
      rw [if_pos (by omega), if_pos (by omega), getD_int m.f1 _ i hi, if_pos (by omega), w64 (i := (i : Int) + 1) (by omega) (by omega), show ((i : Int) + 1) = ((i + 1 : Nat) : Int) by omega]; rfl)
    (fun k xs => by
      show impl_writer_matrix.b1 m (impl_writer_matrix.l1 m k) k xs (m.f1.length : Int) = _
      unfold impl_writer_matrix.b1
      rw [if_neg (by omega)]) k [] (by have := h.rws; omega) (by rw [List.map_id, hf, List.length_nil]; omega)
  rw [List.map_id, List.nil_append] at g
  exact g
theorem impl_mat_scales (h : MatR m w r) (xs : List Int) (hx : xs.length ≤ 90000) (k : Nat) (hk : 1000 < k) : impl_writer_matrix.l0 m k 0 xs = some ((m.f2.length : Int), xs ++ (m.f2.map (byts 0)).flatten) := by
  have hf := h.scs
  have hb := h.rw
  have hl := h.le
  have hs := h.scls
  exact loopCat0 m.f2 (byts 0) (fun k i xs => impl_writer_matrix.l0 m k (i : Int) xs) (fun xs => some ((m.f2.length : Int), xs)) 20 95000
    (fun k i hi xs hk hM => by
      show impl_writer_matrix.b0 m (impl_writer_matrix.l0 m k) k (i : Int) xs = _
      unfold impl_writer_matrix.b0
      have h1 := (h.sc _ (List.getElem_mem hi)).1
      have h2 : w / 4 ≤ 2 := by rcases h.w48 with e | e <;> omega
      rw [if_pos (by omega), if_pos (by omega), getD_int m.f2 _ i hi, put_all k xs 0 _ (by omega) (by omega) (by omega), Option.bind_some, w64 (i := (i : Int) + 1) (by omega) (by omega), show ((i : Int) + 1) = ((i + 1 : Nat) : Int) by omega])
    (fun k xs => by
      show impl_writer_matrix.b0 m (impl_writer_matrix.l0 m k) k (m.f2.length : Int) xs = _
      unfold impl_writer_matrix.b0
      rw [if_neg (by omega)]) k xs (by omega) (by rw [hf]; omega)
theorem impl_matT (h : MatR m w r) (xs : List Int) (hx : xs.length ≤ 20000) (k : Nat) (hk : 3000 < k) : impl_writer_matrix.g k ⟨xs⟩ m = some ⟨xs ++ matT m⟩ := by
  have hf := h.flat
  have hb := h.rw
  have hl := h.len
  have hp := packN_len m.f1.flatten
  have hs := h.scs
  unfold impl_writer_matrix.g
  rw [impl_mat_rows h k (by omega), Option.bind_some, impl_pack _ (by omega) hf.2 k (by omega), Option.bind_some, if_pos (by rw [strOfNums_size]; dsimp only; omega), bytesOf_nums _ (packN_bytes _ hf.2), impl_mat_scales h _ (by rw [List.length_append]; dsimp only; omega) k (by omega), Option.bind_some,
    wide_three k _ _ (by simp only [List.length_append]; omega) (by omega), Option.bind_some, put_all k _ 0 [m.f4] (by simp) (by simp only [List.length_append, three, List.length_cons, List.length_nil]; omega) (by simp; omega), Option.bind_some]
  unfold matT
  simp only [List.append_assoc]
theorem spec_mat_from2 (h : MatR m w r) (d : Nat) : ∀ (k i : Nat), i + d = m.f1.length → d + 30 < k → spec_l11Matrix.l0 m k ((m.f1.take i).flatten) (((m.f2.take i).map (byts 0)).flatten) (i : Int) = some (m.f1.flatten, (m.f2.map (byts 0)).flatten, (m.f1.length : Int)) := by
  have hr := h.rws
  have hs := h.scls
  have hl := h.le
  have hb := h.rw
  induction d with
  | zero =>
    intro k i hi hk
    obtain ⟨k, rfl⟩ : ∃ q, k = q + 1 := ⟨k - 1, by omega⟩
    show spec_l11Matrix.b0 m (spec_l11Matrix.l0 m k) k _ _ (i : Int) = _
    unfold spec_l11Matrix.b0
    rw [if_neg (by omega), List.take_of_length_le (by omega), List.take_of_length_le (by omega), show (i : Int) = (m.f1.length : Int) by omega]
  | succ d ih =>
    intro k i hi hk
    obtain ⟨k, rfl⟩ : ∃ q, k = q + 1 := ⟨k - 1, by omega⟩
    have i1 : i < m.f1.length := by omega
    have i2 : i < m.f2.length := by omega
    have h1 := (h.row _ (List.getElem_mem i1)).1
    have h2 := (h.sc _ (List.getElem_mem i2)).1
    have h3 : w ≤ 8 ∧ w / 4 ≤ 2 := by rcases h.w48 with e | e <;> omega
    have f1 : ((m.f1.take i).flatten).length ≤ 2400 := by
      have := flat_le (m.f1.take i) id w (fun l hl => by have := (h.row l (List.mem_of_mem_take hl)).1; show l.length ≤ w; omega)
      rw [List.map_id, List.length_take] at this
      have g : min i m.f1.length * w ≤ r * w := Nat.mul_le_mul_right _ (by omega)
      omega
    have f2 : (((m.f2.take i).map (byts 0)).flatten).length ≤ 600 := by
      have := flat_le (m.f2.take i) (byts 0) (w / 4) (fun l hl => by rw [byts_len]; have := (h.sc l (List.mem_of_mem_take hl)).1; omega)
      rw [List.length_take] at this
      have g : min i m.f2.length * (w / 4) ≤ r * (w / 4) := Nat.mul_le_mul_right _ (by omega)
      omega
    show spec_l11Matrix.b0 m (spec_l11Matrix.l0 m k) k _ _ (i : Int) = _
    unfold spec_l11Matrix.b0
    rw [if_pos (by omega), if_pos (by omega), getD_int m.f1 _ i i1, if_pos (by omega), if_pos (by omega), getD_int m.f2 _ i i2, spec_bytes k 0 _ (by omega) (by omega), Option.bind_some, if_pos (by rw [byts_len]; omega), w64 (i := (i : Int) + 1) (by omega) (by omega), show ((i : Int) + 1) = ((i + 1 : Nat) : Int) by omega]
    have e1 : (m.f1.take i).flatten ++ m.f1[i] = (m.f1.take (i + 1)).flatten := by rw [List.take_succ_eq_append_getElem i1, List.flatten_append]; simp
    have e2 : ((m.f2.take i).map (byts 0)).flatten ++ byts 0 m.f2[i] = ((m.f2.take (i + 1)).map (byts 0)).flatten := by rw [List.take_succ_eq_append_getElem i2, List.map_append, List.flatten_append]; simp
    rw [e1, e2]
    exact ih k (i + 1) (by omega) (by omega)
theorem spec_tail4 (h : MatR m w r) : [IntKind.u8.wrap (wrap64 (Int.tdiv m.f3 65536)), IntKind.u8.wrap (Int.tmod (wrap64 (Int.tdiv m.f3 256)) 256), IntKind.u8.wrap (Int.tmod m.f3 256), IntKind.u8.wrap m.f4] = three m.f3 ++ byts 0 [m.f4] := by
  obtain ⟨h1, h2⟩ := h.mul
  obtain ⟨h3, h4⟩ := h.sh
  have e1 : Int.tdiv m.f3 65536 = m.f3 / 65536 := Int.tdiv_eq_ediv_of_nonneg h1
  have e2 : Int.tdiv m.f3 256 = m.f3 / 256 := Int.tdiv_eq_ediv_of_nonneg h1
  have e3 : Int.tmod m.f3 256 = m.f3 % 256 := Int.tmod_eq_emod_of_nonneg h1
  have e4 : Int.tmod (m.f3 / 256) 256 = m.f3 / 256 % 256 := Int.tmod_eq_emod_of_nonneg (by omega)
  unfold three byts
  rw [e1, e2, e3, w64 (by omega) (by omega), w64 (by omega) (by omega), e4]
  simp only [List.map_cons, List.map_nil, List.cons_append, List.nil_append]
  rw [w64 (by omega) (by omega)]
  have q : ∀ z : Int, IntKind.u8.wrap z = z % 256 := b8_mod
  simp only [b8, q]
  rw [Int.emod_emod_of_dvd _ (by decide), Int.emod_emod_of_dvd _ (by decide), Int.add_zero]
theorem spec_matT (h : MatR m w r) (k : Nat) (hk : 3000 < k) : spec_l11Matrix.g k m = some (matT m) := by
  have hf := h.flat
  have hb := h.rw
  have hp := packN_len m.f1.flatten
  have hs := h.scs
  have hr := h.rws
  have hle := h.le
  have e0 := spec_mat_from2 h m.f1.length k 0 (by omega) (by omega)
  have e0 : spec_l11Matrix.l0 m k [] [] 0 = _ := e0
  unfold spec_l11Matrix.g
  rw [e0, Option.bind_some, spec_pack _ (by omega) hf.2 k (by omega), Option.bind_some, if_pos (by rw [strOfNums_size]; omega), bytesOf_nums _ (packN_bytes _ hf.2), if_pos (by dsimp only; omega), if_pos (by rw [List.length_append]; dsimp only; omega), spec_tail4 h]
  unfold matT
  simp only [List.append_assoc]
end

def turT (l : List (List Int)) : List Int := (l.map fun r => (r.map fun n => two (n + 128)).flatten).flatten
theorem two_len (n : Int) : (two n).length = 2 := rfl
theorem row_two (r : List Int) : ((r.map fun n => two (n + 128)).flatten).length = r.length * 2 := flat_len r _ 2 (fun _ _ => rfl)
theorem turT_len (l : List (List Int)) (c p : Nat) (h : turR l c p) : (turT l).length = c * (p * 2) := by
  unfold turT
  rw [flat_len l _ (p * 2) (fun r hr => by rw [row_two, (h.2.2.2 r hr).1]), h.1]
theorem impl_turT (l : List (List Int)) (c p : Nat) (h : turR l c p) (xs : List Int) (hx : xs.length ≤ 20000) (k : Nat) (hk : 100 < k) : impl_writer_turns.g k ⟨xs⟩ l = some ⟨xs ++ turT l⟩ := by
  obtain ⟨h1, h2, h3, h4⟩ := h
  have ht := turT_len l c p ⟨h1, h2, h3, h4⟩
  have hcp : c * (p * 2) ≤ 24 * 8 := Nat.mul_le_mul h2 (by omega)
  unfold impl_writer_turns.g
  have g := loopCat0 l (fun r => (r.map fun n => two (n + 128)).flatten) (fun k i xs => impl_writer_turns.l0 l k (i : Int) xs) (fun xs => some ((l.length : Int), xs)) 20 30000
    (fun k i hi xs hk hM => by
      obtain ⟨hp, hz⟩ := h4 _ (List.getElem_mem hi)
      show impl_writer_turns.b0 l (impl_writer_turns.l0 l k) k (i : Int) xs = _
      unfold impl_writer_turns.b0
      rw [if_pos (by omega), if_pos (by omega)]
      have q := loopCat0 l[i] (fun n => two (n + 128)) (fun k j xs => impl_writer_turns.l1 l (i : Int) k (j : Int) xs) (fun xs => some ((l[i].length : Int), xs)) 5 40000
        (fun k j hj xs hk hM => by
          have := hz _ (List.getElem_mem hj)
          show impl_writer_turns.b1 l (i : Int) (impl_writer_turns.l1 l (i : Int) k) k (j : Int) xs = _
          unfold impl_writer_turns.b1
          have hM : xs.length + 2 ≤ 40000 := hM
          rw [getD_int l _ i hi, if_pos (by omega), if_pos (by omega), getD_int l[i] _ j hj, w64 (i := l[i][j] + 128) (by omega) (by omega), wide_two k xs _ (by omega) (by omega), Option.bind_some, w64 (i := (j : Int) + 1) (by omega) (by omega), show ((j : Int) + 1) = ((j + 1 : Nat) : Int) by omega])
        (fun k xs => by
          show impl_writer_turns.b1 l (i : Int) (impl_writer_turns.l1 l (i : Int) k) k (l[i].length : Int) xs = _
          unfold impl_writer_turns.b1
          rw [getD_int l _ i hi, if_neg (by omega)]) k xs (by omega) (by rw [row_two, hp]; omega)
      have q : impl_writer_turns.l1 l (i : Int) k 0 xs = _ := q
      rw [q, Option.bind_some, w64 (i := (i : Int) + 1) (by omega) (by omega), show ((i : Int) + 1) = ((i + 1 : Nat) : Int) by omega])
    (fun k xs => by
      show impl_writer_turns.b0 l (impl_writer_turns.l0 l k) k (l.length : Int) xs = _
      unfold impl_writer_turns.b0
      rw [if_neg (by omega)]) k xs (by omega) (by show xs.length + (turT l).length ≤ 30000; omega)
  have g : impl_writer_turns.l0 l k 0 xs = _ := g
  rw [g, Option.bind_some]; rfl
theorem spec_turT (l : List (List Int)) (c p : Nat) (h : turR l c p) (k : Nat) (hk : 100 < k) : spec_l11Turns.g k l = some (turT l) := by
  obtain ⟨h1, h2, h3, h4⟩ := h
  have ht := turT_len l c p ⟨h1, h2, h3, h4⟩
  have hcp : c * (p * 2) ≤ 24 * 8 := Nat.mul_le_mul h2 (by omega)
  unfold spec_l11Turns.g
  have g := loopCat0 l (fun r => (r.map fun n => two (n + 128)).flatten) (fun k i xs => spec_l11Turns.l0 l k xs (i : Int)) (fun xs => some (xs, (l.length : Int))) 20 30000
    (fun k i hi xs hk hM => by
      obtain ⟨hp, hz⟩ := h4 _ (List.getElem_mem hi)
      show spec_l11Turns.b0 l (spec_l11Turns.l0 l k) k xs (i : Int) = _
      unfold spec_l11Turns.b0
      rw [if_pos (by omega)]
      have q := loopCat0 l[i] (fun n => two (n + 128)) (fun k j xs => spec_l11Turns.l1 l (i : Int) k xs (j : Int)) (fun xs => some (xs, (l[i].length : Int))) 5 40000
        (fun k j hj xs hk hM => by
          have := hz _ (List.getElem_mem hj)
          show spec_l11Turns.b1 l (i : Int) (spec_l11Turns.l1 l (i : Int) k) k xs (j : Int) = _
          unfold spec_l11Turns.b1
          have hM : xs.length + 2 ≤ 40000 := hM
          rw [if_pos (by omega), getD_int l _ i hi, if_pos (by omega), if_pos (by omega), getD_int l[i] _ j hj, w64 (i := l[i][j] + 128) (by omega) (by omega), spec_two2 k _ (by omega) (by omega), Option.bind_some, two_len, if_pos (by omega), w64 (i := (j : Int) + 1) (by omega) (by omega), show ((j : Int) + 1) = ((j + 1 : Nat) : Int) by omega])
        (fun k xs => by
          show spec_l11Turns.b1 l (i : Int) (spec_l11Turns.l1 l (i : Int) k) k xs (l[i].length : Int) = _
          unfold spec_l11Turns.b1
          rw [if_pos (by omega), getD_int l _ i hi, if_neg (by omega)]) k xs (by omega) (by rw [row_two, hp]; omega)
      have q : spec_l11Turns.l1 l (i : Int) k xs 0 = _ := q
      rw [q, Option.bind_some, w64 (i := (i : Int) + 1) (by omega) (by omega), show ((i : Int) + 1) = ((i + 1 : Nat) : Int) by omega])
    (fun k xs => by
      show spec_l11Turns.b0 l (spec_l11Turns.l0 l k) k xs (l.length : Int) = _
      unfold spec_l11Turns.b0
      rw [if_neg (by omega)]) k [] (by omega) (by show 0 + (turT l).length ≤ 30000; omega)
  have g : spec_l11Turns.l0 l k [] 0 = _ := g
  rw [g, Option.bind_some, List.nil_append]; rfl

def c1 (s : Nat) : Nat := if s % 2 = 1 then (s / 2) ^^^ 3558460437 else s / 2
def c8 : Nat → Nat → Nat
  | 0, s => s
  | n + 1, s => c8 n (c1 s)
def cB (s b : Nat) : Nat := c8 8 (s ^^^ b)
def natsOf (t : ByteArray) : List Nat := t.data.toList.map (·.toNat)
def crc (t : ByteArray) : Nat := (natsOf t).foldl cB 4294967295
theorem u32_wrap (a : Nat) (h : a < 4294967296) : IntKind.u32.wrap (a : Int) = (a : Int) := by
  have : IntKind.u32.wrap (a : Int) = (a : Int) % 4294967296 := by simp [IntKind.wrap, IntKind.signed, IntKind.bits]
  rw [this]; omega
theorem bits_xor (a b : Nat) (ha : a < 4294967296) (hb : b < 4294967296) : Go.bits .xor .u32 (a : Int) (b : Int) = ((a ^^^ b : Nat) : Int) := by
  have e : (BitVec.ofInt IntKind.u32.bits (a : Int) ^^^ BitVec.ofInt IntKind.u32.bits (b : Int)).toNat = a ^^^ b := by
    rw [BitVec.toNat_xor, BitVec.ofInt_natCast, BitVec.ofInt_natCast, BitVec.toNat_ofNat, BitVec.toNat_ofNat, Nat.mod_eq_of_lt (by exact ha), Nat.mod_eq_of_lt (by exact hb)]
  show IntKind.u32.wrap ((BitVec.ofInt IntKind.u32.bits (a : Int) ^^^ BitVec.ofInt IntKind.u32.bits (b : Int)).toNat : Int) = _
  rw [e]
  exact u32_wrap _ (Nat.xor_lt_two_pow (n := 32) ha hb)
theorem bits_and1 (a : Nat) (ha : a < 4294967296) : Go.bits .and .u32 (a : Int) 1 = ((a % 2 : Nat) : Int) := by
  have e : (BitVec.ofInt IntKind.u32.bits (a : Int) &&& BitVec.ofInt IntKind.u32.bits (1 : Int)).toNat = a % 2 := by
    rw [BitVec.toNat_and, BitVec.ofInt_natCast, show (1 : Int) = ((1 : Nat) : Int) from rfl, BitVec.ofInt_natCast, BitVec.toNat_ofNat, BitVec.toNat_ofNat, Nat.mod_eq_of_lt (by exact ha), Nat.mod_eq_of_lt (by decide), Nat.and_one_is_mod]
  show IntKind.u32.wrap ((BitVec.ofInt IntKind.u32.bits (a : Int) &&& BitVec.ofInt IntKind.u32.bits (1 : Int)).toNat : Int) = _
  rw [e]
  exact u32_wrap _ (by omega)
theorem c1_lt (s : Nat) (h : s < 4294967296) : c1 s < 4294967296 := by
  unfold c1
  split
  · exact Nat.xor_lt_two_pow (n := 32) (by omega) (by decide)
  · omega
theorem c8_lt : ∀ (n s : Nat), s < 4294967296 → c8 n s < 4294967296
  | 0, s, h => h
  | n + 1, s, h => c8_lt n _ (c1_lt s h)
theorem cB_lt (s b : Nat) (h : s < 4294967296) (hb : b < 256) : cB s b < 4294967296 := c8_lt 8 _ (Nat.xor_lt_two_pow (n := 32) h (by omega))
theorem nats_len (t : ByteArray) : (natsOf t).length = t.size := by rw [natsOf, List.length_map, data_length]
theorem nats_lt (t : ByteArray) : ∀ z ∈ natsOf t, z < 256 := fun z hz => by
  obtain ⟨b, _, rfl⟩ := List.mem_map.1 hz
  exact b.toNat_lt
theorem bt_nat (t : ByteArray) (i : Nat) (h : i < (natsOf t).length) : bt t (i : Int) = (((natsOf t)[i] : Nat) : Int) := by
  have hi : i < t.size := by rwa [nats_len] at h
  have := bt_at t (i : Int) (by simpa using hi)
  rw [← this]
  simp [natsOf]; rfl
theorem impl_sum8 (t : ByteArray) (n i : Int) (d : Nat) : ∀ (j k s : Nat), j + d = 8 → s < 4294967296 → impl_SumMore.l1 (k + d + 1) (s : Int) t n i (j : Int) = impl_SumMore.l0 k ((c8 d s : Nat) : Int) t n (wrap64 (i + 1)) := by
  induction d with
  | zero =>
    intro j k s hj hs
    rw [Nat.add_zero, impl_SumMore.l1, if_neg (by omega)]; rfl
  | succ d ih =>
    intro j k s hj hs
    rw [show k + (d + 1) + 1 = (k + d + 1) + 1 by omega, impl_SumMore.l1, if_pos (by omega), bits_and1 s hs, w64 (i := (j : Int) + 1) (by omega) (by omega), show ((j : Int) + 1) = ((j + 1 : Nat) : Int) by omega, show ((s : Int) / 2) = ((s / 2 : Nat) : Int) by omega, c8]
    by_cases c : s % 2 = 1
    · rw [if_pos (by omega), show (3558460437 : Int) = ((3558460437 : Nat) : Int) from rfl, bits_xor _ _ (by omega) (by decide), ih (j + 1) k _ (by omega) (Nat.xor_lt_two_pow (n := 32) (by omega) (by decide))]
      unfold c1; rw [if_pos c]
    · rw [if_neg (by omega), ih (j + 1) k _ (by omega) (by omega)]
      unfold c1; rw [if_neg c]
theorem spec_sum8 (t : ByteArray) (i : Int) (d : Nat) : ∀ (j k s : Nat), j + d = 8 → s < 4294967296 → spec_SumMore.l1 (k + d + 1) (s : Int) t i (j : Int) = spec_SumMore.l0 k ((c8 d s : Nat) : Int) t (wrap64 (i + 1)) := by
  induction d with
  | zero =>
    intro j k s hj hs
    rw [Nat.add_zero, spec_SumMore.l1, if_neg (by omega)]; rfl
  | succ d ih =>
    intro j k s hj hs
    have e1 : Int.tmod (s : Int) 2 = ((s % 2 : Nat) : Int) := by rw [Int.tmod_eq_emod_of_nonneg (by omega)]; omega
    have e2 : Int.tdiv (s : Int) 2 % 4294967296 = ((s / 2 : Nat) : Int) := by rw [Int.tdiv_eq_ediv_of_nonneg (by omega)]; omega
    rw [show k + (d + 1) + 1 = (k + d + 1) + 1 by omega, spec_SumMore.l1, if_pos (by omega), e1, e2, w64 (i := (j : Int) + 1) (by omega) (by omega), show ((j : Int) + 1) = ((j + 1 : Nat) : Int) by omega, c8]
    by_cases c : s % 2 = 1
    · rw [if_pos (by omega), show (3558460437 : Int) = ((3558460437 : Nat) : Int) from rfl, bits_xor _ _ (by omega) (by decide), ih (j + 1) k _ (by omega) (Nat.xor_lt_two_pow (n := 32) (by omega) (by decide))]
      unfold c1; rw [if_pos c]
    · rw [if_neg (by omega), ih (j + 1) k _ (by omega) (by omega)]
      unfold c1; rw [if_neg c]
theorem impl_sum_from (t : ByteArray) (ht : t.size ≤ 1000000000000) (d : Nat) : ∀ (k i s : Nat), i + d = (natsOf t).length → 10 * d < k → s < 4294967296 → impl_SumMore.l0 k (s : Int) t (t.size : Int) (i : Int) = some ((((natsOf t).drop i).foldl cB s : Nat) : Int) := by
  have hn := nats_len t
  induction d with
  | zero =>
    intro k i s hi hk hs
    obtain ⟨k, rfl⟩ : ∃ q, k = q + 1 := ⟨k - 1, by omega⟩
    rw [impl_SumMore.l0, if_neg (by omega), List.drop_of_length_le (by omega)]; rfl
  | succ d ih =>
    intro k i s hi hk hs
    obtain ⟨k, rfl⟩ : ∃ q, k = q + 10 := ⟨k - 10, by omega⟩
    have hlt : i < (natsOf t).length := by omega
    have hb := nats_lt t _ (List.getElem_mem hlt)
    rw [impl_SumMore.l0, if_pos (by omega), if_pos (by omega), if_pos (by omega), bt_nat t i hlt, show (((natsOf t)[i] : Nat) : Int) % 4294967296 = (((natsOf t)[i] : Nat) : Int) by omega, bits_xor s _ hs (by omega)]
    have e := impl_sum8 t (t.size : Int) (i : Int) 8 0 k (s ^^^ (natsOf t)[i]) rfl (Nat.xor_lt_two_pow (n := 32) hs (by omega))
    rw [show k + 9 = k + 8 + 1 by omega, show (0 : Int) = ((0 : Nat) : Int) from rfl, e, w64 (by omega) (by omega), show ((i : Int) + 1) = ((i + 1 : Nat) : Int) by omega, List.drop_eq_getElem_cons hlt, List.foldl_cons]
    exact ih k (i + 1) _ (by omega) (by omega) (cB_lt s _ hs hb)
theorem spec_sum_from (t : ByteArray) (ht : t.size ≤ 1000000000000) (d : Nat) : ∀ (k i s : Nat), i + d = (natsOf t).length → 10 * d < k → s < 4294967296 → spec_SumMore.l0 k (s : Int) t (i : Int) = some ((((natsOf t).drop i).foldl cB s : Nat) : Int) := by
  have hn := nats_len t
  induction d with
  | zero =>
    intro k i s hi hk hs
    obtain ⟨k, rfl⟩ : ∃ q, k = q + 1 := ⟨k - 1, by omega⟩
    rw [spec_SumMore.l0, if_neg (by omega), List.drop_of_length_le (by omega)]; rfl
  | succ d ih =>
    intro k i s hi hk hs
    obtain ⟨k, rfl⟩ : ∃ q, k = q + 10 := ⟨k - 10, by omega⟩
    have hlt : i < (natsOf t).length := by omega
    have hb := nats_lt t _ (List.getElem_mem hlt)
    rw [spec_SumMore.l0, if_pos (by omega), if_pos (by omega), bt_nat t i hlt, show (((natsOf t)[i] : Nat) : Int) % 4294967296 = (((natsOf t)[i] : Nat) : Int) by omega, bits_xor s _ hs (by omega)]
    have e := spec_sum8 t (i : Int) 8 0 k (s ^^^ (natsOf t)[i]) rfl (Nat.xor_lt_two_pow (n := 32) hs (by omega))
    rw [show k + 9 = k + 8 + 1 by omega, show (0 : Int) = ((0 : Nat) : Int) from rfl, e, w64 (by omega) (by omega), show ((i : Int) + 1) = ((i + 1 : Nat) : Int) by omega, List.drop_eq_getElem_cons hlt, List.foldl_cons]
    exact ih k (i + 1) _ (by omega) (by omega) (cB_lt s _ hs hb)
theorem impl_sumOf (t : ByteArray) (ht : t.size ≤ 1000000000000) (k : Nat) (hk : 10 * t.size < k) : impl_SumOf.f k t = some ((crc t : Nat) : Int) := by
  have e := impl_sum_from t ht (natsOf t).length k 0 4294967295 (by omega) (by rw [nats_len]; exact hk) (by decide)
  unfold impl_SumOf.f impl_SumMore.f
  rw [show (4294967295 : Int) = ((4294967295 : Nat) : Int) from rfl, show (0 : Int) = ((0 : Nat) : Int) from rfl, e, List.drop_zero]; rfl
theorem spec_sumOf (t : ByteArray) (ht : t.size ≤ 1000000000000) (k : Nat) (hk : 10 * t.size < k) : spec_SumOf.f k t = some ((crc t : Nat) : Int) := by
  have e := spec_sum_from t ht (natsOf t).length k 0 4294967295 (by omega) (by rw [nats_len]; exact hk) (by decide)
  unfold spec_SumOf.f spec_SumMore.f
  rw [show (4294967295 : Int) = ((4294967295 : Nat) : Int) from rfl, show (0 : Int) = ((0 : Nat) : Int) from rfl, e, List.drop_zero]; rfl
def four (a : Int) : List Int := [(a / 16777216) % 256, (a / 65536) % 256, (a / 256) % 256, a % 256]
def sealT (t : ByteArray) : ByteArray := t ++ strOfNums (four ((crc t : Nat) : Int))
theorem four_size (a : Int) : (strOfNums (four a)).size = 4 := rfl
theorem impl_sealT (t : ByteArray) (ht : t.size ≤ 12000) (k : Nat) (hk : 120000 < k) : impl_Sealed.f k t = some (sealT t, true) := by
  unfold impl_Sealed.f
  rw [if_neg (by omega), impl_sumOf t (by omega) k (by omega), Option.bind_some]
  show (some (strOfNums (four _))).bind _ = _
  rw [Option.bind_some, if_pos (by rw [four_size]; omega)]; rfl
theorem spec_sealT (t : ByteArray) (ht : t.size ≤ 12000) (k : Nat) (hk : 120000 < k) : spec_Sealed.f k t = some (sealT t, true) := by
  unfold spec_Sealed.f
  rw [if_neg (by omega), spec_sumOf t (by omega) k (by omega), Option.bind_some]
  show (some (strOfNums (four _))).bind _ = _
  rw [Option.bind_some, if_pos (by rw [four_size]; omega)]; rfl

def layT (y : S48) : List Int := byts 0 y.f0 ++ (matT y.f1 ++ (matT y.f2 ++ (matT y.f3 ++ (matT y.f4 ++ (byts 0 y.f5 ++ (matT y.f6 ++ matT y.f7))))))
def headT (x : S39) : List Int := [84, 77, 49] ++ byts 0 [x.f0, x.f1, x.f2, (x.f3.length : Int), (x.f5.length : Int)]
def upsT (x : S39) : List Int := x.f5.map fun y => b8 (wrap64 ((y.f6.f1.length : Int) + 0))
def mrgT (x : S39) : List Int := (x.f3.map fun m => two m.f0 ++ two m.f1).flatten
def embT (x : S39) : List Int := (x.f4.map (byts 128)).flatten
def laysT (x : S39) : List Int := (x.f5.map layT).flatten
/-- the bytes of a right model, ahead of their sum. -/
def modT (x : S39) : List Int := headT x ++ (upsT x ++ (mrgT x ++ (embT x ++ (laysT x ++ (byts 0 x.f6 ++ (matT x.f7 ++ (turT x.f8.f0 ++ turT x.f8.f1)))))))
/-- how many bytes a matrix has -/
def mSz (w r : Nat) : Nat := (r * w + 1) / 2 + r * (w / 4) + 4
def lSz (n u : Nat) : Nat := 2 * n + 4 * mSz n n + mSz n u + mSz u n
section
variable {x : S39} {n hd c : Nat}
theorem layT_len {y : S48} {u : Nat} (h : LayR y n u) : (layT y).length = lSz n u := by
  unfold layT lSz mSz
  simp only [List.length_append, byts_len, h.g1.1, h.g2.1, h.q.len, h.k.len, h.v.len, h.o.len, h.up.len, h.dn.len]
  omega
theorem lSz_le {u : Nat} (hn : n = 4 ∨ n = 8) (hu : u = 4 ∨ u = 8) : lSz n u ≤ 400 := by
  rcases hn with rfl | rfl <;> rcases hu with rfl | rfl <;> decide
theorem headT_len : (headT x).length = 8 := rfl
theorem upsT_len : (upsT x).length = x.f5.length := List.length_map ..
theorem mrgT_len : (mrgT x).length = x.f3.length * 4 := flat_len x.f3 _ 4 (fun _ _ => rfl)
theorem embT_len (h : ModR x n hd c) : (embT x).length = (256 + x.f3.length) * n := by
  unfold embT
  rw [flat_len x.f4 _ n (fun r hr => by rw [byts_len]; exact (h.er r hr).1), h.el]
theorem laysT_le (h : ModR x n hd c) : (laysT x).length ≤ 800 := by
  have := flat_le x.f5 layT 400 (fun y hy => by rw [layT_len (h.lr y hy)]; exact lSz_le h.n48 (h.lr y hy).u48)
  have := h.ll
  unfold laysT
  omega
theorem turT_le {l : List (List Int)} {p : Nat} (h : turR l c p) : (turT l).length ≤ 192 := by
  rw [turT_len l c p h]
  have := Nat.mul_le_mul h.2.1 (show p * 2 ≤ 8 by have := h.2.2.1; omega)
  omega
theorem embT_le (h : ModR x n hd c) : (embT x).length ≤ 2176 := by
  rw [embT_len h]
  have := Nat.mul_le_mul (show 256 + x.f3.length ≤ 272 by have := h.ml; omega) (show n ≤ 8 by have := h.n48; omega)
  omega
theorem headM_le (h : ModR x n hd c) : (matT x.f7).length ≤ 1636 := by
  rw [h.hm.len]
  have h1 := h.ml
  rcases h.n48 with rfl | rfl <;> omega
theorem modT_le (h : ModR x n hd c) : (modT x).length ≤ 5100 := by
  have h1 := embT_le h
  have h2 := headM_le h
  have h3 := laysT_le h
  have h4 := turT_le h.cs
  have h5 := turT_le h.sn
  have h6 := h.ml
  have h7 := h.ll
  have h8 := h.n48
  unfold modT
  simp only [List.length_append, headT_len, upsT_len, mrgT_len, byts_len, h.ge.1]
  omega
/-! ### the program -/
theorem impl_ups (h : ModR x n hd c) (xs : List Int) (hx : xs.length ≤ 1000) (k : Nat) (hk : 100 < k) : impl_ModelText.l4 x k 0 xs = some ((x.f5.length : Int), xs ++ upsT x) := by
  have hl := h.ll
  have g := loopCat0 x.f5 (fun y => [b8 (wrap64 ((y.f6.f1.length : Int) + 0))]) (fun k i xs => impl_ModelText.l4 x k (i : Int) xs) (fun xs => some ((x.f5.length : Int), xs)) 10 2000
    (fun k i hi xs hk hM => by
      show impl_ModelText.b4 x (impl_ModelText.l4 x k) k (i : Int) xs = _
      unfold impl_ModelText.b4
      have hM : xs.length + 1 ≤ 2000 := hM
      rw [if_pos (by omega), if_pos (by omega), getD_int x.f5 _ i hi, put_all k xs 0 _ (by simp) (by omega) (by simp; omega), Option.bind_some, w64 (i := (i : Int) + 1) (by omega) (by omega), show ((i : Int) + 1) = ((i + 1 : Nat) : Int) by omega]; rfl)
    (fun k xs => by
      show impl_ModelText.b4 x (impl_ModelText.l4 x k) k (x.f5.length : Int) xs = _
      unfold impl_ModelText.b4
      rw [if_neg (by omega)]) k xs (by omega) (by rw [flat_one, List.length_map]; omega)
  rw [flat_one] at g
  exact g
theorem impl_mrg (h : ModR x n hd c) (xs : List Int) (hx : xs.length ≤ 1000) (k : Nat) (hk : 100 < k) : impl_ModelText.l3 x k 0 xs = some ((x.f3.length : Int), xs ++ mrgT x) := by
  have hl := h.ml
  have hf : (mrgT x).length = _ := mrgT_len
  exact loopCat0 x.f3 (fun m => two m.f0 ++ two m.f1) (fun k i xs => impl_ModelText.l3 x k (i : Int) xs) (fun xs => some ((x.f3.length : Int), xs)) 10 2000
    (fun k i hi xs hk hM => by
      show impl_ModelText.b3 x (impl_ModelText.l3 x k) k (i : Int) xs = _
      unfold impl_ModelText.b3
      have hM : xs.length + 4 ≤ 2000 := hM
      rw [if_pos (by omega), if_pos (by omega), getD_int x.f3 _ i hi, wide_two k xs _ (by omega) (by omega), Option.bind_some, wide_two k _ _ (by rw [List.length_append, two_len]; omega) (by omega), Option.bind_some, w64 (i := (i : Int) + 1) (by omega) (by omega), show ((i : Int) + 1) = ((i + 1 : Nat) : Int) by omega, List.append_assoc])
    (fun k xs => by
      show impl_ModelText.b3 x (impl_ModelText.l3 x k) k (x.f3.length : Int) xs = _
      unfold impl_ModelText.b3
      rw [if_neg (by omega)]) k xs (by omega) (by show xs.length + (mrgT x).length ≤ 2000; omega)
theorem impl_emb (h : ModR x n hd c) (xs : List Int) (hx : xs.length ≤ 1000) (k : Nat) (hk : 1000 < k) : impl_ModelText.l2 x k 0 xs = some ((x.f4.length : Int), xs ++ embT x) := by
  have hl := h.ml
  have he := h.el
  have hn := h.n48
  have hf := embT_le h
  exact loopCat0 x.f4 (byts 128) (fun k i xs => impl_ModelText.l2 x k (i : Int) xs) (fun xs => some ((x.f4.length : Int), xs)) 20 5000
    (fun k i hi xs hk hM => by
      have hr := (h.er _ (List.getElem_mem hi)).1
      show impl_ModelText.b2 x (impl_ModelText.l2 x k) k (i : Int) xs = _
      unfold impl_ModelText.b2
      rw [if_pos (by omega), if_pos (by omega), getD_int x.f4 _ i hi, put_all k xs 128 _ (by omega) (by omega) (by omega), Option.bind_some, w64 (i := (i : Int) + 1) (by omega) (by omega), show ((i : Int) + 1) = ((i + 1 : Nat) : Int) by omega])
    (fun k xs => by
      show impl_ModelText.b2 x (impl_ModelText.l2 x k) k (x.f4.length : Int) xs = _
      unfold impl_ModelText.b2
      rw [if_neg (by omega)]) k xs (by omega) (by show xs.length + (embT x).length ≤ 5000; omega)
theorem impl_four_mats {y : S48} {u : Nat} (i : Nat) (hi : i < x.f5.length) (hy : x.f5[i] = y) (h : LayR y n u) (xs : List Int) (hx : xs.length ≤ 8000) (k : Nat) (hk : 5000 < k) :
    impl_ModelText.l1 x (i : Int) k 0 xs = some (4, xs ++ (matT y.f1 ++ (matT y.f2 ++ (matT y.f3 ++ matT y.f4)))) := by
  have hn := h.q.w48
  have b : ∀ m : S36, MatR m n n → (matT m).length ≤ 60 := fun m hm => by
    rw [hm.len]
    rcases hn with rfl | rfl <;> decide
  have b1 := b _ h.q; have b2 := b _ h.k; have b3 := b _ h.v; have b4 := b _ h.o
  have hg : x.f5.getD (i : Int).toNat o48 = y := by rw [getD_int x.f5 _ i hi, hy]
  obtain ⟨k, rfl⟩ : ∃ q, k = q + 5 := ⟨k - 5, by omega⟩
  show impl_ModelText.b1 x (i : Int) (impl_ModelText.l1 x (i : Int) (k + 4)) (k + 4) 0 xs = _
  unfold impl_ModelText.b1
  rw [hg, if_pos (by decide), if_pos (by decide)]
  show ((impl_writer_matrix.g (k + 4) ⟨xs⟩ y.f1).bind _) = _
  rw [impl_matT h.q xs (by omega) _ (by omega), Option.bind_some, wn (show (0 : Int) + 1 = 1 from rfl) (by decide) (by decide)]
  show impl_ModelText.b1 x (i : Int) (impl_ModelText.l1 x (i : Int) (k + 3)) (k + 3) 1 (xs ++ matT y.f1) = _
  unfold impl_ModelText.b1
  rw [hg, if_pos (by decide), if_pos (by decide)]
  show ((impl_writer_matrix.g (k + 3) ⟨xs ++ matT y.f1⟩ y.f2).bind _) = _
  rw [impl_matT h.k _ (by rw [List.length_append]; omega) _ (by omega), Option.bind_some, wn (show (1 : Int) + 1 = 2 from rfl) (by decide) (by decide)]
  show impl_ModelText.b1 x (i : Int) (impl_ModelText.l1 x (i : Int) (k + 2)) (k + 2) 2 (xs ++ matT y.f1 ++ matT y.f2) = _
  unfold impl_ModelText.b1
  rw [hg, if_pos (by decide), if_pos (by decide)]
  show ((impl_writer_matrix.g (k + 2) ⟨xs ++ matT y.f1 ++ matT y.f2⟩ y.f3).bind _) = _
  rw [impl_matT h.v _ (by rw [List.length_append, List.length_append]; omega) _ (by omega), Option.bind_some, wn (show (2 : Int) + 1 = 3 from rfl) (by decide) (by decide)]
  show impl_ModelText.b1 x (i : Int) (impl_ModelText.l1 x (i : Int) (k + 1)) (k + 1) 3 (xs ++ matT y.f1 ++ matT y.f2 ++ matT y.f3) = _
  unfold impl_ModelText.b1
  rw [hg, if_pos (by decide), if_pos (by decide)]
  show ((impl_writer_matrix.g (k + 1) ⟨xs ++ matT y.f1 ++ matT y.f2 ++ matT y.f3⟩ y.f4).bind _) = _
  rw [impl_matT h.o _ (by rw [List.length_append, List.length_append, List.length_append]; omega) _ (by omega), Option.bind_some, wn (show (3 : Int) + 1 = 4 from rfl) (by decide) (by decide)]
  show impl_ModelText.b1 x (i : Int) (impl_ModelText.l1 x (i : Int) k) k 4 _ = _
  unfold impl_ModelText.b1
  rw [if_neg (by decide)]
  simp only [List.append_assoc]
theorem impl_lays (h : ModR x n hd c) (xs : List Int) (hx : xs.length ≤ 5000) (k : Nat) (hk : 6000 < k) : impl_ModelText.l0 x k 0 xs = some ((x.f5.length : Int), xs ++ laysT x) := by
  have hl := h.ll
  have hn := h.n48
  have hf := laysT_le h
  exact loopCat0 x.f5 layT (fun k i xs => impl_ModelText.l0 x k (i : Int) xs) (fun xs => some ((x.f5.length : Int), xs)) 5900 6500
    (fun k i hi xs hk hM => by
      have hy := h.lr _ (List.getElem_mem hi)
      obtain ⟨y, ey⟩ : ∃ y, x.f5[i] = y := ⟨_, rfl⟩
      rw [ey] at hy hM
      have hg : x.f5.getD (i : Int).toNat o48 = y := by rw [getD_int x.f5 _ i hi, ey]
      have g1 := hy.g1.1
      have g2 := hy.g2.1
      unfold layT at hM
      simp only [List.length_append, byts_len] at hM
      show impl_ModelText.b0 x (impl_ModelText.l0 x k) k (i : Int) xs = _
      unfold impl_ModelText.b0
      rw [if_pos (by omega), if_pos (by omega), hg, put_all k xs 0 _ (by omega) (by omega) (by omega), Option.bind_some, impl_four_mats i hi ey hy _ (by simp only [List.length_append, byts_len]; omega) k (by omega), Option.bind_some,
        put_all k _ 0 _ (by omega) (by simp only [List.length_append, byts_len]; omega) (by omega), Option.bind_some, impl_matT hy.up _ (by simp only [List.length_append, byts_len]; omega) k (by omega), Option.bind_some, impl_matT hy.dn _ (by simp only [List.length_append, byts_len]; omega) k (by omega), Option.bind_some,
        w64 (i := (i : Int) + 1) (by omega) (by omega), show ((i : Int) + 1) = ((i + 1 : Nat) : Int) by omega, ey]
      congr 1
      unfold layT
      simp only [List.append_assoc])
    (fun k xs => by
      show impl_ModelText.b0 x (impl_ModelText.l0 x k) k (x.f5.length : Int) xs = _
      unfold impl_ModelText.b0
      rw [if_neg (by omega)]) k xs (by omega) (by show xs.length + (laysT x).length ≤ 6500; omega)
end
def fileT (x : S39) : ByteArray := sealT (strOfNums (modT x))
theorem impl_text (x : S39) (hx : iModel x ≤ 1048576) (k : Nat) (hk : 7000000 < k) : impl_ModelText.g k x = some (if modelB x = true then (fileT x, true) else (⟨#[]⟩, false)) := by
  unfold impl_ModelText.g
  rw [impl_model x hx k (by omega), Option.bind_some]
  by_cases hb : modelB x = true
  · rw [if_pos hb, if_pos hb]
    obtain ⟨n, hd, c, h⟩ := mod_r x hb
    have h1 := embT_le h
    have h2 := headM_le h
    have h3 := laysT_le h
    have h4 := turT_le h.cs
    have h5 := turT_le h.sn
    have h6 := h.ml
    have h7 := h.ll
    have h8 := h.n48
    have h9 := modT_le h
    have g6 := h.ge.1
    have u1 : (upsT x).length = _ := upsT_len
    have u2 : (mrgT x).length = _ := mrgT_len
    rw [put_all k [84, 77, 49] 0 _ (by simp) (by simp) (by simp; omega), Option.bind_some]
    show ((impl_ModelText.l4 x k 0 (headT x)).bind _) = _
    rw [impl_ups h _ (by rw [headT_len]; omega) k (by omega), Option.bind_some]
    dsimp only
    rw [impl_mrg h _ (by rw [List.length_append, headT_len]; omega) k (by omega), Option.bind_some]
    dsimp only
    rw [impl_emb h _ (by simp only [List.length_append, headT_len]; omega) k (by omega), Option.bind_some]
    dsimp only
    rw [impl_lays h _ (by simp only [List.length_append, headT_len]; omega) k (by omega), Option.bind_some]
    dsimp only
    rw [put_all k _ 0 _ (by omega) (by simp only [List.length_append, headT_len]; omega) (by omega), Option.bind_some]
    rw [impl_matT h.hm _ (by simp only [List.length_append, headT_len, byts_len]; omega) k (by omega), Option.bind_some]
    rw [impl_turT _ _ _ h.cs _ (by simp only [List.length_append, headT_len, byts_len]; omega) k (by omega), Option.bind_some]
    rw [impl_turT _ _ _ h.sn _ (by simp only [List.length_append, headT_len, byts_len]; omega) k (by omega), Option.bind_some]
    dsimp only
    have e : headT x ++ upsT x ++ mrgT x ++ embT x ++ laysT x ++ byts 0 x.f6 ++ matT x.f7 ++ turT x.f8.f0 ++ turT x.f8.f1 = modT x := by unfold modT; simp only [List.append_assoc]
    rw [e, impl_sealT _ (by rw [strOfNums_size]; omega) k (by omega), Option.bind_some]; rfl
  · rw [if_neg hb, if_neg hb]

section
variable {x : S39} {n hd c : Nat}
theorem spec_ups (h : ModR x n hd c) (xs : List Int) (hx : xs.length ≤ 1000) (k : Nat) (hk : 100 < k) : spec_ModelText.l3 x k xs 0 = some (xs ++ upsT x, (x.f5.length : Int)) := by
  have hl := h.ll
  have g := loopCat0 x.f5 (fun y => [b8 (wrap64 ((y.f6.f1.length : Int) + 0))]) (fun k i xs => spec_ModelText.l3 x k xs (i : Int)) (fun xs => some (xs, (x.f5.length : Int))) 10 2000
    (fun k i hi xs hk hM => by
      show spec_ModelText.b3 x (spec_ModelText.l3 x k) k xs (i : Int) = _
      unfold spec_ModelText.b3
      have hM : xs.length + 1 ≤ 2000 := hM
      have hu := (h.lr _ (List.getElem_mem hi)).up.le
      have hu2 := (h.lr _ (List.getElem_mem hi)).up.rws
      rw [if_pos (by omega), if_pos (by omega), if_pos (by omega), getD_int x.f5 _ i hi, w64 (i := (i : Int) + 1) (by omega) (by omega), show ((i : Int) + 1) = ((i + 1 : Nat) : Int) by omega, w64 (i := (x.f5[i].f6.f1.length : Int) + 0) (by omega) (by omega), Int.add_zero]; rfl)
    (fun k xs => by
      show spec_ModelText.b3 x (spec_ModelText.l3 x k) k xs (x.f5.length : Int) = _
      unfold spec_ModelText.b3
      rw [if_neg (by omega)]) k xs (by omega) (by rw [flat_one, List.length_map]; omega)
  rw [flat_one] at g
  exact g
theorem spec_mrg (h : ModR x n hd c) (xs : List Int) (hx : xs.length ≤ 1000) (k : Nat) (hk : 100 < k) : spec_ModelText.l2 x k xs 0 = some (xs ++ mrgT x, (x.f3.length : Int)) := by
  have hl := h.ml
  have hf : (mrgT x).length = _ := mrgT_len
  exact loopCat0 x.f3 (fun m => two m.f0 ++ two m.f1) (fun k i xs => spec_ModelText.l2 x k xs (i : Int)) (fun xs => some (xs, (x.f3.length : Int))) 10 2000
    (fun k i hi xs hk hM => by
      have ht := h.mt _ (List.getElem_mem hi)
      show spec_ModelText.b2 x (spec_ModelText.l2 x k) k xs (i : Int) = _
      unfold spec_ModelText.b2
      have hM : xs.length + 4 ≤ 2000 := hM
      rw [if_pos (by omega), if_pos (by omega), getD_int x.f3 _ i hi, spec_two2 k _ (by omega) (by omega), Option.bind_some, if_pos (by rw [two_len]; omega), spec_two2 k _ (by omega) (by omega), Option.bind_some, if_pos (by rw [List.length_append, two_len, two_len]; omega), w64 (i := (i : Int) + 1) (by omega) (by omega), show ((i : Int) + 1) = ((i + 1 : Nat) : Int) by omega, List.append_assoc])
    (fun k xs => by
      show spec_ModelText.b2 x (spec_ModelText.l2 x k) k xs (x.f3.length : Int) = _
      unfold spec_ModelText.b2
      rw [if_neg (by omega)]) k xs (by omega) (by show xs.length + (mrgT x).length ≤ 2000; omega)
theorem spec_emb (h : ModR x n hd c) (xs : List Int) (hx : xs.length ≤ 1000) (k : Nat) (hk : 1000 < k) : spec_ModelText.l1 x k xs 0 = some (xs ++ embT x, (x.f4.length : Int)) := by
  have hl := h.ml
  have he := h.el
  have hn := h.n48
  have hf := embT_le h
  exact loopCat0 x.f4 (byts 128) (fun k i xs => spec_ModelText.l1 x k xs (i : Int)) (fun xs => some (xs, (x.f4.length : Int))) 20 5000
    (fun k i hi xs hk hM => by
      have hr := (h.er _ (List.getElem_mem hi)).1
      show spec_ModelText.b1 x (spec_ModelText.l1 x k) k xs (i : Int) = _
      unfold spec_ModelText.b1
      rw [if_pos (by omega), if_pos (by omega), getD_int x.f4 _ i hi, spec_bytes k 128 _ (by omega) (by omega), Option.bind_some, if_pos (by rw [byts_len]; omega), w64 (i := (i : Int) + 1) (by omega) (by omega), show ((i : Int) + 1) = ((i + 1 : Nat) : Int) by omega])
    (fun k xs => by
      show spec_ModelText.b1 x (spec_ModelText.l1 x k) k xs (x.f4.length : Int) = _
      unfold spec_ModelText.b1
      rw [if_neg (by omega)]) k xs (by omega) (by show xs.length + (embT x).length ≤ 5000; omega)
theorem spec_lays (h : ModR x n hd c) (xs : List Int) (hx : xs.length ≤ 5000) (k : Nat) (hk : 6000 < k) : spec_ModelText.l0 x k xs 0 = some (xs ++ laysT x, (x.f5.length : Int)) := by
  have hl := h.ll
  have hn := h.n48
  have hf := laysT_le h
  exact loopCat0 x.f5 layT (fun k i xs => spec_ModelText.l0 x k xs (i : Int)) (fun xs => some (xs, (x.f5.length : Int))) 5900 6500
    (fun k i hi xs hk hM => by
      have hy := h.lr _ (List.getElem_mem hi)
      obtain ⟨y, ey⟩ : ∃ y, x.f5[i] = y := ⟨_, rfl⟩
      rw [ey] at hy hM
      have hg : x.f5.getD (i : Int).toNat o48 = y := by rw [getD_int x.f5 _ i hi, ey]
      have g1 := hy.g1.1
      have g2 := hy.g2.1
      unfold layT at hM
      simp only [List.length_append, byts_len] at hM
      show spec_ModelText.b0 x (spec_ModelText.l0 x k) k xs (i : Int) = _
      unfold spec_ModelText.b0
      rw [if_pos (by omega), if_pos (by omega), hg, spec_bytes k 0 _ (by omega) (by omega), Option.bind_some, if_pos (by rw [byts_len]; omega), spec_matT hy.q k (by omega), Option.bind_some, if_pos (by simp only [List.length_append, byts_len]; omega), spec_matT hy.k k (by omega), Option.bind_some, if_pos (by simp only [List.length_append, byts_len]; omega),
        spec_matT hy.v k (by omega), Option.bind_some, if_pos (by simp only [List.length_append, byts_len]; omega), spec_matT hy.o k (by omega), Option.bind_some, if_pos (by simp only [List.length_append, byts_len]; omega), spec_bytes k 0 _ (by omega) (by omega), Option.bind_some, if_pos (by simp only [List.length_append, byts_len]; omega),
        spec_matT hy.up k (by omega), Option.bind_some, if_pos (by simp only [List.length_append, byts_len]; omega), spec_matT hy.dn k (by omega), Option.bind_some, if_pos (by simp only [List.length_append, byts_len]; omega), w64 (i := (i : Int) + 1) (by omega) (by omega), show ((i : Int) + 1) = ((i + 1 : Nat) : Int) by omega, ey]
      congr 1
      unfold layT
      simp only [List.append_assoc])
    (fun k xs => by
      show spec_ModelText.b0 x (spec_ModelText.l0 x k) k xs (x.f5.length : Int) = _
      unfold spec_ModelText.b0
      rw [if_neg (by omega)]) k xs (by omega) (by show xs.length + (laysT x).length ≤ 6500; omega)
theorem spec_head (h : ModR x n hd c) : [84, 77, 49] ++ [IntKind.u8.wrap x.f0, IntKind.u8.wrap x.f1, IntKind.u8.wrap x.f2, IntKind.u8.wrap (x.f3.length : Int), IntKind.u8.wrap (x.f5.length : Int)] = headT x := by
  have h1 := h.ml
  have h2 := h.ll
  have h3 := h.c24
  have h4 := h.n48
  have h5 := h.h12
  unfold headT byts b8
  simp only [List.map_cons, List.map_nil]
  rw [h.dim, h.hds, h.ctx, w64 (i := (n : Int) + 0) (by omega) (by omega), w64 (i := (hd : Int) + 0) (by omega) (by omega), w64 (i := (c : Int) + 0) (by omega) (by omega), w64 (i := (x.f3.length : Int) + 0) (by omega) (by omega), w64 (i := (x.f5.length : Int) + 0) (by omega) (by omega)]
  simp only [Int.add_zero]
end
theorem spec_text (x : S39) (hx : iModel x ≤ 1048576) (k : Nat) (hk : 7000000 < k) : spec_ModelText.g k x = some (if modelB x = true then (fileT x, true) else (⟨#[]⟩, false)) := by
  unfold spec_ModelText.g
  rw [spec_model x hx k (by omega), Option.bind_some]
  by_cases hb : modelB x = true
  · rw [if_pos hb, if_pos hb]
    obtain ⟨n, hd, c, h⟩ := mod_r x hb
    have h1 := embT_le h
    have h2 := headM_le h
    have h3 := laysT_le h
    have h4 := turT_le h.cs
    have h5 := turT_le h.sn
    have h6 := h.ml
    have h7 := h.ll
    have h8 := h.n48
    have h9 := modT_le h
    have g6 := h.ge.1
    have u1 : (upsT x).length = _ := upsT_len
    have u2 : (mrgT x).length = _ := mrgT_len
    rw [spec_head h, spec_ups h _ (by rw [headT_len]; omega) k (by omega), Option.bind_some]
    dsimp only
    rw [spec_mrg h _ (by rw [List.length_append, headT_len]; omega) k (by omega), Option.bind_some]
    dsimp only
    rw [spec_emb h _ (by simp only [List.length_append, headT_len]; omega) k (by omega), Option.bind_some]
    dsimp only
    rw [spec_lays h _ (by simp only [List.length_append, headT_len]; omega) k (by omega), Option.bind_some]
    dsimp only
    rw [spec_bytes k 0 _ (by omega) (by omega), Option.bind_some, if_pos (by simp only [List.length_append, headT_len, byts_len]; omega)]
    rw [spec_matT h.hm k (by omega), Option.bind_some, if_pos (by simp only [List.length_append, headT_len, byts_len]; omega)]
    rw [spec_turT _ _ _ h.cs k (by omega), Option.bind_some, if_pos (by simp only [List.length_append, headT_len, byts_len]; omega)]
    rw [spec_turT _ _ _ h.sn k (by omega), Option.bind_some, if_pos (by simp only [List.length_append, headT_len, byts_len]; omega)]
    have e : headT x ++ upsT x ++ mrgT x ++ embT x ++ laysT x ++ byts 0 x.f6 ++ matT x.f7 ++ turT x.f8.f0 ++ turT x.f8.f1 = modT x := by unfold modT; simp only [List.append_assoc]
    rw [e, w64 (by omega) (by omega), if_neg (by omega), spec_sealT _ (by rw [strOfNums_size]; omega) k (by omega), Option.bind_some]; rfl
  · rw [if_neg hb, if_neg hb]

theorem FnExactFileBytes : laws_FnExactFileBytes.Pure := by
  intro x ok
  obtain ⟨k, hk⟩ : ∃ k : Nat, k = mModel x + 9000000 := ⟨_, rfl⟩
  refine ⟨k, ?_⟩
  unfold laws_FnExactFileBytes.g
  rw [szModel_g k x 1048576 ok (by omega) (by omega) (by omega)]
  unfold lessS
  rw [Option.bind_some]
  by_cases c : (1048576 : Int) < (mModel x : Int)
  · rw [if_pos c, if_pos (by omega)]
  · rw [if_neg c, if_neg (by omega)]
    have g := toModel_g k x (by omega) (by omega)
    have i := i_model x
    have e := eqModel_g k (gModel x) (by omega) (by omega)
    unfold spec_FileBytes.g impl_FileBytes.g
    rw [g, Option.bind_some, spec_text _ (by omega) k (by omega), Option.bind_some, Option.bind_some, Option.bind_some, impl_text _ (by omega) k (by omega), Option.bind_some, Option.bind_some, if_pos rfl, Option.bind_some, e, Option.bind_some, if_pos rfl]

end Go.Proofs.Ytacbkcofcbglhaa.Pure
