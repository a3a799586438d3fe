/- The program's AddCell returns what the reference's AddCell returns, leaves its arguments alone and shares nothing with them, for all arguments. No conditions. -/
import Derived.Test.YtlpginalgdbopaaGFnExactAddCell5
namespace Go.Proofs.Ytlpginalgdbopaa.Pure
open Go.RowKit Go.Proofs.Ytlpginalgdbopaa.PFnExactAddCell Go.Proofs.YtlpginalgdbopaaW.PrintWords Go.Proofs.YtlpginalgdbopaaW.PrintLast Go.Proofs.YtlpginalgdbopaaW.PrintMore
set_option linter.unusedVariables false
set_option linter.unusedSimpArgs false
theorem k1_ {n k : Nat} (h : n < k) : ∃ m, k = m + 1 := ⟨k - 1, by omega⟩

theorem w64 {i : Int} (h0 : -9223372036854775808 ≤ i) (h : i ≤ 9223372036854775807) : wrap64 i = i := by unfold wrap64; omega
theorem getD_int {α : Type} (l : List α) (z : α) (i : Nat) (h : i < l.length) : l.getD (i : Int).toNat z = l[i] := by simp [List.getD_eq_getElem?_getD, h]
/-- what the parts of a list come to. -/
def sumS {α : Type} (s : α → Nat) : List α → Nat
 | [] => 0
 | x :: l => s x + sumS s l
theorem sumS_le {α : Type} (s : α → Nat) : ∀ (l : List α) (x : α), x ∈ l → s x ≤ sumS s l
 | [], _, h => by cases h
 | y :: l, x, h => by
   have e : sumS s (y :: l) = s y + sumS s l := rfl
   rcases List.mem_cons.mp h with g | g
   · rw [g, e]; omega
   · have := sumS_le s l x g; rw [e]; omega
theorem sumS_cons {α : Type} (s : α → Nat) (x : α) (l : List α) : sumS s (x :: l) = s x + sumS s l := rfl
/-- a list's size: its length and its parts'. -/
def szL {α : Type} (s : α → Nat) (l : List α) : Nat := l.length + sumS s l
/-- how a size is taken off: none is left, or the rest. -/
def lessS (n : Int) (s : Nat) : Option Int := some (if n < (s : Int) then -1 else n - (s : Int))
theorem sz_then {p : Option Int} {G : Int → Option Int} {n : Int} {a b : Nat} (h : p = lessS n a) (h0 : 0 ≤ n) (hG : (a : Int) ≤ n → G (n - a) = lessS (n - a) b) :
   (p.bind fun t => if t < 0 then some (-1) else G t) = lessS n (a + b) := by
 rw [h]; unfold lessS; rw [Option.bind_some]
 by_cases c : n < (a : Int)
 · rw [if_pos c, if_pos (by omega), if_pos (by omega)]
 · rw [if_neg c, if_neg (by omega), hG (by omega)]
   unfold lessS
   by_cases d : n - (a : Int) < (b : Int)
   · rw [if_pos d, if_pos (by omega)]
   · rw [if_neg d, if_neg (by omega)]; congr 1; omega
theorem sz_end {p : Option Int} {n : Int} {a : Nat} (h : p = lessS n a) (h0 : 0 ≤ n) : (p.bind fun t => if t < 0 then some (-1) else some t) = lessS n a := by
 have := sz_then (G := fun t => some t) (b := 0) h h0 (fun g => by unfold lessS; rw [if_neg (by omega)]; congr 1; omega)
 simpa using this
theorem sz_law {p : Option Int} {G : Int → Option Bool} {n : Int} {a : Nat} (h : p = lessS n a) (hG : (a : Int) ≤ n → G (n - a) = some true) :
   (p.bind fun t => if t < 0 then some true else G t) = some true := by
 rw [h]; unfold lessS; rw [Option.bind_some]
 by_cases c : n < (a : Int)
 · rw [if_pos c, if_pos (by omega)]
 · rw [if_neg c, if_neg (by omega), hG (by omega)]
section
variable {α : Type} (z : α) (F : Nat → List α → Int → Int → Option Int) (E : Nat → α → Int → Option Int) (s : α → Nat) (ok : α → Prop)
end
section
variable {α β γ : Type} (z : α) (zb : β) (F : Nat → List α → List β → Int → Option (List β)) (E : Nat → α → Option γ) (c : γ → β) (g : α → β) (s : α → Nat) (ok : α → Prop)
end
section
variable {α : Type} (z : α) (F : Nat → List α → List α → Int → Option Bool) (E : Nat → α → Option Bool) (s : α → Nat)
end

theorem szInts_tells (l : List Int) (hl : l.length ≤ 9223372036854775807) (n : Int) (h0 : 0 ≤ n) (h1 : n ≤ 1048576) {k : Nat} : laws_szIntS.g k l n = lessS n l.length := by
 unfold laws_szIntS.g lessS
 rw [w64 (i := n - (l.length : Int)) (by omega) (by omega)]
 by_cases c : n < (l.length : Int)
 · rw [if_pos (by omega), if_pos c]
 · rw [if_neg (by omega), if_neg c]

section
variable {α β : Type} (z : α) (zb : β) (l : List α) (L : Nat → Int → List β → Option (Int × List β)) (E : Nat → α → Option β) (g : α → β) (s : α → Nat)
theorem to_fromW (hL : ∀ k i xs, L (k + 1) i xs = if i < (l.length : Int) then (if 0 ≤ i ∧ i < (l.length : Int) then ((E k (l.getD i.toNat z)).bind fun t => (if 0 ≤ i ∧ i < ((xs.length : Nat) : Int) then (L k (wrap64 (i + 1)) (xs.set i.toNat t)) else none)) else none) else some (i, xs))
   (hE : ∀ k, ∀ x ∈ l, s x < k → E k x = some (g x)) (hl : l.length ≤ 9223372036854775807) (d : Nat) : ∀ (k i : Nat), i ≤ l.length → l.length - i = d → d + sumS s (l.drop i) < k →
   ∃ j, L k (i : Int) ((l.take i).map g ++ List.replicate (l.length - i) zb) = some (j, l.map g) := by
 induction d with
 | zero =>
   intro k i hi hd hk
   obtain ⟨k, rfl⟩ := k1_ hk
   rw [hL, if_neg (by omega), List.take_of_length_le (by omega), hd]; simp
 | succ d ih =>
   intro k i hi hd hk
   obtain ⟨k, rfl⟩ := k1_ hk
   have hlt : i < l.length := by omega
   rw [List.drop_eq_getElem_cons hlt, sumS_cons] at hk
   rw [hL, if_pos (by omega), if_pos (by omega), getD_int l _ i hlt, hE k l[i] (List.getElem_mem hlt) (by omega), Option.bind_some, if_pos (by simp; omega), w64 (by omega) (by omega), show ((i : Int) + 1) = ((i + 1 : Nat) : Int) by omega]
   have e : ((l.take i).map g ++ List.replicate (l.length - i) zb).set (i : Int).toNat (g l[i]) = (l.take (i + 1)).map g ++ List.replicate (l.length - (i + 1)) zb := by
     rw [Int.toNat_natCast, List.set_append_right _ _ (by simp; omega), show l.length - i = (l.length - (i + 1)) + 1 by omega, List.replicate_succ, List.length_map, List.length_take, Nat.min_eq_left (by omega), Nat.sub_self, List.set_cons_zero, List.take_succ_eq_append_getElem hlt, List.map_append, List.append_assoc]
     rfl
   rw [e]
   exact ih k (i + 1) (by omega) (by omega) (by omega)
theorem to_listW (hL : ∀ k i xs, L (k + 1) i xs = if i < (l.length : Int) then (if 0 ≤ i ∧ i < (l.length : Int) then ((E k (l.getD i.toNat z)).bind fun t => (if 0 ≤ i ∧ i < ((xs.length : Nat) : Int) then (L k (wrap64 (i + 1)) (xs.set i.toNat t)) else none)) else none) else some (i, xs))
   (hE : ∀ k, ∀ x ∈ l, s x < k → E k x = some (g x)) (hl : l.length < 4294967296) (k : Nat) (hk : szL s l < k) :
   (if 0 ≤ (l.length : Int) ∧ (l.length : Int) < 4294967296 then ((L k 0 (List.replicate (l.length : Int).toNat zb)).bind (fun o => (some o.2))) else none) = some (l.map g) := by
 unfold szL at hk
 obtain ⟨j, e⟩ := to_fromW z zb l L E g s hL hE (by omega) l.length k 0 (by omega) (by omega) (by rw [List.drop_zero]; omega)
 rw [if_pos ⟨by omega, by omega⟩, Int.toNat_natCast]
 simp only [List.take_zero, List.map_nil, List.nil_append, Nat.sub_zero] at e
 rw [show (0 : Int) = ((0 : Nat) : Int) from rfl, e]; rfl
end
section
variable {α : Type} (z : α) (l : List α) (L : Nat → Int → Option (Bool ⊕ Int)) (E : Nat → α → Option Bool) (s : α → Nat)
theorem eq_fromW (hL : ∀ k i, L (k + 1) i = if i < (l.length : Int) then (if 0 ≤ i ∧ i < (l.length : Int) then (if 0 ≤ i ∧ i < (l.length : Int) then ((E k (l.getD i.toNat z)).bind fun t => (if t = true then (L k (wrap64 (i + 1))) else (some (Sum.inl false)))) else none) else none) else some (Sum.inr i))
   (hE : ∀ k, ∀ x ∈ l, s x < k → E k x = some true) (hl : l.length ≤ 9223372036854775807) (d : Nat) : ∀ (k i : Nat), i ≤ l.length → l.length - i = d → d + sumS s (l.drop i) < k → ∃ j, L k (i : Int) = some (.inr j) := by
 induction d with
 | zero =>
   intro k i hi hd hk
   obtain ⟨k, rfl⟩ := k1_ hk
   rw [hL, if_neg (by omega)]; exact ⟨_, rfl⟩
 | succ d ih =>
   intro k i hi hd hk
   obtain ⟨k, rfl⟩ := k1_ hk
   have hlt : i < l.length := by omega
   rw [List.drop_eq_getElem_cons hlt, sumS_cons] at hk
   rw [hL, if_pos (by omega), if_pos (by omega), if_pos (by omega), getD_int l _ i hlt, hE k l[i] (List.getElem_mem hlt) (by omega), Option.bind_some, if_pos rfl, w64 (by omega) (by omega), show ((i : Int) + 1) = ((i + 1 : Nat) : Int) by omega]
   exact ih k (i + 1) (by omega) (by omega) (by omega)
theorem eq_listW (hL : ∀ k i, L (k + 1) i = if i < (l.length : Int) then (if 0 ≤ i ∧ i < (l.length : Int) then (if 0 ≤ i ∧ i < (l.length : Int) then ((E k (l.getD i.toNat z)).bind fun t => (if t = true then (L k (wrap64 (i + 1))) else (some (Sum.inl false)))) else none) else none) else some (Sum.inr i))
   (hE : ∀ k, ∀ x ∈ l, s x < k → E k x = some true) (hl : l.length ≤ 9223372036854775807) (k : Nat) (hk : szL s l < k) :
   (if (l.length : Int) = (l.length : Int) then ((L k 0).bind (fun o => match o with | .inl r_ => some r_ | .inr _ => (some true))) else (some false)) = some true := by
 unfold szL at hk
 obtain ⟨j, e⟩ := eq_fromW z l L E s hL hE hl l.length k 0 (by omega) (by omega) (by rw [List.drop_zero]; omega)
 rw [if_pos rfl, show (0 : Int) = ((0 : Nat) : Int) from rfl, e]; rfl
end
section
variable {α : Type} (z : α) (l : List α) (L : Nat → Int → Int → Option (Int ⊕ (Int × Int))) (E : Nat → α → Int → Option Int) (s : α → Nat)
theorem sz_fromW (hL : ∀ k n i, L (k + 1) n i = if i < (l.length : Int) then (if 0 ≤ i ∧ i < (l.length : Int) then ((E k (l.getD i.toNat z) n).bind fun t => (if t < 0 then (some (Sum.inl (-1))) else (L k t (wrap64 (i + 1))))) else none) else some (Sum.inr (n, i)))
   (hE : ∀ k x n, x ∈ l → s x < k → 0 ≤ n → n ≤ 1048576 → E k x n = lessS n (s x)) (hl : l.length ≤ 9223372036854775807) (d : Nat) :
   ∀ (k i : Nat) (n : Int), i ≤ l.length → l.length - i = d → d + sumS s (l.drop i) < k → 0 ≤ n → n ≤ 1048576 → (L k n (i : Int)).bind (fun o => match o with | .inl r_ => some r_ | .inr ⟨m, _⟩ => some m) = lessS n (sumS s (l.drop i)) := by
 induction d with
 | zero =>
   intro k i n hi hd hk h0 h1
   obtain ⟨k, rfl⟩ : ∃ m, k = m + 1 := ⟨k - 1, by omega⟩
   rw [hL, if_neg (by omega), List.drop_of_length_le (by omega)]
   unfold lessS; rw [if_neg (by show ¬ n < ((0 : Nat) : Int); omega)]
   show some n = some (n - ((0 : Nat) : Int)); congr 1; omega
 | succ d ih =>
   intro k i n hi hd hk h0 h1
   obtain ⟨k, rfl⟩ : ∃ m, k = m + 1 := ⟨k - 1, by omega⟩
   have hlt : i < l.length := by omega
   rw [List.drop_eq_getElem_cons hlt, sumS_cons] at hk
   rw [List.drop_eq_getElem_cons hlt, sumS_cons, hL, if_pos (by omega), if_pos (by omega), getD_int l _ i hlt, hE k l[i] n (List.getElem_mem hlt) (by omega) h0 h1]
   unfold lessS
   rw [Option.bind_some]
   by_cases c : n < (s l[i] : Int)
   · rw [if_pos c, if_pos (by omega), if_pos (by omega)]; rfl
   · rw [if_neg c, if_neg (by omega), w64 (by omega) (by omega), show ((i : Int) + 1) = ((i + 1 : Nat) : Int) by omega, ih k (i + 1) _ (by omega) (by omega) (by omega) (by omega) (by omega)]
     unfold lessS
     by_cases e : n - (s l[i] : Int) < (sumS s (l.drop (i + 1)) : Int)
     · rw [if_pos e, if_pos (by omega)]
     · rw [if_neg e, if_neg (by omega)]; congr 1; omega
theorem sz_listW (hL : ∀ k n i, L (k + 1) n i = if i < (l.length : Int) then (if 0 ≤ i ∧ i < (l.length : Int) then ((E k (l.getD i.toNat z) n).bind fun t => (if t < 0 then (some (Sum.inl (-1))) else (L k t (wrap64 (i + 1))))) else none) else some (Sum.inr (n, i)))
   (hE : ∀ k x n, x ∈ l → s x < k → 0 ≤ n → n ≤ 1048576 → E k x n = lessS n (s x)) (hl : l.length ≤ 9223372036854775807) (k : Nat) (n : Int) (hk : szL s l < k) (h0 : 0 ≤ n) (h1 : n ≤ 1048576) :
   (if wrap64 (n - (l.length : Int)) < 0 then some (-1) else ((L k (wrap64 (n - (l.length : Int))) 0).bind (fun o => match o with | .inl r_ => some r_ | .inr ⟨m, _⟩ => some m))) = lessS n (szL s l) := by
 unfold szL at hk ⊢
 rw [w64 (i := n - (l.length : Int)) (by omega) (by omega)]
 unfold lessS
 by_cases c : n < (l.length : Int)
 · rw [if_pos (by omega), if_pos (by omega)]
 · have := sz_fromW z l L E s hL hE hl l.length k 0 (n - (l.length : Int)) (by omega) (by omega) (by rw [List.drop_zero]; omega) (by omega) (by omega)
   rw [List.drop_zero] at this
   rw [if_neg (by omega), show (0 : Int) = ((0 : Nat) : Int) from rfl, this]
   unfold lessS
   by_cases e : n - (l.length : Int) < (sumS s l : Int)
   · rw [if_pos e, if_pos (by omega)]
   · rw [if_neg e, if_neg (by omega)]; congr 1; omega
end

theorem to_from (l : List Int) (hl : l.length ≤ 9223372036854775806) (d : Nat) : ∀ (k i : Nat), i ≤ l.length → l.length - i = d → d < k →
   laws_toIntS.l0 l k (i : Int) (l.take i ++ List.replicate (l.length - i) 0) = some ((l.length : Int), l) := by
 induction d with
 | zero =>
   intro k i hi' hd hk
   obtain ⟨k, rfl⟩ := k1_ hk
   unfold laws_toIntS.l0 laws_toIntS.b0; rw [if_neg (by omega), List.take_of_length_le (by omega), hd, show (i : Int) = (l.length : Int) by omega]; simp
 | succ d ih =>
   intro k i hi' hd hk
   obtain ⟨k, rfl⟩ := k1_ hk
   have hlt : i < l.length := by omega
   unfold laws_toIntS.l0 laws_toIntS.b0
   rw [if_pos (by omega), if_pos (by omega), if_pos ⟨by omega, by simp; omega⟩, getD_int l 0 i hlt, w64 (by omega) (by omega), show ((i : Int) + 1) = ((i + 1 : Nat) : Int) by omega]
   have e : (l.take i ++ List.replicate (l.length - i) (0 : Int)).set (i : Int).toNat l[i] = l.take (i + 1) ++ List.replicate (l.length - (i + 1)) 0 := by
     rw [Int.toNat_natCast, List.set_append_right _ _ (by simp; omega), show l.length - i = (l.length - (i + 1)) + 1 by omega, List.replicate_succ, List.length_take, Nat.min_eq_left (by omega), Nat.sub_self, List.set_cons_zero, List.take_succ_eq_append_getElem hlt, List.append_assoc]
     rfl
   rw [e]
   exact ih k (i + 1) (by omega) (by omega) (by omega)
theorem to_tells (l : List Int) (hl : l.length < 4294967296) (k : Nat) (hk : l.length < k) : laws_toIntS.g k l = some l := by
 unfold laws_toIntS.g
 rw [if_pos (by omega), Int.toNat_natCast]
 have := to_from l (by omega) l.length k 0 (by omega) (by omega) hk
 have h0 : laws_toIntS.l0 l k 0 (List.replicate l.length 0) = some ((l.length : Int), l) := by simpa using this
 rw [h0]; rfl

theorem eq_from (a b : List Int) (hl : a.length ≤ 9223372036854775806) (hab : a.length = b.length) (d : Nat) : ∀ (k i : Nat), i ≤ a.length → a.length - i = d → d < k →
   (laws_eqIntS.l0 a b k (i : Int)).bind (fun o => match o with | .inl r_ => some r_ | .inr _ => some true) = some (decide (a.drop i = b.drop i)) := by
 induction d with
 | zero =>
   intro k i hi' hd hk
   obtain ⟨k, rfl⟩ := k1_ hk
   rw [List.drop_of_length_le (by omega), List.drop_of_length_le (by omega)]
   unfold laws_eqIntS.l0 laws_eqIntS.b0; rw [if_neg (by omega)]; simp
 | succ d ih =>
   intro k i hi' hd hk
   obtain ⟨k, rfl⟩ := k1_ hk
   have hlt : i < a.length := by omega
   have hltb : i < b.length := by omega
   unfold laws_eqIntS.l0 laws_eqIntS.b0
   rw [if_pos (by omega), if_pos (by omega), if_pos (by omega), getD_int a 0 i hlt, getD_int b 0 i hltb, List.drop_eq_getElem_cons hlt, List.drop_eq_getElem_cons hltb]
   by_cases h : a[i] = b[i]
   · rw [if_pos h, w64 (by omega) (by omega), show ((i : Int) + 1) = ((i + 1 : Nat) : Int) by omega, ih k (i + 1) (by omega) (by omega) (by omega)]
     congr 1
     rw [decide_eq_decide]
     simp only [h, List.cons.injEq, true_and]
   · rw [if_neg h, decide_eq_false (fun e => h (List.cons.inj e).1)]; rfl
theorem eq_tells (a b : List Int) (hl : a.length ≤ 9223372036854775806) (k : Nat) (hk : a.length < k) : laws_eqIntS.g k a b = some (decide (a = b)) := by
 unfold laws_eqIntS.g
 by_cases h : a.length = b.length
 · rw [if_pos (by omega)]
   have := eq_from a b hl h a.length k 0 (by omega) (by omega) hk
   rw [List.drop_zero, List.drop_zero] at this
   exact this
 · rw [if_neg (by omega), decide_eq_false]
   intro e; rw [e] at h; exact h rfl

section
variable {α ρ : Type} (l : List α) (B : α → Bool)
/-- slices.IndexFunc and ContainsFunc of what is not so. -/
theorem loopAny (z : α) (L : Nat → Int → Option (Int ⊕ Int)) (E : Nat → α → Option Bool) (c : Nat)
   (hL : ∀ k i, L (k + 1) i = if i < (l.length : Int) then (if 0 ≤ i ∧ i < (l.length : Int) then ((E k (l.getD i.toNat z)).bind fun t => if t = true then some (.inl i) else L k (wrap64 (i + 1))) else none) else some (.inr i))
   (hE : ∀ k, c < k → ∀ x ∈ l, E k x = some (!B x)) (hl : l.length ≤ 4611686018427387904) (d : Nat) : ∀ (k i : Nat), i + d = l.length → d + c < k →
   ∃ r : Int, (L k (i : Int)).bind (fun o => match o with | .inl r_ => some r_ | .inr _ => some (-1)) = some r ∧ decide (r ≥ 0) = !((l.drop i).all B) := by
 induction d with
 | zero =>
   intro k i hi hk
   obtain ⟨k, rfl⟩ := k1_ hk
   rw [hL, if_neg (by omega), List.drop_of_length_le (by omega)]
   exact ⟨_, rfl, rfl⟩
 | succ d ih =>
   intro k i hi hk
   obtain ⟨k, rfl⟩ := k1_ hk
   have hlt : i < l.length := by omega
   rw [hL, if_pos (by omega), if_pos (by omega), getD_int l z i hlt, hE k (by omega) _ (List.getElem_mem hlt), Option.bind_some, List.drop_eq_getElem_cons hlt, List.all_cons]
   cases hb : B l[i] with
   | false => exact ⟨(i : Int), rfl, by rw [decide_eq_true (by omega)]; rfl⟩
   | true =>
     obtain ⟨r, e, g⟩ := ih k (i + 1) (by omega) (by omega)
     refine ⟨r, ?_, by rw [g]; rfl⟩
     rw [if_neg (by simp), w64 (by omega) (by omega), show ((i : Int) + 1) = ((i + 1 : Nat) : Int) by omega]
     exact e
theorem loopAny0 (z : α) (L : Nat → Int → Option (Int ⊕ Int)) (E : Nat → α → Option Bool) (c : Nat)
   (hL : ∀ k i, L (k + 1) i = if i < (l.length : Int) then (if 0 ≤ i ∧ i < (l.length : Int) then ((E k (l.getD i.toNat z)).bind fun t => if t = true then some (.inl i) else L k (wrap64 (i + 1))) else none) else some (.inr i))
   (hE : ∀ k, c < k → ∀ x ∈ l, E k x = some (!B x)) (hl : l.length ≤ 4611686018427387904) (k : Nat) (hk : l.length + c < k) :
   (((L k 0).bind (fun o => match o with | .inl r_ => some r_ | .inr _ => some (-1))).bind fun t => some (decide (t ≥ 0))) = some (!(l.all B)) := by
 obtain ⟨r, e, g⟩ := loopAny l B z L E c hL hE hl l.length k 0 (by omega) hk
 rw [List.drop_zero] at g
 rw [show (0 : Int) = ((0 : Nat) : Int) from rfl, e, Option.bind_some]
 exact congrArg some g
/-- a loop that puts one behind the other. -/
theorem loopMap {β : Type} (g : α → β) (L : Nat → List β → Int → Option (List β × Int)) (body : Nat → Int → (β → Option (List β × Int)) → Option (List β × Int)) (c : Nat)
   (hL : ∀ k xs i, L (k + 1) xs i = if i < (l.length : Int) then (if 0 ≤ i ∧ i < (l.length : Int) then body k i (fun b => if xs.length < 4294967296 then L k (xs ++ [b]) (wrap64 (i + 1)) else none) else none) else some (xs, i))
   (hB : ∀ k, c < k → ∀ (i : Nat) (h : i < l.length) r, body k (i : Int) r = r (g l[i])) (hl : l.length < 4294967296) (d : Nat) :
   ∀ (k i : Nat), i + d = l.length → d + c < k → L k ((l.take i).map g) (i : Int) = some (l.map g, (l.length : Int)) := by
 induction d with
 | zero =>
   intro k i hi hk
   obtain ⟨k, rfl⟩ := k1_ hk
   rw [hL, if_neg (by omega), List.take_of_length_le (by omega), show (i : Int) = (l.length : Int) by omega]
 | succ d ih =>
   intro k i hi hk
   obtain ⟨k, rfl⟩ := k1_ hk
   have hlt : i < l.length := by omega
   have e : (l.take i).map g ++ [g l[i]] = (l.take (i + 1)).map g := by rw [List.take_succ_eq_append_getElem hlt, List.map_append]; rfl
   rw [hL, if_pos (by omega), if_pos (by omega), hB k (by omega) i hlt, if_pos (by simp; omega), w64 (by omega) (by omega), show ((i : Int) + 1) = ((i + 1 : Nat) : Int) by omega, e, ih k (i + 1) (by omega) (by omega)]
theorem loopMap0 {β : Type} (g : α → β) (L : Nat → List β → Int → Option (List β × Int)) (body : Nat → Int → (β → Option (List β × Int)) → Option (List β × Int)) (c : Nat)
   (hL : ∀ k xs i, L (k + 1) xs i = if i < (l.length : Int) then (if 0 ≤ i ∧ i < (l.length : Int) then body k i (fun b => if xs.length < 4294967296 then L k (xs ++ [b]) (wrap64 (i + 1)) else none) else none) else some (xs, i))
   (hB : ∀ k, c < k → ∀ (i : Nat) (h : i < l.length) r, body k (i : Int) r = r (g l[i])) (hl : l.length < 4294967296) (k : Nat) (hk : l.length + c < k) : L k [] 0 = some (l.map g, (l.length : Int)) :=
 loopMap l g L body c hL hB hl l.length k 0 (by omega) hk
end

def mPart (x : S164) : Nat := x.f1.length
def mParts : List S164 → Nat := szL mPart
def mPartss : List (List S164) → Nat := szL mParts
def mCell (x : S98) : Nat := mPartss x.f0 + mPartss x.f1
def mCells : List S98 → Nat := szL mCell
def mCellss : List (List S98) → Nat := szL mCells
def mStore (x : S84) : Nat := x.f0.length + mCellss x.f1
def mTable (x : S85) : Nat := x.f0.length
theorem szPart_g (k : Nat) (x : S164) (n : Int) (ok : okT164 x) (h0 : 0 ≤ n) (h1 : n ≤ 1048576) : laws_szPart.g k x n = lessS n (mPart x) := sz_end (szInts_tells _ ok.2.1 n h0 h1) h0
theorem szParts_g (k : Nat) (x : List S164) (n : Int) (ok : okT160 x) (hk : mParts x < k) (h0 : 0 ≤ n) (h1 : n ≤ 1048576) : laws_szPartS.g k x n = lessS n (mParts x) :=
 sz_listW o164 x (laws_szPartS.l0 x) (fun k y n => laws_szPart.g k y n) mPart (fun _ _ _ => rfl) (fun k y n hy _ h0 h1 => szPart_g k y n (ok.2 y hy) h0 h1) ok.1 k n hk h0 h1
theorem szPartss_g (k : Nat) (x : List (List S164)) (n : Int) (ok : okT96 x) (hk : mPartss x < k) (h0 : 0 ≤ n) (h1 : n ≤ 1048576) : laws_szPartSS.g k x n = lessS n (mPartss x) :=
 sz_listW [] x (laws_szPartSS.l0 x) (fun k y n => laws_szPartS.g k y n) mParts (fun _ _ _ => rfl) (fun k y n hy hk h0 h1 => szParts_g k y n (ok.2 y hy) hk h0 h1) ok.1 k n hk h0 h1
theorem szCell_g (k : Nat) (x : S98) (n : Int) (ok : okT98 x) (hk : mCell x < k) (h0 : 0 ≤ n) (h1 : n ≤ 1048576) : laws_szCell.g k x n = lessS n (mCell x) := by
 have h : mCell x = mPartss x.f0 + mPartss x.f1 := rfl
 exact sz_then (szPartss_g k x.f0 n ok.1 (by omega) h0 h1) h0 fun g => sz_end (szPartss_g k x.f1 _ ok.2 (by omega) (by omega) (by omega)) (by omega)
theorem szCells_g (k : Nat) (x : List S98) (n : Int) (ok : okT156 x) (hk : mCells x < k) (h0 : 0 ≤ n) (h1 : n ≤ 1048576) : laws_szCellS.g k x n = lessS n (mCells x) :=
 sz_listW o98 x (laws_szCellS.l0 x) (fun k y n => laws_szCell.g k y n) mCell (fun _ _ _ => rfl) (fun k y n hy hk h0 h1 => szCell_g k y n (ok.2 y hy) hk h0 h1) ok.1 k n hk h0 h1
theorem szCellss_g (k : Nat) (x : List (List S98)) (n : Int) (ok : okT82 x) (hk : mCellss x < k) (h0 : 0 ≤ n) (h1 : n ≤ 1048576) : laws_szCellSS.g k x n = lessS n (mCellss x) :=
 sz_listW [] x (laws_szCellSS.l0 x) (fun k y n => laws_szCellS.g k y n) mCells (fun _ _ _ => rfl) (fun k y n hy hk h0 h1 => szCells_g k y n (ok.2 y hy) hk h0 h1) ok.1 k n hk h0 h1
theorem szStore_g (k : Nat) (x : S84) (n : Int) (ok : okT84 x) (hk : mStore x < k) (h0 : 0 ≤ n) (h1 : n ≤ 1048576) : laws_szStore.g k x n = lessS n (mStore x) := by
 have h : mStore x = x.f0.length + mCellss x.f1 := rfl
 exact sz_then (szInts_tells x.f0 ok.1.1 n h0 h1) h0 fun g => sz_end (szCellss_g k x.f1 _ ok.2 (by omega) (by omega) (by omega)) (by omega)
theorem szTable_g (k : Nat) (x : S85) (n : Int) (ok : okT85 x) (h0 : 0 ≤ n) (h1 : n ≤ 1048576) : laws_szTable.g k x n = lessS n (mTable x) := sz_end (szInts_tells _ ok.1.1 n h0 h1) h0
-- copies
def gPart (x : S164) : S149 := ⟨x.f0, x.f1⟩
def gParts : List S164 → List S149 := List.map gPart
def gPartss : List (List S164) → List (List S149) := List.map gParts
def gCell (x : S98) : S62 := ⟨gPartss x.f0, gPartss x.f1⟩
def gCells : List S98 → List S62 := List.map gCell
def gCellss : List (List S98) → List (List S62) := List.map gCells
def gStore (x : S84) : S58 := ⟨x.f0, gCellss x.f1⟩
def gTable (x : S85) : S67 := ⟨x.f0, x.f1⟩
theorem in_list {α : Type} {s : α → Nat} {l : List α} (h : szL s l ≤ 1048576) : l.length ≤ 1048576 ∧ ∀ x ∈ l, s x ≤ 1048576 := by
 unfold szL at h; exact ⟨by omega, fun x hx => by have := sumS_le s l x hx; omega⟩
theorem toPart_g (k : Nat) (x : S164) (h : mPart x ≤ 1048576) (hk : mPart x < k) : laws_toPart.g k x = some (gPart x) := by
 have g : mPart x = x.f1.length := rfl
 unfold laws_toPart.g; rw [to_tells x.f1 (by omega) k (by omega), Option.bind_some]; rfl
theorem toParts_g (k : Nat) (x : List S164) (h : mParts x ≤ 1048576) (hk : mParts x < k) : laws_toPartS.g k x = some (gParts x) :=
 to_listW o164 o149 x (laws_toPartS.l0 x) (fun k y => laws_toPart.g k y) gPart mPart (fun _ _ _ => rfl) (fun k y hy h' => toPart_g k y ((in_list h).2 y hy) h') (by have := (in_list h).1; omega) k hk
theorem toPartss_g (k : Nat) (x : List (List S164)) (h : mPartss x ≤ 1048576) (hk : mPartss x < k) : laws_toPartSS.g k x = some (gPartss x) :=
 to_listW [] [] x (laws_toPartSS.l0 x) (fun k y => laws_toPartS.g k y) gParts mParts (fun _ _ _ => rfl) (fun k y hy h' => toParts_g k y ((in_list h).2 y hy) h') (by have := (in_list h).1; omega) k hk
theorem toCell_g (k : Nat) (x : S98) (h : mCell x ≤ 1048576) (hk : mCell x < k) : laws_toCell.g k x = some (gCell x) := by
 have g : mCell x = mPartss x.f0 + mPartss x.f1 := rfl
 unfold laws_toCell.g; rw [toPartss_g k x.f0 (by omega) (by omega), Option.bind_some, toPartss_g k x.f1 (by omega) (by omega), Option.bind_some]; rfl
theorem toCells_g (k : Nat) (x : List S98) (h : mCells x ≤ 1048576) (hk : mCells x < k) : laws_toCellS.g k x = some (gCells x) :=
 to_listW o98 o62 x (laws_toCellS.l0 x) (fun k y => laws_toCell.g k y) gCell mCell (fun _ _ _ => rfl) (fun k y hy h' => toCell_g k y ((in_list h).2 y hy) h') (by have := (in_list h).1; omega) k hk
theorem toCellss_g (k : Nat) (x : List (List S98)) (h : mCellss x ≤ 1048576) (hk : mCellss x < k) : laws_toCellSS.g k x = some (gCellss x) :=
 to_listW [] [] x (laws_toCellSS.l0 x) (fun k y => laws_toCellS.g k y) gCells mCells (fun _ _ _ => rfl) (fun k y hy h' => toCells_g k y ((in_list h).2 y hy) h') (by have := (in_list h).1; omega) k hk
theorem toStore_g (k : Nat) (x : S84) (h : mStore x ≤ 1048576) (hk : mStore x < k) : laws_toStore.g k x = some (gStore x) := by
 have g : mStore x = x.f0.length + mCellss x.f1 := rfl
 unfold laws_toStore.g; rw [to_tells x.f0 (by omega) k (by omega), Option.bind_some, toCellss_g k x.f1 (by omega) (by omega), Option.bind_some]; rfl
theorem toTable_g (k : Nat) (x : S85) (h : mTable x ≤ 1048576) (hk : mTable x < k) : laws_toTable.g k x = some (gTable x) := by
 have g : mTable x = x.f0.length := rfl
 unfold laws_toTable.g; rw [to_tells x.f0 (by omega) k (by omega), Option.bind_some]; rfl
-- sizes of the copies, and likes
def iPart (x : S149) : Nat := x.f1.length
def iParts : List S149 → Nat := szL iPart
def iPartss : List (List S149) → Nat := szL iParts
def iCell (x : S62) : Nat := iPartss x.f0 + iPartss x.f1
def iCells : List S62 → Nat := szL iCell
def iCellss : List (List S62) → Nat := szL iCells
def iStore (x : S58) : Nat := x.f0.length + iCellss x.f1
theorem sumS_map' {α β : Type} (g : α → β) (s : α → Nat) (t : β → Nat) (h : ∀ x, t (g x) = s x) : ∀ l : List α, sumS t (l.map g) = sumS s l
 | [] => rfl
 | x :: l => by rw [List.map_cons, sumS_cons, sumS_cons, h, sumS_map' g s t h l]
theorem szL_map {α β : Type} (g : α → β) (s : α → Nat) (t : β → Nat) (h : ∀ x, t (g x) = s x) (l : List α) : szL t (l.map g) = szL s l := by unfold szL; rw [sumS_map' g s t h, List.length_map]
theorem i_part (x : S164) : iPart (gPart x) = mPart x := rfl
theorem i_parts (x : List S164) : iParts (gParts x) = mParts x := szL_map gPart mPart iPart i_part x
theorem i_partss (x : List (List S164)) : iPartss (gPartss x) = mPartss x := szL_map gParts mParts iParts i_parts x
theorem i_cell (x : S98) : iCell (gCell x) = mCell x := by show iPartss (gPartss x.f0) + iPartss (gPartss x.f1) = mPartss x.f0 + mPartss x.f1; rw [i_partss, i_partss]
theorem i_cells (x : List S98) : iCells (gCells x) = mCells x := szL_map gCell mCell iCell i_cell x
theorem i_cellss (x : List (List S98)) : iCellss (gCellss x) = mCellss x := szL_map gCells mCells iCells i_cells x
theorem i_store (x : S84) : iStore (gStore x) = mStore x := by show x.f0.length + iCellss (gCellss x.f1) = x.f0.length + mCellss x.f1; rw [i_cellss]
theorem eqPart_i (k : Nat) (x : S149) (h : iPart x ≤ 1048576) (hk : iPart x < k) : laws_eqPart.g k x x = some true := by
 unfold laws_eqPart.g
 rw [if_pos rfl, eq_tells x.f1 x.f1 (by unfold iPart at h; omega) k (by unfold iPart at hk; omega), Option.bind_some, decide_eq_true rfl]; rfl
theorem eqParts_i (k : Nat) (x : List S149) (h : ∀ y ∈ x, iPart y ≤ 1048576) (hl : x.length ≤ 9223372036854775807) (hk : iParts x < k) : laws_eqPartS.g k x x = some true :=
 eq_listW o149 x (laws_eqPartS.l0 x x) (fun k y => laws_eqPart.g k y y) iPart (fun _ _ => rfl) (fun k y hy h' => eqPart_i k y (h y hy) h') hl k hk
theorem eqPartss_i (k : Nat) (x : List (List S149)) (h : iPartss x ≤ 1048576) (hk : iPartss x < k) : laws_eqPartSS.g k x x = some true :=
 eq_listW [] x (laws_eqPartSS.l0 x x) (fun k y => laws_eqPartS.g k y y) iParts (fun _ _ => rfl) (fun k y hy h' => eqParts_i k y (in_list ((in_list h).2 y hy)).2 (by have := (in_list ((in_list h).2 y hy)).1; omega) h') (by have := (in_list h).1; omega) k hk
theorem eqCell_i (k : Nat) (x : S62) (h : iCell x ≤ 1048576) (hk : iCell x < k) : laws_eqCell.g k x x = some true := by
 have g : iCell x = iPartss x.f0 + iPartss x.f1 := rfl
 unfold laws_eqCell.g
 rw [eqPartss_i k x.f0 (by omega) (by omega), Option.bind_some, if_pos rfl, eqPartss_i k x.f1 (by omega) (by omega), Option.bind_some, if_pos rfl]
/-- cells each of which is small: so many that a table can have. -/
theorem eqCells_i (k : Nat) (x : List S62) (h : ∀ y ∈ x, iCell y ≤ 1048576) (hl : x.length ≤ 9223372036854775807) (hk : iCells x < k) : laws_eqCellS.g k x x = some true :=
 eq_listW o62 x (laws_eqCellS.l0 x x) (fun k y => laws_eqCell.g k y y) iCell (fun _ _ => rfl) (fun k y hy h' => eqCell_i k y (h y hy) h') hl k hk
theorem eqCellss_i (k : Nat) (x : List (List S62)) (h : ∀ y ∈ x, y.length ≤ 9223372036854775807 ∧ ∀ z ∈ y, iCell z ≤ 1048576) (hl : x.length ≤ 9223372036854775807) (hk : iCellss x < k) : laws_eqCellSS.g k x x = some true :=
 eq_listW [] x (laws_eqCellSS.l0 x x) (fun k y => laws_eqCellS.g k y y) iCells (fun _ _ => rfl) (fun k y hy h' => eqCells_i k y (h y hy).2 (h y hy).1 h') hl k hk
/-- a store each cell of which is small. -/
def okS (s : S58) : Prop := s.f0.length ≤ 1048576 ∧ s.f1.length ≤ 1048576 ∧ ∀ y ∈ s.f1, y.length ≤ 1048576 ∧ ∀ z ∈ y, iCell z ≤ 1048576
theorem okS_of (s : S58) (h : iStore s ≤ 1048576) : okS s := by
 have g : iStore s = s.f0.length + iCellss s.f1 := rfl
 have h1 : iCellss s.f1 ≤ 1048576 := by omega
 exact ⟨by omega, (in_list h1).1, fun y hy => in_list ((in_list h1).2 y hy)⟩
theorem eqStore_i (k : Nat) (s : S58) (h : okS s) (hk : iStore s < k) : laws_eqStore.g k s s = some true := by
 have g : iStore s = s.f0.length + iCellss s.f1 := rfl
 have h0 := h.1
 have h1 := h.2.1
 unfold laws_eqStore.g
 rw [eq_tells s.f0 s.f0 (by omega) k (by omega), Option.bind_some, decide_eq_true rfl, if_pos rfl, eqCellss_i k s.f1 (fun y hy => ⟨by have := (h.2.2 y hy).1; omega, (h.2.2 y hy).2⟩) (by omega) (by omega), Option.bind_some, if_pos rfl]
theorem eqTable_i (k : Nat) (t : S67) (h : t.f0.length ≤ 1048576) (hk : t.f0.length < k) : laws_eqTable.g k t t = some true := by
 unfold laws_eqTable.g
 rw [eq_tells t.f0 t.f0 (by omega) k (by omega), Option.bind_some, decide_eq_true rfl, if_pos rfl, if_pos rfl]

/-- numbers below n, no two alike, are at most n. -/
theorem pigeon : ∀ (n : Nat) (l : List Nat), l.Nodup → (∀ x ∈ l, x < n) → l.length ≤ n
 | 0, l, _, h => by
   cases l with
   | nil => exact Nat.le_refl _
   | cons x l => exact absurd (h x (List.mem_cons_self ..)) (by omega)
 | n + 1, l, hd, h => by
   have h1 := pigeon n (l.erase n) (hd.erase n) (fun x hx => by
     have g := (hd.mem_erase_iff).mp hx
     have := h x g.2
     have := g.1
     omega)
   have h2 : l.length ≤ (l.erase n).length + 1 := by
     rw [List.length_erase]; split <;> omega
   omega

/-- how many pages so many tokens need. -/
def needN (c : Int) : Int := if c ≤ 0 then 0 else (c - 1) / 4 + 1
theorem need_many (c : Int) (h : c > 64) : 17 ≤ needN c := by unfold needN; rw [if_neg (by omega)]; omega
theorem spec_need (c : Int) (h1 : 0 ≤ c) (h2 : c ≤ 9223372036854775807) : spec_NeedPages.f c = some (needN c) := by
 unfold spec_NeedPages.f needN
 by_cases g : c ≤ 0
 · rw [if_pos g, if_pos g]
 · rw [if_neg g, if_neg g, w64 (i := c - 1) (by omega) (by omega), Int.tdiv_eq_ediv_of_nonneg (by omega), w64 (i := (c - 1) / 4) (by omega) (by omega), w64 (by omega) (by omega)]
theorem impl_need (c : Int) (h1 : 0 ≤ c) (h2 : c ≤ 9223372036854775807) : impl_NeedPages.f c = some (needN c) := by
 unfold impl_NeedPages.f needN
 by_cases g : c ≤ 0
 · rw [if_pos g, if_pos g]
 · rw [if_neg g, if_neg g, w64 (i := c - 1) (by omega) (by omega), Int.tdiv_eq_ediv_of_nonneg (by omega), w64 (i := (c - 1) / 4) (by omega) (by omega), w64 (by omega) (by omega)]

theorem all_from (lo hi : Int) (l : List Int) (hl : l.length ≤ 9223372036854775806) (d : Nat) : ∀ (k i : Nat), i ≤ l.length → l.length - i = d → d < k →
   (spec_l05All.l0 l lo hi k (i : Int)).bind (fun o => match o with | .inl r_ => some r_ | .inr _ => some true) = some ((l.drop i).all fun x => decide (lo ≤ x) && decide (x ≤ hi)) := by
 induction d with
 | zero =>
   intro k i hi' hd hk
   obtain ⟨k, rfl⟩ := k1_ hk
   rw [List.drop_of_length_le (by omega)]
   unfold spec_l05All.l0 spec_l05All.b0; rw [if_neg (by omega)]; rfl
 | succ d ih =>
   intro k i hi' hd hk
   obtain ⟨k, rfl⟩ := k1_ hk
   have hlt : i < l.length := by omega
   unfold spec_l05All.l0 spec_l05All.b0
   rw [if_pos (by omega), if_pos (by omega), getD_int l 0 i hlt, List.drop_eq_getElem_cons hlt, List.all_cons]
   unfold spec_l01In.f
   by_cases h1 : l[i] ≥ lo
   · rw [if_pos h1]
     simp only [Option.bind_some]
     by_cases h2 : l[i] ≤ hi
     · rw [decide_eq_true h2, if_pos rfl, w64 (by omega) (by omega), show ((i : Int) + 1) = ((i + 1 : Nat) : Int) by omega, ih k (i + 1) (by omega) (by omega) (by omega)]
       simp [h1]
     · rw [decide_eq_false h2]; simp
   · rw [if_neg h1]; simp only [Option.bind_some]; rw [decide_eq_false h1]; simp
theorem all_tells (lo hi : Int) (l : List Int) (hl : l.length ≤ 9223372036854775806) (k : Nat) (hk : l.length < k) : spec_l05All.g k l lo hi = some (l.all fun x => decide (lo ≤ x) && decide (x ≤ hi)) := by
 unfold spec_l05All.g
 have := all_from lo hi l hl l.length k 0 (by omega) (by omega) hk
 rw [List.drop_zero] at this
 exact this

def scanB (f : Nat → Bool) : Nat → Nat → Bool
 | _, 0 => true
 | i, d + 1 => f i && scanB f (i + 1) d
theorem scanB_iff (f : Nat → Bool) : ∀ d i, scanB f i d = true ↔ ∀ j, i ≤ j → j < i + d → f j = true
 | 0, i => ⟨fun _ j h1 h2 => by omega, fun _ => rfl⟩
 | d + 1, i => by
   show (f i && scanB f (i + 1) d) = true ↔ _
   rw [Bool.and_eq_true, scanB_iff f d (i + 1)]
   refine ⟨fun h j h1 h2 => ?_, fun h => ⟨h i (by omega) (by omega), fun j h1 h2 => h j (by omega) (by omega)⟩⟩
   by_cases e : i = j
   · rw [← e]; exact h.1
   · exact h.2 j (by omega) (by omega)
theorem loopB {ρ : Type} (n : Nat) (B : Nat → Bool) (bad : ρ) (L : Nat → Int → Option (ρ ⊕ Int)) (c : Nat) (hn : n ≤ 4611686018427387904)
   (hE : ∀ k, L (k + 1) (n : Int) = some (.inr (n : Int)))
   (hL : ∀ k i, c ≤ k → i < n → L (k + 1) (i : Int) = if B i = true then L k (wrap64 ((i : Int) + 1)) else some (.inl bad)) (d : Nat) :
   ∀ (k i : Nat), i + d = n → d + c < k → L k (i : Int) = if scanB B i d = true then some (.inr (n : Int)) else some (.inl bad) := by
 induction d with
 | zero =>
   intro k i hi hk
   obtain ⟨k, rfl⟩ := k1_ hk
   obtain rfl : i = n := by omega
   rw [hE]; rfl
 | succ d ih =>
   intro k i hi hk
   obtain ⟨k, rfl⟩ := k1_ hk
   have e : scanB B i (d + 1) = (B i && scanB B (i + 1) d) := rfl
   rw [hL k i (by omega) (by omega), w64 (by omega) (by omega), show ((i : Int) + 1) = ((i + 1 : Nat) : Int) by omega, ih k (i + 1) (by omega) (by omega), e]
   cases B i <;> rfl
theorem loopB0 {ρ : Type} (n : Nat) (B : Nat → Bool) (bad : ρ) (L : Nat → Int → Option (ρ ⊕ Int)) (c : Nat) (hn : n ≤ 4611686018427387904)
   (hE : ∀ k, L (k + 1) (n : Int) = some (.inr (n : Int)))
   (hL : ∀ k i, c ≤ k → i < n → L (k + 1) (i : Int) = if B i = true then L k (wrap64 ((i : Int) + 1)) else some (.inl bad)) (k : Nat) (hk : n + c < k) :
   L k 0 = if scanB B 0 n = true then some (.inr (n : Int)) else some (.inl bad) := loopB n B bad L c hn hE hL n k 0 (by omega) hk
-- pools
def poolB (l : List Int) : Bool := decide (l.length ≤ 16) && l.all fun x => decide (0 ≤ x) && decide (x ≤ 20)
theorem spec_poolG (l : List Int) (hl : l.length ≤ 1048576) (k : Nat) (hk : 2000000 < k) : spec_PoolOk.g k l = some (poolB l) := by
 unfold spec_PoolOk.g poolB
 by_cases h : l.length ≤ 16
 · rw [if_pos (by omega), all_tells 0 20 l (by omega) k (by omega), Option.bind_some, decide_eq_true h]; rfl
 · rw [if_neg (by omega), decide_eq_false h]; rfl
theorem impl_poolG (l : List Int) (k : Nat) : impl_PoolOk.g k l = some (poolB l) := by
 unfold impl_PoolOk.g poolB impl_allIn.f
 by_cases h : l.length ≤ 16
 · rw [if_pos (by omega), Option.bind_some, decide_eq_true h]; rfl
 · rw [if_neg (by omega), decide_eq_false h]; rfl
-- stores
def pageOk (s : S58) (i : Nat) : Bool := decide ((s.f1.getD i []).length ≤ 4) && (decide (s.f0.getD i 0 ≠ 0) || decide ((s.f1.getD i []).length = 0))
def storeB (s : S58) : Bool := poolB s.f0 && (decide (s.f1.length = s.f0.length) && scanB (pageOk s) 0 s.f1.length)
theorem spec_storeG (s : S58) (h : okS s) (k : Nat) (hk : 9000000 < k) : spec_StoreOk.g k s = some (storeB s) := by
 unfold spec_StoreOk.g storeB
 have h0 := h.1
 have h1 := h.2.1
 rw [spec_poolG s.f0 (by omega) k (by omega), Option.bind_some]
 cases hp : poolB s.f0 with
 | false => rfl
 | true =>
   rw [if_pos rfl]
   by_cases e : s.f1.length = s.f0.length
   · rw [if_pos (by omega), decide_eq_true e, loopB0 s.f1.length (pageOk s) false (spec_StoreOk.l0 s) 0 (by omega) (fun k => by
       show spec_StoreOk.b0 s _ k _ = _
       unfold spec_StoreOk.b0; rw [if_neg (by omega)]) (fun k i _ hi => by
       show spec_StoreOk.b0 s (spec_StoreOk.l0 s k) k (i : Int) = _
       unfold spec_StoreOk.b0 pageOk
       rw [if_pos (by omega), if_pos ⟨by omega, by omega⟩, Int.toNat_natCast]
       by_cases c1 : (s.f1.getD i []).length ≤ 4
       · rw [if_neg (by omega), if_pos ⟨by omega, by omega⟩, decide_eq_true c1]
         by_cases c2 : s.f0.getD i 0 = 0
         · rw [if_pos c2, decide_eq_false (show ¬ s.f0.getD i 0 ≠ 0 from fun h => h c2)]
           by_cases c3 : (s.f1.getD i []).length = 0
           · rw [if_neg (by omega), decide_eq_true c3]; rfl
           · rw [if_pos (by omega), decide_eq_false c3]; rfl
         · rw [if_neg c2, decide_eq_true (show s.f0.getD i 0 ≠ 0 from c2)]; rfl
       · rw [if_pos (by omega), decide_eq_false c1]; rfl) k (by omega)]
     cases scanB (pageOk s) 0 s.f1.length <;> rfl
   · rw [if_neg (by omega), decide_eq_false e]; rfl
theorem impl_storeG (s : S58) (h : okS s) (k : Nat) (hk : 9000000 < k) : impl_StoreOk.g k s = some (storeB s) := by
 unfold impl_StoreOk.g storeB
 have h0 := h.1
 have h1 := h.2.1
 rw [impl_poolG s.f0 k, Option.bind_some]
 cases hp : poolB s.f0 with
 | false => rfl
 | true =>
   rw [if_pos rfl]
   by_cases e : s.f1.length = s.f0.length
   · rw [if_pos (by omega), decide_eq_true e, loopB0 s.f1.length (pageOk s) false (impl_StoreOk.l0 s) 0 (by omega) (fun k => by
       show impl_StoreOk.b0 s _ k _ = _
       unfold impl_StoreOk.b0; rw [if_neg (by omega)]) (fun k i _ hi => by
       show impl_StoreOk.b0 s (impl_StoreOk.l0 s k) k (i : Int) = _
       unfold impl_StoreOk.b0 pageOk
       rw [if_pos (by omega), if_pos ⟨by omega, by omega⟩, Int.toNat_natCast]
       by_cases c1 : (s.f1.getD i []).length ≤ 4
       · rw [if_neg (by omega), if_pos ⟨by omega, by omega⟩, decide_eq_true c1]
         by_cases c2 : s.f0.getD i 0 = 0
         · rw [if_pos c2, decide_eq_false (show ¬ s.f0.getD i 0 ≠ 0 from fun h => h c2)]
           by_cases c3 : (s.f1.getD i []).length = 0
           · rw [if_neg (by omega), decide_eq_true c3]; rfl
           · rw [if_pos (by omega), decide_eq_false c3]; rfl
         · rw [if_neg c2, decide_eq_true (show s.f0.getD i 0 ≠ 0 from c2)]; rfl
       · rw [if_pos (by omega), decide_eq_false c1]; rfl) k (by omega)]
     cases scanB (pageOk s) 0 s.f1.length <;> rfl
   · rw [if_neg (by omega), decide_eq_false e]; rfl
-- tables
def pg (t : S67) (i : Nat) : Int := t.f0.getD i 0
/-- how many cells a table has in its page at a place. -/
def lastN (c : Int) (i : Nat) : Int := if c - (i : Int) * 4 < 4 then c - (i : Int) * 4 else 4
def pgOk (s : S58) (t : S67) (i : Nat) : Bool :=
 decide (0 ≤ pg t i) && (decide (pg t i ≤ (s.f0.length : Int) - 1) && (decide (s.f0.getD (pg t i).toNat 0 ≠ 0) && (decide (pg t i ∉ t.f0.take i) && decide (lastN t.f1 i ≤ ((s.f1.getD (pg t i).toNat []).length : Int)))))
def tableB (s : S58) (t : S67) : Bool := storeB s && (decide (0 ≤ t.f1) && (decide ((t.f0.length : Int) = needN t.f1) && scanB (pgOk s t) 0 t.f0.length))
theorem in_tellsG (a b c : Int) : spec_l01In.f a b c = some (decide (b ≤ a) && decide (a ≤ c)) := by
 unfold spec_l01In.f
 by_cases h : a ≥ b
 · rw [if_pos h, decide_eq_true (show b ≤ a from h)]; rfl
 · rw [if_neg h, decide_eq_false (show ¬ b ≤ a from h)]; rfl
theorem impl_in_tellsG (a b c : Int) : impl_in.f a b c = some (decide (b ≤ a) && decide (a ≤ c)) := by
 unfold impl_in.f
 by_cases h : a ≥ b
 · rw [if_pos h, decide_eq_true (show b ≤ a from h)]; rfl
 · rw [if_neg h, decide_eq_false (show ¬ b ≤ a from h)]; rfl
theorem not_ahead (l : List Int) (x : Int) (i : Nat) (hi : i ≤ l.length) : scanB (fun j => decide (l.getD j 0 ≠ x)) 0 i = decide (x ∉ l.take i) := by
 rw [Bool.eq_iff_iff, scanB_iff, decide_eq_true_eq]
 refine ⟨fun h hx => ?_, fun h j _ hj => ?_⟩
 · obtain ⟨q, hq, e⟩ := List.mem_take_iff_getElem.mp hx
   have := h q (by omega) (by omega)
   simp only [decide_eq_true_eq] at this
   exact this (by rw [List.getD_eq_getElem?_getD, List.getElem?_eq_getElem (by omega)]; exact e)
 · simp only [decide_eq_true_eq]
   intro e
   refine h (List.mem_take_iff_getElem.mpr ⟨j, by omega, ?_⟩)
   rw [← e, List.getD_eq_getElem?_getD, List.getElem?_eq_getElem (by omega)]; rfl
theorem l1_tells (t : S67) (i : Nat) (hi : i < t.f0.length) (hl : t.f0.length ≤ 1048576) (k : Nat) (hk : 2000000 < k) : spec_TableOk.l1 t (i : Int) k 0 = if decide (pg t i ∉ t.f0.take i) = true then some (.inr (i : Int)) else some (.inl false) := by
 rw [loopB0 i (fun j => decide (t.f0.getD j 0 ≠ pg t i)) false (spec_TableOk.l1 t (i : Int)) 0 (by omega) (fun k => by
   show spec_TableOk.b1 t _ _ k _ = _
   unfold spec_TableOk.b1; rw [if_neg (by omega)]) (fun k j _ hj => by
   show spec_TableOk.b1 t (i : Int) (spec_TableOk.l1 t (i : Int) k) k (j : Int) = _
   unfold spec_TableOk.b1
   rw [if_pos (by omega), if_pos ⟨by omega, by omega⟩, Int.toNat_natCast, Int.toNat_natCast]
   show (if t.f0.getD j 0 = pg t i then _ else _) = _
   by_cases c : t.f0.getD j 0 = pg t i
   · rw [if_pos c, decide_eq_false (fun h => h c)]; rfl
   · rw [if_neg c, decide_eq_true (show t.f0.getD j 0 ≠ pg t i from c)]; rfl) k (by omega), not_ahead t.f0 (pg t i) i (by omega)]
theorem spec_tableG (s : S58) (t : S67) (h : okS s) (hl : t.f0.length ≤ 1048576) (hc1 : -9223372036854775808 ≤ t.f1) (hc2 : t.f1 ≤ 9223372036854775807) (k : Nat) (hk : 20000000 < k) : spec_TableOk.g k s t = some (tableB s t) := by
 have hq := h.1
 unfold spec_TableOk.g tableB
 rw [spec_storeG s h k (by omega), Option.bind_some]
 cases hs : storeB s with
 | false => rfl
 | true =>
   rw [if_pos rfl]
   have hs' := hs
   unfold storeB poolB at hs'
   simp only [Bool.and_eq_true, decide_eq_true_eq] at hs'
   have hPR := hs'.2.1
   by_cases c0 : t.f1 < 0
   · rw [if_pos c0, decide_eq_false (show ¬ 0 ≤ t.f1 by omega)]; rfl
   · rw [if_neg c0, spec_need t.f1 (by omega) hc2, Option.bind_some, decide_eq_true (show 0 ≤ t.f1 by omega)]
     by_cases e : (t.f0.length : Int) = needN t.f1
     · rw [if_pos e, decide_eq_true e, loopB0 t.f0.length (pgOk s t) false (spec_TableOk.l0 s t) 4000000 (by omega) (fun k => by
         show spec_TableOk.b0 s t _ k _ = _
         unfold spec_TableOk.b0; rw [if_neg (by omega)]) (fun k i hk hi => by
         show spec_TableOk.b0 s t (spec_TableOk.l0 s t k) k (i : Int) = _
         unfold spec_TableOk.b0 pgOk
         rw [if_pos (by omega), if_pos ⟨by omega, by omega⟩, Int.toNat_natCast]
         show ((spec_l01In.f (pg t i) 0 (wrap64 ((s.f0.length : Int) - 1))).bind _) = _
         rw [w64 (i := (s.f0.length : Int) - 1) (by omega) (by omega), in_tellsG, Option.bind_some, w64 (i := (i : Int) * 4) (by omega) (by omega), w64 (i := t.f1 - (i : Int) * 4) (by omega) (by omega)]
         by_cases g1 : 0 ≤ pg t i
         · by_cases g2 : pg t i ≤ (s.f0.length : Int) - 1
           · rw [decide_eq_true g1, decide_eq_true g2, if_pos (show (true && true) = true from rfl)]
             show (if 0 ≤ pg t i ∧ pg t i < (s.f0.length : Int) then (if s.f0.getD (pg t i).toNat 0 = 0 then _ else _) else _) = _
             rw [if_pos ⟨g1, by omega⟩]
             by_cases g3 : s.f0.getD (pg t i).toNat 0 = 0
             · rw [if_pos g3, decide_eq_false (fun h => h g3)]; rfl
             · rw [if_neg g3, decide_eq_true (show s.f0.getD (pg t i).toNat 0 ≠ 0 from g3), l1_tells t i hi hl k (by omega)]
               by_cases g4 : pg t i ∉ t.f0.take i
               · rw [decide_eq_true g4, if_pos rfl, Option.bind_some]
                 show ((if t.f1 - (i : Int) * 4 > 4 then some 4 else some (t.f1 - (i : Int) * 4)) : Option Int).bind (fun oc80 => if 0 ≤ pg t i ∧ pg t i < (s.f1.length : Int) then (if ((s.f1.getD (pg t i).toNat []).length : Int) < oc80 then _ else _) else _) = _
                 have hm : ((if t.f1 - (i : Int) * 4 > 4 then some 4 else some (t.f1 - (i : Int) * 4)) : Option Int) = some (lastN t.f1 i) := by
                   unfold lastN
                   by_cases q : t.f1 - (i : Int) * 4 > 4
                   · rw [if_pos q, if_neg (by omega)]
                   · rw [if_neg q]
                     by_cases q2 : t.f1 - (i : Int) * 4 < 4
                     · rw [if_pos q2]
                     · rw [if_neg q2]; congr 1; omega
                 rw [hm, Option.bind_some, if_pos ⟨g1, by omega⟩]
                 by_cases g5 : lastN t.f1 i ≤ ((s.f1.getD (pg t i).toNat []).length : Int)
                 · rw [if_neg (by omega), decide_eq_true g5]; rfl
                 · rw [if_pos (by omega), decide_eq_false g5]; rfl
               · rw [decide_eq_false g4]; rfl
           · rw [decide_eq_true g1, decide_eq_false g2]; rfl
         · rw [decide_eq_false g1]; rfl) k (by omega)]
       cases scanB (pgOk s t) 0 t.f0.length <;> rfl
     · rw [if_neg e, decide_eq_false e]; rfl
theorem containsG (l : List Int) (x : Int) (hl : l.length ≤ 1048576) (k : Nat) (hk : 2000000 < k) : slices_Contains_int_int.g k l x = some (decide (x ∈ l)) := by
 have := loopAny0 l (fun z => !decide (x = z)) 0 (slices_Index_int_int.l0 l x) (fun _ z => some (decide (x = z))) 0 (fun k i => by
   show slices_Index_int_int.b0 l x _ k i = _
   unfold slices_Index_int_int.b0
   simp only [Option.bind_some, decide_eq_true_eq]) (fun k _ z _ => by simp) (by omega) k (by omega)
 unfold slices_Contains_int_int.g slices_Index_int_int.g
 refine this.trans ?_
 congr 1
 rw [Bool.eq_iff_iff, decide_eq_true_eq]
 simp
theorem lastG (k : Nat) (t : S67) (i : Nat) (h : i ≤ 1048576) (h0 : 0 ≤ t.f1) (h1 : t.f1 ≤ 9223372036854775807) : impl_lastCells.g k t (i : Int) = some (lastN t.f1 i) := by
 unfold impl_lastCells.g lastN
 rw [w64 (i := (i : Int) * 4) (by omega) (by omega), w64 (i := t.f1 - (i : Int) * 4) (by omega) (by omega)]
/-- pages that are right are no two alike, and no more than there are. -/
theorem scan_few (s : S58) (t : S67) (h : scanB (pgOk s t) 0 t.f0.length = true) : t.f0.length ≤ s.f0.length := by
 have hat : ∀ j, (hj : j < t.f0.length) → 0 ≤ t.f0[j] ∧ t.f0[j] ≤ (s.f0.length : Int) - 1 ∧ t.f0[j] ∉ t.f0.take j := by
   intro j hj
   have := (scanB_iff _ _ _).mp h j (by omega) (by omega)
   unfold pgOk at this
   simp only [Bool.and_eq_true, decide_eq_true_eq] at this
   have e : pg t j = t.f0[j] := by unfold pg; rw [List.getD_eq_getElem?_getD, List.getElem?_eq_getElem hj]; rfl
   rw [e] at this
   exact ⟨this.1, this.2.1, this.2.2.2.1⟩
 have hn : ∀ j, j ≤ t.f0.length → ((t.f0.take j).map Int.toNat).Nodup := by
   intro j
   induction j with
   | zero => intro _; simp
   | succ j ih =>
     intro hj
     have hjl : j < t.f0.length := by omega
     obtain ⟨a1, a2, a3⟩ := hat j hjl
     rw [List.take_succ_eq_append_getElem hjl, List.map_append, List.nodup_append]
     refine ⟨ih (by omega), by simp, ?_⟩
     intro x hx y hy
     simp only [List.map_cons, List.map_nil, List.mem_singleton] at hy
     obtain ⟨z, hz, rfl⟩ := List.mem_map.mp hx
     intro e
     obtain ⟨q, hq, hqz⟩ := List.mem_take_iff_getElem.mp hz
     have hq1 : q < t.f0.length := by omega
     obtain ⟨b1, _, _⟩ := hat q hq1
     rw [hqz] at b1
     have : z = t.f0[j] := by omega
     rw [this] at hz
     exact a3 hz
 have h1 := hn t.f0.length (by omega)
 rw [List.take_length] at h1
 have h2 := pigeon s.f0.length (t.f0.map Int.toNat) h1 (fun x hx => by
   obtain ⟨z, hz, rfl⟩ := List.mem_map.mp hx
   obtain ⟨q, hq, rfl⟩ := List.getElem_of_mem hz
   obtain ⟨b1, b2, _⟩ := hat q hq
   omega)
 rw [List.length_map] at h2
 exact h2
theorem impl_tableG (s : S58) (t : S67) (h : okS s) (hl : t.f0.length ≤ 1048576) (hc1 : -9223372036854775808 ≤ t.f1) (hc2 : t.f1 ≤ 9223372036854775807) (k : Nat) (hk : 20000000 < k) : impl_TableOk.g k s t = some (tableB s t) := by
 have hq := h.1
 unfold impl_TableOk.g tableB
 rw [impl_storeG s h k (by omega), Option.bind_some]
 cases hs : storeB s with
 | false => rfl
 | true =>
   rw [if_pos rfl]
   have hs' := hs
   unfold storeB poolB at hs'
   simp only [Bool.and_eq_true, decide_eq_true_eq] at hs'
   have hPR := hs'.2.1
   have h16 := hs'.1.1
   have key : impl_tableOk.g k s t = some (decide (0 ≤ t.f1) && (decide ((t.f0.length : Int) = needN t.f1) && scanB (pgOk s t) 0 t.f0.length)) := by
     unfold impl_tableOk.g
     by_cases c0 : t.f1 < 0
     · rw [if_pos c0, decide_eq_false (show ¬ 0 ≤ t.f1 by omega)]; rfl
     · rw [if_neg c0, decide_eq_true (show 0 ≤ t.f1 by omega)]
       by_cases c64 : t.f1 > 64
       · rw [if_pos c64]
         by_cases e : (t.f0.length : Int) = needN t.f1
         · cases hsc : scanB (pgOk s t) 0 t.f0.length with
           | false => rw [Bool.and_false]; rfl
           | true =>
             have h1 := scan_few s t hsc
             have h3 := need_many t.f1 c64
             omega
         · rw [decide_eq_false e]; rfl
       · rw [if_neg c64, impl_need t.f1 (by omega) hc2, Option.bind_some]
         by_cases e : (t.f0.length : Int) = needN t.f1
         · rw [if_pos e, decide_eq_true e, loopB0 t.f0.length (pgOk s t) false (impl_tableOk.l0 s t) 4000000 (by omega) (fun k => by
             show impl_tableOk.b0 s t _ k _ = _
             unfold impl_tableOk.b0; rw [if_neg (by omega)]) (fun k i hk hi => by
             show impl_tableOk.b0 s t (impl_tableOk.l0 s t k) k (i : Int) = _
             unfold impl_tableOk.b0 pgOk
             rw [if_pos (by omega), if_pos ⟨by omega, by omega⟩, Int.toNat_natCast]
             show ((impl_in.f (pg t i) 0 (wrap64 ((s.f0.length : Int) - 1))).bind _) = _
             rw [w64 (i := (s.f0.length : Int) - 1) (by omega) (by omega), impl_in_tellsG, Option.bind_some]
             by_cases g1 : 0 ≤ pg t i
             · by_cases g2 : pg t i ≤ (s.f0.length : Int) - 1
               · rw [decide_eq_true g1, decide_eq_true g2, if_pos (show (true && true) = true from rfl)]
                 show (if 0 ≤ pg t i ∧ pg t i < (s.f0.length : Int) then (if s.f0.getD (pg t i).toNat 0 = 0 then _ else (if 0 ≤ (i : Int) ∧ (i : Int) ≤ (t.f0.length : Int) then ((slices_Contains_int_int.g k (t.f0.take i) (pg t i)).bind _) else _)) else _) = _
                 rw [if_pos ⟨g1, by omega⟩]
                 by_cases g3 : s.f0.getD (pg t i).toNat 0 = 0
                 · rw [if_pos g3, decide_eq_false (fun h => h g3)]; rfl
                 · rw [if_neg g3, decide_eq_true (show s.f0.getD (pg t i).toNat 0 ≠ 0 from g3), if_pos ⟨by omega, by omega⟩, containsG (t.f0.take i) (pg t i) (by rw [List.length_take]; omega) k (by omega), Option.bind_some]
                   by_cases g4 : pg t i ∈ t.f0.take i
                   · rw [decide_eq_true g4, if_pos rfl, decide_eq_false (fun h => h g4)]; rfl
                   · rw [decide_eq_false g4, decide_eq_true (show pg t i ∉ t.f0.take i from g4)]
                     show (if false = true then _ else (if 0 ≤ pg t i ∧ pg t i < (s.f1.length : Int) then ((impl_lastCells.g k t (i : Int)).bind fun t68 => (if ((s.f1.getD (pg t i).toNat []).length : Int) < t68 then _ else _)) else _)) = _
                     rw [if_neg (by simp), if_pos ⟨g1, by omega⟩, lastG k t i (by omega) (by omega) hc2, Option.bind_some]
                     by_cases g5 : lastN t.f1 i ≤ ((s.f1.getD (pg t i).toNat []).length : Int)
                     · rw [if_neg (by omega), decide_eq_true g5]; rfl
                     · rw [if_pos (by omega), decide_eq_false g5]; rfl
               · rw [decide_eq_true g1, decide_eq_false g2]; rfl
             · rw [decide_eq_false g1]; rfl) k (by omega)]
           cases scanB (pgOk s t) 0 t.f0.length <;> rfl
         · rw [if_neg e, decide_eq_false e]; rfl
   rw [show (impl_tableOk.g k ⟨s.f0, s.f1⟩ ⟨t.f0, t.f1⟩) = impl_tableOk.g k s t from rfl, key]; rfl

-- copies of cells
theorem loopMapI {α β : Type} (l : List α) (g : α → β) (L : Nat → Int → List β → Option (Int × List β)) (body : Nat → Int → (β → Option (Int × List β)) → Option (Int × List β)) (c : Nat)
   (hL : ∀ k i xs, L (k + 1) i xs = if i < (l.length : Int) then (if 0 ≤ i ∧ i < (l.length : Int) then body k i (fun b => if xs.length < 4294967296 then L k (wrap64 (i + 1)) (xs ++ [b]) else none) else none) else some (i, xs))
   (hB : ∀ k, c < k → ∀ (i : Nat) (h : i < l.length) r, body k (i : Int) r = r (g l[i])) (hl : l.length < 4294967296) (d : Nat) :
   ∀ (k i : Nat), i + d = l.length → d + c < k → L k (i : Int) ((l.take i).map g) = some ((l.length : Int), l.map g) := by
 induction d with
 | zero =>
   intro k i hi hk
   obtain ⟨k, rfl⟩ := k1_ hk
   rw [hL, if_neg (by omega), List.take_of_length_le (by omega), show (i : Int) = (l.length : Int) by omega]
 | succ d ih =>
   intro k i hi hk
   obtain ⟨k, rfl⟩ := k1_ hk
   have hlt : i < l.length := by omega
   have e : (l.take i).map g ++ [g l[i]] = (l.take (i + 1)).map g := by rw [List.take_succ_eq_append_getElem hlt, List.map_append]; rfl
   rw [hL, if_pos (by omega), if_pos (by omega), hB k (by omega) i hlt, if_pos (by simp; omega), w64 (by omega) (by omega), show ((i : Int) + 1) = ((i + 1 : Nat) : Int) by omega, e, ih k (i + 1) (by omega) (by omega)]
theorem loopMapI0 {α β : Type} (l : List α) (g : α → β) (L : Nat → Int → List β → Option (Int × List β)) (body : Nat → Int → (β → Option (Int × List β)) → Option (Int × List β)) (c : Nat)
   (hL : ∀ k i xs, L (k + 1) i xs = if i < (l.length : Int) then (if 0 ≤ i ∧ i < (l.length : Int) then body k i (fun b => if xs.length < 4294967296 then L k (wrap64 (i + 1)) (xs ++ [b]) else none) else none) else some (i, xs))
   (hB : ∀ k, c < k → ∀ (i : Nat) (h : i < l.length) r, body k (i : Int) r = r (g l[i])) (hl : l.length < 4294967296) (k : Nat) (hk : l.length + c < k) : L k 0 [] = some ((l.length : Int), l.map g) :=
 loopMapI l g L body c hL hB hl l.length k 0 (by omega) hk
theorem copyParts_g (l : List S149) (h : iParts l ≤ 1048576) (k : Nat) (hk : 2000000 < k) : spec_l14CopyParts.g k l = some l := by
 have hl := (in_list h).1
 have h2 := (in_list h).2
 unfold spec_l14CopyParts.g
 rw [loopMap0 l id (spec_l14CopyParts.l0 l) (fun k i r => if 0 + ((l.getD i.toNat o149).f1.length) < 4294967296 then r ⟨(l.getD i.toNat o149).f0, ([] : List Int) ++ (l.getD i.toNat o149).f1⟩ else none) 0 (fun _ _ _ => rfl) (fun k _ i h r => by
   have hs := h2 l[i] (List.getElem_mem h)
   have g : iPart l[i] = l[i].f1.length := rfl
   rw [getD_int l _ i h, if_pos (by omega), List.nil_append]; rfl) (by omega) k (by omega), Option.bind_some, List.map_id]
theorem copy_g (x : S62) (h : iCell x ≤ 1048576) (k : Nat) (hk : 4000000 < k) : spec_l14Copy.g k x = some x := by
 have g : iCell x = iPartss x.f0 + iPartss x.f1 := rfl
 have h0 : iPartss x.f0 ≤ 1048576 := by omega
 have h1 : iPartss x.f1 ≤ 1048576 := by omega
 have a0 := in_list h0
 have a1 := in_list h1
 unfold spec_l14Copy.g
 rw [loopMapI0 x.f0 id (spec_l14Copy.l1 x) (fun k i r => (spec_l14CopyParts.g k (x.f0.getD i.toNat [])).bind r) 2000000 (fun _ _ _ => rfl) (fun k hk i h r => by rw [getD_int x.f0 _ i h, copyParts_g _ (a0.2 _ (List.getElem_mem h)) k hk]; rfl) (by omega) k (by omega), Option.bind_some,
   loopMapI0 x.f1 id (spec_l14Copy.l0 x) (fun k i r => (spec_l14CopyParts.g k (x.f1.getD i.toNat [])).bind r) 2000000 (fun _ _ _ => rfl) (fun k hk i h r => by rw [getD_int x.f1 _ i h, copyParts_g _ (a1.2 _ (List.getElem_mem h)) k hk]; rfl) (by omega) k (by omega), Option.bind_some]
 simp only [List.map_id]
theorem copyCells_g (l : List S62) (hl : l.length ≤ 1048576) (h : ∀ y ∈ l, iCell y ≤ 1048576) (k : Nat) (hk : 8000000 < k) : spec_l14CopyCells.g k l = some l := by
 unfold spec_l14CopyCells.g
 rw [loopMap0 l id (spec_l14CopyCells.l0 l) (fun k i r => (spec_l14Copy.g k (l.getD i.toNat o62)).bind r) 4000000 (fun _ _ _ => rfl) (fun k hk i hi r => by rw [getD_int l _ i hi, copy_g _ (h _ (List.getElem_mem hi)) k hk]; rfl) (by omega) k (by omega), Option.bind_some, List.map_id]
theorem cloneParts_g (l : List (List S149)) (h : iPartss l ≤ 1048576) (k : Nat) : impl_cloneParts.g k l = some l := by
 have a := in_list h
 unfold impl_cloneParts.g
 rw [if_pos]
 refine ⟨by omega, List.all_eq_true.mpr fun x hx => ?_⟩
 have b := in_list (a.2 x hx)
 rw [Bool.and_eq_true]
 refine ⟨decide_eq_true (by omega), List.all_eq_true.mpr fun y hy => decide_eq_true ?_⟩
 have := b.2 y hy
 have g : iPart y = y.f1.length := rfl
 omega
theorem cloneCell_g (x : S62) (h : iCell x ≤ 1048576) (k : Nat) : impl_cloneCell.g k x = some x := by
 have g : iCell x = iPartss x.f0 + iPartss x.f1 := rfl
 unfold impl_cloneCell.g
 rw [cloneParts_g x.f0 (by omega), Option.bind_some, cloneParts_g x.f1 (by omega), Option.bind_some]
theorem cloneCells_g (l : List S62) (hl : l.length ≤ 1048576) (h : ∀ y ∈ l, iCell y ≤ 1048576) (k : Nat) (hk : 2000000 < k) : impl_cloneCells.g k l = some l := by
 unfold impl_cloneCells.g
 rw [loopMap0 l id (impl_cloneCells.l0 l) (fun k i r => (impl_cloneCell.g k ⟨(l.getD i.toNat o62).f0, (l.getD i.toNat o62).f1⟩).bind r) 0 (fun _ _ _ => rfl) (fun k hk i hi r => by
   rw [getD_int l _ i hi]
   show (impl_cloneCell.g k l[i]).bind r = _
   rw [cloneCell_g _ (h _ (List.getElem_mem hi)) k]; rfl) (by omega) k (by omega), Option.bind_some, List.map_id]
-- numbers told
theorem n_ints (l : List Int) : n22 l = l.length := by
 show (l.map fun _ => 1).sum = _
 induction l with
 | nil => rfl
 | cons x l ih => rw [List.map_cons, List.sum_cons, ih, List.length_cons]; omega
theorem n_le {α : Type} (n s : α → Nat) (h : ∀ x, n x ≤ 1 + s x) (l : List α) : (l.map n).sum ≤ szL s l := by
 unfold szL
 induction l with
 | nil => exact Nat.zero_le _
 | cons x l ih => rw [List.map_cons, List.sum_cons, sumS_cons, List.length_cons]; have := h x; omega
theorem n_part (x : S149) : n149 x ≤ 1 + iPart x := by
 show 1 + n22 x.f1 ≤ 1 + x.f1.length
 rw [n_ints]; omega
theorem n_parts (l : List S149) : n133 l ≤ iParts l := n_le _ _ n_part l
theorem n_partss (l : List (List S149)) : n60 l ≤ iPartss l := n_le _ _ (fun x => by have := n_parts x; omega) l
theorem n_cell (x : S62) : n62 x ≤ iCell x := by
 have a := n_partss x.f0
 have b := n_partss x.f1
 show n60 x.f0 + n60 x.f1 ≤ iPartss x.f0 + iPartss x.f1
 omega
theorem n_cells (l : List S62) : n71 l ≤ iCells l := n_le _ _ (fun x => by have := n_cell x; omega) l
theorem n_cellss (l : List (List S62)) : n56 l ≤ iCellss l := n_le _ _ (fun x => by have := n_cells x; omega) l
theorem szL_le {α : Type} (s : α → Nat) (b : Nat) : ∀ (l : List α), (∀ x ∈ l, s x ≤ b) → szL s l ≤ l.length * (b + 1)
 | [], _ => by unfold szL; simp [sumS]
 | x :: l, h => by
   have ih := szL_le s b l (fun y hy => h y (List.mem_cons_of_mem _ hy))
   have h1 := h x (List.mem_cons_self ..)
   unfold szL at *
   rw [sumS_cons, List.length_cons, Nat.succ_mul]
   omega

/-- what a right table tells. -/
theorem table_tells (s : S58) (t : S67) (h : tableB s t = true) : 0 ≤ t.f1 ∧ t.f1 ≤ 64 ∧ (t.f0.length : Int) = needN t.f1 ∧ t.f0.length ≤ 16 ∧ s.f0.length ≤ 16 ∧ s.f1.length = s.f0.length ∧
   (∀ r ∈ s.f0, 0 ≤ r ∧ r ≤ 20) ∧ (∀ i, i < t.f0.length → 0 ≤ pg t i ∧ pg t i < (s.f0.length : Int) ∧ s.f0.getD (pg t i).toNat 0 ≠ 0 ∧ pg t i ∉ t.f0.take i ∧ lastN t.f1 i ≤ ((s.f1.getD (pg t i).toNat []).length : Int)) ∧
   (∀ i, i < s.f1.length → (s.f1.getD i []).length ≤ 4) := by
 unfold tableB at h
 simp only [Bool.and_eq_true, decide_eq_true_eq] at h
 obtain ⟨h0, h1, h2, h3⟩ := h
 have hf := scan_few s t h3
 unfold storeB poolB at h0
 simp only [Bool.and_eq_true, decide_eq_true_eq] at h0
 obtain ⟨⟨p1, p2⟩, p3, p4⟩ := h0
 refine ⟨h1, ?_, h2, by omega, p1, p3, fun r hr => ?_, fun i hi => ?_, fun i hi => ?_⟩
 · by_cases c : t.f1 > 64
   · have := need_many t.f1 c; omega
   · omega
 · have := List.all_eq_true.mp p2 r hr
   simp only [Bool.and_eq_true, decide_eq_true_eq] at this
   exact this
 · have := (scanB_iff _ _ _).mp h3 i (by omega) (by omega)
   unfold pgOk at this
   simp only [Bool.and_eq_true, decide_eq_true_eq] at this
   exact ⟨this.1, by omega, this.2.2.1, this.2.2.2.1, this.2.2.2.2⟩
 · have := (scanB_iff _ _ _).mp p4 i (by omega) (by omega)
   unfold pageOk at this
   rw [Bool.and_eq_true, decide_eq_true_eq] at this
   exact this.1
-- stores are copied; pages are wanted by more or less
theorem copyStore_g (s : S58) (h : okS s) (k : Nat) (hk : 20000000 < k) : spec_l15Copy.g k s = some s := by
 have h0 := h.1
 have h1 := h.2.1
 unfold spec_l15Copy.g
 rw [if_pos (by omega), loopMapI0 s.f1 id (spec_l15Copy.l0 s) (fun k i r => (spec_l14CopyCells.g k (s.f1.getD i.toNat [])).bind r) 8000000 (fun _ _ _ => rfl) (fun k hk i hi r => by
   have g := h.2.2 _ (List.getElem_mem hi)
   rw [getD_int s.f1 _ i hi, copyCells_g _ g.1 g.2 k hk]; rfl) (by omega) k (by omega), Option.bind_some, List.map_id, List.nil_append]
theorem cloneStore_g (s : S58) (h : okS s) (k : Nat) (hk : 20000000 < k) : impl_cloneStore.g k s = some s := by
 have h0 := h.1
 have h1 := h.2.1
 unfold impl_cloneStore.g slices_Clone_int_int.g
 rw [if_pos (by omega), Option.bind_some, loopMapI0 s.f1 id (impl_cloneStore.l0 s) (fun k i r => (impl_cloneCells.g k (s.f1.getD i.toNat [])).bind r) 2000000 (fun _ _ _ => rfl) (fun k hk i hi r => by
   have g := h.2.2 _ (List.getElem_mem hi)
   rw [getD_int s.f1 _ i hi, cloneCells_g _ g.1 g.2 k hk]; rfl) (by omega) k (by omega), Option.bind_some, List.map_id]
theorem copyTable_g (t : S67) (h : t.f0.length ≤ 1048576) (k : Nat) : spec_l15CopyTable.g k t = some t := by
 unfold spec_l15CopyTable.g
 rw [if_pos (by omega), List.nil_append]
theorem cloneTable_g (t : S67) (h : t.f0.length ≤ 1048576) (k : Nat) : impl_cloneTable.g k t = some t := by
 unfold impl_cloneTable.g slices_Clone_int_int.g
 rw [if_pos (by omega), Option.bind_some]
theorem pool_at (R : List Int) (h : poolB R = true) (i : Nat) (hi : i < R.length) : 0 ≤ R.getD i 0 ∧ R.getD i 0 ≤ 20 := by
 unfold poolB at h
 rw [Bool.and_eq_true] at h
 have := List.all_eq_true.mp h.2 R[i] (List.getElem_mem hi)
 simp only [Bool.and_eq_true, decide_eq_true_eq] at this
 rw [List.getD_eq_getElem?_getD, List.getElem?_eq_getElem hi]
 exact this
/-- a pool in which a page is wanted by more or less. -/
def chgP (R : List Int) (p b : Int) : List Int × Bool :=
 if poolB R = true ∧ 0 ≤ p ∧ p ≤ (R.length : Int) - 1 ∧ R.getD p.toNat 0 ≠ 0 then (if poolB (R.set p.toNat (R.getD p.toNat 0 + b)) = true then (R.set p.toNat (R.getD p.toNat 0 + b), true) else ([], false)) else ([], false)
theorem spec_change (R : List Int) (p b : Int) (hl : R.length ≤ 1048576) (hb0 : -1 ≤ b) (hb1 : b ≤ 1) (k : Nat) (hk : 2000000 < k) : spec_l13Change.g k R p b = some (chgP R p b) := by
 unfold spec_l13Change.g chgP
 rw [spec_poolG R hl k hk, Option.bind_some]
 cases hp : poolB R with
 | false => rw [if_neg (by simp), if_neg (fun h => by cases h.1)]
 | true =>
   rw [if_pos rfl, w64 (i := (R.length : Int) - 1) (by omega) (by omega), in_tellsG, Option.bind_some]
   by_cases g1 : 0 ≤ p
   · by_cases g2 : p ≤ (R.length : Int) - 1
     · rw [decide_eq_true g1, decide_eq_true g2, if_pos (show (true && true) = true from rfl), if_pos ⟨g1, by omega⟩]
       by_cases g3 : R.getD p.toNat 0 = 0
       · rw [if_pos g3, if_neg (fun h => h.2.2.2 g3)]
       · have ha := pool_at R hp p.toNat (by omega)
         rw [if_neg g3, if_pos (show true = true ∧ 0 ≤ p ∧ p ≤ (R.length : Int) - 1 ∧ R.getD p.toNat 0 ≠ 0 from ⟨rfl, g1, g2, g3⟩), if_pos (show 0 + R.length < 4294967296 by omega), List.nil_append, if_pos (show 0 ≤ p ∧ p < ((R.length : Nat) : Int) from ⟨g1, by omega⟩), w64 (i := R.getD p.toNat 0 + b) (by omega) (by omega), spec_poolG _ (by rw [List.length_set]; exact hl) k hk, Option.bind_some]
         cases poolB (R.set p.toNat (R.getD p.toNat 0 + b)) <;> rfl
     · rw [decide_eq_true g1, decide_eq_false g2, if_neg (by simp), if_neg (fun h => g2 h.2.2.1)]
   · rw [decide_eq_false g1, if_neg (by simp), if_neg (fun h => g1 h.2.1)]
theorem pool_set (R : List Int) (h : poolB R = true) (i : Nat) (v : Int) (h0 : 0 ≤ v) (h1 : v ≤ 20) : poolB (R.set i v) = true := by
 unfold poolB at *
 rw [Bool.and_eq_true] at *
 refine ⟨by rw [List.length_set]; exact h.1, List.all_eq_true.mpr fun x hx => ?_⟩
 rcases List.mem_or_eq_of_mem_set hx with hx | hx
 · exact List.all_eq_true.mp h.2 x hx
 · rw [hx, Bool.and_eq_true]; exact ⟨decide_eq_true h0, decide_eq_true h1⟩
theorem getD_set_ne (R : List Int) (i j : Nat) (v : Int) (h : i ≠ j) : (R.set i v).getD j 0 = R.getD j 0 := by
 rw [List.getD_eq_getElem?_getD, List.getD_eq_getElem?_getD, List.getElem?_set_ne h]
theorem getD_set_eq (R : List Int) (i : Nat) (v : Int) (h : i < R.length) : (R.set i v).getD i 0 = v := by
 rw [List.getD_eq_getElem?_getD, List.getElem?_set_self h]; rfl

/-- a store of a few pages is small enough. -/
theorem few_small (s : S58) (h0 : s.f0.length ≤ 16) (h1 : s.f1.length ≤ 16) (h2 : ∀ y ∈ s.f1, y.length ≤ 1048576 ∧ ∀ z ∈ y, iCell z ≤ 1048576) : okS s ∧ iStore s ≤ 20000000000000 ∧ iCellss s.f1 ≤ 20000000000000 := by
 have hb : ∀ y ∈ s.f1, iCells y ≤ 1099512676352 := fun y hy => by
   have a := szL_le iCell 1048576 y (h2 y hy).2
   have b := (h2 y hy).1
   have c := Nat.mul_le_mul_right (1048576 + 1) b
   show szL iCell y ≤ _
   omega
 have a := szL_le iCells 1099512676352 s.f1 hb
 have c := Nat.mul_le_mul_right (1099512676352 + 1) h1
 have e : iCellss s.f1 = szL iCells s.f1 := rfl
 have g : iStore s = s.f0.length + iCellss s.f1 := rfl
 exact ⟨⟨by omega, by omega, h2⟩, by omega, by omega⟩
/-- the first page from i on that nobody wants. -/
def freeFrom (R : List Int) : Nat → Nat → Option Nat
 | _, 0 => none
 | i, d + 1 => if R.getD i 0 = 0 then some i else freeFrom R (i + 1) d
theorem free_tells (R : List Int) : ∀ d i q, freeFrom R i d = some q → q < i + d ∧ R.getD q 0 = 0
 | 0, i, q, h => by cases h
 | d + 1, i, q, h => by
   have h' : (if R.getD i 0 = 0 then some i else freeFrom R (i + 1) d) = some q := h
   by_cases c : R.getD i 0 = 0
   · rw [if_pos c] at h'; obtain rfl := Option.some.inj h'; exact ⟨by omega, c⟩
   · rw [if_neg c] at h'; have := free_tells R d (i + 1) q h'; exact ⟨by omega, this.2⟩
def takeP (R : List Int) : List Int × Int × Bool := if poolB R = true then (match freeFrom R 0 R.length with | some q => (R.set q 1, (q : Int), true) | none => ([], 0, false)) else ([], 0, false)
theorem index_g (R : List Int) (hl : R.length ≤ 1048576) : ∀ d k i, i + d = R.length → d < k → slices_Index_int_int.l0 R 0 k (i : Int) = some (match freeFrom R i d with | some q => .inl (q : Int) | none => .inr (R.length : Int))
 | 0, k, i, hi, hk => by
   obtain ⟨k, rfl⟩ : ∃ m, k = m + 1 := ⟨k - 1, by omega⟩
   show slices_Index_int_int.b0 R 0 _ k _ = _
   unfold slices_Index_int_int.b0
   rw [if_neg (by omega), show (i : Int) = (R.length : Int) by omega]; rfl
 | d + 1, k, i, hi, hk => by
   obtain ⟨k, rfl⟩ : ∃ m, k = m + 1 := ⟨k - 1, by omega⟩
   show slices_Index_int_int.b0 R 0 (slices_Index_int_int.l0 R 0 k) k (i : Int) = some (match (if R.getD i 0 = 0 then some i else freeFrom R (i + 1) d) with | some q => .inl (q : Int) | none => .inr (R.length : Int))
   unfold slices_Index_int_int.b0
   rw [if_pos (by omega), if_pos ⟨by omega, by omega⟩, Int.toNat_natCast, w64 (i := (i : Int) + 1) (by omega) (by omega), show ((i : Int) + 1) = ((i + 1 : Nat) : Int) by omega]
   by_cases c : R.getD i 0 = 0
   · rw [if_pos c.symm, if_pos c]
   · rw [if_neg (fun e => c e.symm), if_neg c, index_g R hl d k (i + 1) (by omega) (by omega)]
theorem impl_take (R : List Int) (hl : R.length ≤ 1048576) (k : Nat) (hk : 2000000 < k) : impl_TakePage.g k R = some (takeP R) := by
 unfold impl_TakePage.g takeP slices_Index_int_int.g slices_Clone_int_int.g
 rw [show (0 : Int) = ((0 : Nat) : Int) from rfl]
 have e := index_g R hl R.length k 0 (by omega) (by omega)
 rw [show slices_Index_int_int.l0 R ((0 : Nat) : Int) k ((0 : Nat) : Int) = _ from e, impl_poolG R k]
 cases hf : freeFrom R 0 R.length with
 | none =>
   simp only [Option.bind_some]
   cases poolB R <;> rfl
 | some q =>
   have g := free_tells R _ _ _ hf
   simp only [Option.bind_some]
   cases poolB R with
   | false => rfl
   | true =>
     rw [if_pos rfl, if_pos rfl, if_neg (show ¬ (q : Int) < ((0 : Nat) : Int) by omega), if_pos (by omega), Option.bind_some, if_pos (show ((0 : Nat) : Int) ≤ (q : Int) ∧ (q : Int) < ((R.length : Nat) : Int) from ⟨by omega, by omega⟩), Int.toNat_natCast]
theorem take_loop (R : List Int) (hl : R.length ≤ 1048576) (hp : poolB R = true) : ∀ d k i, i + d = R.length → d + 2000001 < k → spec_TakePage.l0 R k (i : Int) R = some (match freeFrom R i d with | some q => .inl (R.set q 1, (q : Int), true) | none => .inr ((R.length : Int), R))
 | 0, k, i, hi, hk => by
   obtain ⟨k, rfl⟩ : ∃ m, k = m + 1 := ⟨k - 1, by omega⟩
   show spec_TakePage.b0 R _ k _ _ = _
   unfold spec_TakePage.b0
   rw [if_neg (by omega), show (i : Int) = (R.length : Int) by omega]; rfl
 | d + 1, k, i, hi, hk => by
   obtain ⟨k, rfl⟩ : ∃ m, k = m + 1 := ⟨k - 1, by omega⟩
   show spec_TakePage.b0 R (spec_TakePage.l0 R k) k (i : Int) R = some (match (if R.getD i 0 = 0 then some i else freeFrom R (i + 1) d) with | some q => .inl (R.set q 1, (q : Int), true) | none => .inr ((R.length : Int), R))
   unfold spec_TakePage.b0
   rw [if_pos (by omega), spec_poolG R hl k (by omega), Option.bind_some, hp, if_pos rfl, if_pos ⟨by omega, by omega⟩, Int.toNat_natCast, w64 (i := (i : Int) + 1) (by omega) (by omega), show ((i : Int) + 1) = ((i + 1 : Nat) : Int) by omega]
   by_cases c : R.getD i 0 = 0
   · rw [if_pos c, if_pos c, if_pos ⟨by omega, by omega⟩]
   · rw [if_neg c, if_neg c, take_loop R hl hp d k (i + 1) (by omega) (by omega)]
theorem spec_take (R : List Int) (hl : R.length ≤ 1048576) (k : Nat) (hk : 4000000 < k) : spec_TakePage.g k R = some (takeP R) := by
 unfold spec_TakePage.g takeP
 rw [if_pos (by omega), List.nil_append]
 cases hp : poolB R with
 | false =>
   have e : spec_TakePage.l0 R k 0 R = some (.inr (0, R)) := by
     obtain ⟨k, rfl⟩ : ∃ m, k = m + 1 := ⟨k - 1, by omega⟩
     show spec_TakePage.b0 R _ k _ _ = _
     unfold spec_TakePage.b0
     by_cases c : (0 : Int) < (R.length : Int)
     · rw [if_pos c, spec_poolG R hl k (by omega), Option.bind_some, hp]; rfl
     · rw [if_neg c]
   rw [e]; rfl
 | true =>
   have e := take_loop R hl hp R.length k 0 (by omega) (by omega)
   rw [show spec_TakePage.l0 R k 0 R = _ from e]
   cases freeFrom R 0 R.length <;> rfl
/-- a table's last page. -/
def pgL (t : S67) : Int := pg t (t.f0.length - 1)
theorem last_tells (s : S58) (t : S67) (h : tableB s t = true) (u : Int.tmod t.f1 4 > 0) : wrap64 ((t.f0.length : Int) - 1) = ((t.f0.length - 1 : Nat) : Int) ∧ 0 < t.f0.length ∧
   0 ≤ pgL t ∧ pgL t < (s.f1.length : Int) ∧ pgL t < (s.f0.length : Int) ∧ s.f0.getD (pgL t).toNat 0 ≠ 0 ∧ Int.tmod t.f1 4 ≤ ((s.f1.getD (pgL t).toNat []).length : Int) ∧ Int.tmod t.f1 4 < 4 := by
 obtain ⟨a1, a2, a3, a4, a5, a6, a7, a8, a9⟩ := table_tells s t h
 rw [Int.tmod_eq_emod_of_nonneg a1] at u ⊢
 have hn : (t.f0.length : Int) = (t.f1 - 1) / 4 + 1 := by rw [a3]; unfold needN; rw [if_neg (by omega)]
 obtain ⟨b1, b2, b3, b4, b5⟩ := a8 (t.f0.length - 1) (by omega)
 refine ⟨by rw [w64 (by omega) (by omega)]; omega, by omega, b1, by show pg t _ < _; omega, b2, b3, ?_, by omega⟩
 unfold lastN at b5
 show t.f1 % 4 ≤ ((s.f1.getD (pg t (t.f0.length - 1)).toNat []).length : Int)
 split at b5 <;> omega
def preC (s : S58) (t : S67) : List S62 := if Int.tmod t.f1 4 > 0 then (s.f1.getD (pgL t).toNat []).take (Int.tmod t.f1 4).toNat else []
def addT (s : S58) (t : S67) (c : S62) : S58 × S67 × Bool :=
 if tableB s t = true then
   (if Int.tmod t.f1 4 > 0 ∧ s.f0.getD (pgL t).toNat 0 = 1 then (⟨s.f0, s.f1.set (pgL t).toNat (preC s t ++ [c])⟩, ⟨t.f0, t.f1 + 1⟩, true)
   else match freeFrom s.f0 0 s.f0.length with
     | none => (⟨[], []⟩, ⟨[], 0⟩, false)
     | some q => (⟨if Int.tmod t.f1 4 > 0 then (s.f0.set q 1).set (pgL t).toNat (s.f0.getD (pgL t).toNat 0 - 1) else s.f0.set q 1, s.f1.set q (preC s t ++ [c])⟩, ⟨if Int.tmod t.f1 4 > 0 then t.f0.set (t.f0.length - 1) (q : Int) else t.f0 ++ [(q : Int)], t.f1 + 1⟩, true))
 else (⟨[], []⟩, ⟨[], 0⟩, false)
theorem pool_of (s : S58) (t : S67) (h : tableB s t = true) : poolB s.f0 = true := by
 unfold tableB storeB at h
 simp only [Bool.and_eq_true] at h
 exact h.1.1
/-- what a page holds is small. -/
theorem pre_ok (s : S58) (t : S67) (hs : okS s) (h : tableB s t = true) : (preC s t).length ≤ 3 ∧ ∀ z ∈ preC s t, iCell z ≤ 1048576 := by
 unfold preC
 by_cases u : Int.tmod t.f1 4 > 0
 · rw [if_pos u]
   obtain ⟨c1, c2, c3, c4, c5, c6, c7, c8⟩ := last_tells s t h u
   refine ⟨by rw [List.length_take]; omega, fun z hz => ?_⟩
   have hm : s.f1.getD (pgL t).toNat [] ∈ s.f1 := by rw [List.getD_eq_getElem?_getD, List.getElem?_eq_getElem (by omega)]; exact List.getElem_mem _
   exact (hs.2.2 _ hm).2 z (List.mem_of_mem_take hz)
 · rw [if_neg u]; exact ⟨by simp, fun z hz => by cases hz⟩

theorem spec_addT (s : S58) (t : S67) (c : S62) (h : okS s) (hl : t.f0.length ≤ 1048576) (hc1 : -9223372036854775808 ≤ t.f1) (hc2 : t.f1 ≤ 9223372036854775807) (hc : iCell c ≤ 1048576) (k : Nat) (hk : 40000000 < k) : spec_AddCell.g k s t c = some (addT s t c) := by
 unfold spec_AddCell.g addT
 show ((spec_TableOk.g k s t).bind fun t14 => if t14 = true then ((spec_l15Copy.g k s).bind fun t19 => ((spec_l15CopyTable.g k t).bind _)) else _) = _
 rw [spec_tableG s t h hl hc1 hc2 k (by omega), Option.bind_some]
 by_cases ct : tableB s t = true
 · obtain ⟨a1, a2, a3, a4, a5, a6, a7, a8, a9⟩ := table_tells s t ct
   have hpo := pool_of s t ct
   have hpre := pre_ok s t h ct
   have hcc := copy_g c hc k (by omega)
   have htk := spec_take s.f0 (by omega) k (by omega)
   rw [if_pos ct, if_pos ct, copyStore_g s h k (by omega), Option.bind_some, copyTable_g t hl k, Option.bind_some]
   have hw1 : wrap64 (t.f1 + 1) = t.f1 + 1 := w64 (by omega) (by omega)
   by_cases u : Int.tmod t.f1 4 > 0
   · obtain ⟨c1, c2, c3, c4, c5, c6, c7, c8⟩ := last_tells s t ct u
     have hpe : preC s t = (s.f1.getD (pgL t).toNat []).take (Int.tmod t.f1 4).toNat := if_pos u
     have hcp := copyCells_g (preC s t) (by omega) hpre.2 k (by omega)
     rw [hpe] at hcp hpre
     rw [hpe]
     rw [if_pos u, c1, Int.toNat_natCast]
     show ((((if 0 ≤ ((t.f0.length - 1 : Nat) : Int) ∧ ((t.f0.length - 1 : Nat) : Int) < (t.f0.length : Int) then (if 0 ≤ pgL t ∧ pgL t < (s.f1.length : Int) then (if 0 ≤ Int.tmod t.f1 4 ∧ Int.tmod t.f1 4 ≤ ((s.f1.getD (pgL t).toNat []).length : Int) then ((spec_l14CopyCells.g k ((s.f1.getD (pgL t).toNat []).take (Int.tmod t.f1 4).toNat)).bind _) else _) else _) else _) : Option _)).bind _) = _
     rw [if_pos ⟨by omega, by omega⟩, if_pos ⟨c3, c4⟩, if_pos ⟨by omega, c7⟩, hcp, Option.bind_some]
     generalize (s.f1.getD (pgL t).toNat []).take (Int.tmod t.f1 4).toNat = pr at *
     rw [List.nil_append, if_pos (by omega)]
     show ((((if 0 ≤ pgL t ∧ pgL t < (s.f0.length : Int) then (if s.f0.getD (pgL t).toNat 0 = 1 then ((spec_l14Copy.g k c).bind fun t228 => (if pr.length < 4294967296 then (if 0 ≤ pgL t ∧ pgL t < ((s.f1.length : Nat) : Int) then _ else _) else _)) else _) else _) : Option _)).bind _) = _
     rw [if_pos ⟨c3, c5⟩]
     by_cases r1 : s.f0.getD (pgL t).toNat 0 = 1
     · rw [if_pos r1, hcc, Option.bind_some, if_pos (by omega), if_pos ⟨c3, c4⟩, Option.bind_some, if_pos ⟨u, r1⟩, hw1]; rfl
     · rw [if_neg r1, Option.bind_some, if_neg (fun e => r1 e.2)]
       show ((spec_TakePage.g k s.f0).bind _) = _
       rw [htk, Option.bind_some]
       unfold takeP
       rw [if_pos hpo]
       cases hf : freeFrom s.f0 0 s.f0.length with
       | none => rfl
       | some q =>
         have g := free_tells s.f0 _ _ _ hf
         have hne : q ≠ (pgL t).toNat := fun e => c6 (e ▸ g.2)
         have hrp := pool_at s.f0 hpo (pgL t).toNat (by omega)
         have hp1 : poolB (s.f0.set q 1) = true := pool_set _ hpo _ _ (by omega) (by omega)
         have hgp : (s.f0.set q 1).getD (pgL t).toNat 0 = s.f0.getD (pgL t).toNat 0 := getD_set_ne _ _ _ _ hne
         have hdp : spec_DropPage.g k (s.f0.set q 1) (pgL t) = some ((s.f0.set q 1).set (pgL t).toNat (s.f0.getD (pgL t).toNat 0 - 1), true) := by
           unfold spec_DropPage.g
           rw [spec_change _ (pgL t) (-1) (by rw [List.length_set]; omega) (by omega) (by omega) k (by omega), Option.bind_some]
           unfold chgP
           rw [hgp, if_pos ⟨hp1, c3, by rw [List.length_set]; omega, c6⟩, if_pos (pool_set _ hp1 _ _ (by omega) (by omega))]
           rfl
         show (if true = true then ((spec_l14Copy.g k c).bind fun t86 => (if pr.length < 4294967296 then (if 0 ≤ (q : Int) ∧ (q : Int) < ((s.f1.length : Nat) : Int) then ((((if Int.tmod t.f1 4 > 0 then (if 0 ≤ ((t.f0.length - 1 : Nat) : Int) ∧ ((t.f0.length - 1 : Nat) : Int) < ((t.f0.length : Nat) : Int) then ((spec_DropPage.g k (s.f0.set q 1) (pgL t)).bind _) else _) else _) : Option _)).bind _) else _) else _)) else _) = _
         rw [if_pos rfl, hcc, Option.bind_some, if_pos (by omega), if_pos ⟨by omega, by omega⟩, if_pos u, if_pos ⟨by omega, by omega⟩, hdp, Option.bind_some, Option.bind_some, hw1]
         show _ = some ((⟨if Int.tmod t.f1 4 > 0 then _ else _, _⟩ : S58), (⟨if Int.tmod t.f1 4 > 0 then _ else _, _⟩ : S67), true)
         rw [if_pos u, if_pos u]; rfl
   · have hpe : preC s t = [] := if_neg u
     rw [hpe]
     rw [if_neg u, Option.bind_some, if_neg (fun e => u e.1)]
     show ((spec_TakePage.g k s.f0).bind _) = _
     rw [htk, Option.bind_some]
     unfold takeP
     rw [if_pos hpo]
     cases hf : freeFrom s.f0 0 s.f0.length with
     | none => rfl
     | some q =>
       have g := free_tells s.f0 _ _ _ hf
       show (if true = true then ((spec_l14Copy.g k c).bind fun t86 => (if ([] : List S62).length < 4294967296 then (if 0 ≤ (q : Int) ∧ (q : Int) < ((s.f1.length : Nat) : Int) then ((((if Int.tmod t.f1 4 > 0 then _ else (if t.f0.length < 4294967296 then _ else _)) : Option _)).bind _) else _) else _)) else _) = _
       rw [if_pos rfl, hcc, Option.bind_some, if_pos (by simp), if_pos ⟨by omega, by omega⟩, if_neg u, if_pos (by omega), Option.bind_some, hw1]
       show _ = some ((⟨if Int.tmod t.f1 4 > 0 then _ else _, _⟩ : S58), (⟨if Int.tmod t.f1 4 > 0 then _ else _, _⟩ : S67), true)
       rw [if_neg u, if_neg u]; rfl
 · rw [if_neg ct, if_neg ct]
theorem impl_addT (s : S58) (t : S67) (c : S62) (h : okS s) (hl : t.f0.length ≤ 1048576) (hc1 : -9223372036854775808 ≤ t.f1) (hc2 : t.f1 ≤ 9223372036854775807) (hc : iCell c ≤ 1048576) (k : Nat) (hk : 40000000 < k) : impl_AddCell.g k s t c = some (addT s t c) := by
 unfold impl_AddCell.g addT
 show ((impl_TableOk.g k s t).bind fun t14 => if t14 = true then ((impl_cloneStore.g k s).bind fun t19 => ((impl_cloneTable.g k t).bind _)) else _) = _
 rw [impl_tableG s t h hl hc1 hc2 k (by omega), Option.bind_some]
 by_cases ct : tableB s t = true
 · obtain ⟨a1, a2, a3, a4, a5, a6, a7, a8, a9⟩ := table_tells s t ct
   have hpo := pool_of s t ct
   have hpre := pre_ok s t h ct
   have hcc := cloneCell_g c hc k
   have htk := impl_take s.f0 (by omega) k (by omega)
   rw [if_pos ct, if_pos ct, cloneStore_g s h k (by omega), Option.bind_some, cloneTable_g t hl k, Option.bind_some]
   have hw1 : wrap64 (t.f1 + 1) = t.f1 + 1 := w64 (by omega) (by omega)
   by_cases u : Int.tmod t.f1 4 > 0
   · obtain ⟨c1, c2, c3, c4, c5, c6, c7, c8⟩ := last_tells s t ct u
     have hpe : preC s t = (s.f1.getD (pgL t).toNat []).take (Int.tmod t.f1 4).toNat := if_pos u
     have hcp := cloneCells_g (preC s t) (by omega) hpre.2 k (by omega)
     rw [hpe] at hcp hpre
     rw [hpe]
     rw [if_pos u, c1, Int.toNat_natCast]
     show ((((if 0 ≤ ((t.f0.length - 1 : Nat) : Int) ∧ ((t.f0.length - 1 : Nat) : Int) < (t.f0.length : Int) then (if 0 ≤ pgL t ∧ pgL t < (s.f1.length : Int) then (if 0 ≤ Int.tmod t.f1 4 ∧ Int.tmod t.f1 4 ≤ ((s.f1.getD (pgL t).toNat []).length : Int) then ((impl_cloneCells.g k ((s.f1.getD (pgL t).toNat []).take (Int.tmod t.f1 4).toNat)).bind _) else _) else _) else _) : Option _)).bind _) = _
     rw [if_pos ⟨by omega, by omega⟩, if_pos ⟨c3, c4⟩, if_pos ⟨by omega, c7⟩, hcp, Option.bind_some]
     generalize (s.f1.getD (pgL t).toNat []).take (Int.tmod t.f1 4).toNat = pr at *
     show ((((if 0 ≤ pgL t ∧ pgL t < (s.f0.length : Int) then (if s.f0.getD (pgL t).toNat 0 = 1 then ((impl_cloneCell.g k c).bind fun t228 => (if pr.length < 4294967296 then (if 0 ≤ pgL t ∧ pgL t < ((s.f1.length : Nat) : Int) then _ else _) else _)) else _) else _) : Option _)).bind _) = _
     rw [if_pos ⟨c3, c5⟩]
     by_cases r1 : s.f0.getD (pgL t).toNat 0 = 1
     · rw [if_pos r1, hcc, Option.bind_some, if_pos (by omega), if_pos ⟨c3, c4⟩, Option.bind_some, if_pos ⟨u, r1⟩, hw1]; rfl
     · rw [if_neg r1, Option.bind_some, if_neg (fun e => r1 e.2)]
       show ((impl_cloneCell.g k c).bind fun t309 => (if pr.length < 4294967296 then ((impl_TakePage.g k s.f0).bind _) else _)) = _
       rw [hcc, Option.bind_some, if_pos (by omega), htk, Option.bind_some]
       unfold takeP
       rw [if_pos hpo]
       cases hf : freeFrom s.f0 0 s.f0.length with
       | none => rfl
       | some q =>
         have g := free_tells s.f0 _ _ _ hf
         have hne : q ≠ (pgL t).toNat := fun e => c6 (e ▸ g.2)
         have hrp := pool_at s.f0 hpo (pgL t).toNat (by omega)
         have hgp : (s.f0.set q 1).getD (pgL t).toNat 0 = s.f0.getD (pgL t).toNat 0 := getD_set_ne _ _ _ _ hne
         have hg2 : ((s.f0.set q 1).set (pgL t).toNat (s.f0.getD (pgL t).toNat 0 - 1)).getD (pgL t).toNat 0 = s.f0.getD (pgL t).toNat 0 - 1 := getD_set_eq _ _ _ (by rw [List.length_set]; omega)
         have hw2 : wrap64 (s.f0.getD (pgL t).toNat 0 - 1) = s.f0.getD (pgL t).toNat 0 - 1 := w64 (by omega) (by omega)
         show (if true = true then (if 0 ≤ (q : Int) ∧ (q : Int) < ((s.f1.length : Nat) : Int) then ((((if Int.tmod t.f1 4 > 0 then (if 0 ≤ ((t.f0.length - 1 : Nat) : Int) ∧ ((t.f0.length - 1 : Nat) : Int) < (t.f0.length : Int) then (if 0 ≤ pgL t ∧ pgL t < (((s.f0.set q 1).length : Nat) : Int) then (if 0 ≤ pgL t ∧ pgL t < ((((s.f0.set q 1).set (pgL t).toNat (wrap64 ((s.f0.set q 1).getD (pgL t).toNat 0 - 1))).length : Nat) : Int) then (if ((s.f0.set q 1).set (pgL t).toNat (wrap64 ((s.f0.set q 1).getD (pgL t).toNat 0 - 1))).getD (pgL t).toNat 0 = 0 then _ else (if 0 ≤ ((t.f0.length - 1 : Nat) : Int) ∧ ((t.f0.length - 1 : Nat) : Int) < ((t.f0.length : Nat) : Int) then some ((s.f0.set q 1).set (pgL t).toNat (wrap64 ((s.f0.set q 1).getD (pgL t).toNat 0 - 1)), _, _) else _)) else _) else _) else _) else _) : Option _)).bind _) else _) else _) = _
         rw [hgp, hw2, if_pos rfl, if_pos ⟨by omega, by omega⟩, if_pos u, if_pos ⟨by omega, by omega⟩, if_pos ⟨c3, by rw [List.length_set]; omega⟩, if_pos ⟨c3, by rw [List.length_set, List.length_set]; omega⟩, hg2, if_neg (by omega), if_pos ⟨by omega, by omega⟩, Option.bind_some, hw1]
         show _ = some ((⟨if Int.tmod t.f1 4 > 0 then _ else _, _⟩ : S58), (⟨if Int.tmod t.f1 4 > 0 then _ else _, _⟩ : S67), true)
         rw [if_pos u, if_pos u]; rfl
   · have hpe : preC s t = [] := if_neg u
     rw [hpe]
     rw [if_neg u, Option.bind_some, if_neg (fun e => u e.1)]
     show ((impl_cloneCell.g k c).bind fun t309 => (if ([] : List S62).length < 4294967296 then ((impl_TakePage.g k s.f0).bind _) else _)) = _
     rw [hcc, Option.bind_some, if_pos (by simp), htk, Option.bind_some]
     unfold takeP
     rw [if_pos hpo]
     cases hf : freeFrom s.f0 0 s.f0.length with
     | none => rfl
     | some q =>
       have g := free_tells s.f0 _ _ _ hf
       show (if true = true then (if 0 ≤ (q : Int) ∧ (q : Int) < ((s.f1.length : Nat) : Int) then ((((if Int.tmod t.f1 4 > 0 then _ else (if t.f0.length < 4294967296 then _ else _)) : Option _)).bind _) else _) else _) = _
       rw [if_pos rfl, if_pos ⟨by omega, by omega⟩, if_neg u, if_pos (by omega), Option.bind_some, hw1]
       show _ = some ((⟨if Int.tmod t.f1 4 > 0 then _ else _, _⟩ : S58), (⟨if Int.tmod t.f1 4 > 0 then _ else _, _⟩ : S67), true)
       rw [if_neg u, if_neg u]; rfl
 · rw [if_neg ct, if_neg ct]
theorem addT_ok (s : S58) (t : S67) (c : S62) (h : okS s) (hl : t.f0.length ≤ 1048576) (hc : iCell c ≤ 1048576) : okS (addT s t c).1 ∧ iStore (addT s t c).1 ≤ 20000000000000 ∧ iCellss (addT s t c).1.f1 ≤ 20000000000000 ∧ (addT s t c).1.f0.length ≤ 16 ∧ (addT s t c).2.1.f0.length ≤ 1048576 := by
 have he : okS (⟨[], []⟩ : S58) ∧ iStore (⟨[], []⟩ : S58) ≤ 20000000000000 ∧ iCellss (⟨[], []⟩ : S58).f1 ≤ 20000000000000 ∧ (⟨[], []⟩ : S58).f0.length ≤ 16 ∧ (⟨[], 0⟩ : S67).f0.length ≤ 1048576 := ⟨⟨by simp, by simp, fun y hy => by cases hy⟩, by decide, by decide, by simp, by simp⟩
 unfold addT
 by_cases ct : tableB s t = true
 · obtain ⟨a1, a2, a3, a4, a5, a6, a7, a8, a9⟩ := table_tells s t ct
   have hpre := pre_ok s t h ct
   have hset : ∀ q, ∀ y ∈ s.f1.set q (preC s t ++ [c]), y.length ≤ 1048576 ∧ ∀ z ∈ y, iCell z ≤ 1048576 := fun q y hy => by
     rcases List.mem_or_eq_of_mem_set hy with hy | hy
     · exact h.2.2 y hy
     · subst hy
       refine ⟨by rw [List.length_append, List.length_singleton]; omega, fun z hz => ?_⟩
       rcases List.mem_append.mp hz with hz | hz
       · exact hpre.2 z hz
       · rw [List.mem_singleton.mp hz]; exact hc
   rw [if_pos ct]
   by_cases r1 : Int.tmod t.f1 4 > 0 ∧ s.f0.getD (pgL t).toNat 0 = 1
   · rw [if_pos r1]
     obtain ⟨x1, x2, x3⟩ := few_small ⟨s.f0, s.f1.set (pgL t).toNat (preC s t ++ [c])⟩ a5 (by show List.length (List.set _ _ _) ≤ 16; rw [List.length_set]; omega) (hset _)
     exact ⟨x1, x2, x3, a5, hl⟩
   · rw [if_neg r1]
     cases hf : freeFrom s.f0 0 s.f0.length with
     | none => exact he
     | some q =>
       have e1 : (if Int.tmod t.f1 4 > 0 then (s.f0.set q 1).set (pgL t).toNat (s.f0.getD (pgL t).toNat 0 - 1) else s.f0.set q 1).length ≤ 16 := by split <;> simp only [List.length_set] <;> exact a5
       have e2 : (if Int.tmod t.f1 4 > 0 then t.f0.set (t.f0.length - 1) (q : Int) else t.f0 ++ [(q : Int)]).length ≤ 1048576 := by
         split
         · rw [List.length_set]; omega
         · rw [List.length_append, List.length_singleton]; omega
       obtain ⟨x1, x2, x3⟩ := few_small ⟨if Int.tmod t.f1 4 > 0 then (s.f0.set q 1).set (pgL t).toNat (s.f0.getD (pgL t).toNat 0 - 1) else s.f0.set q 1, s.f1.set q (preC s t ++ [c])⟩ e1 (by show List.length (List.set _ _ _) ≤ 16; rw [List.length_set]; omega) (hset q)
       exact ⟨x1, x2, x3, e1, e2⟩
 · rw [if_neg ct]; exact he

theorem FnExactAddCell : laws_FnExactAddCell.Pure := by
 intro x y z hox hoy hoz
 obtain ⟨k, hk⟩ : ∃ k : Nat, k = mStore x + mTable y + mCell z + 100000000000000 := ⟨_, rfl⟩
 refine ⟨k, ?_⟩
 unfold laws_FnExactAddCell.g
 refine sz_law (szStore_g k x 1048576 hox (by omega) (by omega) (by omega)) fun g => ?_
 refine sz_law (szTable_g k y _ hoy (by omega) (by omega)) fun gy => ?_
 refine sz_law (szCell_g k z _ hoz (by omega) (by omega) (by omega)) fun gz => ?_
 have hw1 : -9223372036854775808 ≤ y.f1 ∧ y.f1 ≤ 9223372036854775807 := by
   have h : (decide ((-9223372036854775808 : Int) ≤ y.f1) && decide (y.f1 ≤ 9223372036854775807)) = true := hoy.2
   rw [Bool.and_eq_true, decide_eq_true_eq, decide_eq_true_eq] at h; exact h
 have gt : mTable y = y.f0.length := rfl
 have is := i_store x
 have ic := i_cell z
 have hS : okS (gStore x) := okS_of _ (by omega)
 have e1 := toStore_g k x (by omega) (by omega)
 have e2 := toTable_g k y (by omega) (by omega)
 have e0 := toCell_g k z (by omega) (by omega)
 have e3 := spec_addT (gStore x) (gTable y) (gCell z) hS (by show y.f0.length ≤ _; omega) hw1.1 hw1.2 (by omega) k (by omega)
 have e4 := impl_addT (gStore x) (gTable y) (gCell z) hS (by show y.f0.length ≤ _; omega) hw1.1 hw1.2 (by omega) k (by omega)
 obtain ⟨c1, c2, c3, c4, c5⟩ := addT_ok (gStore x) (gTable y) (gCell z) hS (by show y.f0.length ≤ _; omega) (by omega)
 have e5 := eqStore_i k (addT (gStore x) (gTable y) (gCell z)).1 c1 (by omega)
 have e8 := eqTable_i k (addT (gStore x) (gTable y) (gCell z)).2.1 c5 (by omega)
 have e6 := eqStore_i k (gStore x) hS (by omega)
 have e7 := eqTable_i k (gTable y) (by show y.f0.length ≤ _; omega) (by show y.f0.length < _; omega)
 have e9 := eqCell_i k (gCell z) (by omega) (by omega)
 have n1 := n_ints (gStore x).f0
 have n2 := n_cellss (gStore x).f1
 have n3 := n_ints (gTable y).f0
 have n4 := n_ints (addT (gStore x) (gTable y) (gCell z)).1.f0
 have n5 := n_cellss (addT (gStore x) (gTable y) (gCell z)).1.f1
 have n6 := n_ints (addT (gStore x) (gTable y) (gCell z)).2.1.f0
 have n7 := n_partss (gCell z).f0
 have n8 := n_partss (gCell z).f1
 have h1 : iStore (gStore x) = (gStore x).f0.length + iCellss (gStore x).f1 := rfl
 have h3 : iCell (gCell z) = iPartss (gCell z).f0 + iPartss (gCell z).f1 := rfl
 have h2 : (gTable y).f0.length = y.f0.length := rfl
 generalize gStore x = S at *
 generalize gTable y = T at *
 generalize gCell z = C at *
 generalize addT S T C = R at *
 show ((laws_toStore.g k x).bind fun t25 => ((laws_toTable.g k y).bind fun t36 => ((laws_toCell.g k z).bind fun t54 => ((spec_AddCell.g k t25 t36 t54).bind fun t49 => ((laws_toStore.g k x).bind fun t57 => ((laws_toTable.g k y).bind fun t76 => ((laws_toCell.g k z).bind fun t77 => ((impl_AddCell.g k t57 t76 t77).bind _)))))))) = _
 rw [e1, Option.bind_some, e2, Option.bind_some, e0, Option.bind_some, e3, Option.bind_some, Option.bind_some, Option.bind_some, Option.bind_some, e4, Option.bind_some, show laws_eqStore.g k ⟨R.1.f0, R.1.f1⟩ ⟨R.1.f0, R.1.f1⟩ = some true from e5, Option.bind_some, if_pos rfl, show laws_eqTable.g k ⟨R.2.1.f0, R.2.1.f1⟩ ⟨R.2.1.f0, R.2.1.f1⟩ = some true from e8, Option.bind_some, if_pos rfl, if_pos rfl,
   Option.bind_some, show laws_eqStore.g k ⟨S.f0, S.f1⟩ S = some true from e6, Option.bind_some, if_pos rfl, Option.bind_some, show laws_eqTable.g k ⟨T.f0, T.f1⟩ T = some true from e7, Option.bind_some, if_pos rfl, Option.bind_some, show laws_eqCell.g k ⟨C.f0, C.f1⟩ C = some true from e9, Option.bind_some, if_pos rfl, if_pos ⟨by omega, by omega⟩, if_pos ⟨by omega, by omega⟩, if_pos ⟨by omega, by omega⟩, if_pos ⟨by omega, by omega⟩, if_pos ⟨by omega, by omega⟩, Option.bind_some, if_pos rfl, Option.bind_some, if_pos rfl, if_pos ⟨by omega, by omega⟩, if_pos ⟨by omega, by omega⟩, if_pos ⟨by omega, by omega⟩, Option.bind_some, Option.bind_some, Option.bind_some, e4, Option.bind_some, show laws_eqStore.g k ⟨R.1.f0, R.1.f1⟩ ⟨R.1.f0, R.1.f1⟩ = some true from e5, Option.bind_some, if_pos rfl, show laws_eqTable.g k ⟨R.2.1.f0, R.2.1.f1⟩ ⟨R.2.1.f0, R.2.1.f1⟩ = some true from e8, Option.bind_some, if_pos rfl, if_pos rfl]

end Go.Proofs.Ytlpginalgdbopaa.Pure
