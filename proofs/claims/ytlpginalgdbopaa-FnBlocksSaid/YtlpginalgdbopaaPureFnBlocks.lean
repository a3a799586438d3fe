/- A cell that is put behind those of a drawn table is its last one, and all ahead stay; other tables of the same pages have theirs as before. No conditions. -/
import Derived.Test.YtlpginalgdbopaaGFnBlocks4
namespace Go.Proofs.Ytlpginalgdbopaa.Pure
open Go.RowKit Go.Proofs.Ytlpginalgdbopaa.PFnBlocks Go.Proofs.YtlpginalgdbopaaW.PrintWords Go.Proofs.YtlpginalgdbopaaW.PrintLast Go.Proofs.YtlpginalgdbopaaW.PrintMore
set_option linter.unusedVariables false
set_option linter.unusedSimpArgs false
theorem k1_ {n k : Nat} (h : n < k) : ∃ m, k = m + 1 := ⟨k - 1, by omega⟩

theorem w64 {i : Int} (h0 : -9223372036854775808 ≤ i) (h : i ≤ 9223372036854775807) : wrap64 i = i := by unfold wrap64; omega
theorem getD_int {α : Type} (l : List α) (z : α) (i : Nat) (h : i < l.length) : l.getD (i : Int).toNat z = l[i] := by simp [List.getD_eq_getElem?_getD, h]
/-- what the parts of a list come to. -/
def sumS {α : Type} (s : α → Nat) : List α → Nat
 | [] => 0
 | x :: l => s x + sumS s l
theorem sumS_le {α : Type} (s : α → Nat) : ∀ (l : List α) (x : α), x ∈ l → s x ≤ sumS s l
 | [], _, h => by cases h
 | y :: l, x, h => by
   have e : sumS s (y :: l) = s y + sumS s l := rfl
   rcases List.mem_cons.mp h with g | g
   · rw [g, e]; omega
   · have := sumS_le s l x g; rw [e]; omega
/-- a list's size: its length and its parts'. -/
def szL {α : Type} (s : α → Nat) (l : List α) : Nat := l.length + sumS s l
section
variable {α : Type} (z : α) (F : Nat → List α → Int → Int → Option Int) (E : Nat → α → Int → Option Int) (s : α → Nat) (ok : α → Prop)
end
section
variable {α β γ : Type} (z : α) (zb : β) (F : Nat → List α → List β → Int → Option (List β)) (E : Nat → α → Option γ) (c : γ → β) (g : α → β) (s : α → Nat) (ok : α → Prop)
end
section
variable {α : Type} (z : α) (F : Nat → List α → List α → Int → Option Bool) (E : Nat → α → Option Bool) (s : α → Nat)
end

section
variable {α β : Type} (z : α) (zb : β) (l : List α) (L : Nat → Int → List β → Option (Int × List β)) (E : Nat → α → Option β) (g : α → β) (s : α → Nat)
end
section
variable {α : Type} (z : α) (l : List α) (L : Nat → Int → Option (Bool ⊕ Int)) (E : Nat → α → Option Bool) (s : α → Nat)
end
section
variable {α : Type} (z : α) (l : List α) (L : Nat → Int → Int → Option (Int ⊕ (Int × Int))) (E : Nat → α → Int → Option Int) (s : α → Nat)
end

section
variable {α ρ : Type} (l : List α) (B : α → Bool)
/-- slices.IndexFunc and ContainsFunc of what is not so. -/
theorem loopAny (z : α) (L : Nat → Int → Option (Int ⊕ Int)) (E : Nat → α → Option Bool) (c : Nat)
   (hL : ∀ k i, L (k + 1) i = if i < (l.length : Int) then (if 0 ≤ i ∧ i < (l.length : Int) then ((E k (l.getD i.toNat z)).bind fun t => if t = true then some (.inl i) else L k (wrap64 (i + 1))) else none) else some (.inr i))
   (hE : ∀ k, c < k → ∀ x ∈ l, E k x = some (!B x)) (hl : l.length ≤ 4611686018427387904) (d : Nat) : ∀ (k i : Nat), i + d = l.length → d + c < k →
   ∃ r : Int, (L k (i : Int)).bind (fun o => match o with | .inl r_ => some r_ | .inr _ => some (-1)) = some r ∧ decide (r ≥ 0) = !((l.drop i).all B) := by
 induction d with
 | zero =>
   intro k i hi hk
   obtain ⟨k, rfl⟩ := k1_ hk
   rw [hL, if_neg (by omega), List.drop_of_length_le (by omega)]
   exact ⟨_, rfl, rfl⟩
 | succ d ih =>
   intro k i hi hk
   obtain ⟨k, rfl⟩ := k1_ hk
   have hlt : i < l.length := by omega
   rw [hL, if_pos (by omega), if_pos (by omega), getD_int l z i hlt, hE k (by omega) _ (List.getElem_mem hlt), Option.bind_some, List.drop_eq_getElem_cons hlt, List.all_cons]
   cases hb : B l[i] with
   | false => exact ⟨(i : Int), rfl, by rw [decide_eq_true (by omega)]; rfl⟩
   | true =>
     obtain ⟨r, e, g⟩ := ih k (i + 1) (by omega) (by omega)
     refine ⟨r, ?_, by rw [g]; rfl⟩
     rw [if_neg (by simp), w64 (by omega) (by omega), show ((i : Int) + 1) = ((i + 1 : Nat) : Int) by omega]
     exact e
theorem loopAny0 (z : α) (L : Nat → Int → Option (Int ⊕ Int)) (E : Nat → α → Option Bool) (c : Nat)
   (hL : ∀ k i, L (k + 1) i = if i < (l.length : Int) then (if 0 ≤ i ∧ i < (l.length : Int) then ((E k (l.getD i.toNat z)).bind fun t => if t = true then some (.inl i) else L k (wrap64 (i + 1))) else none) else some (.inr i))
   (hE : ∀ k, c < k → ∀ x ∈ l, E k x = some (!B x)) (hl : l.length ≤ 4611686018427387904) (k : Nat) (hk : l.length + c < k) :
   (((L k 0).bind (fun o => match o with | .inl r_ => some r_ | .inr _ => some (-1))).bind fun t => some (decide (t ≥ 0))) = some (!(l.all B)) := by
 obtain ⟨r, e, g⟩ := loopAny l B z L E c hL hE hl l.length k 0 (by omega) hk
 rw [List.drop_zero] at g
 rw [show (0 : Int) = ((0 : Nat) : Int) from rfl, e, Option.bind_some]
 exact congrArg some g
/-- a loop that puts one behind the other. -/
theorem loopMap {β : Type} (g : α → β) (L : Nat → List β → Int → Option (List β × Int)) (body : Nat → Int → (β → Option (List β × Int)) → Option (List β × Int)) (c : Nat)
   (hL : ∀ k xs i, L (k + 1) xs i = if i < (l.length : Int) then (if 0 ≤ i ∧ i < (l.length : Int) then body k i (fun b => if xs.length < 4294967296 then L k (xs ++ [b]) (wrap64 (i + 1)) else none) else none) else some (xs, i))
   (hB : ∀ k, c < k → ∀ (i : Nat) (h : i < l.length) r, body k (i : Int) r = r (g l[i])) (hl : l.length < 4294967296) (d : Nat) :
   ∀ (k i : Nat), i + d = l.length → d + c < k → L k ((l.take i).map g) (i : Int) = some (l.map g, (l.length : Int)) := by
 induction d with
 | zero =>
   intro k i hi hk
   obtain ⟨k, rfl⟩ := k1_ hk
   rw [hL, if_neg (by omega), List.take_of_length_le (by omega), show (i : Int) = (l.length : Int) by omega]
 | succ d ih =>
   intro k i hi hk
   obtain ⟨k, rfl⟩ := k1_ hk
   have hlt : i < l.length := by omega
   have e : (l.take i).map g ++ [g l[i]] = (l.take (i + 1)).map g := by rw [List.take_succ_eq_append_getElem hlt, List.map_append]; rfl
   rw [hL, if_pos (by omega), if_pos (by omega), hB k (by omega) i hlt, if_pos (by simp; omega), w64 (by omega) (by omega), show ((i : Int) + 1) = ((i + 1 : Nat) : Int) by omega, e, ih k (i + 1) (by omega) (by omega)]
theorem loopMap0 {β : Type} (g : α → β) (L : Nat → List β → Int → Option (List β × Int)) (body : Nat → Int → (β → Option (List β × Int)) → Option (List β × Int)) (c : Nat)
   (hL : ∀ k xs i, L (k + 1) xs i = if i < (l.length : Int) then (if 0 ≤ i ∧ i < (l.length : Int) then body k i (fun b => if xs.length < 4294967296 then L k (xs ++ [b]) (wrap64 (i + 1)) else none) else none) else some (xs, i))
   (hB : ∀ k, c < k → ∀ (i : Nat) (h : i < l.length) r, body k (i : Int) r = r (g l[i])) (hl : l.length < 4294967296) (k : Nat) (hk : l.length + c < k) : L k [] 0 = some (l.map g, (l.length : Int)) :=
 loopMap l g L body c hL hB hl l.length k 0 (by omega) hk
end

theorem in_list {α : Type} {s : α → Nat} {l : List α} (h : szL s l ≤ 1048576) : l.length ≤ 1048576 ∧ ∀ x ∈ l, s x ≤ 1048576 := by
 unfold szL at h; exact ⟨by omega, fun x hx => by have := sumS_le s l x hx; omega⟩
def iPart (x : S149) : Nat := x.f1.length
def iParts : List S149 → Nat := szL iPart
def iPartss : List (List S149) → Nat := szL iParts
def iCell (x : S62) : Nat := iPartss x.f0 + iPartss x.f1
/-- a store each cell of which is small. -/
def okS (s : S58) : Prop := s.f0.length ≤ 1048576 ∧ s.f1.length ≤ 1048576 ∧ ∀ y ∈ s.f1, y.length ≤ 1048576 ∧ ∀ z ∈ y, iCell z ≤ 1048576
/-- numbers below n, no two alike, are at most n. -/
theorem pigeon : ∀ (n : Nat) (l : List Nat), l.Nodup → (∀ x ∈ l, x < n) → l.length ≤ n
 | 0, l, _, h => by
   cases l with
   | nil => exact Nat.le_refl _
   | cons x l => exact absurd (h x (List.mem_cons_self ..)) (by omega)
 | n + 1, l, hd, h => by
   have h1 := pigeon n (l.erase n) (hd.erase n) (fun x hx => by
     have g := (hd.mem_erase_iff).mp hx
     have := h x g.2
     have := g.1
     omega)
   have h2 : l.length ≤ (l.erase n).length + 1 := by
     rw [List.length_erase]; split <;> omega
   omega

/-- how many pages so many tokens need. -/
def needN (c : Int) : Int := if c ≤ 0 then 0 else (c - 1) / 4 + 1
theorem need_many (c : Int) (h : c > 64) : 17 ≤ needN c := by unfold needN; rw [if_neg (by omega)]; omega
theorem spec_need (c : Int) (h1 : 0 ≤ c) (h2 : c ≤ 9223372036854775807) : spec_NeedPages.f c = some (needN c) := by
 unfold spec_NeedPages.f needN
 by_cases g : c ≤ 0
 · rw [if_pos g, if_pos g]
 · rw [if_neg g, if_neg g, w64 (i := c - 1) (by omega) (by omega), Int.tdiv_eq_ediv_of_nonneg (by omega), w64 (i := (c - 1) / 4) (by omega) (by omega), w64 (by omega) (by omega)]
theorem impl_need (c : Int) (h1 : 0 ≤ c) (h2 : c ≤ 9223372036854775807) : impl_NeedPages.f c = some (needN c) := by
 unfold impl_NeedPages.f needN
 by_cases g : c ≤ 0
 · rw [if_pos g, if_pos g]
 · rw [if_neg g, if_neg g, w64 (i := c - 1) (by omega) (by omega), Int.tdiv_eq_ediv_of_nonneg (by omega), w64 (i := (c - 1) / 4) (by omega) (by omega), w64 (by omega) (by omega)]

theorem all_from (lo hi : Int) (l : List Int) (hl : l.length ≤ 9223372036854775806) (d : Nat) : ∀ (k i : Nat), i ≤ l.length → l.length - i = d → d < k →
   (spec_l05All.l0 l lo hi k (i : Int)).bind (fun o => match o with | .inl r_ => some r_ | .inr _ => some true) = some ((l.drop i).all fun x => decide (lo ≤ x) && decide (x ≤ hi)) := by
 induction d with
 | zero =>
   intro k i hi' hd hk
   obtain ⟨k, rfl⟩ := k1_ hk
   rw [List.drop_of_length_le (by omega)]
   unfold spec_l05All.l0 spec_l05All.b0; rw [if_neg (by omega)]; rfl
 | succ d ih =>
   intro k i hi' hd hk
   obtain ⟨k, rfl⟩ := k1_ hk
   have hlt : i < l.length := by omega
   unfold spec_l05All.l0 spec_l05All.b0
   rw [if_pos (by omega), if_pos (by omega), getD_int l 0 i hlt, List.drop_eq_getElem_cons hlt, List.all_cons]
   unfold spec_l01In.f
   by_cases h1 : l[i] ≥ lo
   · rw [if_pos h1]
     simp only [Option.bind_some]
     by_cases h2 : l[i] ≤ hi
     · rw [decide_eq_true h2, if_pos rfl, w64 (by omega) (by omega), show ((i : Int) + 1) = ((i + 1 : Nat) : Int) by omega, ih k (i + 1) (by omega) (by omega) (by omega)]
       simp [h1]
     · rw [decide_eq_false h2]; simp
   · rw [if_neg h1]; simp only [Option.bind_some]; rw [decide_eq_false h1]; simp
theorem all_tells (lo hi : Int) (l : List Int) (hl : l.length ≤ 9223372036854775806) (k : Nat) (hk : l.length < k) : spec_l05All.g k l lo hi = some (l.all fun x => decide (lo ≤ x) && decide (x ≤ hi)) := by
 unfold spec_l05All.g
 have := all_from lo hi l hl l.length k 0 (by omega) (by omega) hk
 rw [List.drop_zero] at this
 exact this

def scanB (f : Nat → Bool) : Nat → Nat → Bool
 | _, 0 => true
 | i, d + 1 => f i && scanB f (i + 1) d
theorem scanB_iff (f : Nat → Bool) : ∀ d i, scanB f i d = true ↔ ∀ j, i ≤ j → j < i + d → f j = true
 | 0, i => ⟨fun _ j h1 h2 => by omega, fun _ => rfl⟩
 | d + 1, i => by
   show (f i && scanB f (i + 1) d) = true ↔ _
   rw [Bool.and_eq_true, scanB_iff f d (i + 1)]
   refine ⟨fun h j h1 h2 => ?_, fun h => ⟨h i (by omega) (by omega), fun j h1 h2 => h j (by omega) (by omega)⟩⟩
   by_cases e : i = j
   · rw [← e]; exact h.1
   · exact h.2 j (by omega) (by omega)
theorem loopB {ρ : Type} (n : Nat) (B : Nat → Bool) (bad : ρ) (L : Nat → Int → Option (ρ ⊕ Int)) (c : Nat) (hn : n ≤ 4611686018427387904)
   (hE : ∀ k, L (k + 1) (n : Int) = some (.inr (n : Int)))
   (hL : ∀ k i, c ≤ k → i < n → L (k + 1) (i : Int) = if B i = true then L k (wrap64 ((i : Int) + 1)) else some (.inl bad)) (d : Nat) :
   ∀ (k i : Nat), i + d = n → d + c < k → L k (i : Int) = if scanB B i d = true then some (.inr (n : Int)) else some (.inl bad) := by
 induction d with
 | zero =>
   intro k i hi hk
   obtain ⟨k, rfl⟩ := k1_ hk
   obtain rfl : i = n := by omega
   rw [hE]; rfl
 | succ d ih =>
   intro k i hi hk
   obtain ⟨k, rfl⟩ := k1_ hk
   have e : scanB B i (d + 1) = (B i && scanB B (i + 1) d) := rfl
   rw [hL k i (by omega) (by omega), w64 (by omega) (by omega), show ((i : Int) + 1) = ((i + 1 : Nat) : Int) by omega, ih k (i + 1) (by omega) (by omega), e]
   cases B i <;> rfl
theorem loopB0 {ρ : Type} (n : Nat) (B : Nat → Bool) (bad : ρ) (L : Nat → Int → Option (ρ ⊕ Int)) (c : Nat) (hn : n ≤ 4611686018427387904)
   (hE : ∀ k, L (k + 1) (n : Int) = some (.inr (n : Int)))
   (hL : ∀ k i, c ≤ k → i < n → L (k + 1) (i : Int) = if B i = true then L k (wrap64 ((i : Int) + 1)) else some (.inl bad)) (k : Nat) (hk : n + c < k) :
   L k 0 = if scanB B 0 n = true then some (.inr (n : Int)) else some (.inl bad) := loopB n B bad L c hn hE hL n k 0 (by omega) hk
-- pools
def poolB (l : List Int) : Bool := decide (l.length ≤ 16) && l.all fun x => decide (0 ≤ x) && decide (x ≤ 20)
theorem spec_poolG (l : List Int) (hl : l.length ≤ 1048576) (k : Nat) (hk : 2000000 < k) : spec_PoolOk.g k l = some (poolB l) := by
 unfold spec_PoolOk.g poolB
 by_cases h : l.length ≤ 16
 · rw [if_pos (by omega), all_tells 0 20 l (by omega) k (by omega), Option.bind_some, decide_eq_true h]; rfl
 · rw [if_neg (by omega), decide_eq_false h]; rfl
theorem impl_poolG (l : List Int) (k : Nat) : impl_PoolOk.g k l = some (poolB l) := by
 unfold impl_PoolOk.g poolB impl_allIn.f
 by_cases h : l.length ≤ 16
 · rw [if_pos (by omega), Option.bind_some, decide_eq_true h]; rfl
 · rw [if_neg (by omega), decide_eq_false h]; rfl
-- stores
def pageOk (s : S58) (i : Nat) : Bool := decide ((s.f1.getD i []).length ≤ 4) && (decide (s.f0.getD i 0 ≠ 0) || decide ((s.f1.getD i []).length = 0))
def storeB (s : S58) : Bool := poolB s.f0 && (decide (s.f1.length = s.f0.length) && scanB (pageOk s) 0 s.f1.length)
theorem spec_storeG (s : S58) (h : okS s) (k : Nat) (hk : 9000000 < k) : spec_StoreOk.g k s = some (storeB s) := by
 unfold spec_StoreOk.g storeB
 have h0 := h.1
 have h1 := h.2.1
 rw [spec_poolG s.f0 (by omega) k (by omega), Option.bind_some]
 cases hp : poolB s.f0 with
 | false => rfl
 | true =>
   rw [if_pos rfl]
   by_cases e : s.f1.length = s.f0.length
   · rw [if_pos (by omega), decide_eq_true e, loopB0 s.f1.length (pageOk s) false (spec_StoreOk.l0 s) 0 (by omega) (fun k => by
       show spec_StoreOk.b0 s _ k _ = _
       unfold spec_StoreOk.b0; rw [if_neg (by omega)]) (fun k i _ hi => by
       show spec_StoreOk.b0 s (spec_StoreOk.l0 s k) k (i : Int) = _
       unfold spec_StoreOk.b0 pageOk
       rw [if_pos (by omega), if_pos ⟨by omega, by omega⟩, Int.toNat_natCast]
       by_cases c1 : (s.f1.getD i []).length ≤ 4
       · rw [if_neg (by omega), if_pos ⟨by omega, by omega⟩, decide_eq_true c1]
         by_cases c2 : s.f0.getD i 0 = 0
         · rw [if_pos c2, decide_eq_false (show ¬ s.f0.getD i 0 ≠ 0 from fun h => h c2)]
           by_cases c3 : (s.f1.getD i []).length = 0
           · rw [if_neg (by omega), decide_eq_true c3]; rfl
           · rw [if_pos (by omega), decide_eq_false c3]; rfl
         · rw [if_neg c2, decide_eq_true (show s.f0.getD i 0 ≠ 0 from c2)]; rfl
       · rw [if_pos (by omega), decide_eq_false c1]; rfl) k (by omega)]
     cases scanB (pageOk s) 0 s.f1.length <;> rfl
   · rw [if_neg (by omega), decide_eq_false e]; rfl
theorem impl_storeG (s : S58) (h : okS s) (k : Nat) (hk : 9000000 < k) : impl_StoreOk.g k s = some (storeB s) := by
 unfold impl_StoreOk.g storeB
 have h0 := h.1
 have h1 := h.2.1
 rw [impl_poolG s.f0 k, Option.bind_some]
 cases hp : poolB s.f0 with
 | false => rfl
 | true =>
   rw [if_pos rfl]
   by_cases e : s.f1.length = s.f0.length
   · rw [if_pos (by omega), decide_eq_true e, loopB0 s.f1.length (pageOk s) false (impl_StoreOk.l0 s) 0 (by omega) (fun k => by
       show impl_StoreOk.b0 s _ k _ = _
       unfold impl_StoreOk.b0; rw [if_neg (by omega)]) (fun k i _ hi => by
       show impl_StoreOk.b0 s (impl_StoreOk.l0 s k) k (i : Int) = _
       unfold impl_StoreOk.b0 pageOk
       rw [if_pos (by omega), if_pos ⟨by omega, by omega⟩, Int.toNat_natCast]
       by_cases c1 : (s.f1.getD i []).length ≤ 4
       · rw [if_neg (by omega), if_pos ⟨by omega, by omega⟩, decide_eq_true c1]
         by_cases c2 : s.f0.getD i 0 = 0
         · rw [if_pos c2, decide_eq_false (show ¬ s.f0.getD i 0 ≠ 0 from fun h => h c2)]
           by_cases c3 : (s.f1.getD i []).length = 0
           · rw [if_neg (by omega), decide_eq_true c3]; rfl
           · rw [if_pos (by omega), decide_eq_false c3]; rfl
         · rw [if_neg c2, decide_eq_true (show s.f0.getD i 0 ≠ 0 from c2)]; rfl
       · rw [if_pos (by omega), decide_eq_false c1]; rfl) k (by omega)]
     cases scanB (pageOk s) 0 s.f1.length <;> rfl
   · rw [if_neg (by omega), decide_eq_false e]; rfl
-- tables
def pg (t : S67) (i : Nat) : Int := t.f0.getD i 0
/-- how many cells a table has in its page at a place. -/
def lastN (c : Int) (i : Nat) : Int := if c - (i : Int) * 4 < 4 then c - (i : Int) * 4 else 4
def pgOk (s : S58) (t : S67) (i : Nat) : Bool :=
 decide (0 ≤ pg t i) && (decide (pg t i ≤ (s.f0.length : Int) - 1) && (decide (s.f0.getD (pg t i).toNat 0 ≠ 0) && (decide (pg t i ∉ t.f0.take i) && decide (lastN t.f1 i ≤ ((s.f1.getD (pg t i).toNat []).length : Int)))))
def tableB (s : S58) (t : S67) : Bool := storeB s && (decide (0 ≤ t.f1) && (decide ((t.f0.length : Int) = needN t.f1) && scanB (pgOk s t) 0 t.f0.length))
theorem in_tellsG (a b c : Int) : spec_l01In.f a b c = some (decide (b ≤ a) && decide (a ≤ c)) := by
 unfold spec_l01In.f
 by_cases h : a ≥ b
 · rw [if_pos h, decide_eq_true (show b ≤ a from h)]; rfl
 · rw [if_neg h, decide_eq_false (show ¬ b ≤ a from h)]; rfl
theorem impl_in_tellsG (a b c : Int) : impl_in.f a b c = some (decide (b ≤ a) && decide (a ≤ c)) := by
 unfold impl_in.f
 by_cases h : a ≥ b
 · rw [if_pos h, decide_eq_true (show b ≤ a from h)]; rfl
 · rw [if_neg h, decide_eq_false (show ¬ b ≤ a from h)]; rfl
theorem not_ahead (l : List Int) (x : Int) (i : Nat) (hi : i ≤ l.length) : scanB (fun j => decide (l.getD j 0 ≠ x)) 0 i = decide (x ∉ l.take i) := by
 rw [Bool.eq_iff_iff, scanB_iff, decide_eq_true_eq]
 refine ⟨fun h hx => ?_, fun h j _ hj => ?_⟩
 · obtain ⟨q, hq, e⟩ := List.mem_take_iff_getElem.mp hx
   have := h q (by omega) (by omega)
   simp only [decide_eq_true_eq] at this
   exact this (by rw [List.getD_eq_getElem?_getD, List.getElem?_eq_getElem (by omega)]; exact e)
 · simp only [decide_eq_true_eq]
   intro e
   refine h (List.mem_take_iff_getElem.mpr ⟨j, by omega, ?_⟩)
   rw [← e, List.getD_eq_getElem?_getD, List.getElem?_eq_getElem (by omega)]; rfl
theorem l1_tells (t : S67) (i : Nat) (hi : i < t.f0.length) (hl : t.f0.length ≤ 1048576) (k : Nat) (hk : 2000000 < k) : spec_TableOk.l1 t (i : Int) k 0 = if decide (pg t i ∉ t.f0.take i) = true then some (.inr (i : Int)) else some (.inl false) := by
 rw [loopB0 i (fun j => decide (t.f0.getD j 0 ≠ pg t i)) false (spec_TableOk.l1 t (i : Int)) 0 (by omega) (fun k => by
   show spec_TableOk.b1 t _ _ k _ = _
   unfold spec_TableOk.b1; rw [if_neg (by omega)]) (fun k j _ hj => by
   show spec_TableOk.b1 t (i : Int) (spec_TableOk.l1 t (i : Int) k) k (j : Int) = _
   unfold spec_TableOk.b1
   rw [if_pos (by omega), if_pos ⟨by omega, by omega⟩, Int.toNat_natCast, Int.toNat_natCast]
   show (if t.f0.getD j 0 = pg t i then _ else _) = _
   by_cases c : t.f0.getD j 0 = pg t i
   · rw [if_pos c, decide_eq_false (fun h => h c)]; rfl
   · rw [if_neg c, decide_eq_true (show t.f0.getD j 0 ≠ pg t i from c)]; rfl) k (by omega), not_ahead t.f0 (pg t i) i (by omega)]
theorem spec_tableG (s : S58) (t : S67) (h : okS s) (hl : t.f0.length ≤ 1048576) (hc1 : -9223372036854775808 ≤ t.f1) (hc2 : t.f1 ≤ 9223372036854775807) (k : Nat) (hk : 20000000 < k) : spec_TableOk.g k s t = some (tableB s t) := by
 have hq := h.1
 unfold spec_TableOk.g tableB
 rw [spec_storeG s h k (by omega), Option.bind_some]
 cases hs : storeB s with
 | false => rfl
 | true =>
   rw [if_pos rfl]
   have hs' := hs
   unfold storeB poolB at hs'
   simp only [Bool.and_eq_true, decide_eq_true_eq] at hs'
   have hPR := hs'.2.1
   by_cases c0 : t.f1 < 0
   · rw [if_pos c0, decide_eq_false (show ¬ 0 ≤ t.f1 by omega)]; rfl
   · rw [if_neg c0, spec_need t.f1 (by omega) hc2, Option.bind_some, decide_eq_true (show 0 ≤ t.f1 by omega)]
     by_cases e : (t.f0.length : Int) = needN t.f1
     · rw [if_pos e, decide_eq_true e, loopB0 t.f0.length (pgOk s t) false (spec_TableOk.l0 s t) 4000000 (by omega) (fun k => by
         show spec_TableOk.b0 s t _ k _ = _
         unfold spec_TableOk.b0; rw [if_neg (by omega)]) (fun k i hk hi => by
         show spec_TableOk.b0 s t (spec_TableOk.l0 s t k) k (i : Int) = _
         unfold spec_TableOk.b0 pgOk
         rw [if_pos (by omega), if_pos ⟨by omega, by omega⟩, Int.toNat_natCast]
         show ((spec_l01In.f (pg t i) 0 (wrap64 ((s.f0.length : Int) - 1))).bind _) = _
         rw [w64 (i := (s.f0.length : Int) - 1) (by omega) (by omega), in_tellsG, Option.bind_some, w64 (i := (i : Int) * 4) (by omega) (by omega), w64 (i := t.f1 - (i : Int) * 4) (by omega) (by omega)]
         by_cases g1 : 0 ≤ pg t i
         · by_cases g2 : pg t i ≤ (s.f0.length : Int) - 1
           · rw [decide_eq_true g1, decide_eq_true g2, if_pos (show (true && true) = true from rfl)]
             show (if 0 ≤ pg t i ∧ pg t i < (s.f0.length : Int) then (if s.f0.getD (pg t i).toNat 0 = 0 then _ else _) else _) = _
             rw [if_pos ⟨g1, by omega⟩]
             by_cases g3 : s.f0.getD (pg t i).toNat 0 = 0
             · rw [if_pos g3, decide_eq_false (fun h => h g3)]; rfl
             · rw [if_neg g3, decide_eq_true (show s.f0.getD (pg t i).toNat 0 ≠ 0 from g3), l1_tells t i hi hl k (by omega)]
               by_cases g4 : pg t i ∉ t.f0.take i
               · rw [decide_eq_true g4, if_pos rfl, Option.bind_some]
                 show ((if t.f1 - (i : Int) * 4 > 4 then some 4 else some (t.f1 - (i : Int) * 4)) : Option Int).bind (fun oc80 => if 0 ≤ pg t i ∧ pg t i < (s.f1.length : Int) then (if ((s.f1.getD (pg t i).toNat []).length : Int) < oc80 then _ else _) else _) = _
                 have hm : ((if t.f1 - (i : Int) * 4 > 4 then some 4 else some (t.f1 - (i : Int) * 4)) : Option Int) = some (lastN t.f1 i) := by
                   unfold lastN
                   by_cases q : t.f1 - (i : Int) * 4 > 4
                   · rw [if_pos q, if_neg (by omega)]
                   · rw [if_neg q]
                     by_cases q2 : t.f1 - (i : Int) * 4 < 4
                     · rw [if_pos q2]
                     · rw [if_neg q2]; congr 1; omega
                 rw [hm, Option.bind_some, if_pos ⟨g1, by omega⟩]
                 by_cases g5 : lastN t.f1 i ≤ ((s.f1.getD (pg t i).toNat []).length : Int)
                 · rw [if_neg (by omega), decide_eq_true g5]; rfl
                 · rw [if_pos (by omega), decide_eq_false g5]; rfl
               · rw [decide_eq_false g4]; rfl
           · rw [decide_eq_true g1, decide_eq_false g2]; rfl
         · rw [decide_eq_false g1]; rfl) k (by omega)]
       cases scanB (pgOk s t) 0 t.f0.length <;> rfl
     · rw [if_neg e, decide_eq_false e]; rfl
theorem containsG (l : List Int) (x : Int) (hl : l.length ≤ 1048576) (k : Nat) (hk : 2000000 < k) : slices_Contains_int_int.g k l x = some (decide (x ∈ l)) := by
 have := loopAny0 l (fun z => !decide (x = z)) 0 (slices_Index_int_int.l0 l x) (fun _ z => some (decide (x = z))) 0 (fun k i => by
   show slices_Index_int_int.b0 l x _ k i = _
   unfold slices_Index_int_int.b0
   simp only [Option.bind_some, decide_eq_true_eq]) (fun k _ z _ => by simp) (by omega) k (by omega)
 unfold slices_Contains_int_int.g slices_Index_int_int.g
 refine this.trans ?_
 congr 1
 rw [Bool.eq_iff_iff, decide_eq_true_eq]
 simp
theorem lastG (k : Nat) (t : S67) (i : Nat) (h : i ≤ 1048576) (h0 : 0 ≤ t.f1) (h1 : t.f1 ≤ 9223372036854775807) : impl_lastCells.g k t (i : Int) = some (lastN t.f1 i) := by
 unfold impl_lastCells.g lastN
 rw [w64 (i := (i : Int) * 4) (by omega) (by omega), w64 (i := t.f1 - (i : Int) * 4) (by omega) (by omega)]
/-- pages that are right are no two alike, and no more than there are. -/
theorem scan_few (s : S58) (t : S67) (h : scanB (pgOk s t) 0 t.f0.length = true) : t.f0.length ≤ s.f0.length := by
 have hat : ∀ j, (hj : j < t.f0.length) → 0 ≤ t.f0[j] ∧ t.f0[j] ≤ (s.f0.length : Int) - 1 ∧ t.f0[j] ∉ t.f0.take j := by
   intro j hj
   have := (scanB_iff _ _ _).mp h j (by omega) (by omega)
   unfold pgOk at this
   simp only [Bool.and_eq_true, decide_eq_true_eq] at this
   have e : pg t j = t.f0[j] := by unfold pg; rw [List.getD_eq_getElem?_getD, List.getElem?_eq_getElem hj]; rfl
   rw [e] at this
   exact ⟨this.1, this.2.1, this.2.2.2.1⟩
 have hn : ∀ j, j ≤ t.f0.length → ((t.f0.take j).map Int.toNat).Nodup := by
   intro j
   induction j with
   | zero => intro _; simp
   | succ j ih =>
     intro hj
     have hjl : j < t.f0.length := by omega
     obtain ⟨a1, a2, a3⟩ := hat j hjl
     rw [List.take_succ_eq_append_getElem hjl, List.map_append, List.nodup_append]
     refine ⟨ih (by omega), by simp, ?_⟩
     intro x hx y hy
     simp only [List.map_cons, List.map_nil, List.mem_singleton] at hy
     obtain ⟨z, hz, rfl⟩ := List.mem_map.mp hx
     intro e
     obtain ⟨q, hq, hqz⟩ := List.mem_take_iff_getElem.mp hz
     have hq1 : q < t.f0.length := by omega
     obtain ⟨b1, _, _⟩ := hat q hq1
     rw [hqz] at b1
     have : z = t.f0[j] := by omega
     rw [this] at hz
     exact a3 hz
 have h1 := hn t.f0.length (by omega)
 rw [List.take_length] at h1
 have h2 := pigeon s.f0.length (t.f0.map Int.toNat) h1 (fun x hx => by
   obtain ⟨z, hz, rfl⟩ := List.mem_map.mp hx
   obtain ⟨q, hq, rfl⟩ := List.getElem_of_mem hz
   obtain ⟨b1, b2, _⟩ := hat q hq
   omega)
 rw [List.length_map] at h2
 exact h2
theorem impl_tableG (s : S58) (t : S67) (h : okS s) (hl : t.f0.length ≤ 1048576) (hc1 : -9223372036854775808 ≤ t.f1) (hc2 : t.f1 ≤ 9223372036854775807) (k : Nat) (hk : 20000000 < k) : impl_TableOk.g k s t = some (tableB s t) := by
 have hq := h.1
 unfold impl_TableOk.g tableB
 rw [impl_storeG s h k (by omega), Option.bind_some]
 cases hs : storeB s with
 | false => rfl
 | true =>
   rw [if_pos rfl]
   have hs' := hs
   unfold storeB poolB at hs'
   simp only [Bool.and_eq_true, decide_eq_true_eq] at hs'
   have hPR := hs'.2.1
   have h16 := hs'.1.1
   have key : impl_tableOk.g k s t = some (decide (0 ≤ t.f1) && (decide ((t.f0.length : Int) = needN t.f1) && scanB (pgOk s t) 0 t.f0.length)) := by
     unfold impl_tableOk.g
     by_cases c0 : t.f1 < 0
     · rw [if_pos c0, decide_eq_false (show ¬ 0 ≤ t.f1 by omega)]; rfl
     · rw [if_neg c0, decide_eq_true (show 0 ≤ t.f1 by omega)]
       by_cases c64 : t.f1 > 64
       · rw [if_pos c64]
         by_cases e : (t.f0.length : Int) = needN t.f1
         · cases hsc : scanB (pgOk s t) 0 t.f0.length with
           | false => rw [Bool.and_false]; rfl
           | true =>
             have h1 := scan_few s t hsc
             have h3 := need_many t.f1 c64
             omega
         · rw [decide_eq_false e]; rfl
       · rw [if_neg c64, impl_need t.f1 (by omega) hc2, Option.bind_some]
         by_cases e : (t.f0.length : Int) = needN t.f1
         · rw [if_pos e, decide_eq_true e, loopB0 t.f0.length (pgOk s t) false (impl_tableOk.l0 s t) 4000000 (by omega) (fun k => by
             show impl_tableOk.b0 s t _ k _ = _
             unfold impl_tableOk.b0; rw [if_neg (by omega)]) (fun k i hk hi => by
             show impl_tableOk.b0 s t (impl_tableOk.l0 s t k) k (i : Int) = _
             unfold impl_tableOk.b0 pgOk
             rw [if_pos (by omega), if_pos ⟨by omega, by omega⟩, Int.toNat_natCast]
             show ((impl_in.f (pg t i) 0 (wrap64 ((s.f0.length : Int) - 1))).bind _) = _
             rw [w64 (i := (s.f0.length : Int) - 1) (by omega) (by omega), impl_in_tellsG, Option.bind_some]
             by_cases g1 : 0 ≤ pg t i
             · by_cases g2 : pg t i ≤ (s.f0.length : Int) - 1
               · rw [decide_eq_true g1, decide_eq_true g2, if_pos (show (true && true) = true from rfl)]
                 show (if 0 ≤ pg t i ∧ pg t i < (s.f0.length : Int) then (if s.f0.getD (pg t i).toNat 0 = 0 then _ else (if 0 ≤ (i : Int) ∧ (i : Int) ≤ (t.f0.length : Int) then ((slices_Contains_int_int.g k (t.f0.take i) (pg t i)).bind _) else _)) else _) = _
                 rw [if_pos ⟨g1, by omega⟩]
                 by_cases g3 : s.f0.getD (pg t i).toNat 0 = 0
                 · rw [if_pos g3, decide_eq_false (fun h => h g3)]; rfl
                 · rw [if_neg g3, decide_eq_true (show s.f0.getD (pg t i).toNat 0 ≠ 0 from g3), if_pos ⟨by omega, by omega⟩, containsG (t.f0.take i) (pg t i) (by rw [List.length_take]; omega) k (by omega), Option.bind_some]
                   by_cases g4 : pg t i ∈ t.f0.take i
                   · rw [decide_eq_true g4, if_pos rfl, decide_eq_false (fun h => h g4)]; rfl
                   · rw [decide_eq_false g4, decide_eq_true (show pg t i ∉ t.f0.take i from g4)]
                     show (if false = true then _ else (if 0 ≤ pg t i ∧ pg t i < (s.f1.length : Int) then ((impl_lastCells.g k t (i : Int)).bind fun t68 => (if ((s.f1.getD (pg t i).toNat []).length : Int) < t68 then _ else _)) else _)) = _
                     rw [if_neg (by simp), if_pos ⟨g1, by omega⟩, lastG k t i (by omega) (by omega) hc2, Option.bind_some]
                     by_cases g5 : lastN t.f1 i ≤ ((s.f1.getD (pg t i).toNat []).length : Int)
                     · rw [if_neg (by omega), decide_eq_true g5]; rfl
                     · rw [if_pos (by omega), decide_eq_false g5]; rfl
               · rw [decide_eq_true g1, decide_eq_false g2]; rfl
             · rw [decide_eq_false g1]; rfl) k (by omega)]
           cases scanB (pgOk s t) 0 t.f0.length <;> rfl
         · rw [if_neg e, decide_eq_false e]; rfl
   rw [show (impl_tableOk.g k ⟨s.f0, s.f1⟩ ⟨t.f0, t.f1⟩) = impl_tableOk.g k s t from rfl, key]; rfl

-- copies of cells
theorem loopMapI {α β : Type} (l : List α) (g : α → β) (L : Nat → Int → List β → Option (Int × List β)) (body : Nat → Int → (β → Option (Int × List β)) → Option (Int × List β)) (c : Nat)
   (hL : ∀ k i xs, L (k + 1) i xs = if i < (l.length : Int) then (if 0 ≤ i ∧ i < (l.length : Int) then body k i (fun b => if xs.length < 4294967296 then L k (wrap64 (i + 1)) (xs ++ [b]) else none) else none) else some (i, xs))
   (hB : ∀ k, c < k → ∀ (i : Nat) (h : i < l.length) r, body k (i : Int) r = r (g l[i])) (hl : l.length < 4294967296) (d : Nat) :
   ∀ (k i : Nat), i + d = l.length → d + c < k → L k (i : Int) ((l.take i).map g) = some ((l.length : Int), l.map g) := by
 induction d with
 | zero =>
   intro k i hi hk
   obtain ⟨k, rfl⟩ := k1_ hk
   rw [hL, if_neg (by omega), List.take_of_length_le (by omega), show (i : Int) = (l.length : Int) by omega]
 | succ d ih =>
   intro k i hi hk
   obtain ⟨k, rfl⟩ := k1_ hk
   have hlt : i < l.length := by omega
   have e : (l.take i).map g ++ [g l[i]] = (l.take (i + 1)).map g := by rw [List.take_succ_eq_append_getElem hlt, List.map_append]; rfl
   rw [hL, if_pos (by omega), if_pos (by omega), hB k (by omega) i hlt, if_pos (by simp; omega), w64 (by omega) (by omega), show ((i : Int) + 1) = ((i + 1 : Nat) : Int) by omega, e, ih k (i + 1) (by omega) (by omega)]
theorem loopMapI0 {α β : Type} (l : List α) (g : α → β) (L : Nat → Int → List β → Option (Int × List β)) (body : Nat → Int → (β → Option (Int × List β)) → Option (Int × List β)) (c : Nat)
   (hL : ∀ k i xs, L (k + 1) i xs = if i < (l.length : Int) then (if 0 ≤ i ∧ i < (l.length : Int) then body k i (fun b => if xs.length < 4294967296 then L k (wrap64 (i + 1)) (xs ++ [b]) else none) else none) else some (i, xs))
   (hB : ∀ k, c < k → ∀ (i : Nat) (h : i < l.length) r, body k (i : Int) r = r (g l[i])) (hl : l.length < 4294967296) (k : Nat) (hk : l.length + c < k) : L k 0 [] = some ((l.length : Int), l.map g) :=
 loopMapI l g L body c hL hB hl l.length k 0 (by omega) hk
theorem copyParts_g (l : List S149) (h : iParts l ≤ 1048576) (k : Nat) (hk : 2000000 < k) : spec_l14CopyParts.g k l = some l := by
 have hl := (in_list h).1
 have h2 := (in_list h).2
 unfold spec_l14CopyParts.g
 rw [loopMap0 l id (spec_l14CopyParts.l0 l) (fun k i r => if 0 + ((l.getD i.toNat o149).f1.length) < 4294967296 then r ⟨(l.getD i.toNat o149).f0, ([] : List Int) ++ (l.getD i.toNat o149).f1⟩ else none) 0 (fun _ _ _ => rfl) (fun k _ i h r => by
   have hs := h2 l[i] (List.getElem_mem h)
   have g : iPart l[i] = l[i].f1.length := rfl
   rw [getD_int l _ i h, if_pos (by omega), List.nil_append]; rfl) (by omega) k (by omega), Option.bind_some, List.map_id]
theorem copy_g (x : S62) (h : iCell x ≤ 1048576) (k : Nat) (hk : 4000000 < k) : spec_l14Copy.g k x = some x := by
 have g : iCell x = iPartss x.f0 + iPartss x.f1 := rfl
 have h0 : iPartss x.f0 ≤ 1048576 := by omega
 have h1 : iPartss x.f1 ≤ 1048576 := by omega
 have a0 := in_list h0
 have a1 := in_list h1
 unfold spec_l14Copy.g
 rw [loopMapI0 x.f0 id (spec_l14Copy.l1 x) (fun k i r => (spec_l14CopyParts.g k (x.f0.getD i.toNat [])).bind r) 2000000 (fun _ _ _ => rfl) (fun k hk i h r => by rw [getD_int x.f0 _ i h, copyParts_g _ (a0.2 _ (List.getElem_mem h)) k hk]; rfl) (by omega) k (by omega), Option.bind_some,
   loopMapI0 x.f1 id (spec_l14Copy.l0 x) (fun k i r => (spec_l14CopyParts.g k (x.f1.getD i.toNat [])).bind r) 2000000 (fun _ _ _ => rfl) (fun k hk i h r => by rw [getD_int x.f1 _ i h, copyParts_g _ (a1.2 _ (List.getElem_mem h)) k hk]; rfl) (by omega) k (by omega), Option.bind_some]
 simp only [List.map_id]
theorem copyCells_g (l : List S62) (hl : l.length ≤ 1048576) (h : ∀ y ∈ l, iCell y ≤ 1048576) (k : Nat) (hk : 8000000 < k) : spec_l14CopyCells.g k l = some l := by
 unfold spec_l14CopyCells.g
 rw [loopMap0 l id (spec_l14CopyCells.l0 l) (fun k i r => (spec_l14Copy.g k (l.getD i.toNat o62)).bind r) 4000000 (fun _ _ _ => rfl) (fun k hk i hi r => by rw [getD_int l _ i hi, copy_g _ (h _ (List.getElem_mem hi)) k hk]; rfl) (by omega) k (by omega), Option.bind_some, List.map_id]
theorem cloneParts_g (l : List (List S149)) (h : iPartss l ≤ 1048576) (k : Nat) : impl_cloneParts.g k l = some l := by
 have a := in_list h
 unfold impl_cloneParts.g
 rw [if_pos]
 refine ⟨by omega, List.all_eq_true.mpr fun x hx => ?_⟩
 have b := in_list (a.2 x hx)
 rw [Bool.and_eq_true]
 refine ⟨decide_eq_true (by omega), List.all_eq_true.mpr fun y hy => decide_eq_true ?_⟩
 have := b.2 y hy
 have g : iPart y = y.f1.length := rfl
 omega
theorem cloneCell_g (x : S62) (h : iCell x ≤ 1048576) (k : Nat) : impl_cloneCell.g k x = some x := by
 have g : iCell x = iPartss x.f0 + iPartss x.f1 := rfl
 unfold impl_cloneCell.g
 rw [cloneParts_g x.f0 (by omega), Option.bind_some, cloneParts_g x.f1 (by omega), Option.bind_some]
theorem cloneCells_g (l : List S62) (hl : l.length ≤ 1048576) (h : ∀ y ∈ l, iCell y ≤ 1048576) (k : Nat) (hk : 2000000 < k) : impl_cloneCells.g k l = some l := by
 unfold impl_cloneCells.g
 rw [loopMap0 l id (impl_cloneCells.l0 l) (fun k i r => (impl_cloneCell.g k ⟨(l.getD i.toNat o62).f0, (l.getD i.toNat o62).f1⟩).bind r) 0 (fun _ _ _ => rfl) (fun k hk i hi r => by
   rw [getD_int l _ i hi]
   show (impl_cloneCell.g k l[i]).bind r = _
   rw [cloneCell_g _ (h _ (List.getElem_mem hi)) k]; rfl) (by omega) k (by omega), Option.bind_some, List.map_id]
-- numbers told
/-- a table's cell at a place. -/
def cellAt (s : S58) (t : S67) (i : Nat) : S62 := (s.f1.getD (pg t (i / 4)).toNat []).getD (i % 4) o62
/-- what a right table tells. -/
theorem table_tells (s : S58) (t : S67) (h : tableB s t = true) : 0 ≤ t.f1 ∧ t.f1 ≤ 64 ∧ (t.f0.length : Int) = needN t.f1 ∧ t.f0.length ≤ 16 ∧ s.f0.length ≤ 16 ∧ s.f1.length = s.f0.length ∧
   (∀ r ∈ s.f0, 0 ≤ r ∧ r ≤ 20) ∧ (∀ i, i < t.f0.length → 0 ≤ pg t i ∧ pg t i < (s.f0.length : Int) ∧ s.f0.getD (pg t i).toNat 0 ≠ 0 ∧ pg t i ∉ t.f0.take i ∧ lastN t.f1 i ≤ ((s.f1.getD (pg t i).toNat []).length : Int)) ∧
   (∀ i, i < s.f1.length → (s.f1.getD i []).length ≤ 4) := by
 unfold tableB at h
 simp only [Bool.and_eq_true, decide_eq_true_eq] at h
 obtain ⟨h0, h1, h2, h3⟩ := h
 have hf := scan_few s t h3
 unfold storeB poolB at h0
 simp only [Bool.and_eq_true, decide_eq_true_eq] at h0
 obtain ⟨⟨p1, p2⟩, p3, p4⟩ := h0
 refine ⟨h1, ?_, h2, by omega, p1, p3, fun r hr => ?_, fun i hi => ?_, fun i hi => ?_⟩
 · by_cases c : t.f1 > 64
   · have := need_many t.f1 c; omega
   · omega
 · have := List.all_eq_true.mp p2 r hr
   simp only [Bool.and_eq_true, decide_eq_true_eq] at this
   exact this
 · have := (scanB_iff _ _ _).mp h3 i (by omega) (by omega)
   unfold pgOk at this
   simp only [Bool.and_eq_true, decide_eq_true_eq] at this
   exact ⟨this.1, by omega, this.2.2.1, this.2.2.2.1, this.2.2.2.2⟩
 · have := (scanB_iff _ _ _).mp p4 i (by omega) (by omega)
   unfold pageOk at this
   rw [Bool.and_eq_true, decide_eq_true_eq] at this
   exact this.1
theorem need_div (c : Int) (i : Nat) (h : (i : Int) < c) : ((i / 4 : Nat) : Int) < needN c := by unfold needN; rw [if_neg (by omega)]; omega
theorem need_mul (c : Int) (i : Nat) (h : (i : Int) < needN c) : (i : Int) * 4 < c := by
 unfold needN at h
 by_cases g : c ≤ 0
 · rw [if_pos g] at h; omega
 · rw [if_neg g] at h; omega
/-- the cell is there. -/
theorem cell_there (s : S58) (t : S67) (h : tableB s t = true) (i : Nat) (hi : (i : Int) < t.f1) : i / 4 < t.f0.length ∧ 0 ≤ pg t (i / 4) ∧ pg t (i / 4) < (s.f1.length : Int) ∧ i % 4 < (s.f1.getD (pg t (i / 4)).toNat []).length := by
 obtain ⟨a1, a2, a3, a4, a5, a6, a7, a8, a9⟩ := table_tells s t h
 have h1 := need_div t.f1 i hi
 have h2 : i / 4 < t.f0.length := by omega
 obtain ⟨b1, b2, b3, b4, b5⟩ := a8 (i / 4) h2
 refine ⟨h2, b1, by omega, ?_⟩
 unfold lastN at b5
 split at b5 <;> omega
theorem spec_cells (s : S58) (t : S67) (h : tableB s t = true) (k : Nat) (hk : 1000 < k) : spec_l15Cells.g k s t = some ((List.range t.f1.toNat).map (cellAt s t)) := by
 obtain ⟨a1, a2, _⟩ := table_tells s t h
 have key : ∀ d k i, i + d = t.f1.toNat → d < k → spec_l15Cells.l0 s t k ((List.range i).map (cellAt s t)) (i : Int) = some ((List.range t.f1.toNat).map (cellAt s t), (t.f1.toNat : Int)) := by
   intro d
   induction d with
   | zero =>
     intro k i hi hk
     obtain ⟨k, rfl⟩ := k1_ hk
     show spec_l15Cells.b0 s t _ k _ _ = _
     unfold spec_l15Cells.b0
     rw [if_neg (by omega), show i = t.f1.toNat by omega]
   | succ d ih =>
     intro k i hi hk
     obtain ⟨k, rfl⟩ := k1_ hk
     obtain ⟨c1, c2, c3, c4⟩ := cell_there s t h i (by omega)
     show spec_l15Cells.b0 s t (spec_l15Cells.l0 s t k) k _ (i : Int) = _
     unfold spec_l15Cells.b0
     rw [show Int.tdiv (i : Int) 4 = ((i / 4 : Nat) : Int) by rw [Int.tdiv_eq_ediv_of_nonneg (by omega)]; omega, w64 (i := ((i / 4 : Nat) : Int)) (by omega) (by omega), show Int.tmod (i : Int) 4 = ((i % 4 : Nat) : Int) by rw [Int.tmod_eq_emod_of_nonneg (by omega)]; omega, Int.toNat_natCast, Int.toNat_natCast]
     show (if (i : Int) < t.f1 then (if 0 ≤ ((i / 4 : Nat) : Int) ∧ ((i / 4 : Nat) : Int) < (t.f0.length : Int) then (if 0 ≤ pg t (i / 4) ∧ pg t (i / 4) < (s.f1.length : Int) then (if 0 ≤ ((i % 4 : Nat) : Int) ∧ ((i % 4 : Nat) : Int) < ((s.f1.getD (pg t (i / 4)).toNat []).length : Int) then (if ((List.range i).map (cellAt s t)).length < 4294967296 then spec_l15Cells.l0 s t k ((List.range i).map (cellAt s t) ++ [cellAt s t i]) (wrap64 ((i : Int) + 1)) else none) else none) else none) else none) else _) = _
     rw [if_pos (by omega), if_pos ⟨by omega, by omega⟩, if_pos ⟨c2, c3⟩, if_pos ⟨by omega, by omega⟩, if_pos (by simp; omega), w64 (by omega) (by omega), show ((i : Int) + 1) = ((i + 1 : Nat) : Int) by omega, ← ih k (i + 1) (by omega) (by omega), List.range_succ, List.map_append]
     rfl
 unfold spec_l15Cells.g
 rw [show spec_l15Cells.l0 s t k [] 0 = _ from key t.f1.toNat k 0 (by omega) (by omega)]
 rfl
theorem take_map {α : Type} (z : α) (l : List α) (m : Nat) (h : m ≤ l.length) : l.take m = (List.range m).map (fun q => l.getD q z) := by
 apply List.ext_getElem
 · simp; omega
 · intro i h1 h2
   have : i < l.length := by simp at h1; omega
   simp [List.getD_eq_getElem?_getD, this]
theorem impl_cells (s : S58) (t : S67) (h : tableB s t = true) (k : Nat) (hk : 1000 < k) : impl_cellsOf.g k s t = some ((List.range t.f1.toNat).map (cellAt s t)) := by
 obtain ⟨a1, a2, a3, a4, a5, a6, a7, a8, a9⟩ := table_tells s t h
 have key : ∀ d k i, i + d = t.f0.length → d < k → impl_cellsOf.l0 s t k ((List.range (min t.f1.toNat (i * 4))).map (cellAt s t)) (i : Int) = some ((List.range t.f1.toNat).map (cellAt s t), (t.f0.length : Int)) := by
   intro d
   induction d with
   | zero =>
     intro k i hi hk
     obtain ⟨k, rfl⟩ := k1_ hk
     have hm : min t.f1.toNat (i * 4) = t.f1.toNat := by
       rw [show i = t.f0.length by omega]
       unfold needN at a3
       by_cases g : t.f1 ≤ 0
       · omega
       · rw [if_neg g] at a3; omega
     show impl_cellsOf.b0 s t _ k _ _ = _
     unfold impl_cellsOf.b0
     rw [if_neg (by omega), hm, show i = t.f0.length by omega]
   | succ d ih =>
     intro k i hi hk
     obtain ⟨k, rfl⟩ := k1_ hk
     have hit : i < t.f0.length := by omega
     obtain ⟨b1, b2, b3, b4, b5⟩ := a8 i hit
     have h4 := need_mul t.f1 i (by omega)
     obtain ⟨m, hm⟩ : ∃ m : Nat, lastN t.f1 i = (m : Int) := ⟨(lastN t.f1 i).toNat, by unfold lastN; split <;> omega⟩
     have hm1 : min t.f1.toNat (i * 4) = i * 4 := by omega
     have hm2 : min t.f1.toNat ((i + 1) * 4) = i * 4 + m := by unfold lastN at hm; split at hm <;> omega
     have hm4 : m ≤ 4 := by unfold lastN at hm; split at hm <;> omega
     have hml : m ≤ (s.f1.getD (pg t i).toNat []).length := by omega
     show impl_cellsOf.b0 s t (impl_cellsOf.l0 s t k) k _ (i : Int) = _
     unfold impl_cellsOf.b0
     rw [hm1, Int.toNat_natCast, show impl_lastCells.g k ⟨t.f0, t.f1⟩ (i : Int) = some (lastN t.f1 i) from lastG k t i (by omega) a1 (by omega), hm, Option.bind_some, Int.toNat_natCast]
     show (if (i : Int) < (t.f0.length : Int) then (if 0 ≤ (i : Int) ∧ (i : Int) < (t.f0.length : Int) then (if 0 ≤ pg t i ∧ pg t i < (s.f1.length : Int) then (if 0 ≤ (m : Int) ∧ (m : Int) ≤ ((s.f1.getD (pg t i).toNat []).length : Int) then (if ((List.range (i * 4)).map (cellAt s t)).length + ((s.f1.getD (pg t i).toNat []).take m).length < 4294967296 then impl_cellsOf.l0 s t k ((List.range (i * 4)).map (cellAt s t) ++ (s.f1.getD (pg t i).toNat []).take m) (wrap64 ((i : Int) + 1)) else none) else none) else none) else none) else _) = _
     have e : (List.range (i * 4)).map (cellAt s t) ++ (s.f1.getD (pg t i).toNat []).take m = (List.range (i * 4 + m)).map (cellAt s t) := by
       rw [List.range_add, List.map_append, List.map_map, take_map o62 _ m hml]
       congr 1
       refine List.map_congr_left fun q hq => ?_
       have hq4 : q < 4 := by have := List.mem_range.mp hq; omega
       show _ = cellAt s t (i * 4 + q)
       unfold cellAt
       rw [show (i * 4 + q) / 4 = i by omega, show (i * 4 + q) % 4 = q by omega]
     rw [if_pos (by omega), if_pos ⟨by omega, by omega⟩, if_pos ⟨b1, by omega⟩, if_pos ⟨by omega, by omega⟩, if_pos (by rw [List.length_map, List.length_range, List.length_take]; omega), w64 (by omega) (by omega), show ((i : Int) + 1) = ((i + 1 : Nat) : Int) by omega, e, ← hm2, ih k (i + 1) (by omega) (by omega)]
 unfold impl_cellsOf.g
 have := key t.f0.length k 0 (by omega) (by omega)
 rw [Nat.zero_mul, Nat.min_zero] at this
 rw [show impl_cellsOf.l0 s t k [] 0 = _ from this]
 rfl
theorem cells_ok (s : S58) (t : S67) (hs : okS s) (h : tableB s t = true) : ((List.range t.f1.toNat).map (cellAt s t)).length ≤ 64 ∧ ∀ y ∈ (List.range t.f1.toNat).map (cellAt s t), iCell y ≤ 1048576 := by
 obtain ⟨a1, a2, _⟩ := table_tells s t h
 refine ⟨by simp; omega, fun y hy => ?_⟩
 obtain ⟨i, hi, rfl⟩ := List.mem_map.mp hy
 obtain ⟨c1, c2, c3, c4⟩ := cell_there s t h i (by have := List.mem_range.mp hi; omega)
 have hp : (pg t (i / 4)).toNat < s.f1.length := by omega
 unfold cellAt
 rw [List.getD_eq_getElem?_getD, List.getElem?_eq_getElem c4]
 have hm : s.f1.getD (pg t (i / 4)).toNat [] ∈ s.f1 := by rw [List.getD_eq_getElem?_getD, List.getElem?_eq_getElem hp]; exact List.getElem_mem hp
 exact (hs.2.2 _ hm).2 _ (List.getElem_mem c4)
def cellsOf (s : S58) (t : S67) : List S62 × Bool := if tableB s t = true then ((List.range t.f1.toNat).map (cellAt s t), true) else ([], false)
theorem spec_cellsOf (s : S58) (t : S67) (h : okS s) (hl : t.f0.length ≤ 1048576) (hc1 : -9223372036854775808 ≤ t.f1) (hc2 : t.f1 ≤ 9223372036854775807) (k : Nat) (hk : 20000000 < k) : spec_CellsOf.g k s t = some (cellsOf s t) := by
 unfold spec_CellsOf.g cellsOf
 show ((spec_TableOk.g k s t).bind fun t8 => if t8 = true then ((spec_l15Cells.g k s t).bind _) else _) = _
 rw [spec_tableG s t h hl hc1 hc2 k hk, Option.bind_some]
 by_cases c : tableB s t = true
 · obtain ⟨d1, d2⟩ := cells_ok s t h c
   rw [if_pos c, if_pos c, spec_cells s t c k (by omega), Option.bind_some, copyCells_g _ (by omega) d2 k (by omega), Option.bind_some]
 · rw [if_neg c, if_neg c]
theorem impl_cellsOfG (s : S58) (t : S67) (h : okS s) (hl : t.f0.length ≤ 1048576) (hc1 : -9223372036854775808 ≤ t.f1) (hc2 : t.f1 ≤ 9223372036854775807) (k : Nat) (hk : 20000000 < k) : impl_CellsOf.g k s t = some (cellsOf s t) := by
 unfold impl_CellsOf.g cellsOf
 show ((impl_TableOk.g k s t).bind fun t8 => if t8 = true then ((impl_cellsOf.g k s t).bind _) else _) = _
 rw [impl_tableG s t h hl hc1 hc2 k hk, Option.bind_some]
 by_cases c : tableB s t = true
 · obtain ⟨d1, d2⟩ := cells_ok s t h c
   rw [if_pos c, if_pos c, impl_cells s t c k (by omega), Option.bind_some, cloneCells_g _ (by omega) d2 k (by omega), Option.bind_some]
 · rw [if_neg c, if_neg c]

-- stores are copied; pages are wanted by more or less
theorem copyStore_g (s : S58) (h : okS s) (k : Nat) (hk : 20000000 < k) : spec_l15Copy.g k s = some s := by
 have h0 := h.1
 have h1 := h.2.1
 unfold spec_l15Copy.g
 rw [if_pos (by omega), loopMapI0 s.f1 id (spec_l15Copy.l0 s) (fun k i r => (spec_l14CopyCells.g k (s.f1.getD i.toNat [])).bind r) 8000000 (fun _ _ _ => rfl) (fun k hk i hi r => by
   have g := h.2.2 _ (List.getElem_mem hi)
   rw [getD_int s.f1 _ i hi, copyCells_g _ g.1 g.2 k hk]; rfl) (by omega) k (by omega), Option.bind_some, List.map_id, List.nil_append]
theorem cloneStore_g (s : S58) (h : okS s) (k : Nat) (hk : 20000000 < k) : impl_cloneStore.g k s = some s := by
 have h0 := h.1
 have h1 := h.2.1
 unfold impl_cloneStore.g slices_Clone_int_int.g
 rw [if_pos (by omega), Option.bind_some, loopMapI0 s.f1 id (impl_cloneStore.l0 s) (fun k i r => (impl_cloneCells.g k (s.f1.getD i.toNat [])).bind r) 2000000 (fun _ _ _ => rfl) (fun k hk i hi r => by
   have g := h.2.2 _ (List.getElem_mem hi)
   rw [getD_int s.f1 _ i hi, cloneCells_g _ g.1 g.2 k hk]; rfl) (by omega) k (by omega), Option.bind_some, List.map_id]
theorem copyTable_g (t : S67) (h : t.f0.length ≤ 1048576) (k : Nat) : spec_l15CopyTable.g k t = some t := by
 unfold spec_l15CopyTable.g
 rw [if_pos (by omega), List.nil_append]
theorem cloneTable_g (t : S67) (h : t.f0.length ≤ 1048576) (k : Nat) : impl_cloneTable.g k t = some t := by
 unfold impl_cloneTable.g slices_Clone_int_int.g
 rw [if_pos (by omega), Option.bind_some]
theorem pool_at (R : List Int) (h : poolB R = true) (i : Nat) (hi : i < R.length) : 0 ≤ R.getD i 0 ∧ R.getD i 0 ≤ 20 := by
 unfold poolB at h
 rw [Bool.and_eq_true] at h
 have := List.all_eq_true.mp h.2 R[i] (List.getElem_mem hi)
 simp only [Bool.and_eq_true, decide_eq_true_eq] at this
 rw [List.getD_eq_getElem?_getD, List.getElem?_eq_getElem hi]
 exact this
/-- a pool in which a page is wanted by more or less. -/
def chgP (R : List Int) (p b : Int) : List Int × Bool :=
 if poolB R = true ∧ 0 ≤ p ∧ p ≤ (R.length : Int) - 1 ∧ R.getD p.toNat 0 ≠ 0 then (if poolB (R.set p.toNat (R.getD p.toNat 0 + b)) = true then (R.set p.toNat (R.getD p.toNat 0 + b), true) else ([], false)) else ([], false)
theorem spec_change (R : List Int) (p b : Int) (hl : R.length ≤ 1048576) (hb0 : -1 ≤ b) (hb1 : b ≤ 1) (k : Nat) (hk : 2000000 < k) : spec_l13Change.g k R p b = some (chgP R p b) := by
 unfold spec_l13Change.g chgP
 rw [spec_poolG R hl k hk, Option.bind_some]
 cases hp : poolB R with
 | false => rw [if_neg (by simp), if_neg (fun h => by cases h.1)]
 | true =>
   rw [if_pos rfl, w64 (i := (R.length : Int) - 1) (by omega) (by omega), in_tellsG, Option.bind_some]
   by_cases g1 : 0 ≤ p
   · by_cases g2 : p ≤ (R.length : Int) - 1
     · rw [decide_eq_true g1, decide_eq_true g2, if_pos (show (true && true) = true from rfl), if_pos ⟨g1, by omega⟩]
       by_cases g3 : R.getD p.toNat 0 = 0
       · rw [if_pos g3, if_neg (fun h => h.2.2.2 g3)]
       · have ha := pool_at R hp p.toNat (by omega)
         rw [if_neg g3, if_pos (show true = true ∧ 0 ≤ p ∧ p ≤ (R.length : Int) - 1 ∧ R.getD p.toNat 0 ≠ 0 from ⟨rfl, g1, g2, g3⟩), if_pos (show 0 + R.length < 4294967296 by omega), List.nil_append, if_pos (show 0 ≤ p ∧ p < ((R.length : Nat) : Int) from ⟨g1, by omega⟩), w64 (i := R.getD p.toNat 0 + b) (by omega) (by omega), spec_poolG _ (by rw [List.length_set]; exact hl) k hk, Option.bind_some]
         cases poolB (R.set p.toNat (R.getD p.toNat 0 + b)) <;> rfl
     · rw [decide_eq_true g1, decide_eq_false g2, if_neg (by simp), if_neg (fun h => g2 h.2.2.1)]
   · rw [decide_eq_false g1, if_neg (by simp), if_neg (fun h => g1 h.2.1)]
theorem pool_set (R : List Int) (h : poolB R = true) (i : Nat) (v : Int) (h0 : 0 ≤ v) (h1 : v ≤ 20) : poolB (R.set i v) = true := by
 unfold poolB at *
 rw [Bool.and_eq_true] at *
 refine ⟨by rw [List.length_set]; exact h.1, List.all_eq_true.mpr fun x hx => ?_⟩
 rcases List.mem_or_eq_of_mem_set hx with hx | hx
 · exact List.all_eq_true.mp h.2 x hx
 · rw [hx, Bool.and_eq_true]; exact ⟨decide_eq_true h0, decide_eq_true h1⟩
theorem getD_set_ne (R : List Int) (i j : Nat) (v : Int) (h : i ≠ j) : (R.set i v).getD j 0 = R.getD j 0 := by
 rw [List.getD_eq_getElem?_getD, List.getD_eq_getElem?_getD, List.getElem?_set_ne h]
theorem getD_set_eq (R : List Int) (i : Nat) (v : Int) (h : i < R.length) : (R.set i v).getD i 0 = v := by
 rw [List.getD_eq_getElem?_getD, List.getElem?_set_self h]; rfl

/-- a store from which a table's pages from i on are dropped. -/
def dropFrom (t : S67) : Nat → Nat → List Int → List (List S62) → List Int × List (List S62)
 | _, 0, R, Q => (R, Q)
 | i, d + 1, R, Q =>
   dropFrom t (i + 1) d (R.set (pg t i).toNat (R.getD (pg t i).toNat 0 - 1)) (if R.getD (pg t i).toNat 0 - 1 = 0 then Q.set (pg t i).toNat [] else Q)
/-- what holds as the pages from i on are still to be dropped. -/
structure DropI (t : S67) (i : Nat) (R : List Int) (Q : List (List S62)) : Prop where
 r : poolB R = true
 q : Q.length = R.length
 c : ∀ y ∈ Q, y.length ≤ 1048576 ∧ ∀ z ∈ y, iCell z ≤ 1048576
 p : ∀ j, i ≤ j → j < t.f0.length → 0 ≤ pg t j ∧ pg t j < (R.length : Int) ∧ R.getD (pg t j).toNat 0 ≠ 0
 d : ∀ j, j < t.f0.length → pg t j ∉ t.f0.take j
theorem pool_len (R : List Int) (h : poolB R = true) : R.length ≤ 16 := by
 unfold poolB at h; rw [Bool.and_eq_true, decide_eq_true_eq] at h; exact h.1
theorem pg_mem (t : S67) (i j : Nat) (h : i < j) (hj : j < t.f0.length) : pg t i ∈ t.f0.take j := by
 refine List.mem_take_iff_getElem.mpr ⟨i, by omega, ?_⟩
 unfold pg
 rw [List.getD_eq_getElem?_getD, List.getElem?_eq_getElem (by omega)]; rfl
theorem DropI.next {t : S67} {i : Nat} {R : List Int} {Q : List (List S62)} (h : DropI t i R Q) (hi : i < t.f0.length) :
   DropI t (i + 1) (R.set (pg t i).toNat (R.getD (pg t i).toNat 0 - 1)) (if R.getD (pg t i).toNat 0 - 1 = 0 then Q.set (pg t i).toNat [] else Q) := by
 obtain ⟨b1, b2, b3⟩ := h.p i (Nat.le_refl _) hi
 have ha := pool_at R h.r (pg t i).toNat (by omega)
 refine ⟨pool_set R h.r _ _ (by omega) (by omega), by rw [List.length_set]; split <;> simp [h.q], fun y hy => ?_, fun j h1 h2 => ?_, h.d⟩
 · split at hy
   · rcases List.mem_or_eq_of_mem_set hy with hy | hy
     · exact h.c y hy
     · subst hy; exact ⟨by simp, fun z hz => by cases hz⟩
   · exact h.c y hy
 · obtain ⟨c1, c2, c3⟩ := h.p j (by omega) h2
   have hne : (pg t i).toNat ≠ (pg t j).toNat := fun e => h.d j h2 (by rw [show pg t j = pg t i by omega]; exact pg_mem t i j (by omega) h2)
   rw [List.length_set, getD_set_ne _ _ _ _ hne]
   exact ⟨c1, c2, c3⟩
theorem spec_drops (t : S67) (hl : t.f0.length ≤ 1048576) : ∀ d k i R Q, i + d = t.f0.length → d + 2000001 < k → DropI t i R Q → spec_DropTable.l0 t k (i : Int) R Q = some ((t.f0.length : Int), (dropFrom t i d R Q).1, (dropFrom t i d R Q).2) ∧ DropI t (i + d) (dropFrom t i d R Q).1 (dropFrom t i d R Q).2
 | 0, k, i, R, Q, hi, hk, h => by
   obtain ⟨k, rfl⟩ : ∃ m, k = m + 1 := ⟨k - 1, by omega⟩
   refine ⟨?_, h⟩
   show spec_DropTable.b0 t _ k _ _ _ = _
   unfold spec_DropTable.b0
   rw [if_neg (by omega), show (i : Int) = (t.f0.length : Int) by omega]; rfl
 | d + 1, k, i, R, Q, hi, hk, h => by
   obtain ⟨k, rfl⟩ : ∃ m, k = m + 1 := ⟨k - 1, by omega⟩
   obtain ⟨b1, b2, b3⟩ := h.p i (Nat.le_refl _) (by omega)
   have hn := h.next (by omega)
   have hR := pool_len R h.r
   have hq := h.q
   obtain ⟨e1, e2⟩ := spec_drops t hl d k (i + 1) _ _ (by omega) (by omega) hn
   rw [show i + (d + 1) = i + 1 + d by omega]
   refine ⟨?_, e2⟩
   show spec_DropTable.b0 t (spec_DropTable.l0 t k) k (i : Int) R Q = some ((t.f0.length : Int), (dropFrom t (i + 1) d _ _).1, (dropFrom t (i + 1) d _ _).2)
   rw [← e1]
   have hd : spec_DropPage.g k R (pg t i) = some (R.set (pg t i).toNat (R.getD (pg t i).toNat 0 - 1), true) := by
     unfold spec_DropPage.g
     rw [spec_change R (pg t i) (-1) (by omega) (by omega) (by omega) k (by omega), Option.bind_some]
     unfold chgP
     rw [if_pos ⟨h.r, b1, by omega, b3⟩, if_pos (show poolB (R.set (pg t i).toNat (R.getD (pg t i).toNat 0 + -1)) = true from hn.r)]
     rfl
   have hg : (R.set (pg t i).toNat (R.getD (pg t i).toNat 0 - 1)).getD (pg t i).toNat 0 = R.getD (pg t i).toNat 0 - 1 := getD_set_eq R _ _ (by omega)
   unfold spec_DropTable.b0
   rw [if_pos (by omega), if_pos ⟨by omega, by omega⟩, Int.toNat_natCast, w64 (i := (i : Int) + 1) (by omega) (by omega), show ((i : Int) + 1) = ((i + 1 : Nat) : Int) by omega]
   show (((spec_DropPage.g k R (pg t i)).bind fun t84 => (if 0 ≤ pg t i ∧ pg t i < ((t84.1.length : Nat) : Int) then (if t84.1.getD (pg t i).toNat 0 = 0 then (if 0 ≤ pg t i ∧ pg t i < ((Q.length : Nat) : Int) then some (t84.1, Q.set (pg t i).toNat []) else none) else some (t84.1, Q)) else none)).bind (fun oc76 => spec_DropTable.l0 t k ((i + 1 : Nat) : Int) oc76.1 oc76.2)) = _
   rw [hd, Option.bind_some, if_pos ⟨b1, by rw [List.length_set]; exact b2⟩]
   show Option.bind (if (R.set (pg t i).toNat (R.getD (pg t i).toNat 0 - 1)).getD (pg t i).toNat 0 = 0 then _ else _) _ = _
   rw [hg]
   by_cases c : R.getD (pg t i).toNat 0 - 1 = 0
   · rw [if_pos c, if_pos c, if_pos ⟨b1, by omega⟩, Option.bind_some]
   · rw [if_neg c, if_neg c, Option.bind_some]
theorem dropI_of (s : S58) (t : S67) (hs : okS s) (h : tableB s t = true) : DropI t 0 s.f0 s.f1 := by
 obtain ⟨a1, a2, a3, a4, a5, a6, a7, a8, a9⟩ := table_tells s t h
 refine ⟨?_, a6, hs.2.2, fun j _ hj => ?_, fun j hj => (a8 j hj).2.2.2.1⟩
 · unfold poolB
   rw [Bool.and_eq_true]
   exact ⟨decide_eq_true a5, List.all_eq_true.mpr fun x hx => by rw [Bool.and_eq_true]; exact ⟨decide_eq_true (a7 x hx).1, decide_eq_true (a7 x hx).2⟩⟩
 · obtain ⟨b1, b2, b3, _⟩ := a8 j hj
   exact ⟨b1, b2, b3⟩
def dropT (s : S58) (t : S67) : S58 × Bool := if tableB s t = true then (⟨(dropFrom t 0 t.f0.length s.f0 s.f1).1, (dropFrom t 0 t.f0.length s.f0 s.f1).2⟩, true) else (⟨[], []⟩, false)
theorem spec_dropT (s : S58) (t : S67) (h : okS s) (hl : t.f0.length ≤ 1048576) (hc1 : -9223372036854775808 ≤ t.f1) (hc2 : t.f1 ≤ 9223372036854775807) (k : Nat) (hk : 40000000 < k) : spec_DropTable.g k s t = some (dropT s t) := by
 unfold spec_DropTable.g dropT
 show ((spec_TableOk.g k s t).bind fun t8 => if t8 = true then ((spec_l15Copy.g k s).bind _) else _) = _
 rw [spec_tableG s t h hl hc1 hc2 k (by omega), Option.bind_some]
 by_cases c : tableB s t = true
 · rw [if_pos c, if_pos c, copyStore_g s h k (by omega), Option.bind_some, show (0 : Int) = ((0 : Nat) : Int) from rfl, (spec_drops t hl t.f0.length k 0 s.f0 s.f1 (by omega) (by omega) (dropI_of s t h c)).1, Option.bind_some]
 · rw [if_neg c, if_neg c]
/-- the first page from i on that nobody wants. -/
def freeFrom (R : List Int) : Nat → Nat → Option Nat
 | _, 0 => none
 | i, d + 1 => if R.getD i 0 = 0 then some i else freeFrom R (i + 1) d
theorem free_tells (R : List Int) : ∀ d i q, freeFrom R i d = some q → q < i + d ∧ R.getD q 0 = 0
 | 0, i, q, h => by cases h
 | d + 1, i, q, h => by
   have h' : (if R.getD i 0 = 0 then some i else freeFrom R (i + 1) d) = some q := h
   by_cases c : R.getD i 0 = 0
   · rw [if_pos c] at h'; obtain rfl := Option.some.inj h'; exact ⟨by omega, c⟩
   · rw [if_neg c] at h'; have := free_tells R d (i + 1) q h'; exact ⟨by omega, this.2⟩
def takeP (R : List Int) : List Int × Int × Bool := if poolB R = true then (match freeFrom R 0 R.length with | some q => (R.set q 1, (q : Int), true) | none => ([], 0, false)) else ([], 0, false)
theorem index_g (R : List Int) (hl : R.length ≤ 1048576) : ∀ d k i, i + d = R.length → d < k → slices_Index_int_int.l0 R 0 k (i : Int) = some (match freeFrom R i d with | some q => .inl (q : Int) | none => .inr (R.length : Int))
 | 0, k, i, hi, hk => by
   obtain ⟨k, rfl⟩ : ∃ m, k = m + 1 := ⟨k - 1, by omega⟩
   show slices_Index_int_int.b0 R 0 _ k _ = _
   unfold slices_Index_int_int.b0
   rw [if_neg (by omega), show (i : Int) = (R.length : Int) by omega]; rfl
 | d + 1, k, i, hi, hk => by
   obtain ⟨k, rfl⟩ : ∃ m, k = m + 1 := ⟨k - 1, by omega⟩
   show slices_Index_int_int.b0 R 0 (slices_Index_int_int.l0 R 0 k) k (i : Int) = some (match (if R.getD i 0 = 0 then some i else freeFrom R (i + 1) d) with | some q => .inl (q : Int) | none => .inr (R.length : Int))
   unfold slices_Index_int_int.b0
   rw [if_pos (by omega), if_pos ⟨by omega, by omega⟩, Int.toNat_natCast, w64 (i := (i : Int) + 1) (by omega) (by omega), show ((i : Int) + 1) = ((i + 1 : Nat) : Int) by omega]
   by_cases c : R.getD i 0 = 0
   · rw [if_pos c.symm, if_pos c]
   · rw [if_neg (fun e => c e.symm), if_neg c, index_g R hl d k (i + 1) (by omega) (by omega)]
theorem impl_take (R : List Int) (hl : R.length ≤ 1048576) (k : Nat) (hk : 2000000 < k) : impl_TakePage.g k R = some (takeP R) := by
 unfold impl_TakePage.g takeP slices_Index_int_int.g slices_Clone_int_int.g
 rw [show (0 : Int) = ((0 : Nat) : Int) from rfl]
 have e := index_g R hl R.length k 0 (by omega) (by omega)
 rw [show slices_Index_int_int.l0 R ((0 : Nat) : Int) k ((0 : Nat) : Int) = _ from e, impl_poolG R k]
 cases hf : freeFrom R 0 R.length with
 | none =>
   simp only [Option.bind_some]
   cases poolB R <;> rfl
 | some q =>
   have g := free_tells R _ _ _ hf
   simp only [Option.bind_some]
   cases poolB R with
   | false => rfl
   | true =>
     rw [if_pos rfl, if_pos rfl, if_neg (show ¬ (q : Int) < ((0 : Nat) : Int) by omega), if_pos (by omega), Option.bind_some, if_pos (show ((0 : Nat) : Int) ≤ (q : Int) ∧ (q : Int) < ((R.length : Nat) : Int) from ⟨by omega, by omega⟩), Int.toNat_natCast]
theorem take_loop (R : List Int) (hl : R.length ≤ 1048576) (hp : poolB R = true) : ∀ d k i, i + d = R.length → d + 2000001 < k → spec_TakePage.l0 R k (i : Int) R = some (match freeFrom R i d with | some q => .inl (R.set q 1, (q : Int), true) | none => .inr ((R.length : Int), R))
 | 0, k, i, hi, hk => by
   obtain ⟨k, rfl⟩ : ∃ m, k = m + 1 := ⟨k - 1, by omega⟩
   show spec_TakePage.b0 R _ k _ _ = _
   unfold spec_TakePage.b0
   rw [if_neg (by omega), show (i : Int) = (R.length : Int) by omega]; rfl
 | d + 1, k, i, hi, hk => by
   obtain ⟨k, rfl⟩ : ∃ m, k = m + 1 := ⟨k - 1, by omega⟩
   show spec_TakePage.b0 R (spec_TakePage.l0 R k) k (i : Int) R = some (match (if R.getD i 0 = 0 then some i else freeFrom R (i + 1) d) with | some q => .inl (R.set q 1, (q : Int), true) | none => .inr ((R.length : Int), R))
   unfold spec_TakePage.b0
   rw [if_pos (by omega), spec_poolG R hl k (by omega), Option.bind_some, hp, if_pos rfl, if_pos ⟨by omega, by omega⟩, Int.toNat_natCast, w64 (i := (i : Int) + 1) (by omega) (by omega), show ((i : Int) + 1) = ((i + 1 : Nat) : Int) by omega]
   by_cases c : R.getD i 0 = 0
   · rw [if_pos c, if_pos c, if_pos ⟨by omega, by omega⟩]
   · rw [if_neg c, if_neg c, take_loop R hl hp d k (i + 1) (by omega) (by omega)]
theorem spec_take (R : List Int) (hl : R.length ≤ 1048576) (k : Nat) (hk : 4000000 < k) : spec_TakePage.g k R = some (takeP R) := by
 unfold spec_TakePage.g takeP
 rw [if_pos (by omega), List.nil_append]
 cases hp : poolB R with
 | false =>
   have e : spec_TakePage.l0 R k 0 R = some (.inr (0, R)) := by
     obtain ⟨k, rfl⟩ : ∃ m, k = m + 1 := ⟨k - 1, by omega⟩
     show spec_TakePage.b0 R _ k _ _ = _
     unfold spec_TakePage.b0
     by_cases c : (0 : Int) < (R.length : Int)
     · rw [if_pos c, spec_poolG R hl k (by omega), Option.bind_some, hp]; rfl
     · rw [if_neg c]
   rw [e]; rfl
 | true =>
   have e := take_loop R hl hp R.length k 0 (by omega) (by omega)
   rw [show spec_TakePage.l0 R k 0 R = _ from e]
   cases freeFrom R 0 R.length <;> rfl
/-- a table's last page. -/
def pgL (t : S67) : Int := pg t (t.f0.length - 1)
theorem last_tells (s : S58) (t : S67) (h : tableB s t = true) (u : Int.tmod t.f1 4 > 0) : wrap64 ((t.f0.length : Int) - 1) = ((t.f0.length - 1 : Nat) : Int) ∧ 0 < t.f0.length ∧
   0 ≤ pgL t ∧ pgL t < (s.f1.length : Int) ∧ pgL t < (s.f0.length : Int) ∧ s.f0.getD (pgL t).toNat 0 ≠ 0 ∧ Int.tmod t.f1 4 ≤ ((s.f1.getD (pgL t).toNat []).length : Int) ∧ Int.tmod t.f1 4 < 4 := by
 obtain ⟨a1, a2, a3, a4, a5, a6, a7, a8, a9⟩ := table_tells s t h
 rw [Int.tmod_eq_emod_of_nonneg a1] at u ⊢
 have hn : (t.f0.length : Int) = (t.f1 - 1) / 4 + 1 := by rw [a3]; unfold needN; rw [if_neg (by omega)]
 obtain ⟨b1, b2, b3, b4, b5⟩ := a8 (t.f0.length - 1) (by omega)
 refine ⟨by rw [w64 (by omega) (by omega)]; omega, by omega, b1, by show pg t _ < _; omega, b2, b3, ?_, by omega⟩
 unfold lastN at b5
 show t.f1 % 4 ≤ ((s.f1.getD (pg t (t.f0.length - 1)).toNat []).length : Int)
 split at b5 <;> omega
def preC (s : S58) (t : S67) : List S62 := if Int.tmod t.f1 4 > 0 then (s.f1.getD (pgL t).toNat []).take (Int.tmod t.f1 4).toNat else []
def addT (s : S58) (t : S67) (c : S62) : S58 × S67 × Bool :=
 if tableB s t = true then
   (if Int.tmod t.f1 4 > 0 ∧ s.f0.getD (pgL t).toNat 0 = 1 then (⟨s.f0, s.f1.set (pgL t).toNat (preC s t ++ [c])⟩, ⟨t.f0, t.f1 + 1⟩, true)
   else match freeFrom s.f0 0 s.f0.length with
     | none => (⟨[], []⟩, ⟨[], 0⟩, false)
     | some q => (⟨if Int.tmod t.f1 4 > 0 then (s.f0.set q 1).set (pgL t).toNat (s.f0.getD (pgL t).toNat 0 - 1) else s.f0.set q 1, s.f1.set q (preC s t ++ [c])⟩, ⟨if Int.tmod t.f1 4 > 0 then t.f0.set (t.f0.length - 1) (q : Int) else t.f0 ++ [(q : Int)], t.f1 + 1⟩, true))
 else (⟨[], []⟩, ⟨[], 0⟩, false)
theorem pool_of (s : S58) (t : S67) (h : tableB s t = true) : poolB s.f0 = true := by
 unfold tableB storeB at h
 simp only [Bool.and_eq_true] at h
 exact h.1.1
/-- what a page holds is small. -/
theorem pre_ok (s : S58) (t : S67) (hs : okS s) (h : tableB s t = true) : (preC s t).length ≤ 3 ∧ ∀ z ∈ preC s t, iCell z ≤ 1048576 := by
 unfold preC
 by_cases u : Int.tmod t.f1 4 > 0
 · rw [if_pos u]
   obtain ⟨c1, c2, c3, c4, c5, c6, c7, c8⟩ := last_tells s t h u
   refine ⟨by rw [List.length_take]; omega, fun z hz => ?_⟩
   have hm : s.f1.getD (pgL t).toNat [] ∈ s.f1 := by rw [List.getD_eq_getElem?_getD, List.getElem?_eq_getElem (by omega)]; exact List.getElem_mem _
   exact (hs.2.2 _ hm).2 z (List.mem_of_mem_take hz)
 · rw [if_neg u]; exact ⟨by simp, fun z hz => by cases hz⟩

theorem spec_addT (s : S58) (t : S67) (c : S62) (h : okS s) (hl : t.f0.length ≤ 1048576) (hc1 : -9223372036854775808 ≤ t.f1) (hc2 : t.f1 ≤ 9223372036854775807) (hc : iCell c ≤ 1048576) (k : Nat) (hk : 40000000 < k) : spec_AddCell.g k s t c = some (addT s t c) := by
 unfold spec_AddCell.g addT
 show ((spec_TableOk.g k s t).bind fun t14 => if t14 = true then ((spec_l15Copy.g k s).bind fun t19 => ((spec_l15CopyTable.g k t).bind _)) else _) = _
 rw [spec_tableG s t h hl hc1 hc2 k (by omega), Option.bind_some]
 by_cases ct : tableB s t = true
 · obtain ⟨a1, a2, a3, a4, a5, a6, a7, a8, a9⟩ := table_tells s t ct
   have hpo := pool_of s t ct
   have hpre := pre_ok s t h ct
   have hcc := copy_g c hc k (by omega)
   have htk := spec_take s.f0 (by omega) k (by omega)
   rw [if_pos ct, if_pos ct, copyStore_g s h k (by omega), Option.bind_some, copyTable_g t hl k, Option.bind_some]
   have hw1 : wrap64 (t.f1 + 1) = t.f1 + 1 := w64 (by omega) (by omega)
   by_cases u : Int.tmod t.f1 4 > 0
   · obtain ⟨c1, c2, c3, c4, c5, c6, c7, c8⟩ := last_tells s t ct u
     have hpe : preC s t = (s.f1.getD (pgL t).toNat []).take (Int.tmod t.f1 4).toNat := if_pos u
     have hcp := copyCells_g (preC s t) (by omega) hpre.2 k (by omega)
     rw [hpe] at hcp hpre
     rw [hpe]
     rw [if_pos u, c1, Int.toNat_natCast]
     show ((((if 0 ≤ ((t.f0.length - 1 : Nat) : Int) ∧ ((t.f0.length - 1 : Nat) : Int) < (t.f0.length : Int) then (if 0 ≤ pgL t ∧ pgL t < (s.f1.length : Int) then (if 0 ≤ Int.tmod t.f1 4 ∧ Int.tmod t.f1 4 ≤ ((s.f1.getD (pgL t).toNat []).length : Int) then ((spec_l14CopyCells.g k ((s.f1.getD (pgL t).toNat []).take (Int.tmod t.f1 4).toNat)).bind _) else _) else _) else _) : Option _)).bind _) = _
     rw [if_pos ⟨by omega, by omega⟩, if_pos ⟨c3, c4⟩, if_pos ⟨by omega, c7⟩, hcp, Option.bind_some]
     generalize (s.f1.getD (pgL t).toNat []).take (Int.tmod t.f1 4).toNat = pr at *
     rw [List.nil_append, if_pos (by omega)]
     show ((((if 0 ≤ pgL t ∧ pgL t < (s.f0.length : Int) then (if s.f0.getD (pgL t).toNat 0 = 1 then ((spec_l14Copy.g k c).bind fun t228 => (if pr.length < 4294967296 then (if 0 ≤ pgL t ∧ pgL t < ((s.f1.length : Nat) : Int) then _ else _) else _)) else _) else _) : Option _)).bind _) = _
     rw [if_pos ⟨c3, c5⟩]
     by_cases r1 : s.f0.getD (pgL t).toNat 0 = 1
     · rw [if_pos r1, hcc, Option.bind_some, if_pos (by omega), if_pos ⟨c3, c4⟩, Option.bind_some, if_pos ⟨u, r1⟩, hw1]; rfl
     · rw [if_neg r1, Option.bind_some, if_neg (fun e => r1 e.2)]
       show ((spec_TakePage.g k s.f0).bind _) = _
       rw [htk, Option.bind_some]
       unfold takeP
       rw [if_pos hpo]
       cases hf : freeFrom s.f0 0 s.f0.length with
       | none => rfl
       | some q =>
         have g := free_tells s.f0 _ _ _ hf
         have hne : q ≠ (pgL t).toNat := fun e => c6 (e ▸ g.2)
         have hrp := pool_at s.f0 hpo (pgL t).toNat (by omega)
         have hp1 : poolB (s.f0.set q 1) = true := pool_set _ hpo _ _ (by omega) (by omega)
         have hgp : (s.f0.set q 1).getD (pgL t).toNat 0 = s.f0.getD (pgL t).toNat 0 := getD_set_ne _ _ _ _ hne
         have hdp : spec_DropPage.g k (s.f0.set q 1) (pgL t) = some ((s.f0.set q 1).set (pgL t).toNat (s.f0.getD (pgL t).toNat 0 - 1), true) := by
           unfold spec_DropPage.g
           rw [spec_change _ (pgL t) (-1) (by rw [List.length_set]; omega) (by omega) (by omega) k (by omega), Option.bind_some]
           unfold chgP
           rw [hgp, if_pos ⟨hp1, c3, by rw [List.length_set]; omega, c6⟩, if_pos (pool_set _ hp1 _ _ (by omega) (by omega))]
           rfl
         show (if true = true then ((spec_l14Copy.g k c).bind fun t86 => (if pr.length < 4294967296 then (if 0 ≤ (q : Int) ∧ (q : Int) < ((s.f1.length : Nat) : Int) then ((((if Int.tmod t.f1 4 > 0 then (if 0 ≤ ((t.f0.length - 1 : Nat) : Int) ∧ ((t.f0.length - 1 : Nat) : Int) < ((t.f0.length : Nat) : Int) then ((spec_DropPage.g k (s.f0.set q 1) (pgL t)).bind _) else _) else _) : Option _)).bind _) else _) else _)) else _) = _
         rw [if_pos rfl, hcc, Option.bind_some, if_pos (by omega), if_pos ⟨by omega, by omega⟩, if_pos u, if_pos ⟨by omega, by omega⟩, hdp, Option.bind_some, Option.bind_some, hw1]
         show _ = some ((⟨if Int.tmod t.f1 4 > 0 then _ else _, _⟩ : S58), (⟨if Int.tmod t.f1 4 > 0 then _ else _, _⟩ : S67), true)
         rw [if_pos u, if_pos u]; rfl
   · have hpe : preC s t = [] := if_neg u
     rw [hpe]
     rw [if_neg u, Option.bind_some, if_neg (fun e => u e.1)]
     show ((spec_TakePage.g k s.f0).bind _) = _
     rw [htk, Option.bind_some]
     unfold takeP
     rw [if_pos hpo]
     cases hf : freeFrom s.f0 0 s.f0.length with
     | none => rfl
     | some q =>
       have g := free_tells s.f0 _ _ _ hf
       show (if true = true then ((spec_l14Copy.g k c).bind fun t86 => (if ([] : List S62).length < 4294967296 then (if 0 ≤ (q : Int) ∧ (q : Int) < ((s.f1.length : Nat) : Int) then ((((if Int.tmod t.f1 4 > 0 then _ else (if t.f0.length < 4294967296 then _ else _)) : Option _)).bind _) else _) else _)) else _) = _
       rw [if_pos rfl, hcc, Option.bind_some, if_pos (by simp), if_pos ⟨by omega, by omega⟩, if_neg u, if_pos (by omega), Option.bind_some, hw1]
       show _ = some ((⟨if Int.tmod t.f1 4 > 0 then _ else _, _⟩ : S58), (⟨if Int.tmod t.f1 4 > 0 then _ else _, _⟩ : S67), true)
       rw [if_neg u, if_neg u]; rfl
 · rw [if_neg ct, if_neg ct]
theorem impl_addT (s : S58) (t : S67) (c : S62) (h : okS s) (hl : t.f0.length ≤ 1048576) (hc1 : -9223372036854775808 ≤ t.f1) (hc2 : t.f1 ≤ 9223372036854775807) (hc : iCell c ≤ 1048576) (k : Nat) (hk : 40000000 < k) : impl_AddCell.g k s t c = some (addT s t c) := by
 unfold impl_AddCell.g addT
 show ((impl_TableOk.g k s t).bind fun t14 => if t14 = true then ((impl_cloneStore.g k s).bind fun t19 => ((impl_cloneTable.g k t).bind _)) else _) = _
 rw [impl_tableG s t h hl hc1 hc2 k (by omega), Option.bind_some]
 by_cases ct : tableB s t = true
 · obtain ⟨a1, a2, a3, a4, a5, a6, a7, a8, a9⟩ := table_tells s t ct
   have hpo := pool_of s t ct
   have hpre := pre_ok s t h ct
   have hcc := cloneCell_g c hc k
   have htk := impl_take s.f0 (by omega) k (by omega)
   rw [if_pos ct, if_pos ct, cloneStore_g s h k (by omega), Option.bind_some, cloneTable_g t hl k, Option.bind_some]
   have hw1 : wrap64 (t.f1 + 1) = t.f1 + 1 := w64 (by omega) (by omega)
   by_cases u : Int.tmod t.f1 4 > 0
   · obtain ⟨c1, c2, c3, c4, c5, c6, c7, c8⟩ := last_tells s t ct u
     have hpe : preC s t = (s.f1.getD (pgL t).toNat []).take (Int.tmod t.f1 4).toNat := if_pos u
     have hcp := cloneCells_g (preC s t) (by omega) hpre.2 k (by omega)
     rw [hpe] at hcp hpre
     rw [hpe]
     rw [if_pos u, c1, Int.toNat_natCast]
     show ((((if 0 ≤ ((t.f0.length - 1 : Nat) : Int) ∧ ((t.f0.length - 1 : Nat) : Int) < (t.f0.length : Int) then (if 0 ≤ pgL t ∧ pgL t < (s.f1.length : Int) then (if 0 ≤ Int.tmod t.f1 4 ∧ Int.tmod t.f1 4 ≤ ((s.f1.getD (pgL t).toNat []).length : Int) then ((impl_cloneCells.g k ((s.f1.getD (pgL t).toNat []).take (Int.tmod t.f1 4).toNat)).bind _) else _) else _) else _) : Option _)).bind _) = _
     rw [if_pos ⟨by omega, by omega⟩, if_pos ⟨c3, c4⟩, if_pos ⟨by omega, c7⟩, hcp, Option.bind_some]
     generalize (s.f1.getD (pgL t).toNat []).take (Int.tmod t.f1 4).toNat = pr at *
     show ((((if 0 ≤ pgL t ∧ pgL t < (s.f0.length : Int) then (if s.f0.getD (pgL t).toNat 0 = 1 then ((impl_cloneCell.g k c).bind fun t228 => (if pr.length < 4294967296 then (if 0 ≤ pgL t ∧ pgL t < ((s.f1.length : Nat) : Int) then _ else _) else _)) else _) else _) : Option _)).bind _) = _
     rw [if_pos ⟨c3, c5⟩]
     by_cases r1 : s.f0.getD (pgL t).toNat 0 = 1
     · rw [if_pos r1, hcc, Option.bind_some, if_pos (by omega), if_pos ⟨c3, c4⟩, Option.bind_some, if_pos ⟨u, r1⟩, hw1]; rfl
     · rw [if_neg r1, Option.bind_some, if_neg (fun e => r1 e.2)]
       show ((impl_cloneCell.g k c).bind fun t309 => (if pr.length < 4294967296 then ((impl_TakePage.g k s.f0).bind _) else _)) = _
       rw [hcc, Option.bind_some, if_pos (by omega), htk, Option.bind_some]
       unfold takeP
       rw [if_pos hpo]
       cases hf : freeFrom s.f0 0 s.f0.length with
       | none => rfl
       | some q =>
         have g := free_tells s.f0 _ _ _ hf
         have hne : q ≠ (pgL t).toNat := fun e => c6 (e ▸ g.2)
         have hrp := pool_at s.f0 hpo (pgL t).toNat (by omega)
         have hgp : (s.f0.set q 1).getD (pgL t).toNat 0 = s.f0.getD (pgL t).toNat 0 := getD_set_ne _ _ _ _ hne
         have hg2 : ((s.f0.set q 1).set (pgL t).toNat (s.f0.getD (pgL t).toNat 0 - 1)).getD (pgL t).toNat 0 = s.f0.getD (pgL t).toNat 0 - 1 := getD_set_eq _ _ _ (by rw [List.length_set]; omega)
         have hw2 : wrap64 (s.f0.getD (pgL t).toNat 0 - 1) = s.f0.getD (pgL t).toNat 0 - 1 := w64 (by omega) (by omega)
         show (if true = true then (if 0 ≤ (q : Int) ∧ (q : Int) < ((s.f1.length : Nat) : Int) then ((((if Int.tmod t.f1 4 > 0 then (if 0 ≤ ((t.f0.length - 1 : Nat) : Int) ∧ ((t.f0.length - 1 : Nat) : Int) < (t.f0.length : Int) then (if 0 ≤ pgL t ∧ pgL t < (((s.f0.set q 1).length : Nat) : Int) then (if 0 ≤ pgL t ∧ pgL t < ((((s.f0.set q 1).set (pgL t).toNat (wrap64 ((s.f0.set q 1).getD (pgL t).toNat 0 - 1))).length : Nat) : Int) then (if ((s.f0.set q 1).set (pgL t).toNat (wrap64 ((s.f0.set q 1).getD (pgL t).toNat 0 - 1))).getD (pgL t).toNat 0 = 0 then _ else (if 0 ≤ ((t.f0.length - 1 : Nat) : Int) ∧ ((t.f0.length - 1 : Nat) : Int) < ((t.f0.length : Nat) : Int) then some ((s.f0.set q 1).set (pgL t).toNat (wrap64 ((s.f0.set q 1).getD (pgL t).toNat 0 - 1)), _, _) else _)) else _) else _) else _) else _) : Option _)).bind _) else _) else _) = _
         rw [hgp, hw2, if_pos rfl, if_pos ⟨by omega, by omega⟩, if_pos u, if_pos ⟨by omega, by omega⟩, if_pos ⟨c3, by rw [List.length_set]; omega⟩, if_pos ⟨c3, by rw [List.length_set, List.length_set]; omega⟩, hg2, if_neg (by omega), if_pos ⟨by omega, by omega⟩, Option.bind_some, hw1]
         show _ = some ((⟨if Int.tmod t.f1 4 > 0 then _ else _, _⟩ : S58), (⟨if Int.tmod t.f1 4 > 0 then _ else _, _⟩ : S67), true)
         rw [if_pos u, if_pos u]; rfl
   · have hpe : preC s t = [] := if_neg u
     rw [hpe]
     rw [if_neg u, Option.bind_some, if_neg (fun e => u e.1)]
     show ((impl_cloneCell.g k c).bind fun t309 => (if ([] : List S62).length < 4294967296 then ((impl_TakePage.g k s.f0).bind _) else _)) = _
     rw [hcc, Option.bind_some, if_pos (by simp), htk, Option.bind_some]
     unfold takeP
     rw [if_pos hpo]
     cases hf : freeFrom s.f0 0 s.f0.length with
     | none => rfl
     | some q =>
       have g := free_tells s.f0 _ _ _ hf
       show (if true = true then (if 0 ≤ (q : Int) ∧ (q : Int) < ((s.f1.length : Nat) : Int) then ((((if Int.tmod t.f1 4 > 0 then _ else (if t.f0.length < 4294967296 then _ else _)) : Option _)).bind _) else _) else _) = _
       rw [if_pos rfl, if_pos ⟨by omega, by omega⟩, if_neg u, if_pos (by omega), Option.bind_some, hw1]
       show _ = some ((⟨if Int.tmod t.f1 4 > 0 then _ else _, _⟩ : S58), (⟨if Int.tmod t.f1 4 > 0 then _ else _, _⟩ : S67), true)
       rw [if_neg u, if_neg u]; rfl
 · rw [if_neg ct, if_neg ct]
/-- pools in which a table's pages from i on are wanted by one more. -/
def forkFrom (t : S67) : Nat → Nat → List Int → Option (List Int)
 | _, 0, R => some R
 | i, d + 1, R => if (chgP R (pg t i) 1).2 = true then forkFrom t (i + 1) d (chgP R (pg t i) 1).1 else none
theorem chg_len (R : List Int) (p b : Int) (h : (chgP R p b).2 = true) : (chgP R p b).1.length = R.length := by
 unfold chgP at *
 split
 · split
   · simp
   · rename_i h1 h2; rw [if_pos h1, if_neg h2] at h; cases h
 · rename_i h1; rw [if_neg h1] at h; cases h
def forkEnd (t : S67) : Option (List Int) → (S58 × S67 × Bool) ⊕ (Int × List Int)
 | some R => .inr ((t.f0.length : Int), R)
 | none => .inl (⟨[], []⟩, ⟨[], 0⟩, false)
theorem spec_forks (t : S67) (hl : t.f0.length ≤ 1048576) : ∀ d k i R, i + d = t.f0.length → d + 2000001 < k → R.length ≤ 1048576 → spec_ForkTable.l0 t k (i : Int) R = some (forkEnd t (forkFrom t i d R))
 | 0, k, i, R, hi, hk, hR => by
   obtain ⟨k, rfl⟩ : ∃ m, k = m + 1 := ⟨k - 1, by omega⟩
   show spec_ForkTable.b0 t _ k _ _ = _
   unfold spec_ForkTable.b0
   rw [if_neg (by omega), show (i : Int) = (t.f0.length : Int) by omega]; rfl
 | d + 1, k, i, R, hi, hk, hR => by
   obtain ⟨k, rfl⟩ : ∃ m, k = m + 1 := ⟨k - 1, by omega⟩
   have hs : spec_SharePage.g k R (pg t i) = some (chgP R (pg t i) 1) := by
     unfold spec_SharePage.g
     rw [spec_change R (pg t i) 1 hR (by omega) (by omega) k (by omega), Option.bind_some]
   show spec_ForkTable.b0 t (spec_ForkTable.l0 t k) k (i : Int) R = some (forkEnd t (if (chgP R (pg t i) 1).2 = true then forkFrom t (i + 1) d (chgP R (pg t i) 1).1 else none))
   unfold spec_ForkTable.b0
   rw [if_pos (by omega), if_pos ⟨by omega, by omega⟩, Int.toNat_natCast, w64 (i := (i : Int) + 1) (by omega) (by omega), show ((i : Int) + 1) = ((i + 1 : Nat) : Int) by omega]
   show ((spec_SharePage.g k R (pg t i)).bind _) = _
   rw [hs, Option.bind_some]
   by_cases c : (chgP R (pg t i) 1).2 = true
   · rw [if_pos c, if_pos c, spec_forks t hl d k (i + 1) _ (by omega) (by omega) (by rw [chg_len R _ _ c]; exact hR)]
   · rw [if_neg c, if_neg c]; rfl
def forkT (s : S58) (t : S67) : S58 × S67 × Bool :=
 if tableB s t = true then (match forkFrom t 0 t.f0.length s.f0 with | some R => (⟨R, s.f1⟩, t, true) | none => (⟨[], []⟩, ⟨[], 0⟩, false)) else (⟨[], []⟩, ⟨[], 0⟩, false)
theorem spec_forkT (s : S58) (t : S67) (h : okS s) (hl : t.f0.length ≤ 1048576) (hc1 : -9223372036854775808 ≤ t.f1) (hc2 : t.f1 ≤ 9223372036854775807) (k : Nat) (hk : 40000000 < k) : spec_ForkTable.g k s t = some (forkT s t) := by
 have h0 := h.1
 unfold spec_ForkTable.g forkT
 show ((spec_TableOk.g k s t).bind fun t8 => if t8 = true then ((spec_l15Copy.g k s).bind _) else _) = _
 rw [spec_tableG s t h hl hc1 hc2 k (by omega), Option.bind_some]
 by_cases c : tableB s t = true
 · rw [if_pos c, if_pos c, copyStore_g s h k (by omega), Option.bind_some, show (0 : Int) = ((0 : Nat) : Int) from rfl, spec_forks t hl t.f0.length k 0 s.f0 (by omega) (by omega) (by omega), Option.bind_some]
   cases forkFrom t 0 t.f0.length s.f0 with
   | none => rfl
   | some R =>
     show ((spec_l15CopyTable.g k t).bind _) = _
     rw [copyTable_g t hl k, Option.bind_some]
 · rw [if_neg c, if_neg c]
-- stores whose pages are wanted just as often as tables hold them
/-- how often tables hold a page. -/
def tot (ts : List S67) (p : Nat) : Nat := (ts.map fun t => t.f0.count (p : Int)).sum
theorem tot_cons (t : S67) (ts : List S67) (p : Nat) : tot (t :: ts) p = t.f0.count (p : Int) + tot ts p := rfl
theorem tot_set (t : S67) (p : Nat) : ∀ (ts : List S67) (k : Nat) (h : k < ts.length), tot (ts.set k t) p + ts[k].f0.count (p : Int) = tot ts p + t.f0.count (p : Int)
 | [], k, h => by cases h
 | u :: ts, 0, h => by
   show tot (t :: ts) p + u.f0.count (p : Int) = tot (u :: ts) p + _
   rw [tot_cons, tot_cons]; omega
 | u :: ts, k + 1, h => by
   show tot (u :: ts.set k t) p + (ts[k]'(Nat.lt_of_succ_lt_succ h)).f0.count (p : Int) = tot (u :: ts) p + _
   have := tot_set t p ts k (Nat.lt_of_succ_lt_succ h)
   rw [tot_cons, tot_cons]; omega
theorem tot_app (t : S67) (p : Nat) : ∀ ts : List S67, tot (ts ++ [t]) p = tot ts p + t.f0.count (p : Int)
 | [] => by show t.f0.count (p : Int) + 0 = 0 + _; omega
 | u :: ts => by
   show tot (u :: (ts ++ [t])) p = _
   rw [tot_cons, tot_cons, tot_app t p ts]; omega
theorem tot_one (p : Nat) : ∀ (ts : List S67) (k : Nat) (h : k < ts.length), ts[k].f0.count (p : Int) ≤ tot ts p
 | [], k, h => by cases h
 | u :: ts, 0, h => by rw [tot_cons]; exact Nat.le_add_right _ _
 | u :: ts, k + 1, h => by
   have := tot_one p ts k (Nat.lt_of_succ_lt_succ h)
   rw [tot_cons]
   show (ts[k]'(Nat.lt_of_succ_lt_succ h)).f0.count (p : Int) ≤ _
   omega
theorem tot_two (ts : List S67) (k j : Nat) (hk : k < ts.length) (hj : j < ts.length) (hne : k ≠ j) (p : Nat) : ts[k].f0.count (p : Int) + ts[j].f0.count (p : Int) ≤ tot ts p := by
 have a := tot_set ⟨[], 0⟩ p ts k hk
 have b := tot_one p (ts.set k ⟨[], 0⟩) j (by rw [List.length_set]; exact hj)
 rw [List.getElem_set_ne hne] at b
 have e : (⟨[], 0⟩ : S67).f0.count (p : Int) = 0 := rfl
 omega
/-- no table holds a page twice. -/
def Once1 (t : S67) : Prop := ∀ j, j < t.f0.length → pg t j ∉ t.f0.take j
theorem pg_in (t : S67) (i : Nat) (h : i < t.f0.length) : pg t i ∈ t.f0 := by
 unfold pg; rw [List.getD_eq_getElem?_getD, List.getElem?_eq_getElem h]; exact List.getElem_mem h
theorem in_pg (t : S67) (i : Nat) (x : Int) (h : x ∈ t.f0.drop i) : ∃ j, i ≤ j ∧ j < t.f0.length ∧ pg t j = x := by
 obtain ⟨j, hj, e⟩ := List.mem_iff_getElem.mp h
 rw [List.length_drop] at hj
 refine ⟨i + j, by omega, by omega, ?_⟩
 unfold pg
 rw [List.getD_eq_getElem?_getD, List.getElem?_eq_getElem (by omega), ← e, List.getElem_drop]; rfl
theorem not_later (t : S67) (ho : Once1 t) (i j : Nat) (h : i < j) (hj : j < t.f0.length) : pg t i ≠ pg t j := fun e => ho j hj (by rw [← e]; exact pg_mem t i j h hj)
theorem count_drop (t : S67) (i : Nat) (h : i < t.f0.length) (p : Nat) : (t.f0.drop i).count (p : Int) = (t.f0.drop (i + 1)).count (p : Int) + if pg t i = (p : Int) then 1 else 0 := by
 have e : t.f0.drop i = pg t i :: t.f0.drop (i + 1) := by
   rw [List.drop_eq_getElem_cons h]; unfold pg; rw [List.getD_eq_getElem?_getD, List.getElem?_eq_getElem h]; rfl
 rw [e, List.count_cons]
 by_cases c : pg t i = (p : Int)
 · rw [if_pos c, if_pos (by rw [c]; exact beq_self_eq_true _)]
 · rw [if_neg c, if_neg (fun g => c (eq_of_beq g))]
theorem count_later (t : S67) (ho : Once1 t) (i : Nat) (h : i < t.f0.length) (p : Nat) (e : pg t i = (p : Int)) : (t.f0.drop (i + 1)).count (p : Int) = 0 := by
 rw [List.count_eq_zero]
 intro g
 obtain ⟨j, h1, h2, h3⟩ := in_pg t (i + 1) _ g
 exact not_later t ho i j (by omega) h2 (by rw [e, h3])
theorem count_le1 (t : S67) (ho : Once1 t) (p : Nat) : ∀ d i, i + d = t.f0.length → (t.f0.drop i).count (p : Int) ≤ 1
 | 0, i, hi => by rw [List.drop_of_length_le (by omega)]; exact Nat.zero_le _
 | d + 1, i, hi => by
   rw [count_drop t i (by omega) p]
   by_cases c : pg t i = (p : Int)
   · rw [count_later t ho i (by omega) p c, if_pos c]; exact Nat.le_refl _
   · rw [if_neg c]; exact count_le1 t ho p d (i + 1) (by omega)
theorem count_pos (t : S67) (i p : Nat) (h : i < t.f0.length) (e : pg t i = (p : Int)) : 0 < t.f0.count (p : Int) := List.count_pos_iff.mpr (by rw [← e]; exact pg_in t i h)
theorem getD_setL {α : Type} (l : List α) (i p : Nat) (v z : α) (h : i < l.length) : (l.set i v).getD p z = if p = i then v else l.getD p z := by
 rw [List.getD_eq_getElem?_getD, List.getD_eq_getElem?_getD]
 by_cases c : p = i
 · rw [if_pos c, c, List.getElem?_set_self h]; rfl
 · rw [if_neg c, List.getElem?_set_ne (fun e => c e.symm)]
-- stores
theorem store_tells (s : S58) (h : storeB s = true) : poolB s.f0 = true ∧ s.f1.length = s.f0.length ∧ ∀ p, p < s.f0.length → (s.f1.getD p []).length ≤ 4 ∧ (s.f0.getD p 0 = 0 → (s.f1.getD p []).length = 0) := by
 unfold storeB at h
 simp only [Bool.and_eq_true, decide_eq_true_eq] at h
 obtain ⟨h1, h2, h3⟩ := h
 refine ⟨h1, h2, fun p hp => ?_⟩
 have := (scanB_iff _ _ _).mp h3 p (by omega) (by omega)
 unfold pageOk at this
 simp only [Bool.and_eq_true, Bool.or_eq_true, decide_eq_true_eq] at this
 exact ⟨this.1, fun e => this.2.resolve_left (fun g => g e)⟩
theorem store_of (s : S58) (h1 : poolB s.f0 = true) (h2 : s.f1.length = s.f0.length) (h3 : ∀ p, p < s.f0.length → (s.f1.getD p []).length ≤ 4 ∧ (s.f0.getD p 0 = 0 → (s.f1.getD p []).length = 0)) : storeB s = true := by
 unfold storeB
 simp only [Bool.and_eq_true, decide_eq_true_eq]
 refine ⟨h1, h2, (scanB_iff _ _ _).mpr fun j _ hj => ?_⟩
 obtain ⟨a, b⟩ := h3 j (by omega)
 unfold pageOk
 simp only [Bool.and_eq_true, Bool.or_eq_true, decide_eq_true_eq]
 refine ⟨a, ?_⟩
 by_cases c : s.f0.getD j 0 = 0
 · exact Or.inr (b c)
 · exact Or.inl c
theorem table_once (s : S58) (t : S67) (h : tableB s t = true) : Once1 t := fun j hj => ((table_tells s t h).2.2.2.2.2.2.2.1 j hj).2.2.2.1
/-- what a table holds is kept. -/
def Keep (s s' : S58) (t : S67) : Prop := s'.f0.length = s.f0.length ∧ ∀ i, i < t.f0.length → s'.f0.getD (pg t i).toNat 0 ≠ 0 ∧ s'.f1.getD (pg t i).toNat [] = s.f1.getD (pg t i).toNat []
theorem keep_table (s s' : S58) (t : S67) (h : tableB s t = true) (hs : storeB s' = true) (hk : Keep s s' t) : tableB s' t = true := by
 unfold tableB at *
 simp only [Bool.and_eq_true, decide_eq_true_eq] at *
 obtain ⟨_, h1, h2, h3⟩ := h
 refine ⟨hs, h1, h2, (scanB_iff _ _ _).mpr fun j h0 hj => ?_⟩
 have g := (scanB_iff _ _ _).mp h3 j h0 hj
 obtain ⟨k1, k2⟩ := hk.2 j (by omega)
 unfold pgOk at *
 rw [k2, hk.1]
 simp only [Bool.and_eq_true, decide_eq_true_eq] at *
 exact ⟨g.1, g.2.1, k1, g.2.2.2⟩
theorem keep_cells (s s' : S58) (t : S67) (h : tableB s t = true) (hs : storeB s' = true) (hk : Keep s s' t) : cellsOf s' t = cellsOf s t := by
 unfold cellsOf
 rw [if_pos h, if_pos (keep_table s s' t h hs hk)]
 refine congrArg (fun z => (z, true)) (List.map_congr_left fun i hi => ?_)
 have hi' := List.mem_range.mp hi
 obtain ⟨c1, _⟩ := cell_there s t h i (by omega)
 unfold cellAt
 rw [(hk.2 _ c1).2]
structure Good (s : S58) (ts : List S67) : Prop where
 st : storeB s = true
 tb : ∀ t ∈ ts, tableB s t = true
 rf : ∀ p, p < s.f0.length → s.f0.getD p 0 = (tot ts p : Int)
 sm : ∀ y ∈ s.f1, ∀ z ∈ y, iCell z ≤ 1048576
theorem Good.ok {s : S58} {ts : List S67} (g : Good s ts) : okS s := by
 obtain ⟨a, b, c⟩ := store_tells s g.st
 have d := pool_len _ a
 refine ⟨by omega, by omega, fun y hy => ⟨?_, g.sm y hy⟩⟩
 obtain ⟨p, hp, e⟩ := List.mem_iff_getElem.mp hy
 have := (c p (by omega)).1
 rw [List.getD_eq_getElem?_getD, List.getElem?_eq_getElem hp] at this
 rw [← e]
 exact Nat.le_trans this (by omega)
/-- a page that is held is there, and wanted. -/
theorem Good.held {s : S58} {ts : List S67} (g : Good s ts) (k : Nat) (hk : k < ts.length) (i : Nat) (hi : i < ts[k].f0.length) : ∃ p : Nat, pg ts[k] i = (p : Int) ∧ p < s.f0.length := by
 obtain ⟨b1, b2, b3, b4, b5⟩ := (table_tells s _ (g.tb _ (List.getElem_mem hk))).2.2.2.2.2.2.2.1 i hi
 exact ⟨(pg ts[k] i).toNat, by omega, by omega⟩
theorem good_empty (s : S58) (h : storeB s = true) : tableB s ⟨[], 0⟩ = true := by
 unfold tableB
 rw [h]; rfl

-- forked
theorem fork_some (t : S67) (ho : Once1 t) : ∀ d i R, i + d = t.f0.length → poolB R = true → (∀ j, i ≤ j → j < t.f0.length → ∃ p : Nat, pg t j = (p : Int) ∧ p < R.length ∧ R.getD p 0 ≠ 0 ∧ R.getD p 0 ≤ 19) →
   ∃ R', forkFrom t i d R = some R' ∧ poolB R' = true ∧ R'.length = R.length ∧ ∀ p, p < R.length → R'.getD p 0 = R.getD p 0 + ((t.f0.drop i).count (p : Int) : Int)
 | 0, i, R, hi, hR, h => ⟨R, rfl, hR, rfl, fun p hp => by rw [List.drop_of_length_le (by omega), List.count_nil]; omega⟩
 | d + 1, i, R, hi, hR, h => by
   obtain ⟨p, e, hp, hn, h19⟩ := h i (Nat.le_refl _) (by omega)
   have ha := pool_at R hR p hp
   have hR1 := pool_set R hR p (R.getD p 0 + 1) (by omega) (by omega)
   have hc : chgP R (pg t i) 1 = (R.set p (R.getD p 0 + 1), true) := by
     unfold chgP
     rw [e, Int.toNat_natCast, if_pos ⟨hR, by omega, by omega, hn⟩, if_pos hR1]
   obtain ⟨R', e1, e2, e3, e4⟩ := fork_some t ho d (i + 1) (R.set p (R.getD p 0 + 1)) (by omega) hR1 (fun j h1 h2 => by
     obtain ⟨q, g1, g2, g3, g4⟩ := h j (by omega) h2
     have hne : p ≠ q := fun x => not_later t ho i j (by omega) h2 (by rw [e, g1, x])
     refine ⟨q, g1, by rw [List.length_set]; exact g2, ?_, ?_⟩
     · rw [getD_set_ne _ _ _ _ hne]; exact g3
     · rw [getD_set_ne _ _ _ _ hne]; exact g4)
   refine ⟨R', ?_, e2, by rw [e3, List.length_set], fun q hq => ?_⟩
   · show (if (chgP R (pg t i) 1).2 = true then forkFrom t (i + 1) d (chgP R (pg t i) 1).1 else none) = _
     rw [hc, if_pos rfl]; exact e1
   · rw [e4 q (by rw [List.length_set]; exact hq), count_drop t i (by omega) q, getD_setL R p q _ 0 hp, e]
     by_cases c : q = p
     · rw [if_pos c, if_pos (by rw [c]), c]; omega
     · rw [if_neg c, if_neg (by omega)]; omega
theorem fork_good (s : S58) (ts : List S67) (g : Good s ts) (k : Nat) (hk : k < ts.length) (h19 : ∀ p, tot ts p ≤ 19) :
   ∃ R', forkT s ts[k] = (⟨R', s.f1⟩, ts[k], true) ∧ Good ⟨R', s.f1⟩ (ts ++ [ts[k]]) ∧ ∀ t ∈ ts, cellsOf ⟨R', s.f1⟩ t = cellsOf s t := by
 have hm := List.getElem_mem hk
 have ht := g.tb _ hm
 obtain ⟨s1, s2, s3⟩ := store_tells s g.st
 obtain ⟨R', e1, e2, e3, e4⟩ := fork_some ts[k] (table_once s _ ht) ts[k].f0.length 0 s.f0 (by omega) s1 (fun j _ hj => by
   obtain ⟨p, e, hp⟩ := g.held k hk j hj
   have h1 := g.rf p hp
   have h2 := tot_one p ts k hk
   have h3 := count_pos ts[k] j p hj e
   have h4 := h19 p
   exact ⟨p, e, hp, by omega, by omega⟩)
 have hst : storeB ⟨R', s.f1⟩ = true := store_of _ e2 (by show s.f1.length = R'.length; omega) (fun p hp => by
   have hp' : p < s.f0.length := by rw [← e3]; exact hp
   refine ⟨(s3 p hp').1, fun h0 => (s3 p hp').2 ?_⟩
   have a := pool_at _ s1 p hp'
   have b : R'.getD p 0 = 0 := h0
   have := e4 p hp'
   omega)
 have hk' : ∀ t ∈ ts, Keep s ⟨R', s.f1⟩ t := fun t htm => by
   refine ⟨e3, fun i hi => ⟨?_, rfl⟩⟩
   obtain ⟨j, hj, ej⟩ := List.mem_iff_getElem.mp htm
   subst ej
   obtain ⟨p, e, hp⟩ := g.held j hj i hi
   show R'.getD _ 0 ≠ 0
   rw [e, Int.toNat_natCast, e4 p hp, g.rf p hp]
   have h2 := tot_one p ts j hj
   have h3 := count_pos ts[j] i p hi e
   omega
 refine ⟨R', ?_, ⟨hst, fun t htm => ?_, fun p hp => ?_, g.sm⟩, fun t htm => keep_cells s _ t (g.tb t htm) hst (hk' t htm)⟩
 · unfold forkT
   rw [if_pos ht, e1]
 · rcases List.mem_append.mp htm with htm | htm
   · exact keep_table s _ t (g.tb t htm) hst (hk' t htm)
   · rw [List.mem_singleton.mp htm]; exact keep_table s _ _ ht hst (hk' _ hm)
 · have hp' : p < s.f0.length := by rw [← e3]; exact hp
   show R'.getD p 0 = _
   rw [e4 p hp', g.rf p hp', tot_app, List.drop_zero]; omega
-- dropped
theorem drop_tells (t : S67) (ho : Once1 t) : ∀ d i R Q, i + d = t.f0.length → Q.length = R.length → (∀ j, i ≤ j → j < t.f0.length → ∃ p : Nat, pg t j = (p : Int) ∧ p < R.length) →
   (dropFrom t i d R Q).1.length = R.length ∧ (dropFrom t i d R Q).2.length = R.length ∧ ∀ p, p < R.length → (dropFrom t i d R Q).1.getD p 0 = R.getD p 0 - ((t.f0.drop i).count (p : Int) : Int) ∧
     (dropFrom t i d R Q).2.getD p [] = if (t.f0.drop i).count (p : Int) ≠ 0 ∧ (dropFrom t i d R Q).1.getD p 0 = 0 then [] else Q.getD p []
 | 0, i, R, Q, hi, hq, h => by
   have e : t.f0.drop i = [] := List.drop_of_length_le (by omega)
   refine ⟨rfl, hq, fun p hp => ?_⟩
   rw [e]
   refine ⟨by rw [List.count_nil]; show R.getD p 0 = _; omega, ?_⟩
   rw [if_neg (fun c => c.1 List.count_nil)]; rfl
 | d + 1, i, R, Q, hi, hq, h => by
   obtain ⟨q, e, hq1⟩ := h i (Nat.le_refl _) (by omega)
   have hl := count_later t ho i (by omega) q e
   obtain ⟨a1, a2, a3⟩ := drop_tells t ho d (i + 1) (R.set q (R.getD q 0 - 1)) (if R.getD q 0 - 1 = 0 then Q.set q [] else Q) (by omega) (by rw [List.length_set]; split <;> simp [hq]) (fun j h1 h2 => by
     rw [List.length_set]; exact h j (by omega) h2)
   have hd : dropFrom t i (d + 1) R Q = dropFrom t (i + 1) d (R.set q (R.getD q 0 - 1)) (if R.getD q 0 - 1 = 0 then Q.set q [] else Q) := by
     show dropFrom t (i + 1) d (R.set (pg t i).toNat _) _ = _
     rw [e, Int.toNat_natCast]
   rw [hd]
   generalize dropFrom t (i + 1) d (R.set q (R.getD q 0 - 1)) (if R.getD q 0 - 1 = 0 then Q.set q [] else Q) = r at *
   rw [List.length_set] at a1 a2
   refine ⟨a1, a2, fun p hp => ?_⟩
   obtain ⟨b1, b2⟩ := a3 p (by rw [List.length_set]; exact hp)
   rw [getD_setL R q p _ 0 hq1] at b1
   rw [count_drop t i (by omega) p, e]
   by_cases c : p = q
   · subst c
     rw [hl] at b1 b2 ⊢
     rw [if_pos rfl] at b1
     rw [if_pos rfl]
     have b1' : r.1.getD p 0 = R.getD p 0 - 1 := by omega
     refine ⟨by omega, ?_⟩
     rw [b2, if_neg (fun x => x.1 rfl), b1']
     by_cases z : R.getD p 0 - 1 = 0
     · rw [if_pos z, getD_setL Q p p _ [] (by omega), if_pos rfl, if_pos ⟨by omega, z⟩]
     · rw [if_neg z, if_neg (fun x => z x.2)]
   · rw [if_neg c] at b1
     rw [if_neg (show ¬ (q : Int) = (p : Int) by omega), Nat.add_zero]
     refine ⟨b1, ?_⟩
     rw [b2]
     have : (if R.getD q 0 - 1 = 0 then Q.set q [] else Q).getD p [] = Q.getD p [] := by
       by_cases z : R.getD q 0 - 1 = 0
       · rw [if_pos z, getD_setL Q q p _ [] (by omega), if_neg c]
       · rw [if_neg z]
     rw [this]
theorem drop_run (t : S67) : ∀ d i R Q, i + d = t.f0.length → DropI t i R Q → DropI t (i + d) (dropFrom t i d R Q).1 (dropFrom t i d R Q).2
 | 0, i, R, Q, hi, h => h
 | d + 1, i, R, Q, hi, h => by
   have := drop_run t d (i + 1) _ _ (by omega) (h.next (by omega))
   rw [show i + (d + 1) = i + 1 + d by omega]
   exact this
theorem drop_good (s : S58) (ts : List S67) (g : Good s ts) (k : Nat) (hk : k < ts.length) :
   ∃ s', dropT s ts[k] = (s', true) ∧ Good s' (ts.set k ⟨[], 0⟩) ∧ s'.f0.length = s.f0.length ∧ ∀ j (hj : j < ts.length), k ≠ j → cellsOf s' ts[j] = cellsOf s ts[j] := by
 have hm := List.getElem_mem hk
 have ht := g.tb _ hm
 obtain ⟨s1, s2, s3⟩ := store_tells s g.st
 have hd := drop_tells ts[k] (table_once s _ ht) ts[k].f0.length 0 s.f0 s.f1 (by omega) s2 (fun j _ hj => g.held k hk j hj)
 have hi := (drop_run ts[k] ts[k].f0.length 0 s.f0 s.f1 (by omega) (dropI_of s _ g.ok ht))
 have hdt : dropT s ts[k] = (⟨(dropFrom ts[k] 0 ts[k].f0.length s.f0 s.f1).1, (dropFrom ts[k] 0 ts[k].f0.length s.f0 s.f1).2⟩, true) := by
   unfold dropT; rw [if_pos ht]
 rw [List.drop_zero] at hd
 generalize dropFrom ts[k] 0 ts[k].f0.length s.f0 s.f1 = r at *
 obtain ⟨d1, d2, d3⟩ := hd
 have tz : ∀ p, tot (ts.set k ⟨[], 0⟩) p + ts[k].f0.count (p : Int) = tot ts p := fun p => by
   have a := tot_set ⟨[], 0⟩ p ts k hk
   have e : (⟨[], 0⟩ : S67).f0.count (p : Int) = 0 := rfl
   omega
 have hst : storeB ⟨r.1, r.2⟩ = true := store_of _ hi.r hi.q (fun p hp => by
   have hp' : p < s.f0.length := by rw [← d1]; exact hp
   obtain ⟨x1, x2⟩ := d3 p hp'
   have y := s3 p hp'
   show (r.2.getD p []).length ≤ 4 ∧ (r.1.getD p 0 = 0 → (r.2.getD p []).length = 0)
   rw [x2]
   by_cases c : ts[k].f0.count (p : Int) ≠ 0 ∧ r.1.getD p 0 = 0
   · rw [if_pos c]; exact ⟨by simp, fun _ => rfl⟩
   · rw [if_neg c]
     refine ⟨y.1, fun h0 => y.2 ?_⟩
     have : ts[k].f0.count (p : Int) = 0 := Decidable.byContradiction fun x => c ⟨x, h0⟩
     rw [this] at x1; omega)
 have hkp : ∀ j (hj : j < ts.length), k ≠ j → Keep s ⟨r.1, r.2⟩ ts[j] := fun j hj hne => by
   refine ⟨d1, fun i hi => ?_⟩
   obtain ⟨p, e, hp⟩ := g.held j hj i hi
   obtain ⟨x1, x2⟩ := d3 p hp
   have h2 := tot_two ts k j hk hj hne p
   have h3 := count_pos ts[j] i p hi e
   have h4 := g.rf p hp
   have hne : r.1.getD p 0 ≠ 0 := by omega
   show r.1.getD _ 0 ≠ 0 ∧ r.2.getD _ [] = s.f1.getD _ []
   rw [e, Int.toNat_natCast]
   refine ⟨hne, ?_⟩
   rw [x2, if_neg (fun c => hne c.2)]
 refine ⟨_, hdt, ⟨hst, fun t htm => ?_, fun p hp => ?_, fun y hy => (hi.c y hy).2⟩, d1, fun j hj hne => keep_cells s _ _ (g.tb _ (List.getElem_mem hj)) hst (hkp j hj hne)⟩
 · obtain ⟨j, hj, ej⟩ := List.mem_iff_getElem.mp htm
   rw [List.length_set] at hj
   rw [List.getElem_set] at ej
   by_cases c : k = j
   · rw [if_pos c] at ej; rw [← ej]; exact good_empty _ hst
   · rw [if_neg c] at ej; rw [← ej]; exact keep_table s _ _ (g.tb _ (List.getElem_mem hj)) hst (hkp j hj c)
 · have hp' : p < s.f0.length := by rw [← d1]; exact hp
   show r.1.getD p 0 = _
   have := tz p
   rw [(d3 p hp').1, g.rf p hp']; omega

-- a cell is put behind
theorem need_len (n : Int) (h : 0 ≤ n) : needN n = if n % 4 > 0 then n / 4 + 1 else n / 4 := by
 unfold needN
 by_cases c : n ≤ 0
 · rw [if_pos c, if_neg (by omega)]; omega
 · rw [if_neg c]
   by_cases d : n % 4 > 0
   · rw [if_pos d]; omega
   · rw [if_neg d]; omega
/-- what comes of a cell that is put behind a table's. -/
structure Added (s : S58) (t : S67) (c : S62) (s' : S58) (t' : S67) (q m : Nat) (R' : List Int) : Prop where
 es : s' = ⟨R', s.f1.set q (preC s t ++ [c])⟩
 et : t' = ⟨t.f0.take m ++ [(q : Int)], t.f1 + 1⟩
 hq : q < s.f0.length
 hn : (q : Int) ∉ t.f0.take m
 hl : R'.length = s.f0.length
 hp : poolB R' = true
 hr : ∀ p, p < s.f0.length → R'.getD p 0 = s.f0.getD p 0 + (if p = q then 1 else 0) - ((t.f0.drop m).count (p : Int) : Int)
 hz : ∀ p, p < s.f0.length → R'.getD p 0 = 0 → s.f0.getD p 0 = 0 ∧ p ≠ q
 hc : s.f0.getD q 0 = (t.f0.count (q : Int) : Int)
 hm : (m : Int) = t.f1 / 4
 hm1 : m ≤ t.f0.length
 pl : ((preC s t).length : Int) = t.f1 % 4
 pp : ∀ j : Nat, (j : Int) < t.f1 % 4 → m < t.f0.length ∧ (preC s t).getD j o62 = (s.f1.getD (pg t m).toNat []).getD j o62
theorem getD_take {α : Type} (l : List α) (n j : Nat) (z : α) (h : j < n) : (l.take n).getD j z = l.getD j z := by
 rw [List.getD_eq_getElem?_getD, List.getD_eq_getElem?_getD, List.getElem?_take, if_pos h]
theorem not_held (t : S67) (x : Int) (h : t.f0.count x = 0) : x ∉ t.f0 := List.count_eq_zero.mp h
theorem take_set_last (l : List Int) (m : Nat) (v : Int) (h : l.length = m + 1) : l.set m v = l.take m ++ [v] := by
 apply List.ext_getElem
 · simp; omega
 · intro i h1 h2
   rw [List.length_set] at h1
   rw [List.getElem_set, List.getElem_append]
   by_cases c : m = i
   · rw [if_pos c, dif_neg (by simp; omega)]; simp
   · rw [if_neg c, dif_pos (by simp; omega)]; simp
theorem add_tells (s : S58) (ts : List S67) (g : Good s ts) (k : Nat) (hk : k < ts.length) (c : S62) :
   addT s ts[k] c = (⟨[], []⟩, ⟨[], 0⟩, false) ∨ ∃ s' t' q m R', addT s ts[k] c = (s', t', true) ∧ Added s ts[k] c s' t' q m R' := by
 have ht := g.tb _ (List.getElem_mem hk)
 obtain ⟨s1, s2, s3⟩ := store_tells s g.st
 obtain ⟨a1, a2, a3, _⟩ := table_tells s _ ht
 have hone := tot_one (ts := ts) (k := k) (h := hk)
 have hheld := g.held k hk
 have ho := table_once s _ ht
 have hrf := g.rf
 generalize ts[k] = t at *
 have hnl := need_len t.f1 a1
 have hmod : Int.tmod t.f1 4 = t.f1 % 4 := Int.tmod_eq_emod_of_nonneg a1
 have hm : ((t.f1.toNat / 4 : Nat) : Int) = t.f1 / 4 := by omega
 by_cases u : Int.tmod t.f1 4 > 0
 · -- the last page is not full
   have hlen : t.f0.length = t.f1.toNat / 4 + 1 := by rw [if_pos (by omega)] at hnl; omega
   obtain ⟨c1, c2, c3, c4, c5, c6, c7, c8⟩ := last_tells s t ht u
   have hpre : preC s t = (s.f1.getD (pgL t).toNat []).take (Int.tmod t.f1 4).toNat := by unfold preC; rw [if_pos u]
   have hpl : ((preC s t).length : Int) = t.f1 % 4 := by rw [hpre, List.length_take]; omega
   have hpm : pgL t = pg t (t.f1.toNat / 4) := by unfold pgL; rw [show t.f0.length - 1 = t.f1.toNat / 4 by omega]
   have hpp : ∀ j : Nat, (j : Int) < t.f1 % 4 → t.f1.toNat / 4 < t.f0.length ∧ (preC s t).getD j o62 = (s.f1.getD (pg t (t.f1.toNat / 4)).toNat []).getD j o62 := fun j hj => by
     refine ⟨by omega, ?_⟩
     rw [hpre, hpm, getD_take _ _ _ _ (by omega)]
   have hdr : ∀ p : Nat, (t.f0.drop (t.f1.toNat / 4)).count (p : Int) = if pgL t = (p : Int) then 1 else 0 := fun p => by
     rw [count_drop t _ (by omega) p, ← hpm, List.drop_of_length_le (by omega), List.count_nil, Nat.zero_add]
   obtain ⟨pl, hpl2⟩ : ∃ pl : Nat, pgL t = (pl : Int) := ⟨(pgL t).toNat, by omega⟩
   by_cases r1 : s.f0.getD (pgL t).toNat 0 = 1
   · -- nobody else holds it
     refine Or.inr ⟨⟨s.f0, s.f1.set pl (preC s t ++ [c])⟩, ⟨t.f0.take (t.f1.toNat / 4) ++ [(pl : Int)], t.f1 + 1⟩, pl, t.f1.toNat / 4, s.f0, ?_, rfl, rfl, by omega, ?_, rfl, s1, fun p hp => ?_, fun p hp h0 => ⟨h0, fun e => ?_⟩, ?_, hm, by omega, hpl, hpp⟩
     · unfold addT
       rw [if_pos ht, if_pos ⟨u, r1⟩, hpl2, Int.toNat_natCast]
       have : t.f0 = t.f0.take (t.f1.toNat / 4) ++ [(pl : Int)] := by
         rw [← hpl2, hpm, ← take_set_last _ _ _ hlen]
         unfold pg
         apply List.ext_getElem
         · rw [List.length_set]
         · intro i h1 h2
           rw [List.getElem_set]
           split
           · rename_i e; subst e; rw [List.getD_eq_getElem?_getD, List.getElem?_eq_getElem h1]; rfl
           · rfl
       rw [← this]
     · rw [← hpl2, hpm]; exact ho _ (by omega)
     · rw [hdr p, hpl2]
       by_cases e : p = pl
       · rw [if_pos e, if_pos (by rw [e])]; omega
       · rw [if_neg e, if_neg (by omega)]; omega
     · rw [hpl2, Int.toNat_natCast] at r1; rw [e] at h0; omega
     · rw [hpl2, Int.toNat_natCast] at r1
       have x1 := count_pos t _ pl (by omega) (hpm.symm.trans hpl2)
       have x2 := hone pl
       have x3 := hrf pl (by omega)
       omega
   · -- others do: a free page
     cases hf : freeFrom s.f0 0 s.f0.length with
     | none =>
       refine Or.inl ?_
       unfold addT
       rw [if_pos ht, if_neg (fun x => r1 x.2), hf]
     | some q =>
       obtain ⟨q1, q2⟩ := free_tells s.f0 _ _ _ hf
       have q1' : q < s.f0.length := by omega
       have hq0 : tot ts q = 0 := by have := hrf q q1'; omega
       have hqc : t.f0.count (q : Int) = 0 := by have := hone q; omega
       have hqn := not_held t _ hqc
       have hpq : pl ≠ q := fun e => by rw [hpl2, Int.toNat_natCast, e] at c6; exact c6 q2
       have hpa := pool_at s.f0 s1 pl (by omega)
       rw [hpl2, Int.toNat_natCast] at r1 c6
       have hgs : (s.f0.set q 1).getD pl 0 = s.f0.getD pl 0 := getD_set_ne _ _ _ _ (fun e => hpq e.symm)
       have hr : ∀ p, p < s.f0.length → ((s.f0.set q 1).set pl (s.f0.getD pl 0 - 1)).getD p 0 = s.f0.getD p 0 + (if p = q then 1 else 0) - ((t.f0.drop (t.f1.toNat / 4)).count (p : Int) : Int) := fun p hp => by
         rw [hdr p, hpl2, getD_setL _ pl p _ 0 (by rw [List.length_set]; omega), getD_setL _ q p _ 0 q1']
         by_cases e : p = pl
         · rw [if_pos e, if_neg (by omega), if_pos (by rw [e]), e]; omega
         · rw [if_neg e, if_neg (show ¬ (pl : Int) = (p : Int) by omega)]
           by_cases e2 : p = q
           · rw [if_pos e2, if_pos e2, e2, q2]; omega
           · rw [if_neg e2, if_neg e2]; omega
       refine Or.inr ⟨⟨(s.f0.set q 1).set pl (s.f0.getD pl 0 - 1), s.f1.set q (preC s t ++ [c])⟩, ⟨t.f0.take (t.f1.toNat / 4) ++ [(q : Int)], t.f1 + 1⟩, q, t.f1.toNat / 4, (s.f0.set q 1).set pl (s.f0.getD pl 0 - 1), ?_, rfl, rfl, q1', fun x => hqn (List.mem_of_mem_take x), by rw [List.length_set, List.length_set], pool_set _ (pool_set _ s1 _ _ (by omega) (by omega)) _ _ (by omega) (by omega), hr, fun p hp h0 => ?_, by rw [q2, hqc]; rfl, hm, by omega, hpl, hpp⟩
       · unfold addT
         rw [if_pos ht, if_neg (fun x => r1 (by rw [← x.2, hpl2, Int.toNat_natCast])), hf]
         show (_, _, _) = _
         simp only [if_pos u]
         rw [hpl2, Int.toNat_natCast, show t.f0.length - 1 = t.f1.toNat / 4 by omega, take_set_last _ _ _ hlen]
       · rw [getD_setL _ pl p _ 0 (by rw [List.length_set]; omega), getD_setL _ q p _ 0 q1'] at h0
         by_cases e : p = pl
         · rw [if_pos e] at h0; omega
         · rw [if_neg e] at h0
           by_cases e2 : p = q
           · rw [if_pos e2] at h0; omega
           · rw [if_neg e2] at h0; exact ⟨h0, e2⟩
 · -- all pages are full
   have hlen : t.f0.length = t.f1.toNat / 4 := by rw [if_neg (by omega)] at hnl; omega
   have hpre : preC s t = [] := by unfold preC; rw [if_neg u]
   have h40 : t.f1 % 4 = 0 := by omega
   cases hf : freeFrom s.f0 0 s.f0.length with
   | none =>
     refine Or.inl ?_
     unfold addT
     rw [if_pos ht, if_neg (fun x => u x.1), hf]
   | some q =>
     obtain ⟨q1, q2⟩ := free_tells s.f0 _ _ _ hf
     have q1' : q < s.f0.length := by omega
     have hq0 : tot ts q = 0 := by have := hrf q q1'; omega
     have hqc : t.f0.count (q : Int) = 0 := by have := hone q; omega
     have hqn := not_held t _ hqc
     refine Or.inr ⟨⟨s.f0.set q 1, s.f1.set q (preC s t ++ [c])⟩, ⟨t.f0.take (t.f1.toNat / 4) ++ [(q : Int)], t.f1 + 1⟩, q, t.f1.toNat / 4, s.f0.set q 1, ?_, rfl, rfl, q1', fun x => hqn (List.mem_of_mem_take x), by rw [List.length_set], pool_set _ s1 _ _ (by omega) (by omega), fun p hp => ?_, fun p hp h0 => ?_, by rw [q2, hqc]; rfl, hm, by omega, by rw [hpre, h40]; rfl, fun j hj => by omega⟩
     · unfold addT
       rw [if_pos ht, if_neg (fun x => u x.1), hf]
       show (_, _, _) = _
       simp only [if_neg u]
       rw [List.take_of_length_le (by omega)]
     · rw [List.drop_of_length_le (by omega), List.count_nil, getD_setL _ q p _ 0 q1']
       by_cases e2 : p = q
       · rw [if_pos e2, if_pos e2, e2, q2]; omega
       · rw [if_neg e2, if_neg e2]; omega
     · rw [getD_setL _ q p _ 0 q1'] at h0
       by_cases e2 : p = q
       · rw [if_pos e2] at h0; omega
       · rw [if_neg e2] at h0; exact ⟨h0, e2⟩
theorem getD_app_l {α : Type} (l r : List α) (i : Nat) (z : α) (h : i < l.length) : (l ++ r).getD i z = l.getD i z := by
 rw [List.getD_eq_getElem?_getD, List.getD_eq_getElem?_getD, List.getElem?_append_left h]
theorem getD_app_r {α : Type} (l : List α) (a z : α) (i : Nat) (h : i = l.length) : (l ++ [a]).getD i z = a := by
 subst h; rw [List.getD_eq_getElem?_getD, List.getElem?_append_right (Nat.le_refl _), Nat.sub_self]; rfl
theorem take_app (l : List Int) (x : Int) (m i : Nat) (hi : i ≤ m) (hm : m ≤ l.length) : (l.take m ++ [x]).take i = l.take i := by
 rw [List.take_append_of_le_length (by rw [List.length_take]; omega), List.take_take, show min i m = i by omega]
theorem add_good (s : S58) (ts : List S67) (g : Good s ts) (k : Nat) (hk : k < ts.length) (c : S62) (hc : iCell c ≤ 1048576) (s' : S58) (t' : S67) (q m : Nat) (R' : List Int) (a : Added s ts[k] c s' t' q m R') :
   Good s' (ts.set k t') ∧ s'.f0.length = s.f0.length ∧ cellsOf s' t' = ((cellsOf s ts[k]).1 ++ [c], true) ∧ ∀ j (hj : j < ts.length), k ≠ j → cellsOf s' ts[j] = cellsOf s ts[j] := by
 have hm := List.getElem_mem hk
 have ht := g.tb _ hm
 obtain ⟨s1, s2, s3⟩ := store_tells s g.st
 obtain ⟨a1, a2, a3, _⟩ := table_tells s _ ht
 have ho := table_once s _ ht
 have hpre := pre_ok s ts[k] g.ok ht
 have hsz : s'.f0.length = s.f0.length := by rw [a.es]; exact a.hl
 have hq1 : q < s.f1.length := by rw [s2]; exact a.hq
 have hpg : ∀ p, s'.f1.getD p [] = if p = q then preC s ts[k] ++ [c] else s.f1.getD p [] := fun p => by rw [a.es]; exact getD_setL _ q p _ [] hq1
 have hrd : ∀ p, s'.f0.getD p 0 = R'.getD p 0 := fun p => by rw [a.es]
 have hst : storeB s' = true := store_of _ (by rw [a.es]; exact a.hp) (by rw [a.es]; show (List.set _ _ _).length = R'.length; rw [List.length_set, a.hl, s2]) (fun p hp => by
   rw [hsz] at hp
   rw [hpg, hrd]
   by_cases e : p = q
   · rw [if_pos e]
     refine ⟨by rw [List.length_append, List.length_singleton]; omega, fun h0 => absurd e (a.hz p hp h0).2⟩
   · rw [if_neg e]
     exact ⟨(s3 p hp).1, fun h0 => (s3 p hp).2 (a.hz p hp h0).1⟩)
 have hkp : ∀ j (hj : j < ts.length), k ≠ j → Keep s s' ts[j] := fun j hj hne => by
   refine ⟨hsz, fun i hi => ?_⟩
   obtain ⟨p, e, hp⟩ := g.held j hj i hi
   have h2 := tot_two ts k j hk hj hne p
   have h3 := count_pos ts[j] i p hi e
   have h4 := g.rf p hp
   rw [e, Int.toNat_natCast, hpg, hrd]
   refine ⟨fun h0 => ?_, ?_⟩
   · have := (a.hz p hp h0).1; omega
   · rw [if_neg (fun e2 => ?_)]
     subst e2
     have := a.hc
     omega
 -- the table itself
 have hml : (ts[k].f0.take m).length = m := by rw [List.length_take]; have := a.hm1; omega
 have hpa : ∀ i, i < m → pg t' i = pg ts[k] i := fun i hi => by
   rw [a.et]; unfold pg
   rw [getD_app_l _ _ _ _ (by omega), getD_take _ _ _ _ hi]
 have hpb : pg t' m = (q : Int) := by rw [a.et]; exact getD_app_r _ _ _ _ hml.symm
 have htl : t'.f0.length = m + 1 := by rw [a.et]; show (_ ++ [_]).length = _; rw [List.length_append, hml]; rfl
 have htc : t'.f1 = ts[k].f1 + 1 := by rw [a.et]
 have hne : ∀ i, i < m → pg ts[k] i ≠ (q : Int) := fun i hi e => a.hn (by rw [← e]; refine List.mem_take_iff_getElem.mpr ⟨i, by have := a.hm1; omega, ?_⟩; unfold pg; rw [List.getD_eq_getElem?_getD, List.getElem?_eq_getElem (by have := a.hm1; omega)]; rfl)
 have hmm := a.hm
 have hm1 := a.hm1
 have hpl := a.pl
 have htb : tableB s' t' = true := by
   unfold tableB
   simp only [Bool.and_eq_true, decide_eq_true_eq]
   refine ⟨hst, by omega, ?_, (scanB_iff _ _ _).mpr fun i _ hi => ?_⟩
   · rw [htl, htc]; unfold needN; rw [if_neg (by omega)]; omega
   · rw [Nat.zero_add, htl] at hi
     have htk : t'.f0.take i = ts[k].f0.take i := by rw [a.et]; exact take_app _ _ _ _ (by omega) hm1
     unfold pgOk
     simp only [Bool.and_eq_true, decide_eq_true_eq]
     rw [htk, hsz, htc]
     by_cases e : i < m
     · obtain ⟨b1, b2, b3, b4, b5⟩ := (table_tells s _ ht).2.2.2.2.2.2.2.1 i (by omega)
       have hx := hne i e
       rw [hpa i e, hpg, hrd, if_neg (by omega)]
       refine ⟨b1, by omega, fun h0 => b3 (a.hz _ (by omega) h0).1, b4, ?_⟩
       unfold lastN at b5 ⊢
       rw [if_neg (by omega)] at b5
       rw [if_neg (by omega)]; exact b5
     · have e2 : i = m := by omega
       subst e2
       have hqq := a.hq
       rw [hpb, Int.toNat_natCast, hpg, hrd, if_pos rfl, List.length_append, List.length_singleton]
       refine ⟨by omega, by omega, fun h0 => (a.hz q hqq h0).2 rfl, a.hn, ?_⟩
       unfold lastN
       split <;> omega
 have hcl : cellsOf s' t' = ((cellsOf s ts[k]).1 ++ [c], true) := by
   unfold cellsOf
   rw [if_pos htb, if_pos ht, htc, show (ts[k].f1 + 1).toNat = ts[k].f1.toNat + 1 by omega, List.range_succ, List.map_append]
   refine congrArg (fun z => (z, true)) ?_
   have hlast : cellAt s' t' ts[k].f1.toNat = c := by
     unfold cellAt
     rw [show ts[k].f1.toNat / 4 = m by omega, hpb, Int.toNat_natCast, hpg, if_pos rfl]
     exact getD_app_r _ _ _ _ (by omega)
   rw [List.map_cons, List.map_nil, hlast]
   refine congrArg (fun z => z ++ [c]) (List.map_congr_left fun i hi => ?_)
   have hi' := List.mem_range.mp hi
   obtain ⟨c1, c2, c3, c4⟩ := cell_there s _ ht i (by omega)
   unfold cellAt
   by_cases e : i / 4 < m
   · have hx := hne _ e
     rw [hpa _ e, hpg, if_neg (by omega)]
   · have e2 : i / 4 = m := by omega
     rw [e2, hpb, Int.toNat_natCast, hpg, if_pos rfl, getD_app_l _ _ _ _ (by omega)]
     exact (a.pp (i % 4) (by omega)).2
 refine ⟨⟨hst, fun t htm => ?_, fun p hp => ?_, fun y hy z hz => ?_⟩, hsz, hcl, fun j hj hne => keep_cells s _ _ (g.tb _ (List.getElem_mem hj)) hst (hkp j hj hne)⟩
 · obtain ⟨j, hj, ej⟩ := List.mem_iff_getElem.mp htm
   rw [List.length_set] at hj
   rw [List.getElem_set] at ej
   by_cases e : k = j
   · rw [if_pos e] at ej; rw [← ej]; exact htb
   · rw [if_neg e] at ej; rw [← ej]; exact keep_table s _ _ (g.tb _ (List.getElem_mem hj)) hst (hkp j hj e)
 · rw [hsz] at hp
   have x := tot_set t' p ts k hk
   have y : ts[k].f0.count (p : Int) = (ts[k].f0.take m).count (p : Int) + (ts[k].f0.drop m).count (p : Int) := by
     rw [← List.count_append, List.take_append_drop]
   have z : t'.f0.count (p : Int) = (ts[k].f0.take m).count (p : Int) + if p = q then 1 else 0 := by
     rw [a.et]
     show (_ ++ [_]).count _ = _
     rw [List.count_append, List.count_singleton]
     by_cases e : p = q
     · rw [if_pos e, if_pos (by rw [e]; exact beq_self_eq_true _)]
     · rw [if_neg e, if_neg (fun h => e (by have := eq_of_beq h; omega))]
   rw [hrd, a.hr p hp, g.rf p hp]
   split at z <;> rename_i e
   · rw [if_pos e]; omega
   · rw [if_neg e]; omega
 · rw [a.es] at hy
   rcases List.mem_or_eq_of_mem_set hy with hy | hy
   · exact g.sm y hy z hz
   · subst hy
     rcases List.mem_append.mp hz with hz | hz
     · exact hpre.2 z hz
     · rw [List.mem_singleton.mp hz]; exact hc

theorem and_small (m : Nat) (hm : m < 9223372036854775808) (x : Int) : 0 ≤ Go.bits .and .i64 x (m : Int) ∧ Go.bits .and .i64 x (m : Int) ≤ (m : Int) := by
 simp only [Go.bits, BitVec.toNat_and]
 have h1 : (BitVec.ofInt IntKind.i64.bits x).toNat &&& (BitVec.ofInt IntKind.i64.bits (m : Int)).toNat ≤ m := by
   refine Nat.le_trans Nat.and_le_right ?_
   rw [BitVec.ofInt_natCast, BitVec.toNat_ofNat]
   exact Nat.mod_le _ _
 generalize (BitVec.ofInt IntKind.i64.bits x).toNat &&& (BitVec.ofInt IntKind.i64.bits (m : Int)).toNat = y at h1
 rw [IntKind.wrap_i64]
 omega
/-- A cursor's place. -/
def Cu (b : List Int) (i : Int) : Prop := 0 ≤ i ∧ i ≤ (b.length : Int) ∧ b.length ≤ 1048576
theorem byteG (k : Nat) (b : List Int) (i h : Int) (hc : Cu b i) : ∃ v i' h', spec_l01Byte.g k ⟨b, i, h⟩ = some (v, ⟨b, i', h'⟩) ∧ 0 ≤ v ∧ v ≤ 255 ∧ Cu b i' := by
 obtain ⟨h0, h1, h2⟩ := hc
 unfold spec_l01Byte.g
 by_cases hl : i < (b.length : Int)
 · rw [if_pos hl, if_pos ⟨h0, hl⟩, w64 (i := i + 1) (by omega) (by omega)]
   exact ⟨_, _, _, rfl, (and_small 255 (by decide) _).1, (and_small 255 (by decide) _).2, by omega, by omega, h2⟩
 · rw [if_neg hl]
   exact ⟨_, _, _, rfl, (and_small 255 (by decide) _).1, (and_small 255 (by decide) _).2, h0, h1, h2⟩
theorem belowG (k : Nat) (b : List Int) (i h : Int) (hc : Cu b i) (n : Int) (hn : 0 < n) (hn2 : n ≤ 4294967296) : ∃ v i' h', spec_l01Below.g k ⟨b, i, h⟩ n = some (v, ⟨b, i', h'⟩) ∧ 0 ≤ v ∧ v < n ∧ Cu b i' := by
 unfold spec_l01Below.g
 rw [if_neg (by omega)]
 obtain ⟨v, i', h', e, v0, v1, hc'⟩ := byteG k b i h hc
 by_cases h256 : n ≤ 256
 · rw [if_pos h256, e]
   simp only [Option.bind_some]
   rw [if_pos (by omega), Int.tmod_eq_emod_of_nonneg v0]
   exact ⟨_, _, _, rfl, Int.emod_nonneg _ (by omega), Int.emod_lt_of_pos _ hn, hc'⟩
 · obtain ⟨v2, i2, h2, e2, v20, v21, hc2⟩ := byteG k b i' h' hc'
   obtain ⟨v3, i3, h3, e3, v30, v31, hc3⟩ := byteG k b i2 h2 hc2
   obtain ⟨v4, i4, h4, e4, v40, v41, hc4⟩ := byteG k b i3 h3 hc3
   rw [if_neg h256, e]
   simp only [Option.bind_some, e2, e3, e4]
   rw [if_pos (by omega), w64 (i := v * 16777216) (by omega) (by omega), w64 (i := v2 * 65536) (by omega) (by omega), w64 (i := v3 * 256) (by omega) (by omega), w64 (i := v * 16777216 + v2 * 65536) (by omega) (by omega), w64 (i := v * 16777216 + v2 * 65536 + v3 * 256) (by omega) (by omega), w64 (by omega) (by omega), Int.tmod_eq_emod_of_nonneg (by omega)]
   exact ⟨_, _, _, rfl, Int.emod_nonneg _ (by omega), Int.emod_lt_of_pos _ hn, hc4⟩
/-- a draw does not look at the rounds that are left -/
theorem byteG_k (k k' : Nat) (x : S146) : spec_l01Byte.g k x = spec_l01Byte.g k' x := rfl
theorem belowG_k (k k' : Nat) (x : S146) (n : Int) : spec_l01Below.g k x n = spec_l01Below.g k' x n := rfl
theorem onceG (k : Nat) (b : List Int) (i h : Int) (hc : Cu b i) (n : Int) (hn : 0 < n) (hn2 : n ≤ 4294967296) : ∃ v i' h', spec_l01Once.g k ⟨b, i, h⟩ n = some (v, ⟨b, i', h'⟩) ∧ Cu b i' := by
 obtain ⟨v, i', h', e, _, _, hc'⟩ := belowG k b i h hc n hn hn2
 unfold spec_l01Once.g
 rw [e, Option.bind_some]
 exact ⟨_, _, _, rfl, hc'⟩
theorem new_from (l : List Int) (hl : l.length ≤ 1048576) (d : Nat) : ∀ (j : Nat) (h : Int), j + d = l.length → ∃ r q, ∀ k, d < k → spec_l01New.l0 l k h (j : Int) = some (r, q) := by
 induction d with
 | zero =>
   intro j h hj
   refine ⟨h, (j : Int), fun k hk => ?_⟩
   obtain ⟨k, rfl⟩ : ∃ m, k = m + 1 := ⟨k - 1, by omega⟩
   unfold spec_l01New.l0 spec_l01New.b0
   rw [if_neg (by omega)]
 | succ d ih =>
   intro j h hj
   by_cases c : (j : Int) < 4000
   · obtain ⟨r, q, e⟩ := ih (j + 1) (Go.bits .and .i64 (wrap64 ((wrap64 ((wrap64 (h * 131)) + (wrap64 ((l.getD (j : Int).toNat 0))))) + 7)) 1073741823) (by omega)
     refine ⟨r, q, fun k hk => ?_⟩
     obtain ⟨k, rfl⟩ : ∃ m, k = m + 1 := ⟨k - 1, by omega⟩
     unfold spec_l01New.l0 spec_l01New.b0
     rw [if_pos (by omega), if_pos c, if_pos (by omega), w64 (i := (j : Int) + 1) (by omega) (by omega), show ((j : Int) + 1) = ((j + 1 : Nat) : Int) by omega]
     exact e k (by omega)
   · refine ⟨h, (j : Int), fun k hk => ?_⟩
     obtain ⟨k, rfl⟩ : ∃ m, k = m + 1 := ⟨k - 1, by omega⟩
     unfold spec_l01New.l0 spec_l01New.b0
     rw [if_pos (by omega), if_neg c]
theorem newG (l : List Int) (hl : l.length ≤ 1048576) : ∃ h, (∀ k, l.length < k → spec_l01New.g k l = some ⟨l, 0, h⟩) ∧ Cu l 0 := by
 obtain ⟨r, q, e⟩ := new_from l hl l.length 0 (wrap64 (11201 + (l.length : Int))) (Nat.zero_add _)
 refine ⟨r, fun k hk => ?_, by omega, by omega, hl⟩
 have e' := e k hk
 rw [show ((0 : Nat) : Int) = 0 from rfl] at e'
 unfold spec_l01New.g
 rw [e', Option.bind_some]
theorem smallCell (b : List Int) (i h : Int) (hc : Cu b i) : ∃ c i' h', (∀ k, spec_l15Small.g k ⟨b, i, h⟩ = some (c, ⟨b, i', h'⟩)) ∧ iCell c ≤ 1048576 ∧ Cu b i' := by
 obtain ⟨v, i1, h1, e, _, _, hc1⟩ := belowG 0 b i h hc 9 (by omega) (by omega)
 obtain ⟨u, i2, h2, e2, _, _, hc2⟩ := belowG 0 b i1 h1 hc1 9 (by omega) (by omega)
 refine ⟨⟨[[⟨0, [v]⟩]], [[⟨1, [u]⟩]]⟩, i2, h2, fun k => ?_, by simp [iCell, iPartss, iParts, iPart, szL, sumS], hc2⟩
 unfold spec_l15Small.g
 rw [belowG_k k 0, e, Option.bind_some, belowG_k k 0, e2, Option.bind_some]
theorem Good.sizes {s : S58} {ts : List S67} (g : Good s ts) (t : S67) (h : tableB s t = true) : t.f0.length ≤ 1048576 ∧ -9223372036854775808 ≤ t.f1 ∧ t.f1 ≤ 9223372036854775807 := by
 obtain ⟨a1, a2, a3, a4, _⟩ := table_tells s t h
 exact ⟨by omega, by omega, by omega⟩
theorem tot_le (p : Nat) : ∀ (ts : List S67), (∀ t ∈ ts, Once1 t) → tot ts p ≤ ts.length
 | [], _ => Nat.le_refl _
 | t :: ts, h => by
   have a := tot_le p ts fun x hx => h x (List.mem_cons_of_mem _ hx)
   have b := count_le1 t (h t List.mem_cons_self) p t.f0.length 0 (by omega)
   rw [List.drop_zero] at b
   rw [tot_cons, List.length_cons]; omega
theorem Good.few {s : S58} {ts : List S67} (g : Good s ts) (p : Nat) : tot ts p ≤ ts.length := tot_le p ts fun t ht => table_once s t (g.tb t ht)
theorem getD_at {α : Type} (l : List α) (i : Int) (z : α) (h : 0 ≤ i) (h2 : i < (l.length : Int)) : ∃ (n : Nat) (hn : n < l.length), i = (n : Int) ∧ l.getD i.toNat z = l[n] := by
 refine ⟨i.toNat, by omega, by omega, ?_⟩
 rw [List.getD_eq_getElem?_getD, List.getElem?_eq_getElem (by omega)]; rfl
theorem grown_from (b : List Int) (x : S146) (hx : x.f0 = b) (n : Nat) (hn : n ≤ 100) (d : Nat) : ∀ (j : Nat) (ts : List S67) (i h : Int) (R : List Int) (Q : List (List S62)), j + d = n → Good ⟨R, Q⟩ ts → 1 ≤ ts.length → ts.length ≤ 4 → Cu b i →
   ∃ ts' q i' h' R' Q', (∀ k, d + 50000000 < k → spec_l15Grown.l0 x (n : Int) k ts (j : Int) i h R Q = some (ts', q, i', h', R', Q')) ∧ Good ⟨R', Q'⟩ ts' ∧ 1 ≤ ts'.length ∧ ts'.length ≤ 4 ∧ Cu b i' := by
 induction d with
 | zero =>
   intro j ts i h R Q hj g t1 t2 hc
   refine ⟨ts, (j : Int), i, h, R, Q, fun k hk => ?_, g, t1, t2, hc⟩
   obtain ⟨k, rfl⟩ : ∃ m, k = m + 1 := ⟨k - 1, by omega⟩
   show spec_l15Grown.b0 x (n : Int) _ k _ _ _ _ _ _ = _
   unfold spec_l15Grown.b0
   rw [if_neg (by omega)]
 | succ d ih =>
   intro j ts i h R Q hj g t1 t2 hc
   obtain ⟨u, i1, h1, e1, u0, u1, hc1⟩ := belowG 0 b i h hc (ts.length : Int) (by omega) (by omega)
   obtain ⟨v, i2, h2, e2, v0, v1, hc2⟩ := belowG 0 b i1 h1 hc1 7 (by omega) (by omega)
   obtain ⟨p, hp, eu, ep⟩ := getD_at ts u o67 u0 u1
   have hm := List.getElem_mem hp
   have htb := g.tb _ hm
   have hok := g.ok
   obtain ⟨z1, z2, z3⟩ := g.sizes _ htb
   have hup : u.toNat = p := by omega
   -- what a round comes to
   have go : ∀ (ts2 : List S67) (i3 h3 : Int) (R2 : List Int) (Q2 : List (List S62)), Good ⟨R2, Q2⟩ ts2 → 1 ≤ ts2.length → ts2.length ≤ 4 → Cu b i3 →
       (∀ k, 45000000 < k → spec_l15Grown.b0 x (n : Int) (spec_l15Grown.l0 x (n : Int) k) k ts (j : Int) i h R Q = spec_l15Grown.l0 x (n : Int) k ts2 ((j + 1 : Nat) : Int) i3 h3 R2 Q2) →
       ∃ ts' q i' h' R' Q', (∀ k, d + 1 + 50000000 < k → spec_l15Grown.l0 x (n : Int) k ts (j : Int) i h R Q = some (ts', q, i', h', R', Q')) ∧ Good ⟨R', Q'⟩ ts' ∧ 1 ≤ ts'.length ∧ ts'.length ≤ 4 ∧ Cu b i' := fun ts2 i3 h3 R2 Q2 g2 w1 w2 hc3 hb => by
     obtain ⟨ts', q, i', h', R', Q', r, r1⟩ := ih (j + 1) ts2 i3 h3 R2 Q2 (by omega) g2 w1 w2 hc3
     refine ⟨ts', q, i', h', R', Q', fun k hk => ?_, r1⟩
     obtain ⟨k, rfl⟩ : ∃ m, k = m + 1 := ⟨k - 1, by omega⟩
     show spec_l15Grown.b0 x (n : Int) (spec_l15Grown.l0 x (n : Int) k) k ts (j : Int) i h R Q = _
     rw [hb k (by omega)]
     exact r k (by omega)
   have hwj : wrap64 ((j : Int) + 1) = ((j + 1 : Nat) : Int) := by rw [w64 (by omega) (by omega)]; omega
   by_cases c0 : v = 0
   · by_cases c4 : (ts.length : Int) < 4
     · obtain ⟨R2, f1, f2, _⟩ := fork_good ⟨R, Q⟩ ts g p hp (fun q => by have := g.few q; omega)
       refine go (ts ++ [ts[p]]) i2 h2 R2 Q f2 (by simp) (by simp; omega) hc2 fun k hk => ?_
       have hf := spec_forkT ⟨R, Q⟩ ts[p] hok z1 z2 z3 k (by omega)
       unfold spec_l15Grown.b0
       rw [hx, if_pos (by omega), belowG_k k 0, e1, Option.bind_some, belowG_k k 0, e2, Option.bind_some, if_pos c0, if_pos c4, if_pos ⟨u0, u1⟩, ep, hf, f1, Option.bind_some, if_pos rfl, if_pos (by omega), Option.bind_some, hwj]
     · refine go ts i2 h2 R Q g t1 t2 hc2 fun k hk => ?_
       unfold spec_l15Grown.b0
       rw [hx, if_pos (by omega), belowG_k k 0, e1, Option.bind_some, belowG_k k 0, e2, Option.bind_some, if_pos c0, if_neg c4, Option.bind_some, hwj]
   · by_cases c1 : v = 1
     · obtain ⟨bt, i3, h3, e3, hc3⟩ := onceG 0 b i2 h2 hc2 3 (by omega) (by omega)
       have e3k : ∀ k, spec_l01Once.g k ⟨b, i2, h2⟩ 3 = some (bt, ⟨b, i3, h3⟩) := fun k => e3
       by_cases cb : bt = true
       · obtain ⟨s2, f1, f2, _⟩ := drop_good ⟨R, Q⟩ ts g p hp
         refine go (ts.set p ⟨[], 0⟩) i3 h3 s2.f0 s2.f1 f2 (by rw [List.length_set]; exact t1) (by rw [List.length_set]; exact t2) hc3 fun k hk => ?_
         have hf := spec_dropT ⟨R, Q⟩ ts[p] hok z1 z2 z3 k (by omega)
         unfold spec_l15Grown.b0
         rw [hx, if_pos (by omega), belowG_k k 0, e1, Option.bind_some, belowG_k k 0, e2, Option.bind_some, if_neg c0, if_pos c1, e3k, Option.bind_some, if_pos cb, if_pos ⟨u0, u1⟩, ep, hf, f1, Option.bind_some, Option.bind_some, hwj, hup]
       · refine go ts i3 h3 R Q g t1 t2 hc3 fun k hk => ?_
         unfold spec_l15Grown.b0
         rw [hx, if_pos (by omega), belowG_k k 0, e1, Option.bind_some, belowG_k k 0, e2, Option.bind_some, if_neg c0, if_pos c1, e3k, Option.bind_some, if_neg cb, Option.bind_some, hwj]
     · obtain ⟨c, i3, h3, e3, c3, hc3⟩ := smallCell b i2 h2 hc2
       rcases add_tells ⟨R, Q⟩ ts g p hp c with a | ⟨s', t', q, m, R', a, ha⟩
       · refine go ts i3 h3 R Q g t1 t2 hc3 fun k hk => ?_
         have hf := spec_addT ⟨R, Q⟩ ts[p] c hok z1 z2 z3 c3 k (by omega)
         unfold spec_l15Grown.b0
         rw [hx, if_pos (by omega), belowG_k k 0, e1, Option.bind_some, belowG_k k 0, e2, Option.bind_some, if_neg c0, if_neg c1, if_pos ⟨u0, u1⟩, e3 k, Option.bind_some, ep, hf, a, Option.bind_some, if_neg (by simp), Option.bind_some, hwj]
       · obtain ⟨g2, _⟩ := add_good ⟨R, Q⟩ ts g p hp c c3 s' t' q m R' ha
         refine go (ts.set p t') i3 h3 s'.f0 s'.f1 g2 (by rw [List.length_set]; exact t1) (by rw [List.length_set]; exact t2) hc3 fun k hk => ?_
         have hf := spec_addT ⟨R, Q⟩ ts[p] c hok z1 z2 z3 c3 k (by omega)
         unfold spec_l15Grown.b0
         rw [hx, if_pos (by omega), belowG_k k 0, e1, Option.bind_some, belowG_k k 0, e2, Option.bind_some, if_neg c0, if_neg c1, if_pos ⟨u0, u1⟩, e3 k, Option.bind_some, ep, hf, a, Option.bind_some, if_pos rfl, Option.bind_some, hwj, hup]
theorem good_new (n : Nat) (hn : n ≤ 16) : Good ⟨List.replicate n 0, List.replicate n []⟩ [⟨[], 0⟩] := by
 have hst : storeB (⟨List.replicate n 0, List.replicate n []⟩ : S58) = true := store_of _ (by
   unfold poolB
   rw [Bool.and_eq_true]
   exact ⟨decide_eq_true (by simp; exact hn), List.all_eq_true.mpr fun x hx => by rw [(List.mem_replicate.mp hx).2]; rfl⟩) (by simp) (fun p hp => by
   have hp' : p < n := by simpa using hp
   show ((List.replicate n ([] : List S62)).getD p []).length ≤ 4 ∧ (_ → ((List.replicate n ([] : List S62)).getD p []).length = 0)
   have : (List.replicate n ([] : List S62)).getD p [] = [] := by simp [List.getD_eq_getElem?_getD, hp']
   rw [this]; exact ⟨by simp, fun _ => rfl⟩)
 refine ⟨hst, fun t ht => ?_, fun p hp => ?_, fun y hy z hz => ?_⟩
 · rw [List.mem_singleton.mp ht]; exact good_empty _ hst
 · have hp' : p < n := by simpa using hp
   show (List.replicate n (0 : Int)).getD p 0 = 0
   simp [List.getD_eq_getElem?_getD, hp']
 · have : y = [] := (List.mem_replicate.mp hy).2
   rw [this] at hz; cases hz
/-- a drawn store, its tables and a cell. -/
theorem drawnStore (l : List Int) (hl : l.length ≤ 1048576) : ∃ s ts c, (∀ k, 60000000 < k → spec_DrawRightStore.g k l = some (s, ts, c)) ∧ Good s ts ∧ 1 ≤ ts.length ∧ ts.length ≤ 4 ∧ iCell c ≤ 1048576 := by
 obtain ⟨h0, e0, hc0⟩ := newG l hl
 obtain ⟨v, i1, h1, e1, v0, v1, hc1⟩ := belowG 0 l 0 h0 hc0 8 (by omega) (by omega)
 have hdiv : Int.tdiv (l.length : Int) 10 = ((l.length / 10 : Nat) : Int) := by rw [Int.tdiv_eq_ediv_of_nonneg (by omega)]; omega
 have hmod : Int.tmod ((l.length / 10 : Nat) : Int) 30 = ((l.length / 10 % 30 : Nat) : Int) := by rw [Int.tmod_eq_emod_of_nonneg (by omega)]; omega
 have hn : wrap64 (4 + Int.tmod (wrap64 (Int.tdiv (l.length : Int) 10)) 30) = ((4 + l.length / 10 % 30 : Nat) : Int) := by
   rw [hdiv, w64 (i := ((l.length / 10 : Nat) : Int)) (by omega) (by omega), hmod, w64 (by omega) (by omega)]; omega
 have hv : wrap64 (3 + v) = ((3 + v.toNat : Nat) : Int) := by rw [w64 (by omega) (by omega)]; omega
 obtain ⟨ts, q, i2, h2, R, Q, e2, g, t1, t2, hc2⟩ := grown_from l ⟨l, 0, h0⟩ rfl (4 + l.length / 10 % 30) (by omega) (4 + l.length / 10 % 30) 0 [⟨[], 0⟩] i1 h1 (List.replicate (3 + v.toNat) 0) (List.replicate (3 + v.toNat) []) (by omega) (good_new _ (by omega)) (by simp) (by simp) hc1
 obtain ⟨c, i3, h3, e3, c3, _⟩ := smallCell l i2 h2 hc2
 refine ⟨⟨R, Q⟩, ts, c, fun k hk => ?_, g, t1, t2, c3⟩
 have e2' := e2 k (by omega)
 rw [show ((0 : Nat) : Int) = 0 from rfl] at e2'
 have eg : spec_l15Grown.g k ⟨l, 0, h0⟩ ((4 + l.length / 10 % 30 : Nat) : Int) = some (⟨R, Q⟩, ts, ⟨l, i2, h2⟩) := by
   unfold spec_l15Grown.g
   rw [belowG_k k 0, e1, Option.bind_some, hv, if_pos ⟨by omega, by omega⟩, Int.toNat_natCast, List.length_replicate, if_pos ⟨by omega, by omega⟩, Int.toNat_natCast, e2', Option.bind_some]
 unfold spec_DrawRightStore.g
 rw [e0 k (by omega), Option.bind_some, hn, eg, Option.bind_some, e3 k, Option.bind_some]
theorem placesG_from (b : List Int) (d : Nat) : ∀ (j : Nat) (acc : List Int) (i h : Int), j + d = 12 → acc.length = j → Cu b i → (∀ z ∈ acc, 0 ≤ z ∧ z < 10000) →
   ∃ r q, (∀ k, d < k → spec_DrawPlaces.l0 b k acc (j : Int) i h = some (r, q)) ∧ r.length = 12 ∧ (∀ z ∈ r, 0 ≤ z ∧ z < 10000) := by
 induction d with
 | zero =>
   intro j acc i h hj ha hc hz
   refine ⟨acc, ((j : Int), i, h), fun k hk => ?_, by omega, hz⟩
   obtain ⟨k, rfl⟩ : ∃ m, k = m + 1 := ⟨k - 1, by omega⟩
   show spec_DrawPlaces.b0 b _ k _ _ _ _ = _
   unfold spec_DrawPlaces.b0
   rw [if_neg (by omega)]
 | succ d ih =>
   intro j acc i h hj ha hc hz
   obtain ⟨v, i1, h1, e, v0, v1, hc1⟩ := belowG 0 b i h hc 10000 (by omega) (by omega)
   obtain ⟨r, q, hr, hl, hz'⟩ := ih (j + 1) (acc ++ [v]) i1 h1 (by omega) (by simp; omega) hc1 (fun z hz1 => by
     rcases List.mem_append.1 hz1 with h | h
     · exact hz z h
     · rw [List.mem_singleton.1 h]; omega)
   refine ⟨r, q, fun k hk => ?_, hl, hz'⟩
   obtain ⟨k, rfl⟩ : ∃ m, k = m + 1 := ⟨k - 1, by omega⟩
   show spec_DrawPlaces.b0 b (spec_DrawPlaces.l0 b k) k _ _ _ _ = _
   unfold spec_DrawPlaces.b0
   rw [if_pos (by omega), belowG_k k 0, e, Option.bind_some, if_pos (by omega), w64 (i := (j : Int) + 1) (by omega) (by omega), show ((j : Int) + 1) = ((j + 1 : Nat) : Int) by omega]
   exact hr k (by omega)
theorem placesG (l : List Int) (hl : l.length ≤ 1048576) : ∃ r, (∀ k, 1100000 < k → spec_DrawPlaces.g k l = some r) ∧ r.length = 12 ∧ (∀ z ∈ r, 0 ≤ z ∧ z < 10000) := by
 obtain ⟨h0, e0, hc0⟩ := newG l hl
 obtain ⟨v, i1, h1, e1, _, _, hc1⟩ := byteG 0 l 0 h0 hc0
 obtain ⟨r, q, hr, hl', hz⟩ := placesG_from l 12 0 [] i1 h1 (by omega) rfl hc1 (fun z hz => by cases hz)
 refine ⟨r, fun k hk => ?_, hl', hz⟩
 have := hr k (by omega)
 rw [show ((0 : Nat) : Int) = 0 from rfl] at this
 unfold spec_DrawPlaces.g
 rw [e0 k (by omega), Option.bind_some, byteG_k k 0, e1, Option.bind_some, this, Option.bind_some]
-- the same
theorem same_loop {ρ : Type} (n : Nat) (bad : ρ) (L : Nat → Int → Option (ρ ⊕ Int)) (c : Nat) (hn : n ≤ 4611686018427387904) (hE : ∀ k, L (k + 1) (n : Int) = some (.inr (n : Int)))
   (hL : ∀ k i, c ≤ k → i < n → L (k + 1) (i : Int) = L k (wrap64 ((i : Int) + 1))) (k : Nat) (hk : n + c < k) : L k 0 = some (.inr (n : Int)) := by
 rw [loopB0 n (fun _ => true) bad L c hn hE (fun k i h1 h2 => by rw [if_pos rfl]; exact hL k i h1 h2) k hk, if_pos ((scanB_iff _ _ _).mpr fun _ _ _ => rfl)]
theorem sameInts_i (l : List Int) (hl : l.length ≤ 1048576) (k : Nat) (hk : 1048577 < k) : laws_sameInts.g k l l = some true := by
 unfold laws_sameInts.g
 rw [if_pos rfl, same_loop l.length false (laws_sameInts.l0 l l) 0 (by omega) (fun k => by
   show laws_sameInts.b0 l l _ k _ = _
   unfold laws_sameInts.b0; rw [if_neg (by omega)]) (fun k i _ hi => by
   show laws_sameInts.b0 l l (laws_sameInts.l0 l l k) k (i : Int) = _
   unfold laws_sameInts.b0
   rw [if_pos (by omega), if_pos ⟨by omega, by omega⟩, if_pos ⟨by omega, by omega⟩, if_pos rfl]) k (by omega)]; rfl
theorem sameParts_i (l : List S149) (h : iParts l ≤ 1048576) (k : Nat) (hk : 3000000 < k) : laws_sameParts.g k l l = some true := by
 have hl := (in_list h).1
 have h2 := (in_list h).2
 unfold laws_sameParts.g
 rw [if_pos rfl, same_loop l.length false (laws_sameParts.l0 l l) 1500000 (by omega) (fun k => by
   show laws_sameParts.b0 l l _ k _ = _
   unfold laws_sameParts.b0; rw [if_neg (by omega)]) (fun k i hk hi => by
   show laws_sameParts.b0 l l (laws_sameParts.l0 l l k) k (i : Int) = _
   have hs := h2 l[i] (List.getElem_mem hi)
   have g : iPart l[i] = l[i].f1.length := rfl
   unfold laws_sameParts.b0
   rw [if_pos (by omega), if_pos ⟨by omega, by omega⟩, if_pos ⟨by omega, by omega⟩, if_pos rfl, getD_int l _ i hi, sameInts_i _ (by omega) k (by omega), Option.bind_some, if_pos rfl]) k (by omega)]; rfl
theorem sameCell_i (x : S62) (h : iCell x ≤ 1048576) (k : Nat) (hk : 6000000 < k) : laws_sameCell.g k x x = some true := by
 have g : iCell x = iPartss x.f0 + iPartss x.f1 := rfl
 have h0 : iPartss x.f0 ≤ 1048576 := by omega
 have h1 : iPartss x.f1 ≤ 1048576 := by omega
 have a0 := in_list h0
 have a1 := in_list h1
 unfold laws_sameCell.g
 rw [if_pos rfl, if_pos rfl, same_loop x.f0.length false (laws_sameCell.l1 x x) 3500000 (by omega) (fun k => by
   show laws_sameCell.b1 x x _ k _ = _
   unfold laws_sameCell.b1; rw [if_neg (by omega)]) (fun k i hk hi => by
   show laws_sameCell.b1 x x (laws_sameCell.l1 x x k) k (i : Int) = _
   unfold laws_sameCell.b1
   rw [if_pos (by omega), if_pos ⟨by omega, by omega⟩, if_pos ⟨by omega, by omega⟩, getD_int x.f0 _ i hi, sameParts_i _ (a0.2 _ (List.getElem_mem hi)) k (by omega), Option.bind_some, if_pos rfl]) k (by omega), Option.bind_some]
 show (laws_sameCell.l0 x x k 0).bind _ = _
 rw [same_loop x.f1.length false (laws_sameCell.l0 x x) 3500000 (by omega) (fun k => by
   show laws_sameCell.b0 x x _ k _ = _
   unfold laws_sameCell.b0; rw [if_neg (by omega)]) (fun k i hk hi => by
   show laws_sameCell.b0 x x (laws_sameCell.l0 x x k) k (i : Int) = _
   unfold laws_sameCell.b0
   rw [if_pos (by omega), if_pos ⟨by omega, by omega⟩, if_pos ⟨by omega, by omega⟩, getD_int x.f1 _ i hi, sameParts_i _ (a1.2 _ (List.getElem_mem hi)) k (by omega), Option.bind_some, if_pos rfl]) k (by omega)]; rfl
theorem sameCells_i (l : List S62) (hl : l.length ≤ 1048576) (h : ∀ y ∈ l, iCell y ≤ 1048576) (k : Nat) (hk : 10000000 < k) : laws_sameCells.g k l l = some true := by
 unfold laws_sameCells.g
 rw [if_pos rfl, same_loop l.length false (laws_sameCells.l0 l l) 7000000 (by omega) (fun k => by
   show laws_sameCells.b0 l l _ k _ = _
   unfold laws_sameCells.b0; rw [if_neg (by omega)]) (fun k i hk hi => by
   show laws_sameCells.b0 l l (laws_sameCells.l0 l l k) k (i : Int) = _
   unfold laws_sameCells.b0
   rw [if_pos (by omega), if_pos ⟨by omega, by omega⟩, if_pos ⟨by omega, by omega⟩, getD_int l _ i hi, sameCell_i _ (h _ (List.getElem_mem hi)) k (by omega), Option.bind_some, if_pos rfl]) k (by omega)]; rfl
theorem cellsOf_small (s : S58) (t : S67) (hs : okS s) (h : tableB s t = true) : (cellsOf s t).2 = true ∧ (cellsOf s t).1.length ≤ 64 ∧ ∀ y ∈ (cellsOf s t).1, iCell y ≤ 1048576 := by
 unfold cellsOf
 rw [if_pos h]
 exact ⟨rfl, cells_ok s t hs h⟩

theorem FnBlocks : laws_FnBlocks.Pure := by
 intro l ok
 refine ⟨1000000000, ?_⟩
 unfold laws_FnBlocks.g laws_big.g
 rw [Option.bind_some]
 by_cases hb : (l.length : Int) > 1048576
 · rw [decide_eq_true hb, if_pos rfl]
 rw [decide_eq_false hb, if_neg (by simp)]
 obtain ⟨s, ts, c, e1, g, t1, t2, hc⟩ := drawnStore l (by omega)
 obtain ⟨r, e2, r1, r2⟩ := placesG l (by omega)
 have hr0 : 0 ≤ r.getD (0 : Int).toNat 0 := by
   rw [List.getD_eq_getElem?_getD, List.getElem?_eq_getElem (by show 0 < r.length; omega)]
   exact (r2 _ (List.getElem_mem _)).1
 obtain ⟨p, hp, ep⟩ : ∃ p : Nat, p < ts.length ∧ Int.tmod (r.getD (0 : Int).toNat 0) (ts.length : Int) = (p : Int) := by
   rw [Int.tmod_eq_emod_of_nonneg hr0]
   have a := Int.emod_nonneg (r.getD (0 : Int).toNat 0) (show (ts.length : Int) ≠ 0 by omega)
   have b := Int.emod_lt_of_pos (r.getD (0 : Int).toNat 0) (show 0 < (ts.length : Int) by omega)
   exact ⟨(r.getD (0 : Int).toNat 0 % (ts.length : Int)).toNat, by omega, by omega⟩
 have hok := g.ok
 have htb := g.tb _ (List.getElem_mem hp)
 obtain ⟨z1, z2, z3⟩ := g.sizes _ htb
 have e3 := spec_addT s ts[p] c hok z1 z2 z3 hc 1000000000 (by omega)
 have e4 := impl_addT s ts[p] c hok z1 z2 z3 hc 1000000000 (by omega)
 have e5 := impl_storeG s hok 1000000000 (by omega)
 rw [g.st] at e5
 have egt : ts.getD p o67 = ts[p] := by rw [List.getD_eq_getElem?_getD, List.getElem?_eq_getElem hp]; rfl
 rw [e1 _ (by omega), Option.bind_some, e2 _ (by omega), Option.bind_some, if_pos ⟨Int.le_refl _, by omega⟩]
 show (if (ts.length : Int) ≠ 0 then (if 0 ≤ Int.tmod (r.getD (0 : Int).toNat 0) (ts.length : Int) ∧ Int.tmod (r.getD (0 : Int).toNat 0) (ts.length : Int) < (ts.length : Int) then ((impl_AddCell.g 1000000000 s (ts.getD (Int.tmod (r.getD (0 : Int).toNat 0) (ts.length : Int)).toNat o67) c).bind fun t63 => ((spec_AddCell.g 1000000000 s (ts.getD (Int.tmod (r.getD (0 : Int).toNat 0) (ts.length : Int)).toNat o67) c).bind _)) else _) else _) = _
 rw [if_pos (by omega), ep, if_pos ⟨by omega, by omega⟩, Int.toNat_natCast, egt, e4, Option.bind_some, e3, Option.bind_some, if_pos rfl]
 show ((impl_StoreOk.g 1000000000 s).bind _) = _
 rw [e5, Option.bind_some, if_pos rfl]
 rcases add_tells s ts g p hp c with a | ⟨s', t', q, m, R', a, ha⟩
 · rw [a]; rfl
 obtain ⟨g2, f1, f2, f3⟩ := add_good s ts g p hp c hc s' t' q m R' ha
 have hp2 : p < (ts.set p t').length := by rw [List.length_set]; exact hp
 have htb2 : tableB s' t' = true := by
   have := g2.tb _ (List.getElem_mem hp2)
   rw [List.getElem_set_self] at this; exact this
 obtain ⟨y1, y2, y3⟩ := g2.sizes _ htb2
 have hok2 := g2.ok
 obtain ⟨u1, u2, u3⟩ := cellsOf_small s _ hok htb
 have c1 := spec_cellsOf s ts[p] hok z1 z2 z3 1000000000 (by omega)
 have c2 := impl_cellsOfG s' t' hok2 y1 y2 y3 1000000000 (by omega)
 have c3 := sameCells_i (cellsOf s ts[p]).1 (by omega) u3 1000000000 (by omega)
 have c4 := sameCell_i c hc 1000000000 (by omega)
 have c5 := spec_tableG s' t' hok2 y1 y2 y3 1000000000 (by omega)
 obtain ⟨w1, w2, w3, _⟩ := table_tells s' t' htb2
 have c6 := impl_need t'.f1 w1 (by omega)
 rw [htb2] at c5
 rw [f2] at c2
 rw [a]
 show (if true = true then ((spec_CellsOf.g 1000000000 s ts[p]).bind fun t342 => ((impl_CellsOf.g 1000000000 s' t').bind _)) else _) = _
 rw [if_pos rfl, c1, Option.bind_some, c2, Option.bind_some, if_pos rfl]
 generalize hC : (cellsOf s ts[p]).1 = C at *
 show (if ((C ++ [c]).length : Int) = wrap64 ((C.length : Int) + 1) then _ else _) = _
 have hCl : (C ++ [c]).length = C.length + 1 := by rw [List.length_append]; rfl
 rw [w64 (by omega) (by omega), if_pos (by omega), if_pos ⟨by omega, by show (C.length : Int) ≤ ((C ++ [c]).length : Int); omega⟩]
 show ((laws_sameCells.g 1000000000 ((C ++ [c]).take (C.length : Int).toNat) C).bind _) = _
 rw [Int.toNat_natCast, List.take_append_of_le_length (Nat.le_refl _), List.take_length, c3, Option.bind_some, if_pos rfl, if_pos ⟨by omega, by show (C.length : Int) < ((C ++ [c]).length : Int); omega⟩]
 show ((laws_sameCell.g 1000000000 ((C ++ [c]).getD (C.length : Int).toNat o62) c).bind _) = _
 rw [Int.toNat_natCast, getD_app_r C c _ _ rfl, c4, Option.bind_some, if_pos rfl]
 show ((spec_TableOk.g 1000000000 s' t').bind _) = _
 rw [c5, Option.bind_some, if_pos rfl]
 show ((impl_NeedPages.f t'.f1).bind _) = _
 rw [c6, Option.bind_some, if_pos w3]
 rw [same_loop ts.length false (laws_FnBlocks.l0 (s, ts, c) r (s', t', true)) 500000000 (by omega) (fun k => by
   show laws_FnBlocks.b0 (s, ts, c) r (s', t', true) _ k _ = _
   unfold laws_FnBlocks.b0
   rw [if_neg (by show ¬ (ts.length : Int) < (ts.length : Int); omega)]) (fun k i hk hi => by
   show laws_FnBlocks.b0 (s, ts, c) r (s', t', true) (laws_FnBlocks.l0 (s, ts, c) r (s', t', true) k) k (i : Int) = _
   unfold laws_FnBlocks.b0
   rw [if_pos (show (i : Int) < (ts.length : Int) by omega)]
   by_cases e : (i : Int) = Int.tmod (r.getD (0 : Int).toNat 0) (ts.length : Int)
   · rw [if_pos e]
   · rw [if_neg e, if_pos (show 0 ≤ (i : Int) ∧ (i : Int) < (ts.length : Int) by omega)]
     have hne : p ≠ i := fun x => e (by rw [ep, x])
     have eti : ts.getD i o67 = ts[i] := by rw [List.getD_eq_getElem?_getD, List.getElem?_eq_getElem hi]; rfl
     have hti := g.tb _ (List.getElem_mem hi)
     have hti2 : tableB s' ts[i] = true := by
       have := g2.tb _ (List.getElem_mem (show i < (ts.set p t').length by rw [List.length_set]; exact hi))
       rw [List.getElem_set_ne hne] at this; exact this
     obtain ⟨x1, x2, x3⟩ := g.sizes _ hti
     obtain ⟨v1, v2, v3⟩ := cellsOf_small s _ hok hti
     have d1 := spec_cellsOf s ts[i] hok x1 x2 x3 k (by omega)
     have d2 := impl_cellsOfG s' ts[i] hok2 x1 x2 x3 k (by omega)
     have d3 := sameCells_i (cellsOf s ts[i]).1 (by omega) v3 k (by omega)
     rw [f3 i hi hne] at d2
     show ((spec_CellsOf.g k s (ts.getD (i : Int).toNat o67)).bind fun t432 => ((impl_CellsOf.g k s' (ts.getD (i : Int).toNat o67)).bind _)) = _
     rw [Int.toNat_natCast, eti, d1, Option.bind_some, d2, Option.bind_some, if_pos v1, if_pos v1, d3, Option.bind_some, if_pos rfl]) 1000000000 (by omega)]
 rfl

end Go.Proofs.Ytlpginalgdbopaa.Pure
