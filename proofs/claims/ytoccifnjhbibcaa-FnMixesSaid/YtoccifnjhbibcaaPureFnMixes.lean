/-  -/
import Derived.Test.YtoccifnjhbibcaaGFnMixes0
namespace Go.Proofs.Ytoccifnjhbibcaa.Pure
open Go.RowKit Go.Proofs.Ytoccifnjhbibcaa.PFnMixes Go.Proofs.YtoccifnjhbibcaaW.PrintWords Go.Proofs.YtoccifnjhbibcaaW.PrintLast Go.Proofs.YtoccifnjhbibcaaW.PrintMore
set_option linter.unusedVariables false
set_option linter.unusedSimpArgs false
theorem k1_ {n k : Nat} (h : n < k) : ∃ m, k = m + 1 := ⟨k - 1, by omega⟩

theorem w64 {i : Int} (h0 : -9223372036854775808 ≤ i) (h : i ≤ 9223372036854775807) : wrap64 i = i := by unfold wrap64; omega
theorem rd_get (l : List Int) (i : Nat) (h : i < l.length) : rd l (i : Int) = l[i] := by simp [rd, List.getD_eq_getElem?_getD, h]


theorem and_small (m : Nat) (hm : m < 9223372036854775808) (x : Int) : 0 ≤ Go.bits .and .i64 x (m : Int) ∧ Go.bits .and .i64 x (m : Int) ≤ (m : Int) := by
 simp only [Go.bits, BitVec.toNat_and]
 have h1 : (BitVec.ofInt IntKind.i64.bits x).toNat &&& (BitVec.ofInt IntKind.i64.bits (m : Int)).toNat ≤ m := by
   refine Nat.le_trans Nat.and_le_right ?_
   rw [BitVec.ofInt_natCast, BitVec.toNat_ofNat]
   exact Nat.mod_le _ _
 generalize (BitVec.ofInt IntKind.i64.bits x).toNat &&& (BitVec.ofInt IntKind.i64.bits (m : Int)).toNat = y at h1
 rw [IntKind.wrap_i64]
 omega
/-- A cursor's place. -/
def Cu (b : List Int) (i : Int) : Prop := 0 ≤ i ∧ i ≤ (b.length : Int) ∧ b.length ≤ 1048576
theorem byteG (k : Nat) (b : List Int) (i h : Int) (hc : Cu b i) : ∃ v i' h', spec_l01Byte.g k ⟨b, i, h⟩ = some (v, ⟨b, i', h'⟩) ∧ 0 ≤ v ∧ v ≤ 255 ∧ Cu b i' := by
 obtain ⟨h0, h1, h2⟩ := hc
 unfold spec_l01Byte.g
 by_cases hl : i < (b.length : Int)
 · rw [if_pos hl, if_pos ⟨h0, hl⟩, w64 (i := i + 1) (by omega) (by omega)]
   exact ⟨_, _, _, rfl, (and_small 255 (by decide) _).1, (and_small 255 (by decide) _).2, by omega, by omega, h2⟩
 · rw [if_neg hl]
   exact ⟨_, _, _, rfl, (and_small 255 (by decide) _).1, (and_small 255 (by decide) _).2, h0, h1, h2⟩
theorem belowG (k : Nat) (b : List Int) (i h : Int) (hc : Cu b i) (n : Int) (hn : 0 < n) (hn2 : n ≤ 4294967296) : ∃ v i' h', spec_l01Below.g k ⟨b, i, h⟩ n = some (v, ⟨b, i', h'⟩) ∧ 0 ≤ v ∧ v < n ∧ Cu b i' := by
 unfold spec_l01Below.g
 rw [if_neg (by omega)]
 obtain ⟨v, i', h', e, v0, v1, hc'⟩ := byteG k b i h hc
 by_cases h256 : n ≤ 256
 · rw [if_pos h256, e]
   simp only [Option.bind_some]
   rw [if_pos (by omega), Int.tmod_eq_emod_of_nonneg v0]
   exact ⟨_, _, _, rfl, Int.emod_nonneg _ (by omega), Int.emod_lt_of_pos _ hn, hc'⟩
 · obtain ⟨v2, i2, h2, e2, v20, v21, hc2⟩ := byteG k b i' h' hc'
   obtain ⟨v3, i3, h3, e3, v30, v31, hc3⟩ := byteG k b i2 h2 hc2
   obtain ⟨v4, i4, h4, e4, v40, v41, hc4⟩ := byteG k b i3 h3 hc3
   rw [if_neg h256, e]
   simp only [Option.bind_some, e2, e3, e4]
   rw [if_pos (by omega), w64 (i := v * 16777216) (by omega) (by omega), w64 (i := v2 * 65536) (by omega) (by omega), w64 (i := v3 * 256) (by omega) (by omega), w64 (i := v * 16777216 + v2 * 65536) (by omega) (by omega), w64 (i := v * 16777216 + v2 * 65536 + v3 * 256) (by omega) (by omega), w64 (by omega) (by omega), Int.tmod_eq_emod_of_nonneg (by omega)]
   exact ⟨_, _, _, rfl, Int.emod_nonneg _ (by omega), Int.emod_lt_of_pos _ hn, hc4⟩
theorem belowG_k (k k' : Nat) (x : S92) (n : Int) : spec_l01Below.g k x n = spec_l01Below.g k' x n := rfl
/-- a list of drawn numbers -/
theorem drawList (b : List Int) (m : Int) (hm : 0 < m) (hm2 : m ≤ 4294967296) (F : Int → Int) (P : Int → Prop) (hP : ∀ v, 0 ≤ v → v < m → P (F v)) (n : Nat) (hn : n ≤ 100000) (L : Nat → List Int → Int → Int → Int → Option (List Int × Int × Int × Int))
   (hL : ∀ k xs j i h, L (k + 1) xs j i h = if j < (n : Int) then ((spec_l01Below.g k ⟨b, i, h⟩ m).bind fun t => if xs.length < 4294967296 then L k (xs ++ [F t.1]) (wrap64 (j + 1)) t.2.f1 t.2.f2 else none) else some (xs, j, i, h)) (d : Nat) :
   ∀ (j : Nat) (acc : List Int) (i h : Int), j + d = n → acc.length = j → Cu b i → (∀ z ∈ acc, P z) →
   ∃ r i' h', (∀ k, d < k → L k acc (j : Int) i h = some (r, (n : Int), i', h')) ∧ r.length = n ∧ (∀ z ∈ r, P z) ∧ Cu b i' := by
 induction d with
 | zero =>
   intro j acc i h hj ha hc hz
   refine ⟨acc, i, h, fun k hk => ?_, by omega, hz, hc⟩
   obtain ⟨k, rfl⟩ : ∃ m, k = m + 1 := ⟨k - 1, by omega⟩
   rw [hL, if_neg (by omega), show (j : Int) = (n : Int) by omega]
 | succ d ih =>
   intro j acc i h hj ha hc hz
   obtain ⟨v, i1, h1, e, v0, v1, hc1⟩ := belowG 0 b i h hc m hm hm2
   obtain ⟨r, i', h', hr, hl, hz', hc'⟩ := ih (j + 1) (acc ++ [F v]) i1 h1 (by omega) (by simp; omega) hc1 (fun z hz1 => by
     rcases List.mem_append.1 hz1 with h | h
     · exact hz z h
     · rw [List.mem_singleton.1 h]; exact hP v v0 v1)
   refine ⟨r, i', h', fun k hk => ?_, hl, hz', hc'⟩
   obtain ⟨k, rfl⟩ : ∃ m, k = m + 1 := ⟨k - 1, by omega⟩
   rw [hL, if_pos (by omega), belowG_k k 0, e, Option.bind_some, if_pos (by omega), w64 (by omega) (by omega), show ((j : Int) + 1) = ((j + 1 : Nat) : Int) by omega]
   exact hr k (by omega)
theorem drawList0 (b : List Int) (m : Int) (hm : 0 < m) (hm2 : m ≤ 4294967296) (F : Int → Int) (P : Int → Prop) (hP : ∀ v, 0 ≤ v → v < m → P (F v)) (n : Nat) (hn : n ≤ 100000) (L : Nat → List Int → Int → Int → Int → Option (List Int × Int × Int × Int))
   (hL : ∀ k xs j i h, L (k + 1) xs j i h = if j < (n : Int) then ((spec_l01Below.g k ⟨b, i, h⟩ m).bind fun t => if xs.length < 4294967296 then L k (xs ++ [F t.1]) (wrap64 (j + 1)) t.2.f1 t.2.f2 else none) else some (xs, j, i, h)) (i h : Int) (hc : Cu b i) :
   ∃ r i' h', (∀ k, n < k → L k [] 0 i h = some (r, (n : Int), i', h')) ∧ r.length = n ∧ (∀ z ∈ r, P z) ∧ Cu b i' :=
 drawList b m hm hm2 F P hP n hn L hL n 0 [] i h (by omega) rfl hc (fun z hz => by cases hz)
section
variable {α : Type} (z : α) (F : Nat → List α → Int → Int → Option Int) (E : Nat → α → Int → Option Int) (s : α → Nat) (ok : α → Prop)
end
section
variable {α β γ : Type} (z : α) (zb : β) (F : Nat → List α → List β → Int → Option (List β)) (E : Nat → α → Option γ) (c : γ → β) (g : α → β) (s : α → Nat) (ok : α → Prop)
end
section
variable {α : Type} (z : α) (F : Nat → List α → List α → Int → Option Bool) (E : Nat → α → Option Bool) (s : α → Nat)
end

theorem all_from (lo hi : Int) (l : List Int) (hl : l.length ≤ 9223372036854775806) (d : Nat) : ∀ (k i : Nat), i ≤ l.length → l.length - i = d → d < k →
   spec_l05All.l0 k l lo hi (i : Int) = some ((l.drop i).all fun x => decide (lo ≤ x) && decide (x ≤ hi)) := by
 induction d with
 | zero =>
   intro k i hi' hd hk
   obtain ⟨k, rfl⟩ := k1_ hk
   rw [List.drop_of_length_le (by omega)]
   simp only [spec_l05All.l0]; rw [if_neg (by omega)]; rfl
 | succ d ih =>
   intro k i hi' hd hk
   obtain ⟨k, rfl⟩ := k1_ hk
   have hlt : i < l.length := by omega
   simp only [spec_l05All.l0]
   rw [if_pos (by omega), if_pos (by omega), rd_get l i hlt, List.drop_eq_getElem_cons hlt, List.all_cons]
   unfold spec_l01In.f
   by_cases h1 : l[i] ≥ lo
   · rw [if_pos h1]
     simp only [Option.bind_some]
     by_cases h2 : l[i] ≤ hi
     · rw [decide_eq_true h2, if_pos rfl, w64 (by omega) (by omega), show ((i : Int) + 1) = ((i + 1 : Nat) : Int) by omega, ih k (i + 1) (by omega) (by omega) (by omega)]
       simp [h1]
     · rw [decide_eq_false h2]; simp
   · rw [if_neg h1]; simp only [Option.bind_some]; rw [decide_eq_false h1]; simp
/-- spec.l05All: all within. -/
theorem all_tells (lo hi : Int) (l : List Int) (hl : l.length ≤ 9223372036854775806) (k : Nat) (hk : l.length < k) : spec_l05All.f k l lo hi = some (l.all fun x => decide (lo ≤ x) && decide (x ≤ hi)) := by
 unfold spec_l05All.f
 have := all_from lo hi l hl l.length k 0 (by omega) (by omega) hk
 rw [List.drop_zero] at this
 exact this

-- the same over wp.py's own prints
section
variable {α β : Type} (z : α) (zb : β) (l : List α) (L : Nat → Int → List β → Option (Int × List β)) (E : Nat → α → Option β) (g : α → β) (s : α → Nat)
end
section
variable {α : Type} (z : α) (l : List α) (L : Nat → Int → Option (Bool ⊕ Int)) (E : Nat → α → Option Bool) (s : α → Nat)
end
section
variable {α : Type} (z : α) (l : List α) (L : Nat → Int → Int → Option (Int ⊕ (Int × Int))) (E : Nat → α → Int → Option Int) (s : α → Nat)
end

section
variable {α ρ : Type} (l : List α) (B : α → Bool)
end

/-- a fact that arithmetic does not look at -/
def Hid (p : Prop) : Prop := p
theorem Hid.out {p : Prop} (h : Hid p) : p := h
theorem new_from (l : List Int) (hl : l.length ≤ 1048576) (d : Nat) : ∀ (j : Nat) (h : Int), j + d = l.length → ∃ r q, ∀ k, d < k → spec_l01New.l0 l k h (j : Int) = some (r, q) := by
 induction d with
 | zero =>
   intro j h hj
   refine ⟨h, (j : Int), fun k hk => ?_⟩
   obtain ⟨k, rfl⟩ : ∃ m, k = m + 1 := ⟨k - 1, by omega⟩
   unfold spec_l01New.l0 spec_l01New.b0
   rw [if_neg (by omega)]
 | succ d ih =>
   intro j h hj
   by_cases c : (j : Int) < 4000
   · obtain ⟨r, q, e⟩ := ih (j + 1) (Go.bits .and .i64 (wrap64 ((wrap64 ((wrap64 (h * 131)) + (wrap64 ((l.getD (j : Int).toNat 0))))) + 7)) 1073741823) (by omega)
     refine ⟨r, q, fun k hk => ?_⟩
     obtain ⟨k, rfl⟩ : ∃ m, k = m + 1 := ⟨k - 1, by omega⟩
     unfold spec_l01New.l0 spec_l01New.b0
     rw [if_pos (by omega), if_pos c, if_pos (by omega), w64 (i := (j : Int) + 1) (by omega) (by omega), show ((j : Int) + 1) = ((j + 1 : Nat) : Int) by omega]
     exact e k (by omega)
   · refine ⟨h, (j : Int), fun k hk => ?_⟩
     obtain ⟨k, rfl⟩ : ∃ m, k = m + 1 := ⟨k - 1, by omega⟩
     unfold spec_l01New.l0 spec_l01New.b0
     rw [if_pos (by omega), if_neg c]
theorem newG (l : List Int) (hl : l.length ≤ 1048576) : ∃ h, (∀ k, l.length < k → spec_l01New.g k l = some ⟨l, 0, h⟩) ∧ Cu l 0 := by
 obtain ⟨r, q, e⟩ := new_from l hl l.length 0 (wrap64 (11201 + (l.length : Int))) (Nat.zero_add _)
 refine ⟨r, fun k hk => ?_, by omega, by omega, hl⟩
 have e' := e k hk
 rw [show ((0 : Nat) : Int) = 0 from rfl] at e'
 unfold spec_l01New.g
 rw [e', Option.bind_some]
def floorZ (a b : Int) : Int := a.tdiv b + (if a.tmod b < 0 then -1 else 0)
theorem tdiv_bd (a b : Int) (hb : 0 < b) (m : Int) (h0 : -m ≤ a) (h1 : a ≤ m) : -m ≤ a.tdiv b ∧ a.tdiv b ≤ m := by
 rcases Int.le_total 0 a with h | h
 · have e := Int.tdiv_eq_ediv_of_nonneg h (b := b)
   have e1 := Int.ediv_nonneg h (Int.le_of_lt hb)
   have e2 : a / b ≤ a := Int.ediv_le_self b h
   omega
 · have h' : 0 ≤ -a := by omega
   have e := Int.tdiv_eq_ediv_of_nonneg h' (b := b)
   have e1 := Int.ediv_nonneg h' (Int.le_of_lt hb)
   have e2 : -a / b ≤ -a := Int.ediv_le_self b h'
   rw [Int.neg_tdiv] at e
   omega

theorem impl_floor (a b : Int) (hb : 0 < b) (h0 : -1000000000000 ≤ a) (h1 : a ≤ 1000000000000) (k : Nat) (hk : 1 < k) : impl_FloorDiv.f k a b = some (floorZ a b) := by
 obtain ⟨k, rfl⟩ : ∃ m, k = m + 1 := ⟨k - 1, by omega⟩
 have hd := tdiv_bd a b hb 1000000000000 h0 h1
 unfold impl_FloorDiv.f impl_in.f
 rw [if_neg (by omega), if_pos (by omega), decide_eq_true h1, Option.bind_some, impl_FloorDiv.j0, if_neg (by simp), if_neg (by omega), w64 (i := a.tdiv b) (by omega) (by omega), w64 (i := a.tdiv b - 1) (by omega) (by omega)]
 unfold floorZ
 by_cases h : a.tmod b < 0
 · rw [if_pos h, if_pos h]; rfl
 · rw [if_neg h, if_neg h, Int.add_zero]

def vecB (x : List Int) : Bool := decide (1 ≤ x.length) && decide (x.length ≤ 8) && x.all fun z => decide (-127 ≤ z) && decide (z ≤ 127)
theorem vec_at (x : List Int) (h : vecB x = true) (i : Nat) (hi : i < x.length) : -127 ≤ rd x (i : Int) ∧ rd x (i : Int) ≤ 127 := by
 unfold vecB at h
 simp only [Bool.and_eq_true, List.all_eq_true, decide_eq_true_eq] at h
 rw [rd_get x i hi]
 exact h.2 _ (List.getElem_mem hi)

theorem mul_bd (a b : Int) (m : Int) (ha : -m ≤ a) (ha2 : a ≤ m) (hb : -m ≤ b) (hb2 : b ≤ m) : -(m * m) ≤ a * b ∧ a * b ≤ m * m := by
 have h1 : 0 ≤ (m - a) * (m + b) := Int.mul_nonneg (by omega) (by omega)
 have h2 : 0 ≤ (m + a) * (m - b) := Int.mul_nonneg (by omega) (by omega)
 have h3 : 0 ≤ (m - a) * (m - b) := Int.mul_nonneg (by omega) (by omega)
 have h4 : 0 ≤ (m + a) * (m + b) := Int.mul_nonneg (by omega) (by omega)
 simp only [Int.sub_mul, Int.mul_sub, Int.add_mul, Int.mul_add] at h1 h2 h3 h4
 rw [Int.mul_comm m b] at h1 h2 h3 h4
 omega

def clampZ (x m : Int) : Int := if x > m then m else if x < -m then -m else x

theorem impl_clamp (x m : Int) (h : 0 ≤ m) (h2 : m ≤ 1000000000) : impl_Clamp.f x m = some (clampZ x m) := by
 unfold impl_Clamp.f clampZ mx mn
 rw [if_neg (by omega), w64 (by omega) (by omega)]
 congr 1
 repeat' split
 all_goals omega

theorem spec_clamp (x m : Int) (h : 0 ≤ m) (h2 : m ≤ 1000000000) : spec_l03Clamp.f x m = some (clampZ x m) := by
 unfold spec_l03Clamp.f clampZ
 rw [w64 (by omega) (by omega)]
 split
 · rfl
 · split <;> rfl

theorem spec_floor (a b : Int) (hb : 0 < b) (h0 : -4000000000000000000 ≤ a) (h1 : a ≤ 4000000000000000000) : spec_l03Floor.f a b = some (floorZ a b) := by
 have hd := tdiv_bd a b hb 4000000000000000000 h0 h1
 unfold spec_l03Floor.f floorZ
 rw [if_neg (by omega), w64 (i := a.tdiv b) (by omega) (by omega), w64 (i := a.tdiv b - 1) (by omega) (by omega)]
 by_cases h : a.tmod b < 0
 · rw [if_pos h, if_pos h]; rfl
 · rw [if_neg h, if_neg h, Int.add_zero]

theorem spec_vec8 (x : List Int) (k : Nat) (hk : 9 ≤ k) : spec_l16Vec.f k x = some (vecB x) := by
 unfold spec_l16Vec.f spec_l01In.f vecB
 by_cases h1 : (x.length : Int) ≥ 1
 · rw [if_pos h1, Option.bind_some]
   by_cases h2 : (x.length : Int) ≤ 8
   · rw [decide_eq_true h2, if_pos rfl, all_tells (-127) 127 x (by omega) k (by omega), Option.bind_some, decide_eq_true (show 1 ≤ x.length by omega), decide_eq_true (show x.length ≤ 8 by omega)]; rfl
   · rw [decide_eq_false h2, if_neg (by simp), decide_eq_false (show ¬ x.length ≤ 8 by omega)]; simp
 · rw [if_neg h1, Option.bind_some, if_neg (by simp), decide_eq_false (show ¬ 1 ≤ x.length by omega)]; rfl
/-- one number that is mixed. -/
def mixT (ss : List Int) (vs : List (List Int)) (k : Nat) : Int := clampZ (floorZ (impl_Mix.sum ss vs (k : Int) ss.length) 256) 127
def mixL (ss : List Int) (vs : List (List Int)) (n : Nat) : List Int := (List.range n).map (mixT ss vs)
theorem mixL_succ (ss : List Int) (vs : List (List Int)) (n : Nat) : mixL ss vs (n + 1) = mixL ss vs n ++ [mixT ss vs n] := by simp [mixL, List.range_succ]
theorem mixL_len (ss : List Int) (vs : List (List Int)) (n : Nat) : (mixL ss vs n).length = n := by simp [mixL]
def mixOf (ss : List Int) (vs : List (List Int)) : List Int × Bool := if impl_Mix.ok ss vs then (mixL ss vs (vs.getD 0 []).length, true) else ([], false)
structure MixOk (ss : List Int) (vs : List (List Int)) (n : Nat) : Prop where
 l : ss.length = vs.length
 l1 : 1 ≤ ss.length
 l2 : ss.length ≤ 32
 s : ∀ z ∈ ss, 0 ≤ z ∧ z ≤ 256
 n1 : 1 ≤ n
 n2 : n ≤ 8
 v : ∀ x ∈ vs, x.length = n ∧ ∀ z ∈ x, -127 ≤ z ∧ z ≤ 127
theorem mix_ok (ss : List Int) (vs : List (List Int)) (h : impl_Mix.ok ss vs = true) : MixOk ss vs (vs.getD 0 []).length := by
 unfold impl_Mix.ok at h
 simp only [Bool.and_eq_true, decide_eq_true_eq, List.all_eq_true] at h
 obtain ⟨⟨⟨⟨⟨⟨h1, h2⟩, h3⟩, h4⟩, h5⟩, h6⟩, h7⟩ := h
 refine ⟨h1, h2, h3, h4, h5, h6, fun x hx => ?_⟩
 have := h7 x hx
 unfold impl_Mix.one at this
 simp only [Bool.and_eq_true, decide_eq_true_eq, List.all_eq_true] at this
 exact ⟨by omega, this.2⟩
theorem mix_term (ss : List Int) (vs : List (List Int)) (n : Nat) (h : MixOk ss vs n) (k j : Nat) (hk : k < n) (hj : j < ss.length) :
   -32512 ≤ rd ss (j : Int) * rd (vs.getD j []) (k : Int) ∧ rd ss (j : Int) * rd (vs.getD j []) (k : Int) ≤ 32512 := by
 have hjv : j < vs.length := by have := h.l; omega
 have a := h.s _ (show rd ss (j : Int) ∈ ss by rw [rd_get ss j hj]; exact List.getElem_mem hj)
 have ev : vs.getD j [] = vs[j] := by simp [List.getD_eq_getElem?_getD, hjv]
 have b := h.v vs[j] (List.getElem_mem hjv)
 rw [ev]
 have c := b.2 _ (show rd vs[j] (k : Int) ∈ vs[j] by rw [rd_get vs[j] k (by omega)]; exact List.getElem_mem (by omega))
 generalize rd ss (j : Int) = p at a
 generalize rd vs[j] (k : Int) = q at c
 have e1 : 0 ≤ p * (127 - q) := Int.mul_nonneg (by omega) (by omega)
 have e2 : 0 ≤ p * (127 + q) := Int.mul_nonneg (by omega) (by omega)
 simp only [Int.mul_sub, Int.mul_add] at e1 e2
 omega
theorem mix_sum (ss : List Int) (vs : List (List Int)) (n : Nat) (h : MixOk ss vs n) (k : Nat) (hk : k < n) : ∀ j, j ≤ ss.length → -32512 * (j : Int) ≤ impl_Mix.sum ss vs (k : Int) j ∧ impl_Mix.sum ss vs (k : Int) j ≤ 32512 * (j : Int)
 | 0, _ => by simp [impl_Mix.sum]
 | j + 1, hj => by
   have ih := mix_sum ss vs n h k hk j (by omega)
   have t := mix_term ss vs n h k j hk (by omega)
   have := h.l2
   rw [impl_Mix.sum, w64 (i := rd ss (j : Int) * rd (vs.getD j []) (k : Int)) (by omega) (by omega), w64 (by omega) (by omega)]
   omega
theorem mix_sum_bd (ss : List Int) (vs : List (List Int)) (n : Nat) (h : MixOk ss vs n) (k : Nat) (hk : k < n) : -1040384 ≤ impl_Mix.sum ss vs (k : Int) ss.length ∧ impl_Mix.sum ss vs (k : Int) ss.length ≤ 1040384 := by
 have := mix_sum ss vs n h k hk ss.length (by omega)
 have := h.l2
 omega
theorem impl_mix_rows (ss : List Int) (vs : List (List Int)) (n : Nat) (h : MixOk ss vs n) : ∀ k, k ≤ n → impl_Mix.rows ss vs k = some (mixL ss vs k)
 | 0, _ => rfl
 | k + 1, hk => by
   have b := mix_sum_bd ss vs n h k (by omega)
   rw [impl_Mix.rows, impl_mix_rows ss vs n h k (by omega), Option.bind_some, impl_floor _ 256 (by omega) (by omega) (by omega) 2 (by omega), Option.bind_some, impl_clamp _ 127 (by omega) (by omega), Option.bind_some, mixL_succ]
   rfl
theorem impl_mix (ss : List Int) (vs : List (List Int)) : impl_Mix.f ss vs = some (mixOf ss vs) := by
 unfold impl_Mix.f mixOf
 cases hok : impl_Mix.ok ss vs with
 | false => rw [if_neg (by simp), if_neg (by simp)]
 | true => rw [if_pos rfl, if_pos rfl, impl_mix_rows ss vs _ (mix_ok ss vs hok) _ (Nat.le_refl _), Option.bind_some]
theorem rdL_at (vs : List (List Int)) (j : Nat) : rd_L3 vs (j : Int) = vs.getD j [] := by unfold rd_L3; rw [Int.toNat_natCast]
theorem spec_mix_l2 (ss : List Int) (vs : List (List Int)) (n : Nat) (h : MixOk ss vs n) (x : Nat) (hx : x < n) (out : List Int) (ho : out.length < 100) (k : Nat) (hk : 1 ≤ k) (d : Nat) : ∀ j, j + d = vs.length →
   spec_Mix.l2 (k + d + 1) ss vs out (x : Int) (impl_Mix.sum ss vs (x : Int) j) (j : Int) = spec_Mix.l1 (k + 0) ss vs (out ++ [mixT ss vs x]) ((x + 1 : Nat) : Int) := by
 have hl := h.l
 have hl2 := h.l2
 have hn := h.n2
 induction d with
 | zero =>
   intro j hj
   obtain rfl : j = vs.length := by omega
   have b := mix_sum_bd ss vs n h x hx
   rw [spec_Mix.l2, if_neg (by omega), ← hl, spec_floor _ 256 (by omega) (by omega) (by omega), Option.bind_some, spec_clamp _ 127 (by omega) (by omega), Option.bind_some, if_pos (by omega), w64 (by omega) (by omega)]
   rfl
 | succ d ih =>
   intro j hj
   have hjv : j < vs.length := by omega
   have hv := h.v vs[j] (List.getElem_mem hjv)
   have hvl : (vs.getD j []).length = n := by simp [List.getD_eq_getElem?_getD, hjv]; exact hv.1
   rw [show k + (d + 1) + 1 = (k + d + 1) + 1 by omega, spec_Mix.l2, if_pos (by omega), if_pos (by omega), if_pos (by omega), if_pos (by omega), rdL_at, if_pos (by omega), w64 (i := (j : Int) + 1) (by omega) (by omega), show ((j : Int) + 1) = ((j + 1 : Nat) : Int) by omega]
   exact ih (j + 1) (by omega)
theorem spec_mix_l1 (ss : List Int) (vs : List (List Int)) (n : Nat) (h : MixOk ss vs n) (hn0 : (vs.getD 0 []).length = n) (k : Nat) (hk : 1 ≤ k) (d : Nat) : ∀ x, x + d = n →
   spec_Mix.l1 (k + d * (vs.length + 2)) ss vs (mixL ss vs x) (x : Int) = some (mixL ss vs n, true) := by
 have hl := h.l
 have hl1 := h.l1
 have hn := h.n2
 induction d with
 | zero =>
   intro x hx
   obtain rfl : x = n := by omega
   obtain ⟨k, rfl⟩ : ∃ m, k = m + 1 := ⟨k - 1, by omega⟩
   rw [show k + 1 + 0 * (vs.length + 2) = k + 1 by omega, spec_Mix.l1, if_pos (by omega), show (0 : Int) = ((0 : Nat) : Int) from rfl, rdL_at, if_neg (by omega)]
 | succ d ih =>
   intro x hx
   have e : k + (d + 1) * (vs.length + 2) = (k + d * (vs.length + 2) + vs.length + 1) + 1 := by rw [Nat.add_mul]; omega
   rw [e, spec_Mix.l1, if_pos (by omega), show (0 : Int) = ((0 : Nat) : Int) from rfl, rdL_at, if_pos (by omega)]
   have := spec_mix_l2 ss vs n h x (by omega) (mixL ss vs x) (by rw [mixL_len]; omega) (k + d * (vs.length + 2)) (by omega) vs.length 0 (by omega)
   rw [show (impl_Mix.sum ss vs (x : Int) 0) = ((0 : Nat) : Int) from rfl] at this
   rw [this, ← mixL_succ]
   exact ih (x + 1) (by omega)
def vecsB (n : Nat) (vs : List (List Int)) : Bool := vs.all fun x => vecB x && decide (x.length = n)
theorem spec_mix_l0 (ss : List Int) (vs : List (List Int)) (hl : vs.length ≤ 32) (hv : 0 < vs.length) (d : Nat) : ∀ (k i : Nat), i + d = vs.length → d + 12 < k →
   ∃ k', k ≤ k' + d + 2 ∧ spec_Mix.l0 k ss vs [] true (i : Int) = if vecsB (vs.getD 0 []).length (vs.drop i) then spec_Mix.l1 k' ss vs [] 0 else some ([], false) := by
 induction d with
 | zero =>
   intro k i hi hk
   obtain ⟨k, rfl⟩ : ∃ m, k = m + 1 + 1 := ⟨k - 2, by omega⟩
   obtain rfl : i = vs.length := by omega
   refine ⟨k, by omega, ?_⟩
   rw [List.drop_length, spec_Mix.l0, if_neg (by omega), spec_Mix.j2, if_pos rfl]
   simp [vecsB]
 | succ d ih =>
   intro k i hi hk
   obtain ⟨k, rfl⟩ : ∃ m, k = m + 1 + 1 + 1 := ⟨k - 3, by omega⟩
   have hlt : i < vs.length := by omega
   have ev : vs.getD i [] = vs[i] := by simp [List.getD_eq_getElem?_getD, hlt]
   rw [List.drop_eq_getElem_cons hlt]
   have ec : vecsB (vs.getD 0 []).length (vs[i] :: vs.drop (i + 1)) = ((vecB vs[i] && decide (vs[i].length = (vs.getD 0 []).length)) && vecsB (vs.getD 0 []).length (vs.drop (i + 1))) := by unfold vecsB; rw [List.all_cons]
   have dead : ∀ q : Nat, 1 ≤ q → ∀ y : Int, spec_Mix.l0 (q + 1) ss vs [] false y = some ([], false) := by
     intro q hq y
     obtain ⟨q, rfl⟩ : ∃ m, q = m + 1 := ⟨q - 1, by omega⟩
     rw [spec_Mix.l0]
     split
     · rw [if_neg (by simp), spec_Mix.j2, if_neg (by simp)]
     · rw [spec_Mix.j2, if_neg (by simp)]
   rw [spec_Mix.l0, if_pos (by omega), if_pos rfl, if_pos (by omega), rdL_at, ev, spec_vec8 _ _ (by omega), Option.bind_some, w64 (by omega) (by omega), show ((i : Int) + 1) = ((i + 1 : Nat) : Int) by omega, show (0 : Int) = ((0 : Nat) : Int) from rfl, rdL_at]
   cases hb : vecB vs[i] with
   | false => exact ⟨k + 1 + 1, by omega, by rw [if_neg (by simp), dead _ (by omega), ec, hb]; simp⟩
   | true =>
     rw [if_pos rfl, if_pos (by omega)]
     by_cases hq : vs[i].length = (vs.getD 0 []).length
     · obtain ⟨k', h1, h2⟩ := ih (k + 1 + 1) (i + 1) (by omega) (by omega)
       refine ⟨k', by omega, ?_⟩
       rw [show ((vs[i].length : Int) == ((vs.getD 0 []).length : Int)) = true from beq_iff_eq.2 (by omega), h2, ec, hb, decide_eq_true hq]
       simp
     · refine ⟨k + 1 + 1, by omega, ?_⟩
       rw [show ((vs[i].length : Int) == ((vs.getD 0 []).length : Int)) = false from beq_eq_false_iff_ne.2 (by omega), dead _ (by omega), ec, decide_eq_false hq]
       simp
theorem vecs_one (n : Nat) (hn : 1 ≤ n) (hn8 : n ≤ 8) (vs : List (List Int)) : vecsB n vs = vs.all (impl_Mix.one n) := by
 unfold vecsB
 congr 1
 funext x
 unfold vecB impl_Mix.one
 by_cases h : x.length = n
 · subst h; rw [decide_eq_true hn, decide_eq_true hn8]; simp
 · rw [decide_eq_false h, decide_eq_false (show ¬ (x.length : Int) = (n : Int) by omega)]; simp
theorem spec_mix (ss : List Int) (vs : List (List Int)) (k : Nat) (hk : 400 ≤ k) : spec_Mix.f k ss vs = some (mixOf ss vs) := by
 obtain ⟨k, rfl⟩ : ∃ m, k = m + 1 + 1 + 1 := ⟨k - 3, by omega⟩
 have off : ∀ (b : impl_Mix.ok ss vs = false), spec_Mix.j0 (k + 1 + 1 + 1) ss vs [] false = some (mixOf ss vs) := by
   intro b
   unfold mixOf
   rw [b, if_neg (by simp), spec_Mix.j0, spec_Mix.l0]
   split
   · rw [if_neg (by simp), spec_Mix.j2, if_neg (by simp)]
   · rw [spec_Mix.j2, if_neg (by simp)]
 unfold spec_Mix.f spec_l01In.f
 rw [Option.bind_some]
 by_cases h1 : (ss.length : Int) ≥ 1
 · rw [if_pos h1, Option.bind_some]
   by_cases h2 : (ss.length : Int) ≤ 32
   · rw [decide_eq_true h2, if_pos rfl]
     by_cases h3 : (vs.length : Int) = (ss.length : Int)
     · rw [if_pos h3, all_tells 0 256 ss (by omega) _ (by omega), Option.bind_some]
       cases hs : (ss.all fun x => decide (0 ≤ x) && decide (x ≤ 256)) with
       | false => exact off (by unfold impl_Mix.ok; rw [hs]; simp)
       | true =>
         rw [spec_Mix.j0]
         obtain ⟨k', e1, e2⟩ := spec_mix_l0 ss vs (by omega) (by omega) vs.length (k + 1 + 1) 0 (by omega) (by omega)
         rw [show (0 : Int) = ((0 : Nat) : Int) from rfl, e2, List.drop_zero]
         by_cases h4 : 1 ≤ (vs.getD 0 []).length ∧ (vs.getD 0 []).length ≤ 8
         · rw [vecs_one _ h4.1 h4.2]
           cases hv : vs.all (impl_Mix.one (vs.getD 0 []).length) with
           | false => rw [if_neg (by simp)]; unfold mixOf impl_Mix.ok; rw [hv]; simp
           | true =>
             have hok : impl_Mix.ok ss vs = true := by
               unfold impl_Mix.ok
               rw [hs, hv, decide_eq_true (show ss.length = vs.length by omega), decide_eq_true (show 1 ≤ ss.length by omega), decide_eq_true (show ss.length ≤ 32 by omega), decide_eq_true h4.1, decide_eq_true h4.2]; rfl
             rw [if_pos rfl]
             unfold mixOf
             rw [hok, if_pos rfl]
             have hm := mix_ok ss vs hok
             have hb : (vs.getD 0 []).length * (vs.length + 2) ≤ 8 * 34 := Nat.mul_le_mul h4.2 (by omega)
             have := spec_mix_l1 ss vs _ hm rfl (k' - (vs.getD 0 []).length * (vs.length + 2)) (by omega) (vs.getD 0 []).length 0 (by omega)
             rw [Nat.sub_add_cancel (by omega)] at this
             simpa [mixL] using this
         · have hv : vecsB (vs.getD 0 []).length vs = false := by
             cases hq : vecsB (vs.getD 0 []).length vs with
             | false => rfl
             | true =>
               exfalso
               have h0 : 0 < vs.length := by omega
               have := List.all_eq_true.1 hq vs[0] (List.getElem_mem h0)
               have e0 : vs.getD 0 [] = vs[0] := by simp [List.getD_eq_getElem?_getD, h0]
               rw [e0] at h4
               simp only [Bool.and_eq_true] at this
               have t := this.1
               unfold vecB at t
               simp only [Bool.and_eq_true, decide_eq_true_eq] at t
               exact h4 t.1
           rw [hv, if_neg (by simp)]
           unfold mixOf
           rw [show impl_Mix.ok ss vs = false from by
             unfold impl_Mix.ok
             by_cases h5 : 1 ≤ (vs.getD 0 []).length
             · rw [decide_eq_false (show ¬ (vs.getD 0 []).length ≤ 8 by omega)]; simp
             · rw [decide_eq_false h5]; simp]
           rfl
     · rw [if_neg h3]
       exact off (by unfold impl_Mix.ok; rw [decide_eq_false (show ¬ ss.length = vs.length by omega)]; simp)
   · rw [decide_eq_false h2, if_neg (by simp)]
     exact off (by unfold impl_Mix.ok; rw [decide_eq_false (show ¬ ss.length ≤ 32 by omega)]; simp)
 · rw [if_neg h1, Option.bind_some, if_neg (by simp)]
   exact off (by unfold impl_Mix.ok; rw [decide_eq_false (show ¬ 1 ≤ ss.length by omega)]; simp)

theorem xG (b : List Int) (n : Nat) (hn : n ≤ 100000) (i h : Int) (hc : Cu b i) : ∃ r i' h', (∀ k, n < k → spec_l05X.g k ⟨b, i, h⟩ (n : Int) = some (r, ⟨b, i', h'⟩)) ∧ r.length = n ∧ (∀ z ∈ r, -127 ≤ z ∧ z ≤ 127) ∧ Cu b i' := by
 obtain ⟨r, i', h', hr, g1, g2, g3⟩ := drawList0 b 255 (by omega) (by omega) (fun v => wrap64 (v - 127)) (fun z => -127 ≤ z ∧ z ≤ 127) (fun v a c => by show -127 ≤ wrap64 (v - 127) ∧ wrap64 (v - 127) ≤ 127; rw [w64 (by omega) (by omega)]; omega) n hn (spec_l05X.l0 ⟨b, i, h⟩ (n : Int)) (fun _ _ _ _ _ => rfl) i h hc
 refine ⟨r, i', h', fun k hk => ?_, g1, g2, g3⟩
 unfold spec_l05X.g
 rw [hr k hk, Option.bind_some]
theorem listsG_from (b : List Int) (n z : Nat) (hn : n ≤ 1000) (hz : z ≤ 1000) (i0 h0 : Int) (d : Nat) : ∀ (j : Nat) (acc : List (List Int)) (i h : Int), j + d = n → acc.length = j → Cu b i → (∀ y ∈ acc, y.length = z) →
   ∃ r i' h', (∀ k, d + z + 1 < k → spec_l16Lists.l0 ⟨b, i0, h0⟩ (n : Int) (z : Int) k acc (j : Int) i h = some (r, (n : Int), i', h')) ∧ r.length = n ∧ (∀ y ∈ r, y.length = z) ∧ Cu b i' := by
 induction d with
 | zero =>
   intro j acc i h hj ha hc hz1
   refine ⟨acc, i, h, fun k hk => ?_, by omega, hz1, hc⟩
   obtain ⟨k, rfl⟩ : ∃ m, k = m + 1 := ⟨k - 1, by omega⟩
   show spec_l16Lists.b0 _ _ _ _ k _ _ _ _ = _
   unfold spec_l16Lists.b0
   rw [if_neg (by omega), show (j : Int) = (n : Int) by omega]
 | succ d ih =>
   intro j acc i h hj ha hc hz1
   obtain ⟨y, i1, h1, e, hl, _, hc1⟩ := xG b z (by omega) i h hc
   obtain ⟨r, i', h', hr, hl', hz', hc'⟩ := ih (j + 1) (acc ++ [y]) i1 h1 (by omega) (by simp; omega) hc1 (fun q hq => by
     rcases List.mem_append.1 hq with h | h
     · exact hz1 q h
     · rw [List.mem_singleton.1 h]; exact hl)
   refine ⟨r, i', h', fun k hk => ?_, hl', hz', hc'⟩
   obtain ⟨k, rfl⟩ : ∃ m, k = m + 1 := ⟨k - 1, by omega⟩
   show spec_l16Lists.b0 _ _ _ _ k _ _ _ _ = _
   unfold spec_l16Lists.b0
   rw [if_pos (by omega), e k (by omega), Option.bind_some, if_pos (by omega), w64 (by omega) (by omega), show ((j : Int) + 1) = ((j + 1 : Nat) : Int) by omega]
   exact hr k (by omega)
theorem listsG (b : List Int) (n z : Nat) (hn : n ≤ 1000) (hz : z ≤ 1000) (i h : Int) (hc : Cu b i) :
   ∃ r i' h', (∀ k, n + z + 1 < k → spec_l16Lists.g k ⟨b, i, h⟩ (n : Int) (z : Int) = some (r, ⟨b, i', h'⟩)) ∧ r.length = n ∧ (∀ y ∈ r, y.length = z) ∧ Cu b i' := by
 obtain ⟨r, i', h', hr, g1, g2, g3⟩ := listsG_from b n z hn hz i h n 0 [] i h (by omega) rfl hc (fun y hy => by cases hy)
 refine ⟨r, i', h', fun k hk => ?_, g1, g2, g3⟩
 unfold spec_l16Lists.g
 have e := hr k hk
 rw [show ((0 : Nat) : Int) = 0 from rfl] at e
 rw [e, Option.bind_some]
theorem attendG (l : List Int) (hl : l.length ≤ 1048576) : ∃ q ks vs, (∀ k, 2000000 < k → spec_DrawAttend.g k l = some (q, ks, vs)) ∧ q.length ≤ 8 ∧ ks.length ≤ 8 ∧ (∀ y ∈ ks, y.length ≤ 8) ∧ vs.length ≤ 8 := by
 obtain ⟨h0, e0, c0⟩ := newG l hl
 obtain ⟨n, i1, h1, e1, n0, n1, c1⟩ := belowG 0 l 0 h0 c0 6 (by omega) (by omega)
 obtain ⟨z, i2, h2, e2, z0, z1, c2⟩ := belowG 0 l i1 h1 c1 8 (by omega) (by omega)
 obtain ⟨n, rfl⟩ := Int.eq_ofNat_of_zero_le n0
 obtain ⟨z, rfl⟩ := Int.eq_ofNat_of_zero_le z0
 obtain ⟨ks, i3, h3, e3, k1, k2, c3⟩ := listsG l (n + 1) (z + 1) (by omega) (by omega) i2 h2 c2
 obtain ⟨vs, i4, h4, e4, v1, v2, c4⟩ := listsG l (n + 1) (z + 1) (by omega) (by omega) i3 h3 c3
 obtain ⟨s, i5, h5, e5, s0, s1, c5⟩ := belowG 0 l i4 h4 c4 20 (by omega) (by omega)
 obtain ⟨q, i6, h6, e6, q1, q2, c6⟩ := xG l (z + 1) (by omega) i5 h5 c5
 have wn : wrap64 (1 + (n : Int)) = ((n + 1 : Nat) : Int) := by rw [w64 (by omega) (by omega)]; omega
 have wz : wrap64 (1 + (z : Int)) = ((z + 1 : Nat) : Int) := by rw [w64 (by omega) (by omega)]; omega
 have key : ∀ (ks' vs' : List (List Int)), (∀ k, 2000000 < k → spec_DrawAttend.g k l = (some (ks', vs', i5, h5) : Option (List (List Int) × List (List Int) × Int × Int)).bind (fun oc67 => ((spec_l05X.g k (⟨l, oc67.2.2.1, oc67.2.2.2⟩ : S92) ((z + 1 : Nat) : Int)).bind fun t54 => (some (t54.1, oc67.1, oc67.2.1))))) → ks'.length ≤ 8 → (∀ y ∈ ks', y.length ≤ 8) → vs'.length ≤ 8 →
     ∃ q ks vs, (∀ k, 2000000 < k → spec_DrawAttend.g k l = some (q, ks, vs)) ∧ q.length ≤ 8 ∧ ks.length ≤ 8 ∧ (∀ y ∈ ks, y.length ≤ 8) ∧ vs.length ≤ 8 := fun ks' vs' hk a b c =>
   ⟨q, ks', vs', fun k hk2 => by rw [hk k hk2, Option.bind_some, e6 k (by omega), Option.bind_some], by omega, a, b, c⟩
 have front : ∀ k, 2000000 < k → spec_DrawAttend.g k l = (if s = 0 then (if (0 : Int) ≤ 1 ∧ 1 ≤ (ks.length : Int) then (some ((ks.drop (1 : Int).toNat), vs, i5, h5)) else none) else (if s = 1 then (if (0 : Int) ≤ 0 ∧ 0 < ((vs.length : Nat) : Int) then (if (0 : Int) ≤ 0 ∧ 0 < (((vs.getD (0 : Int).toNat []).length : Nat) : Int) then (some (ks, (vs.set (0 : Int).toNat ((vs.getD (0 : Int).toNat []).set (0 : Int).toNat 128)), i5, h5)) else none) else none) else (some (ks, vs, i5, h5))) : Option (List (List Int) × List (List Int) × Int × Int)).bind (fun oc67 => ((spec_l05X.g k (⟨l, oc67.2.2.1, oc67.2.2.2⟩ : S92) ((z + 1 : Nat) : Int)).bind fun t54 => (some (t54.1, oc67.1, oc67.2.1)))) := fun k hk => by
   unfold spec_DrawAttend.g
   rw [e0 k (by omega), Option.bind_some, belowG_k k 0, e1, Option.bind_some]
   dsimp only
   rw [belowG_k k 0, e2, Option.bind_some]
   dsimp only
   rw [wn, wz, e3 k (by omega), Option.bind_some]
   dsimp only
   rw [e4 k (by omega), Option.bind_some]
   dsimp only
   rw [belowG_k k 0, e5, Option.bind_some]
 by_cases s0' : s = 0
 · refine key (ks.drop (1 : Int).toNat) vs (fun k hk => by rw [front k hk, if_pos s0', if_pos (by omega)]) (by rw [List.length_drop]; omega) (fun y hy => by have := k2 y (List.mem_of_mem_drop hy); omega) (by omega)
 · by_cases s1' : s = 1
   · have hv0 : (vs.getD (0 : Int).toNat []).length = z + 1 := by
       rw [Int.toNat_zero, List.getD_eq_getElem?_getD, List.getElem?_eq_getElem (by omega)]
       exact v2 _ (List.getElem_mem _)
     refine key ks (vs.set (0 : Int).toNat ((vs.getD (0 : Int).toNat []).set (0 : Int).toNat 128)) (fun k hk => by rw [front k hk, if_neg s0', if_pos s1', if_pos (by omega), if_pos (by omega)]) (by omega) (fun y hy => by have := k2 y hy; omega) (by rw [List.length_set]; omega)
   · exact key ks vs (fun k hk => by rw [front k hk, if_neg s0', if_neg s1']) (by omega) (fun y hy => by have := k2 y hy; omega) (by omega)

theorem spec_vec (x : List Int) (hl : x.length ≤ 1048576) (k : Nat) (hk : x.length < k) : spec_l16Vec.f k x = some (vecB x) := by
 unfold spec_l16Vec.f spec_l01In.f vecB
 by_cases h1 : (x.length : Int) ≥ 1
 · rw [if_pos h1, Option.bind_some]
   by_cases h2 : (x.length : Int) ≤ 8
   · rw [decide_eq_true h2, if_pos rfl, all_tells (-127) 127 x (by omega) k hk, Option.bind_some, decide_eq_true (show 1 ≤ x.length by omega), decide_eq_true (show x.length ≤ 8 by omega)]; rfl
   · rw [decide_eq_false h2, if_neg (by simp), decide_eq_false (show ¬ x.length ≤ 8 by omega)]; simp
 · rw [if_neg h1, Option.bind_some, if_neg (by simp), decide_eq_false (show ¬ 1 ≤ x.length by omega)]; rfl

theorem score_from (x y : List Int) (hx : vecB x = true) (hy : vecB y = true) (hab : x.length = y.length) (hl : x.length ≤ 8) (d : Nat) : ∀ (i : Nat) (s : Int), i + d = x.length → -(16129 * (i : Int)) ≤ s → s ≤ 16129 * (i : Int) →
   ∃ r, (∀ k, d + 3 < k → spec_Score.l0 k x y s (i : Int) = some (r, true)) ∧ (∀ k, d + 3 < k → impl_Score.l0 k y s x (x.length : Int) (i : Int) = some (r, true)) := by
 induction d with
 | zero =>
   intro i s h h0 h1
   refine ⟨floorZ s 16, fun k hk => ?_, fun k hk => ?_⟩
   · obtain ⟨k, rfl⟩ : ∃ m, k = m + 1 := ⟨k - 1, by omega⟩
     rw [spec_Score.l0, if_neg (by omega), spec_floor s 16 (by omega) (by omega) (by omega), Option.bind_some]
   · obtain ⟨k, rfl⟩ : ∃ m, k = m + 1 := ⟨k - 1, by omega⟩
     rw [impl_Score.l0, if_neg (by omega), impl_floor s 16 (by omega) (by omega) (by omega) k (by omega), Option.bind_some]
 | succ d ih =>
   intro i s h h0 h1
   have ha := vec_at x hx i (by omega)
   have hb := vec_at y hy i (by omega)
   have hm := mul_bd (rd x (i : Int)) (rd y (i : Int)) 127 (by omega) (by omega) (by omega) (by omega)
   obtain ⟨r, r1, r2⟩ := ih (i + 1) (s + rd x (i : Int) * rd y (i : Int)) (by omega) (by omega) (by omega)
   refine ⟨r, fun k hk => ?_, fun k hk => ?_⟩
   · obtain ⟨k, rfl⟩ : ∃ m, k = m + 1 := ⟨k - 1, by omega⟩
     rw [spec_Score.l0, if_pos (by omega), if_pos (by omega), if_pos (by omega), w64 (i := rd x (i : Int) * rd y (i : Int)) (by omega) (by omega), w64 (i := s + rd x (i : Int) * rd y (i : Int)) (by omega) (by omega), w64 (i := (i : Int) + 1) (by omega) (by omega), show ((i : Int) + 1) = ((i + 1 : Nat) : Int) by omega]
     exact r1 k (by omega)
   · obtain ⟨k, rfl⟩ : ∃ m, k = m + 1 := ⟨k - 1, by omega⟩
     rw [impl_Score.l0, if_pos (by omega), if_pos (by omega), if_pos (by omega), if_pos (by omega), w64 (i := rd x (i : Int) * rd y (i : Int)) (by omega) (by omega), w64 (i := s + rd x (i : Int) * rd y (i : Int)) (by omega) (by omega), w64 (i := (i : Int) + 1) (by omega) (by omega), show ((i : Int) + 1) = ((i + 1 : Nat) : Int) by omega]
     exact r2 k (by omega)
theorem score_both (x y : List Int) (hl : x.length ≤ 1048576) (hl' : y.length ≤ 1048576) :
   ∃ C : Int × Bool, (∀ k, x.length + y.length + 20 < k → spec_Score.f k x y = some C) ∧ (∀ k, x.length + y.length + 20 < k → impl_Score.f k x y = some C) := by
 by_cases hab : x.length = y.length
 · by_cases hB : vecB x = true ∧ vecB y = true
   · have hB1 := hB.1
     unfold vecB at hB1
     simp only [Bool.and_eq_true, decide_eq_true_eq] at hB1
     have hB2 := hB.2
     unfold vecB at hB2
     simp only [Bool.and_eq_true, decide_eq_true_eq] at hB2
     obtain ⟨r, r1, r2⟩ := score_from x y hB.1 hB.2 hab hB1.1.2 x.length 0 0 (by omega) (by omega) (by omega)
     refine ⟨(r, true), fun k hk => ?_, fun k hk => ?_⟩
     · obtain ⟨k, rfl⟩ : ∃ m, k = m + 1 := ⟨k - 1, by omega⟩
       unfold spec_Score.f
       rw [spec_vec x hl _ (by omega), hB.1, Option.bind_some, if_pos rfl, spec_vec y hl' _ (by omega), hB.2, Option.bind_some, if_pos rfl, spec_Score.j0, if_neg (by simp; omega)]
       exact r1 k (by omega)
     · obtain ⟨k, rfl⟩ : ∃ m, k = m + 1 := ⟨k - 1, by omega⟩
       unfold impl_Score.f impl_in.f impl_allIn.f
       rw [if_pos (by omega), if_pos (by omega), decide_eq_true (by omega), Option.bind_some, if_pos rfl, hB1.2, Option.bind_some, if_pos rfl, hB2.2, Option.bind_some, impl_Score.j0, if_neg (by simp)]
       exact r2 k (by omega)
   · refine ⟨(0, false), fun k hk => ?_, fun k hk => ?_⟩
     · obtain ⟨k, rfl⟩ : ∃ m, k = m + 1 := ⟨k - 1, by omega⟩
       unfold spec_Score.f
       rw [spec_vec x hl _ (by omega), Option.bind_some]
       by_cases h1 : vecB x = true
       · rw [if_pos h1, spec_vec y hl' _ (by omega), Option.bind_some, if_neg (fun h => hB ⟨h1, h⟩), spec_Score.j0, if_pos rfl]
       · rw [if_neg h1, spec_Score.j0, if_pos rfl]
     · obtain ⟨k, rfl⟩ : ∃ m, k = m + 1 := ⟨k - 1, by omega⟩
       unfold impl_Score.f impl_in.f impl_allIn.f
       rw [if_pos (by omega)]
       have hB' : ¬ ((1 ≤ x.length ∧ x.length ≤ 8) ∧ (x.all fun z => decide (-127 ≤ z) && decide (z ≤ 127)) = true ∧ (y.all fun z => decide (-127 ≤ z) && decide (z ≤ 127)) = true) := by
         rintro ⟨⟨h1, h2⟩, h3, h4⟩
         exact hB ⟨by unfold vecB; rw [h3]; simp [h1, h2], by unfold vecB; rw [h4]; simp [← hab, h1, h2]⟩
       by_cases g1 : (x.length : Int) ≥ 1
       · rw [if_pos g1, Option.bind_some]
         by_cases g2 : (x.length : Int) ≤ 8
         · rw [decide_eq_true g2, if_pos rfl, Option.bind_some]
           by_cases g3 : (x.all fun z => decide (-127 ≤ z) && decide (z ≤ 127)) = true
           · rw [if_pos g3, Option.bind_some, impl_Score.j0, if_pos]
             by_cases g4 : (y.all fun z => decide (-127 ≤ z) && decide (z ≤ 127)) = true
             · exact absurd ⟨⟨by omega, by omega⟩, g3, g4⟩ hB'
             · simpa using g4
           · rw [if_neg g3, impl_Score.j0, if_pos rfl]
         · rw [decide_eq_false g2, if_neg (by simp), impl_Score.j0, if_pos rfl]
       · rw [if_neg g1, Option.bind_some, if_neg (by simp), impl_Score.j0, if_pos rfl]
 · refine ⟨(0, false), fun k hk => ?_, fun k hk => ?_⟩
   · obtain ⟨k, rfl⟩ : ∃ m, k = m + 1 := ⟨k - 1, by omega⟩
     unfold spec_Score.f
     rw [spec_vec x hl _ (by omega), Option.bind_some]
     by_cases h1 : vecB x = true
     · rw [if_pos h1, spec_vec y hl' _ (by omega), Option.bind_some]
       by_cases h2 : vecB y = true
       · rw [if_pos h2, spec_Score.j0, if_pos (by simp; omega)]
       · rw [if_neg h2, spec_Score.j0, if_pos rfl]
     · rw [if_neg h1, spec_Score.j0, if_pos rfl]
   · obtain ⟨k, rfl⟩ : ∃ m, k = m + 1 := ⟨k - 1, by omega⟩
     unfold impl_Score.f
     rw [if_neg (by omega), impl_Score.j0, if_pos rfl]

def pw (s : Int) : Int := 2 ^ s.toNat
theorem pw_pos (s : Int) : 0 < pw s := by unfold pw; exact Int.pow_pos (by omega)
theorem pw_succ (n : Nat) : pw ((n : Int) + 1) = 2 * pw (n : Int) := by
 unfold pw
 rw [show ((n : Int) + 1).toNat = n + 1 by omega, Int.pow_succ, Int.mul_comm, Int.toNat_natCast]
theorem pw_bd (s : Int) (h : s ≤ 24) : pw s ≤ 16777216 := by
 unfold pw
 have : (2 : Nat) ^ s.toNat ≤ 2 ^ 24 := Nat.pow_le_pow_right (by omega) (by omega)
 have h2 : ((2 ^ s.toNat : Nat) : Int) ≤ ((2 ^ 24 : Nat) : Int) := Int.ofNat_le.2 this
 rw [Int.natCast_pow] at h2
 exact h2
theorem pow_from (n : Nat) (hn : n ≤ 24) (d : Nat) : ∀ (k i : Nat), i + d = n → d < k → spec_l03Pow.l0 k (n : Int) (pw (i : Int)) (i : Int) = some (pw (n : Int)) := by
 induction d with
 | zero =>
   intro k i h hk
   obtain ⟨k, rfl⟩ := k1_ hk
   obtain rfl : i = n := by omega
   rw [spec_l03Pow.l0, if_neg (by omega)]
 | succ d ih =>
   intro k i h hk
   obtain ⟨k, rfl⟩ := k1_ hk
   have h1 := pw_bd (i : Int) (by omega)
   have h2 := pw_pos (i : Int)
   rw [spec_l03Pow.l0, if_pos (by omega), w64 (i := 2 * pw (i : Int)) (by omega) (by omega), w64 (i := (i : Int) + 1) (by omega) (by omega), ← pw_succ]
   exact ih k (i + 1) (by omega) (by omega)
theorem spec_pow (n : Int) (h0 : 0 ≤ n) (h1 : n ≤ 24) (k : Nat) (hk : 24 < k) : spec_l03Pow.f k n = some (pw n) := by
 obtain ⟨n, rfl⟩ := Int.eq_ofNat_of_zero_le h0
 unfold spec_l03Pow.f
 exact pow_from n (by omega) n k 0 (by omega) (by omega)
def expV (x : Int) : Int := 256 - (-x) % 177 + ((-x) % 177 * ((-x) % 177)) / 512
def expZ (x : Int) : Int := if x < -4000 then 0 else expV x / pw ((-x) / 177)
theorem exp_sq (x : Int) : 0 ≤ (-x) % 177 * ((-x) % 177) ∧ (-x) % 177 * ((-x) % 177) ≤ 176 * ((-x) % 177) := by
 have h1 : 0 ≤ (-x) % 177 := by omega
 have h2 : (-x) % 177 ≤ 176 := by omega
 exact ⟨Int.mul_nonneg h1 h1, Int.mul_le_mul_of_nonneg_right h2 h1⟩
theorem expV_bd (x : Int) : 0 ≤ expV x ∧ expV x ≤ 256 := by
 have := exp_sq x
 unfold expV
 omega
theorem expZ_bd (x : Int) : 0 ≤ expZ x ∧ expZ x ≤ 256 := by
 unfold expZ
 split
 · omega
 · have h := expV_bd x
   have h1 := Int.ediv_nonneg h.1 (Int.le_of_lt (pw_pos ((-x) / 177)))
   have h2 : expV x / pw ((-x) / 177) ≤ expV x := Int.ediv_le_self _ h.1
   omega
theorem expZ_zero : expZ 0 = 256 := by decide
theorem impl_exp (x : Int) (h0 : -1000000 ≤ x) (h1 : x ≤ 0) : impl_Exp.f x = some (expZ x) := by
 unfold impl_Exp.f expZ
 by_cases h : x < -4000
 · rw [if_pos h, if_pos h]
 · have hq := exp_sq x
   have hv := expV_bd x
   have hv2 : 256 - (-x) % 177 + ((-x) % 177 * ((-x) % 177)) / 512 = expV x := rfl
   rw [if_neg h, if_neg (by omega), if_neg h, w64 (i := -x) (by omega) (by omega), Int.tdiv_eq_ediv_of_nonneg (by omega), Int.tmod_eq_emod_of_nonneg (by omega), w64 (i := -x / 177) (by omega) (by omega), if_pos (by omega),
     w64 (i := 256 - -x % 177) (by omega) (by omega), w64 (i := -x % 177 * (-x % 177)) (by omega) (by omega), Int.tdiv_eq_ediv_of_nonneg (by omega), w64 (i := -x % 177 * (-x % 177) / 512) (by omega) (by omega), hv2, w64 (i := expV x) (by omega) (by omega)]
   unfold shr pw
   rw [show min (-x / 177).toNat IntKind.i64.bits = (-x / 177).toNat by rw [Nat.min_eq_left]; show (-x / 177).toNat ≤ 64; omega]
theorem spec_exp (x : Int) (h0 : -1000000 ≤ x) (h1 : x ≤ 0) (k : Nat) (hk : 24 < k) : spec_Exp.f k x = some (expZ x) := by
 unfold spec_Exp.f expZ
 by_cases h : x < -4000
 · rw [if_neg (by omega), if_pos h, if_pos h]
 · have hq := exp_sq x
   have hv := expV_bd x
   have hv2 : 256 - (-x) % 177 + ((-x) % 177 * ((-x) % 177)) / 512 = expV x := rfl
   have hp := pw_pos (-x / 177)
   have hd := expZ_bd x
   unfold expZ at hd
   rw [if_neg h] at hd
   rw [if_neg (by omega), if_neg h, if_neg h, w64 (i := -x) (by omega) (by omega), Int.tdiv_eq_ediv_of_nonneg (a := -x) (by omega), Int.tmod_eq_emod_of_nonneg (by omega), w64 (i := -x / 177) (by omega) (by omega), spec_pow _ (by omega) (by omega) k hk, Option.bind_some, if_neg (by omega),
     w64 (i := 256 - -x % 177) (by omega) (by omega), w64 (i := -x % 177 * (-x % 177)) (by omega) (by omega), Int.tdiv_eq_ediv_of_nonneg (a := -x % 177 * (-x % 177)) (by omega), w64 (i := -x % 177 * (-x % 177) / 512) (by omega) (by omega), hv2, w64 (i := expV x) (by omega) (by omega), Int.tdiv_eq_ediv_of_nonneg (by omega), w64 (by omega) (by omega)]
def eL (l : List Int) (g : Int) (n : Nat) : List Int := (List.range n).map fun (i : Nat) => expZ (rd l (i : Int) - g)
def eS (l : List Int) (g : Int) : Nat → Int
 | 0 => 0
 | n + 1 => eS l g n + expZ (rd l (n : Int) - g)
theorem eL_succ (l : List Int) (g : Int) (n : Nat) : eL l g (n + 1) = eL l g n ++ [expZ (rd l (n : Int) - g)] := by simp [eL, List.range_succ]
theorem eL_len (l : List Int) (g : Int) (n : Nat) : (eL l g n).length = n := by simp [eL]
theorem eS_bd (l : List Int) (g : Int) : ∀ n, 0 ≤ eS l g n ∧ eS l g n ≤ 256 * (n : Int)
 | 0 => by simp [eS]
 | n + 1 => by
   have ih := eS_bd l g n
   have := expZ_bd (rd l (n : Int) - g)
   rw [eS]
   omega
theorem eS_has (l : List Int) (g : Int) (i : Nat) (h : rd l (i : Int) = g) : ∀ n, i < n → 256 ≤ eS l g n
 | 0, hi => by omega
 | n + 1, hi => by
   have := expZ_bd (rd l (n : Int) - g)
   have b := eS_bd l g n
   rw [eS]
   by_cases e : i = n
   · subst e
     rw [h, Int.sub_self, expZ_zero]
     omega
   · have := eS_has l g i h n (by omega)
     omega
theorem max_facts (l : List Int) (m : Int) (hb : ∀ i : Nat, i < l.length → -m ≤ rd l (i : Int) ∧ rd l (i : Int) ≤ m) : ∀ n, n < l.length → (∃ i, i ≤ n ∧ rd l (i : Int) = slices_Max_int_int.to l n) ∧ (∀ i : Nat, i ≤ n → rd l (i : Int) ≤ slices_Max_int_int.to l n) ∧ -m ≤ slices_Max_int_int.to l n ∧ slices_Max_int_int.to l n ≤ m
 | 0, h => by
   have := hb 0 h
   exact ⟨⟨0, Nat.le_refl _, rfl⟩, fun i hi => (by obtain rfl : i = 0 := (by omega); exact Int.le_refl _), this.1, this.2⟩
 | n + 1, h => by
   obtain ⟨⟨i, hi, e⟩, h2, h3, h4⟩ := max_facts l m hb n (by omega)
   have hn := hb (n + 1) h
   rw [slices_Max_int_int.to]
   unfold mx
   by_cases c : slices_Max_int_int.to l n < rd l ((n + 1 : Nat) : Int)
   · rw [if_pos c]
     refine ⟨⟨n + 1, Nat.le_refl _, rfl⟩, fun j hj => ?_, hn.1, hn.2⟩
     by_cases ej : j = n + 1
     · subst ej; exact Int.le_refl _
     · have := h2 j (by omega); omega
   · rw [if_neg c]
     refine ⟨⟨i, by omega, e⟩, fun j hj => ?_, h3, h4⟩
     by_cases ej : j = n + 1
     · subst ej; omega
     · exact h2 j (by omega)
def sharesOf (l : List Int) : List Int × Bool := if impl_Shares.ok l then ((eL l (slices_Max_int_int.to l (l.length - 1)) l.length).map (impl_Shares.part (eS l (slices_Max_int_int.to l (l.length - 1)) l.length)), true) else ([], false)
structure ShOk (l : List Int) (g : Int) : Prop where
 l1 : 1 ≤ l.length
 l2 : l.length ≤ 32
 b : ∀ i : Nat, i < l.length → -100000 ≤ rd l (i : Int) ∧ rd l (i : Int) ≤ 100000
 g1 : -100000 ≤ g
 g2 : g ≤ 100000
 t : ∀ i : Nat, i < l.length → rd l (i : Int) ≤ g
 e : ∃ i : Nat, i < l.length ∧ rd l (i : Int) = g
theorem sh_ok (l : List Int) (h : impl_Shares.ok l = true) : ShOk l (slices_Max_int_int.to l (l.length - 1)) := by
 unfold impl_Shares.ok at h
 simp only [Bool.and_eq_true, decide_eq_true_eq, List.all_eq_true] at h
 obtain ⟨⟨h1, h2⟩, h3⟩ := h
 have hb : ∀ i : Nat, i < l.length → -100000 ≤ rd l (i : Int) ∧ rd l (i : Int) ≤ 100000 := fun i hi => h3 _ (by rw [rd_get l i hi]; exact List.getElem_mem hi)
 obtain ⟨⟨i, hi, e⟩, a, b, c⟩ := max_facts l 100000 hb (l.length - 1) (by omega)
 exact ⟨h1, h2, hb, b, c, fun j hj => a j (by omega), i, by omega, e⟩
theorem impl_es (l : List Int) (g : Int) (h : ShOk l g) : ∀ n, n ≤ l.length → impl_Shares.es l g n = some (eL l g n, eS l g n)
 | 0, _ => rfl
 | n + 1, hn => by
   have b := h.b n (by omega)
   have t := h.t n (by omega)
   have g1 := h.g1
   have g2 := h.g2
   have s := eS_bd l g n
   have e := expZ_bd (rd l (n : Int) - g)
   have l2 := h.l2
   rw [impl_Shares.es, impl_es l g h n (by omega), Option.bind_some, w64 (i := rd l (n : Int) - g) (by omega) (by omega), impl_exp _ (by omega) (by omega), Option.bind_some, eL_succ, eS]
   show some (_, wrap64 (eS l g n + _)) = _
   rw [w64 (by omega) (by omega)]
theorem impl_shares (l : List Int) : impl_Shares.f l = some (sharesOf l) := by
 unfold impl_Shares.f sharesOf
 cases hok : impl_Shares.ok l with
 | false => rw [if_neg (by simp), if_neg (by simp)]
 | true =>
   have h := sh_ok l hok
   obtain ⟨i, hi, e⟩ := h.e
   have := eS_has l _ i e l.length hi
   rw [if_pos rfl, if_pos rfl]
   unfold slices_Max_int_int.f
   rw [if_pos (by omega), Option.bind_some, impl_es l _ h l.length (Nat.le_refl _), Option.bind_some, if_neg (by show ¬ eS l _ l.length = 0; omega)]
theorem spec_sh_l0 (l : List Int) (hl : l.length ≤ 32) (h1 : 1 ≤ l.length) (k : Nat) (d : Nat) : ∀ i, i + d = l.length →
   spec_Shares.l0 (k + d + 1) l [] (slices_Max_int_int.to l (i - 1)) (i : Int) = spec_Shares.l1 k l [] (slices_Max_int_int.to l (l.length - 1)) 0 0 := by
 induction d with
 | zero =>
   intro i hi
   obtain rfl : i = l.length := by omega
   rw [spec_Shares.l0, if_neg (by omega)]
 | succ d ih =>
   intro i hi
   have ih := ih (i + 1) (by omega)
   rw [show k + (d + 1) + 1 = (k + d + 1) + 1 by omega, spec_Shares.l0, if_pos (by omega), if_pos (by omega), w64 (i := (i : Int) + 1) (by omega) (by omega), show ((i : Int) + 1) = ((i + 1 : Nat) : Int) by omega]
   rw [Nat.add_sub_cancel] at ih
   cases i with
   | zero =>
     have e : slices_Max_int_int.to l (0 - 1) = rd l 0 := rfl
     have e2 : slices_Max_int_int.to l 0 = rd l 0 := rfl
     rw [e2] at ih
     rw [e, if_neg (by show ¬ rd l 0 > rd l 0; omega)]
     exact ih
   | succ i =>
     rw [slices_Max_int_int.to] at ih
     unfold mx at ih
     rw [Nat.add_sub_cancel]
     by_cases c : slices_Max_int_int.to l i < rd l ((i + 1 : Nat) : Int)
     · rw [if_pos c] at ih
       rw [if_pos c]
       exact ih
     · rw [if_neg c] at ih
       rw [if_neg c]
       exact ih
theorem spec_sh_l1 (l : List Int) (g : Int) (h : ShOk l g) (k : Nat) (hk : 26 ≤ k) (d : Nat) : ∀ i, i + d = l.length →
   spec_Shares.l1 (k + d + 1) l [] g (eS l g i) (i : Int) = spec_Shares.l2 k l [] g (eS l g l.length) 0 := by
 induction d with
 | zero =>
   intro i hi
   obtain rfl : i = l.length := by omega
   rw [spec_Shares.l1, if_neg (by omega)]
 | succ d ih =>
   intro i hi
   have b := h.b i (by omega)
   have t := h.t i (by omega)
   have g1 := h.g1
   have g2 := h.g2
   have s := eS_bd l g i
   have e := expZ_bd (rd l (i : Int) - g)
   have l2 := h.l2
   have ih := ih (i + 1) (by omega)
   rw [eS] at ih
   rw [show k + (d + 1) + 1 = (k + d + 1) + 1 by omega, spec_Shares.l1, if_pos (by omega), if_pos (by omega), w64 (i := rd l (i : Int) - g) (by omega) (by omega), spec_exp _ (by omega) (by omega) _ (by omega), Option.bind_some, w64 (i := eS l g i + _) (by omega) (by omega), w64 (i := (i : Int) + 1) (by omega) (by omega), show ((i : Int) + 1) = ((i + 1 : Nat) : Int) by omega]
   exact ih
theorem spec_sh_l2 (l : List Int) (g : Int) (h : ShOk l g) (s : Int) (hs : s ≠ 0) (k : Nat) (hk : 26 ≤ k) (d : Nat) : ∀ i, i + d = l.length →
   spec_Shares.l2 (k + d + 1) l ((eL l g i).map (impl_Shares.part s)) g s (i : Int) = some ((eL l g l.length).map (impl_Shares.part s), true) := by
 induction d with
 | zero =>
   intro i hi
   obtain rfl : i = l.length := by omega
   rw [spec_Shares.l2, if_neg (by omega)]
 | succ d ih =>
   intro i hi
   have b := h.b i (by omega)
   have t := h.t i (by omega)
   have g1 := h.g1
   have g2 := h.g2
   have l2 := h.l2
   have ih := ih (i + 1) (by omega)
   rw [eL_succ, List.map_append] at ih
   rw [show k + (d + 1) + 1 = (k + d + 1) + 1 by omega, spec_Shares.l2, if_pos (by omega), if_pos (by omega), w64 (i := rd l (i : Int) - g) (by omega) (by omega), spec_exp _ (by omega) (by omega) _ (by omega), Option.bind_some, if_neg hs, if_pos (by rw [List.length_map, eL_len]; omega), w64 (i := (i : Int) + 1) (by omega) (by omega), show ((i : Int) + 1) = ((i + 1 : Nat) : Int) by omega]
   exact ih
theorem spec_shares (l : List Int) (k : Nat) (hk : 200 ≤ k) : spec_Shares.f k l = some (sharesOf l) := by
 unfold spec_Shares.f spec_l01In.f sharesOf
 obtain ⟨k, rfl⟩ : ∃ m, k = m + 1 := ⟨k - 1, by omega⟩
 rw [Option.bind_some]
 by_cases h1 : (l.length : Int) ≥ 1
 · rw [if_pos h1, Option.bind_some]
   by_cases h2 : (l.length : Int) ≤ 32
   · rw [decide_eq_true h2, if_pos rfl, all_tells (-100000) 100000 l (by omega) _ (by omega), Option.bind_some, spec_Shares.j0]
     have e : impl_Shares.ok l = (l.all fun x => decide (-100000 ≤ x) && decide (x ≤ 100000)) := by
       unfold impl_Shares.ok; rw [decide_eq_true (show 1 ≤ l.length by omega), decide_eq_true (show l.length ≤ 32 by omega)]; simp
     rw [← e]
     cases hok : impl_Shares.ok l with
     | false => simp
     | true =>
       have h := sh_ok l hok
       obtain ⟨i, hi, e⟩ := h.e
       have := eS_has l _ i e l.length hi
       obtain ⟨m, hm⟩ : ∃ m, k = m + l.length + 1 + l.length + 1 + l.length + 1 := ⟨k - (3 * l.length + 3), by omega⟩
       rw [if_neg (by simp), if_pos (by omega), if_pos rfl, hm]
       have a := spec_sh_l0 l (by omega) (by omega) (m + l.length + 1 + l.length + 1) l.length 0 (by omega)
       have b := spec_sh_l1 l _ h (m + l.length + 1) (by omega) l.length 0 (by omega)
       have c := spec_sh_l2 l _ h (eS l (slices_Max_int_int.to l (l.length - 1)) l.length) (by omega) m (by omega) l.length 0 (by omega)
       exact (a.trans (b.trans c))
   · rw [decide_eq_false h2, if_neg (by simp), spec_Shares.j0, if_pos rfl, if_neg (by unfold impl_Shares.ok; rw [decide_eq_false (show ¬ l.length ≤ 32 by omega)]; simp)]
 · rw [if_neg h1, Option.bind_some, if_neg (by simp), spec_Shares.j0, if_pos rfl, if_neg (by unfold impl_Shares.ok; rw [decide_eq_false (show ¬ 1 ≤ l.length by omega)]; simp)]
open Classical in
/-- what Score tells. -/
noncomputable def scoreOf (x y : List Int) : Int × Bool := if h : x.length ≤ 1048576 ∧ y.length ≤ 1048576 then (score_both x y h.1 h.2).choose else (0, false)
theorem scoreOf_spec (x y : List Int) (h1 : x.length ≤ 1048576) (h2 : y.length ≤ 1048576) (k : Nat) (hk : x.length + y.length + 20 < k) : spec_Score.f k x y = some (scoreOf x y) := by
 unfold scoreOf; rw [dif_pos ⟨h1, h2⟩]; exact (score_both x y h1 h2).choose_spec.1 k hk
theorem scoreOf_impl (x y : List Int) (h1 : x.length ≤ 1048576) (h2 : y.length ≤ 1048576) (k : Nat) (hk : x.length + y.length + 20 < k) : impl_Score.f k x y = some (scoreOf x y) := by
 unfold scoreOf; rw [dif_pos ⟨h1, h2⟩]; exact (score_both x y h1 h2).choose_spec.2 k hk
noncomputable def scAll (q : List Int) (ks : List (List Int)) : Bool := ks.all fun y => (scoreOf q y).2
noncomputable def scMap (q : List Int) (ks : List (List Int)) : List Int := ks.map fun y => (scoreOf q y).1
theorem scMap_snoc (q : List Int) (ks : List (List Int)) (i : Nat) (h : i < ks.length) : scMap q (ks.take (i + 1)) = scMap q (ks.take i) ++ [(scoreOf q ks[i]).1] := by
 unfold scMap; rw [List.take_succ_eq_append_getElem h, List.map_append]; rfl
theorem scMap_len (q : List Int) (ks : List (List Int)) : (scMap q ks).length = ks.length := by unfold scMap; rw [List.length_map]
theorem impl_scores_from (q : List Int) (ks : List (List Int)) (hq : q.length ≤ 1048576) (hl : ks.length ≤ 1048576) (hk : ∀ y ∈ ks, y.length ≤ 1048576) (d : Nat) : ∀ (k i : Nat), i + d = ks.length → d + 2097200 < k →
   impl_scores.l0 k q (scMap q (ks.take i)) ks (ks.length : Int) (i : Int) = if scAll q (ks.drop i) then some (scMap q ks, true) else some ([], false) := by
 induction d with
 | zero =>
   intro k i hi hk2
   obtain ⟨k, rfl⟩ : ∃ m, k = m + 1 := ⟨k - 1, by omega⟩
   obtain rfl : i = ks.length := by omega
   rw [impl_scores.l0, if_neg (by omega), List.drop_length, List.take_length]; rfl
 | succ d ih =>
   intro k i hi hk2
   obtain ⟨k, rfl⟩ : ∃ m, k = m + 1 := ⟨k - 1, by omega⟩
   have hlt : i < ks.length := by omega
   have ev : rd_L3 ks (i : Int) = ks[i] := by rw [rdL_at]; simp [List.getD_eq_getElem?_getD, hlt]
   have hy := hk ks[i] (List.getElem_mem hlt)
   rw [impl_scores.l0, if_pos (by omega), if_pos (by omega), if_pos (by omega), ev, scoreOf_impl q _ hq hy k (by omega), Option.bind_some, List.drop_eq_getElem_cons hlt]
   have ec : scAll q (ks[i] :: ks.drop (i + 1)) = ((scoreOf q ks[i]).2 && scAll q (ks.drop (i + 1))) := by unfold scAll; rw [List.all_cons]
   rw [ec]
   cases hb : (scoreOf q ks[i]).2 with
   | false => rw [if_neg (by simp)]; simp
   | true =>
     rw [if_pos rfl, if_pos (by rw [scMap_len, List.length_take]; omega), w64 (i := (i : Int) + 1) (by omega) (by omega), show ((i : Int) + 1) = ((i + 1 : Nat) : Int) by omega, ← scMap_snoc q ks i hlt, ih k (i + 1) (by omega) (by omega)]
     simp
noncomputable def attendOf (q : List Int) (ks vs : List (List Int)) : List Int × Bool :=
 if ks.length ≤ 32 ∧ scAll q ks = true then (if (sharesOf (scMap q ks)).2 = true then mixOf (sharesOf (scMap q ks)).1 vs else ([], false)) else ([], false)
theorem impl_attend (q : List Int) (ks vs : List (List Int)) (hq : q.length ≤ 1048576) (hl : ks.length ≤ 1048576) (hk : ∀ y ∈ ks, y.length ≤ 1048576) (k : Nat) (hk2 : 3145800 < k) : impl_Attend.f k q ks vs = some (attendOf q ks vs) := by
 unfold impl_Attend.f impl_scores.f attendOf
 have := impl_scores_from q ks hq hl hk ks.length k 0 (by omega) (by omega)
 rw [List.drop_zero] at this
 have e : impl_scores.l0 k q [] ks (ks.length : Int) 0 = if scAll q ks = true then some (scMap q ks, true) else some ([], false) := this
 rw [e]
 cases hs : scAll q ks with
 | false => simp
 | true =>
   rw [if_pos rfl, Option.bind_some]
   show (if true = true then _ else _) = _
   rw [if_pos rfl, impl_shares, Option.bind_some]
   by_cases h32 : ks.length ≤ 32
   · rw [if_pos (show ks.length ≤ 32 ∧ true = true from ⟨h32, rfl⟩)]
     show (if (sharesOf (scMap q ks)).2 = true then _ else _) = _
     cases hb : (sharesOf (scMap q ks)).2 with
     | false => simp
     | true =>
       rw [if_pos rfl, if_pos rfl, impl_mix, Option.bind_some]
   · rw [if_neg (show ¬ (ks.length ≤ 32 ∧ true = true) from fun h => h32 h.1)]
     show (if (sharesOf (scMap q ks)).2 = true then _ else _) = _
     rw [show (sharesOf (scMap q ks)).2 = false from by
       unfold sharesOf
       rw [if_neg (by unfold impl_Shares.ok; rw [decide_eq_false (show ¬ (scMap q ks).length ≤ 32 by rw [scMap_len]; omega)]; simp)]]
     simp
theorem spec_attend_from (q : List Int) (ks vs : List (List Int)) (hq : q.length ≤ 1048576) (hl : ks.length ≤ 32) (hk : ∀ y ∈ ks, y.length ≤ 1048576) (d : Nat) : ∀ (k i : Nat), i + d = ks.length → 2 * d + 2098000 < k →
   spec_Attend.l0 k q ks vs (scMap q (ks.take i)) (i : Int) = if scAll q (ks.drop i) then some (if (sharesOf (scMap q ks)).2 = true then mixOf (sharesOf (scMap q ks)).1 vs else ([], false)) else some ([], false) := by
 induction d with
 | zero =>
   intro k i hi hk2
   obtain ⟨k, rfl⟩ : ∃ m, k = m + 1 + 1 := ⟨k - 2, by omega⟩
   obtain rfl : i = ks.length := by omega
   rw [spec_Attend.l0, if_neg (by omega), spec_Attend.j1, if_neg (by simp), List.drop_length, List.take_length, spec_shares _ k (by omega), Option.bind_some, if_pos (show scAll q [] = true from rfl)]
   cases hb : (sharesOf (scMap q ks)).2 with
   | false => rw [if_neg (by simp), if_neg (by simp)]
   | true => rw [if_pos rfl, if_pos rfl, if_pos (by rw [scMap_len]), spec_mix _ _ k (by omega), Option.bind_some]
 | succ d ih =>
   intro k i hi hk2
   obtain ⟨k, rfl⟩ : ∃ m, k = m + 1 + 1 := ⟨k - 2, by omega⟩
   have hlt : i < ks.length := by omega
   have ev : rd_L3 ks (i : Int) = ks[i] := by rw [rdL_at]; simp [List.getD_eq_getElem?_getD, hlt]
   have hy := hk ks[i] (List.getElem_mem hlt)
   rw [spec_Attend.l0, if_pos (by omega), spec_Attend.j1, if_pos (by simp; omega), if_pos (by omega), if_pos (by omega), ev, scoreOf_spec q _ hq hy k (by omega), Option.bind_some, List.drop_eq_getElem_cons hlt]
   have ec : scAll q (ks[i] :: ks.drop (i + 1)) = ((scoreOf q ks[i]).2 && scAll q (ks.drop (i + 1))) := by unfold scAll; rw [List.all_cons]
   rw [ec]
   cases hb : (scoreOf q ks[i]).2 with
   | false => rw [if_neg (by simp)]; simp
   | true =>
     rw [if_pos rfl, if_pos (by rw [scMap_len, List.length_take]; omega), w64 (i := (i : Int) + 1) (by omega) (by omega), show ((i : Int) + 1) = ((i + 1 : Nat) : Int) by omega, ← scMap_snoc q ks i hlt, ih k (i + 1) (by omega) (by omega)]
     simp
theorem spec_attend (q : List Int) (ks vs : List (List Int)) (hq : q.length ≤ 1048576) (hl : ks.length ≤ 1048576) (hk : ∀ y ∈ ks, y.length ≤ 1048576) (k : Nat) (hk2 : 2098100 < k) : spec_Attend.f k q ks vs = some (attendOf q ks vs) := by
 unfold spec_Attend.f attendOf
 by_cases h32 : ks.length ≤ 32
 · have := spec_attend_from q ks vs hq h32 hk ks.length k 0 (by omega) (by omega)
   rw [List.drop_zero] at this
   have e : spec_Attend.l0 k q ks vs [] 0 = _ := this
   rw [e]
   cases hs : scAll q ks with
   | false => simp
   | true => rw [if_pos rfl, if_pos (show ks.length ≤ 32 ∧ true = true from ⟨h32, rfl⟩)]
 · obtain ⟨k, rfl⟩ : ∃ m, k = m + 1 + 1 := ⟨k - 2, by omega⟩
   rw [if_neg (fun h => h32 h.1), spec_Attend.l0, if_pos (by omega), spec_Attend.j1, if_neg (by simp; omega), spec_shares _ k (by omega), Option.bind_some, show (sharesOf []).2 = false from rfl, if_neg (by simp)]

theorem same_from (a b : List Int) (hl : a.length ≤ 9223372036854775806) (hab : a.length = b.length) (d : Nat) : ∀ (k i : Nat), i ≤ a.length → a.length - i = d → d < k →
   laws_sameInts.l0 k a b (i : Int) = some (decide (a.drop i = b.drop i)) := by
 induction d with
 | zero =>
   intro k i hi' hd hk
   obtain ⟨k, rfl⟩ := k1_ hk
   rw [List.drop_of_length_le (by omega), List.drop_of_length_le (by omega)]
   simp only [laws_sameInts.l0]; rw [if_neg (by omega)]; simp
 | succ d ih =>
   intro k i hi' hd hk
   obtain ⟨k, rfl⟩ := k1_ hk
   have hlt : i < a.length := by omega
   have hltb : i < b.length := by omega
   simp only [laws_sameInts.l0]
   rw [if_pos (by omega), if_pos (by omega), if_pos (by omega), rd_get a i hlt, rd_get b i hltb, List.drop_eq_getElem_cons hlt, List.drop_eq_getElem_cons hltb]
   by_cases h : a[i] = b[i]
   · rw [if_pos h, w64 (by omega) (by omega), show ((i : Int) + 1) = ((i + 1 : Nat) : Int) by omega, ih k (i + 1) (by omega) (by omega) (by omega)]
     congr 1
     rw [decide_eq_decide]
     simp only [h, List.cons.injEq, true_and]
   · rw [if_neg h, decide_eq_false (fun e => h (List.cons.inj e).1)]
/-- laws.sameInts: equal lists. -/
theorem same_tells (a b : List Int) (hl : a.length ≤ 9223372036854775806) (k : Nat) (hk : a.length < k) : laws_sameInts.f k a b = some (decide (a = b)) := by
 unfold laws_sameInts.f
 by_cases h : a.length = b.length
 · rw [if_pos (by omega)]
   have := same_from a b hl h a.length k 0 (by omega) (by omega) hk
   simpa using this
 · rw [if_neg (by omega), decide_eq_false]
   intro e; rw [e] at h; exact h rfl

theorem score_sym (x y : List Int) (hx : vecB x = true) (hy : vecB y = true) (hab : x.length = y.length) (hl : x.length ≤ 8) (d : Nat) : ∀ (i : Nat) (s : Int), i + d = x.length → -(16129 * (i : Int)) ≤ s → s ≤ 16129 * (i : Int) →
   ∃ r, (∀ k, d + 3 < k → impl_Score.l0 k y s x (x.length : Int) (i : Int) = some (r, true)) ∧ (∀ k, d + 3 < k → impl_Score.l0 k x s y (y.length : Int) (i : Int) = some (r, true)) := by
 induction d with
 | zero =>
   intro i s h h0 h1
   refine ⟨floorZ s 16, fun k hk => ?_, fun k hk => ?_⟩
   · obtain ⟨k, rfl⟩ : ∃ m, k = m + 1 := ⟨k - 1, by omega⟩
     rw [impl_Score.l0, if_neg (by omega), impl_floor s 16 (by omega) (by omega) (by omega) k (by omega), Option.bind_some]
   · obtain ⟨k, rfl⟩ : ∃ m, k = m + 1 := ⟨k - 1, by omega⟩
     rw [impl_Score.l0, if_neg (by omega), impl_floor s 16 (by omega) (by omega) (by omega) k (by omega), Option.bind_some]
 | succ d ih =>
   intro i s h h0 h1
   have ha := vec_at x hx i (by omega)
   have hb := vec_at y hy i (by omega)
   have hm := mul_bd (rd x (i : Int)) (rd y (i : Int)) 127 (by omega) (by omega) (by omega) (by omega)
   obtain ⟨r, r1, r2⟩ := ih (i + 1) (s + rd x (i : Int) * rd y (i : Int)) (by omega) (by omega) (by omega)
   refine ⟨r, fun k hk => ?_, fun k hk => ?_⟩
   · obtain ⟨k, rfl⟩ : ∃ m, k = m + 1 := ⟨k - 1, by omega⟩
     rw [impl_Score.l0, if_pos (by omega), if_pos (by omega), if_pos (by omega), if_pos (by omega), w64 (i := rd x (i : Int) * rd y (i : Int)) (by omega) (by omega), w64 (i := s + rd x (i : Int) * rd y (i : Int)) (by omega) (by omega), w64 (i := (i : Int) + 1) (by omega) (by omega), show ((i : Int) + 1) = ((i + 1 : Nat) : Int) by omega]
     exact r1 k (by omega)
   · obtain ⟨k, rfl⟩ : ∃ m, k = m + 1 := ⟨k - 1, by omega⟩
     rw [impl_Score.l0, if_pos (by omega), if_pos (by omega), if_pos (by omega), if_pos (by omega), Int.mul_comm (rd y (i : Int)), w64 (i := rd x (i : Int) * rd y (i : Int)) (by omega) (by omega), w64 (i := s + rd x (i : Int) * rd y (i : Int)) (by omega) (by omega), w64 (i := (i : Int) + 1) (by omega) (by omega), show ((i : Int) + 1) = ((i + 1 : Nat) : Int) by omega]
     exact r2 k (by omega)
theorem score_ok (x y : List Int) (hl : x.length ≤ 1048576) (hl' : y.length ≤ 1048576) (h : (scoreOf x y).2 = true) : x.length = y.length ∧ vecB x = true ∧ vecB y = true := by
 have e := scoreOf_spec x y hl hl' (x.length + y.length + 21) (by omega)
 unfold spec_Score.f at e
 rw [spec_vec x hl _ (by omega), Option.bind_some] at e
 by_cases h1 : vecB x = true
 · rw [if_pos h1, spec_vec y hl' _ (by omega), Option.bind_some] at e
   by_cases h2 : vecB y = true
   · rw [if_pos h2, spec_Score.j0] at e
     by_cases h3 : x.length = y.length
     · exact ⟨h3, h1, h2⟩
     · rw [if_pos (by simp; omega)] at e
       rw [← Option.some.inj e] at h; cases h
   · rw [if_neg h2, spec_Score.j0, if_pos rfl] at e
     rw [← Option.some.inj e] at h; cases h
 · rw [if_neg h1, spec_Score.j0, if_pos rfl] at e
   rw [← Option.some.inj e] at h; cases h
theorem score_swap (x y : List Int) (hl : x.length ≤ 1048576) (hl' : y.length ≤ 1048576) (h : (scoreOf x y).2 = true) : scoreOf y x = scoreOf x y := by
 obtain ⟨h1, h2, h3⟩ := score_ok x y hl hl' h
 have hB1 := h2
 unfold vecB at hB1
 simp only [Bool.and_eq_true, decide_eq_true_eq] at hB1
 have hB2 := h3
 unfold vecB at hB2
 simp only [Bool.and_eq_true, decide_eq_true_eq] at hB2
 obtain ⟨r, r1, r2⟩ := score_sym x y h2 h3 h1 hB1.1.2 x.length 0 0 (by omega) (by omega) (by omega)
 have e1 := scoreOf_impl x y hl hl' (x.length + y.length + 22) (by omega)
 have e2 := scoreOf_impl y x hl' hl (x.length + y.length + 22) (by omega)
 have f1 : impl_Score.f (x.length + y.length + 22) x y = some (r, true) := by
   unfold impl_Score.f impl_in.f impl_allIn.f
   rw [if_pos (by omega), if_pos (by omega), decide_eq_true (by omega), Option.bind_some, if_pos rfl, hB1.2, Option.bind_some, if_pos rfl, hB2.2, Option.bind_some, impl_Score.j0, if_neg (by simp)]
   exact r1 _ (by omega)
 have f2 : impl_Score.f (x.length + y.length + 22) y x = some (r, true) := by
   unfold impl_Score.f impl_in.f impl_allIn.f
   rw [if_pos (by omega), if_pos (by omega), decide_eq_true (by omega), Option.bind_some, if_pos rfl, hB2.2, Option.bind_some, if_pos rfl, hB1.2, Option.bind_some, impl_Score.j0, if_neg (by simp)]
   exact r2 _ (by omega)
 rw [f1] at e1
 rw [f2] at e2
 rw [← Option.some.inj e1, ← Option.some.inj e2]
/-- shares are 256 together, at most. -/
theorem parts_sum (s : Int) (hs : 0 < s) : ∀ (es : List Int), (∀ e ∈ es, 0 ≤ e ∧ e ≤ 256) → s * (es.map fun e => e * 256 / s).sum ≤ 256 * es.sum
 | [], _ => by simp
 | e :: es, h => by
   have ih := parts_sum s hs es (fun x hx => h x (List.mem_cons_of_mem _ hx))
   have h1 := Int.mul_ediv_self_le (x := e * 256) (k := s) (by omega)
   rw [List.map_cons, List.sum_cons, List.sum_cons, Int.mul_add, Int.mul_add]
   omega
theorem eL_sum (l : List Int) (g : Int) : ∀ n, (eL l g n).sum = eS l g n
 | 0 => rfl
 | n + 1 => by rw [eL_succ, List.sum_append, eL_sum l g n, eS]; simp
theorem shares_sum (l : List Int) (h : (sharesOf l).2 = true) : (sharesOf l).1.sum ≤ 256 := by
 unfold sharesOf at h ⊢
 cases hok : impl_Shares.ok l with
 | false => rw [hok] at h; simp at h
 | true =>
   rw [if_pos rfl]
   have hs := sh_ok l hok
   obtain ⟨i, hi, e⟩ := hs.e
   generalize slices_Max_int_int.to l (l.length - 1) = g at *
   have h256 := eS_has l g i e l.length hi
   have hl2 := hs.l2
   have hbd := eS_bd l g l.length
   have hE : ∀ z ∈ eL l g l.length, 0 ≤ z ∧ z ≤ 256 := fun z hz => by
     unfold eL at hz
     obtain ⟨j, _, rfl⟩ := List.mem_map.1 hz
     exact expZ_bd _
   have em : (eL l g l.length).map (impl_Shares.part (eS l g l.length)) = (eL l g l.length).map fun e => e * 256 / eS l g l.length := List.map_congr_left fun z hz => by
     have hz' := hE z hz
     unfold impl_Shares.part
     rw [w64 (i := z * 256) (by omega) (by omega), Int.tdiv_eq_ediv_of_nonneg (by omega)]
     have h1 := Int.ediv_nonneg (a := z * 256) (b := eS l g l.length) (by omega) (by omega)
     have h2 := Int.ediv_le_self (a := z * 256) (eS l g l.length) (by omega)
     rw [w64 (by omega) (by omega)]
   show ((eL l g l.length).map (impl_Shares.part (eS l g l.length))).sum ≤ 256
   rw [em]
   have h3 := parts_sum (eS l g l.length) (by omega) _ hE
   rw [eL_sum] at h3
   generalize (List.map (fun e => e * 256 / eS l g l.length) (eL l g l.length)).sum = q at *
   have h4 : q ≤ 256 := Int.le_of_mul_le_mul_left (a := eS l g l.length) (by rw [Int.mul_comm (eS l g l.length) 256]; exact h3) (by omega)
   exact h4
/-- a sum of shares of what lies between bounds. -/
theorem mix_between (ss : List Int) (vs : List (List Int)) (n : Nat) (h : MixOk ss vs n) (k : Nat) (hk : k < n) (lo hi : Int) (hlo : ∀ v ∈ vs, lo ≤ rd v (k : Int)) (hhi : ∀ v ∈ vs, rd v (k : Int) ≤ hi) :
   ∀ j, j ≤ ss.length → lo * (ss.take j).sum ≤ impl_Mix.sum ss vs (k : Int) j ∧ impl_Mix.sum ss vs (k : Int) j ≤ hi * (ss.take j).sum
 | 0, _ => by simp [impl_Mix.sum]
 | j + 1, hj => by
   obtain ⟨i1, i2⟩ := mix_between ss vs n h k hk lo hi hlo hhi j (by omega)
   have t := mix_term ss vs n h k j hk (by omega)
   have b := mix_sum ss vs n h k hk j (by omega)
   have hl := h.l
   have hl2 := h.l2
   have hjv : j < vs.length := by omega
   have ev : vs.getD j [] = vs[j] := by simp [List.getD_eq_getElem?_getD, hjv]
   have a := h.s _ (show rd ss (j : Int) ∈ ss by rw [rd_get ss j (by omega)]; exact List.getElem_mem _)
   have l1 := hlo vs[j] (List.getElem_mem hjv)
   have l2 := hhi vs[j] (List.getElem_mem hjv)
   have e1 : (ss.take (j + 1)).sum = (ss.take j).sum + rd ss (j : Int) := by
     rw [List.take_succ_eq_append_getElem (show j < ss.length by omega), List.sum_append, rd_get ss j (by omega)]; simp
   rw [impl_Mix.sum, w64 (i := rd ss (j : Int) * rd (vs.getD j []) (k : Int)) (by omega) (by omega), w64 (by omega) (by omega), e1, Int.mul_add, Int.mul_add]
   rw [ev] at t ⊢
   have m1 : 0 ≤ rd ss (j : Int) * (rd vs[j] (k : Int) - lo) := Int.mul_nonneg (by omega) (by omega)
   have m2 : 0 ≤ rd ss (j : Int) * (hi - rd vs[j] (k : Int)) := Int.mul_nonneg (by omega) (by omega)
   rw [Int.mul_sub] at m1 m2
   rw [Int.mul_comm lo (rd ss (j : Int)), Int.mul_comm hi (rd ss (j : Int))]
   omega
theorem sum_nonneg' : ∀ (ss : List Int), (∀ z ∈ ss, 0 ≤ z) → 0 ≤ ss.sum
 | [], _ => by simp
 | a :: ss, h => by
   have := h a List.mem_cons_self
   have := sum_nonneg' ss (fun z hz => h z (List.mem_cons_of_mem _ hz))
   rw [List.sum_cons]; omega
theorem mixT_between (ss : List Int) (vs : List (List Int)) (n : Nat) (h : MixOk ss vs n) (hs : ss.sum ≤ 256) (k : Nat) (hk : k < n) (lo hi : Int) (hlo : ∀ v ∈ vs, lo ≤ rd v (k : Int)) (hhi : ∀ v ∈ vs, rd v (k : Int) ≤ hi) (hlo0 : lo ≤ 0) (hhi0 : 0 ≤ hi) :
   lo ≤ mixT ss vs k ∧ mixT ss vs k ≤ hi := by
 obtain ⟨a, b⟩ := mix_between ss vs n h k hk lo hi hlo hhi ss.length (Nat.le_refl _)
 rw [List.take_length] at a b
 have hp := sum_nonneg' ss (fun z hz => (h.s z hz).1)
 unfold mixT
 generalize impl_Mix.sum ss vs (k : Int) ss.length = S at *
 have m1 : 0 ≤ (-lo) * (256 - ss.sum) := Int.mul_nonneg (by omega) (by omega)
 have m2 : 0 ≤ hi * (256 - ss.sum) := Int.mul_nonneg (by omega) (by omega)
 rw [Int.mul_sub, Int.neg_mul, Int.neg_mul] at m1
 rw [Int.mul_sub] at m2
 have f1 : lo * 256 ≤ S := by omega
 have f2 : S ≤ hi * 256 := by omega
 clear a b m1 m2
 have g : floorZ S 256 = S / 256 := by
   unfold floorZ
   by_cases hn : 0 ≤ S
   · rw [Int.tdiv_eq_ediv_of_nonneg hn, Int.tmod_eq_emod_of_nonneg hn, if_neg (by omega), Int.add_zero]
   · have e1 := Int.tdiv_eq_ediv_of_nonneg (a := -S) (by omega) (b := 256)
     have e2 := Int.tmod_eq_emod_of_nonneg (a := -S) (b := 256) (by omega)
     rw [Int.neg_tdiv] at e1
     rw [Int.neg_tmod] at e2
     split <;> omega
 rw [g]
 unfold clampZ
 split <;> (try split) <;> omega
theorem attend_no (q : List Int) (ks vs : List (List Int)) (h : ¬ (attendOf q ks vs).2 = true) : (attendOf q ks vs).1 = [] := by
 unfold attendOf at h ⊢
 split
 · rename_i h1
   rw [if_pos h1] at h
   split
   · rename_i h2
     rw [if_pos h2] at h
     unfold mixOf at h ⊢
     split
     · rename_i h3; rw [if_pos h3] at h; exact absurd rfl h
     · rfl
   · rfl
 · rfl
/-- what there is where it attends. -/
theorem attend_yes (q : List Int) (ks vs : List (List Int)) (h : (attendOf q ks vs).2 = true) :
   scAll q ks = true ∧ ∃ ss, MixOk ss vs (vs.getD 0 []).length ∧ ss.sum ≤ 256 ∧ ss.length = ks.length ∧ (attendOf q ks vs).1 = mixL ss vs (vs.getD 0 []).length := by
 unfold attendOf at h ⊢
 by_cases h1 : ks.length ≤ 32 ∧ scAll q ks = true
 · rw [if_pos h1] at h ⊢
   by_cases h2 : (sharesOf (scMap q ks)).2 = true
   · rw [if_pos h2] at h ⊢
     refine ⟨h1.2, (sharesOf (scMap q ks)).1, ?_⟩
     unfold mixOf at h ⊢
     by_cases h3 : impl_Mix.ok (sharesOf (scMap q ks)).1 vs = true
     · rw [if_pos h3]
       refine ⟨mix_ok _ _ h3, shares_sum _ h2, ?_, rfl⟩
       unfold sharesOf at h2 ⊢
       by_cases h4 : impl_Shares.ok (scMap q ks) = true
       · rw [if_pos h4, List.length_map, eL_len, scMap_len]
       · rw [if_neg h4] at h2; cases h2
     · rw [if_neg h3] at h; cases h
   · rw [if_neg h2] at h; cases h
 · rw [if_neg h1] at h; cases h
theorem getD_el {α : Type} (l : List α) (i : Nat) (d : α) (h : i < l.length) : l.getD i d = l[i] := by rw [List.getD_eq_getElem?_getD, List.getElem?_eq_getElem h]; rfl
theorem mixes_l1 (q : List Int) (ks vs : List (List Int)) (n : Nat) (hv : ∀ x ∈ vs, x.length = n ∧ ∀ z ∈ x, -127 ≤ z ∧ z ≤ 127) (hl : vs.length ≤ 8) (c : Nat) (hc : c < n) (d : Nat) : ∀ (j : Nat) (lo hi : Int), j + d = vs.length → -127 ≤ lo → hi ≤ 127 → (∀ i : Nat, i < j → lo ≤ rd (vs.getD i []) (c : Int) ∧ rd (vs.getD i []) (c : Int) ≤ hi) →
   ∃ lo' hi', (∀ k, d < k → laws_FnMixes.l1 (q, ks, vs) (c : Int) k lo hi (j : Int) = some (lo', hi', (vs.length : Int))) ∧ -127 ≤ lo' ∧ hi' ≤ 127 ∧ (∀ i : Nat, i < vs.length → lo' ≤ rd (vs.getD i []) (c : Int) ∧ rd (vs.getD i []) (c : Int) ≤ hi') := by
 induction d with
 | zero =>
   intro j lo hi hj h1 h2 h3
   refine ⟨lo, hi, fun k hk => ?_, h1, h2, fun i hi => h3 i (by omega)⟩
   obtain ⟨k, rfl⟩ : ∃ m, k = m + 1 := ⟨k - 1, by omega⟩
   show laws_FnMixes.b1 _ _ _ k _ _ _ = _
   unfold laws_FnMixes.b1
   rw [if_neg (by show ¬ (j : Int) < (vs.length : Int); omega), show (j : Int) = (vs.length : Int) by omega]
 | succ d ih =>
   intro j lo hi hj h1 h2 h3
   have hjl : j < vs.length := by omega
   have hx := hv _ (List.getElem_mem hjl)
   have eg := getD_el vs j [] hjl
   have hz := hx.2 _ (show rd vs[j] (c : Int) ∈ vs[j] by rw [rd_get _ c (by omega)]; exact List.getElem_mem _)
   rw [← eg] at hz hx
   have p0 : (j : Int) < (vs.length : Int) := by omega
   have p1 : 0 ≤ (j : Int) ∧ (j : Int) < (vs.length : Int) := by omega
   have p2 : 0 ≤ (c : Int) ∧ (c : Int) < ((vs.getD j []).length : Int) := by omega
   have ew : wrap64 ((j : Int) + 1) = ((j + 1 : Nat) : Int) := by rw [w64 (by omega) (by omega)]; omega
   obtain ⟨lo', hi', e, f1, f2, f3⟩ := ih (j + 1) (if rd (vs.getD j []) (c : Int) < lo then rd (vs.getD j []) (c : Int) else lo) (if rd (vs.getD j []) (c : Int) > hi then rd (vs.getD j []) (c : Int) else hi) (by omega) (by split <;> omega) (by split <;> omega) (fun i hi2 => by
     by_cases e : i = j
     · subst e
       constructor <;> split <;> omega
     · have := h3 i (by omega)
       constructor <;> split <;> omega)
   refine ⟨lo', hi', fun k hk => ?_, f1, f2, f3⟩
   obtain ⟨k, rfl⟩ : ∃ m, k = m + 1 := ⟨k - 1, by omega⟩
   have e' := e k (by omega)
   rw [← e']
   show laws_FnMixes.b1 _ _ _ k _ _ _ = _
   unfold laws_FnMixes.b1
   dsimp only
   rw [Int.toNat_natCast, if_pos p0, if_pos p1, if_pos p2, show (vs.getD j []).getD (c : Int).toNat 0 = rd (vs.getD j []) (c : Int) from rfl]
   rw [ew]
   clear e e' f1 f2 f3 ih
   by_cases g1 : rd (vs.getD j []) (c : Int) < lo
   · rw [if_pos g1, if_pos g1, Option.bind_some, if_pos p1, if_pos p2]
     by_cases g2 : rd (vs.getD j []) (c : Int) > hi
     · rw [if_pos g2, if_pos g2]; rfl
     · rw [if_neg g2, if_neg g2]; rfl
   · rw [if_neg g1, if_neg g1, Option.bind_some, if_pos p1, if_pos p2]
     by_cases g2 : rd (vs.getD j []) (c : Int) > hi
     · rw [if_pos g2, if_pos g2]; rfl
     · rw [if_neg g2, if_neg g2]; rfl
theorem clamp_bd (x m : Int) (h : 0 ≤ m) : -m ≤ clampZ x m ∧ clampZ x m ≤ m := by
 unfold clampZ
 split
 · omega
 · split <;> omega
theorem mixL_at (ss : List Int) (vs : List (List Int)) (n k : Nat) (h : k < n) : (mixL ss vs n).getD k 0 = mixT ss vs k := by
 rw [getD_el _ _ _ (by rw [mixL_len]; exact h)]
 simp [mixL]
theorem mixes_l0 (q : List Int) (ks vs : List (List Int)) (ss : List Int) (n : Nat) (hn : n = (vs.getD 0 []).length) (h : MixOk ss vs n) (hs : ss.sum ≤ 256) (hl : vs.length ≤ 8) (d : Nat) : ∀ (k c : Nat), c + d = n → d + 20 < k →
   laws_FnMixes.l0 (q, ks, vs) (mixL ss vs n, true) k (c : Int) = some (.inr (n : Int)) := by
 induction d with
 | zero =>
   intro k c hc hk
   obtain ⟨k, rfl⟩ := k1_ hk
   show laws_FnMixes.b0 _ _ _ k _ = _
   unfold laws_FnMixes.b0
   dsimp only
   rw [mixL_len, if_neg (by omega), show (c : Int) = (n : Int) by omega]
 | succ d ih =>
   intro k c hc hk
   obtain ⟨k, rfl⟩ := k1_ hk
   have hcn : c < n := by omega
   have hl1 := h.l1
   have hlv := h.l
   have hn8 := h.n2
   have h0 := h.v _ (List.getElem_mem (show 0 < vs.length by omega))
   have eg := getD_el vs 0 [] (by omega)
   have hz := h0.2 _ (show rd vs[0] (c : Int) ∈ vs[0] by rw [rd_get _ c (by omega)]; exact List.getElem_mem _)
   rw [← eg] at hz
   obtain ⟨lo, hi, e, f1, f2, f3⟩ := mixes_l1 q ks vs n h.v hl c hcn (vs.length - 1) 1 (rd (vs.getD 0 []) (c : Int)) (rd (vs.getD 0 []) (c : Int)) (by omega) hz.1 hz.2 (fun i hi => by
     obtain rfl : i = 0 := by omega
     exact ⟨Int.le_refl _, Int.le_refl _⟩)
   have hin : ∀ v ∈ vs, lo ≤ rd v (c : Int) ∧ rd v (c : Int) ≤ hi := fun v hv => by
     obtain ⟨i, hi', rfl⟩ := List.getElem_of_mem hv
     have := f3 i hi'
     rw [getD_el vs i [] hi'] at this
     exact this
   obtain ⟨b1, b2⟩ := mixT_between ss vs n h hs c hcn (if lo > 0 then 0 else lo) (if hi < 0 then 0 else hi) (fun v hv => by have := (hin v hv).1; split <;> omega) (fun v hv => by have := (hin v hv).2; split <;> omega) (by split <;> omega) (by split <;> omega)
   show laws_FnMixes.b0 _ _ _ k _ = _
   unfold laws_FnMixes.b0
   dsimp only
   rw [mixL_len, Int.toNat_zero, if_pos (by omega), if_pos (by omega), if_pos (by omega), show (vs.getD 0 []).getD (c : Int).toNat 0 = rd (vs.getD 0 []) (c : Int) from rfl]
   have e' := e k (by omega)
   rw [show ((1 : Nat) : Int) = 1 from rfl] at e'
   rw [e', Option.bind_some]
   dsimp only
   have e1 : (if hi < 0 then some 0 else some hi : Option Int) = some (if hi < 0 then 0 else hi) := by split <;> rfl
   have e2 : (if lo > 0 then some 0 else some lo : Option Int) = some (if lo > 0 then 0 else lo) := by split <;> rfl
   rw [e1, Option.bind_some, e2, Option.bind_some, if_pos (by omega), Int.toNat_natCast, mixL_at ss vs n c hcn]
   generalize (if hi < 0 then 0 else hi) = HI at *
   have hlo : -127 ≤ (if lo > 0 then 0 else lo) := by split <;> omega
   generalize (if lo > 0 then 0 else lo) = LO at *
   have hd : Int.tdiv (vs.length : Int) 2 = (vs.length : Int) / 2 := Int.tdiv_eq_ediv_of_nonneg (by omega)
   rw [if_neg (by omega), hd, w64 (i := (vs.length : Int) / 2) (by omega) (by omega), w64 (i := (vs.length : Int) / 2 + 2) (by omega) (by omega)]
   have hm : -127 ≤ mixT ss vs c ∧ mixT ss vs c ≤ 127 := clamp_bd _ 127 (by omega)
   rw [w64 (i := LO - ((vs.length : Int) / 2 + 2)) (by omega) (by omega), if_neg (by omega), w64 (by omega) (by omega), show ((c : Int) + 1) = ((c + 1 : Nat) : Int) by omega]
   exact ih k (c + 1) (by omega) (by omega)
theorem mix_one (x : List Int) (h1 : 1 ≤ x.length) (h8 : x.length ≤ 8) (hz : ∀ z ∈ x, -127 ≤ z ∧ z ≤ 127) : mixOf [256] [x] = (x, true) := by
 have hok : impl_Mix.ok [256] [x] = true := by
   unfold impl_Mix.ok impl_Mix.one
   simp only [Bool.and_eq_true, decide_eq_true_eq, List.all_eq_true]
   refine ⟨⟨⟨⟨⟨⟨rfl, by simp⟩, by simp⟩, fun z hz => by simp at hz; subst hz; omega⟩, h1⟩, h8⟩, fun y hy => ?_⟩
   rw [List.mem_singleton.1 hy]
   exact ⟨rfl, hz⟩
 unfold mixOf
 rw [if_pos hok]
 refine congrArg (·, true) ?_
 show mixL [256] [x] x.length = x
 refine List.ext_getElem (mixL_len _ _ _) fun i h h' => ?_
 have hx := hz x[i] (List.getElem_mem h')
 have er : rd x (i : Int) = x[i] := rd_get x i h'
 have : (mixL [256] [x] x.length)[i] = mixT [256] [x] i := by simp [mixL]
 rw [this]
 unfold mixT
 have es : impl_Mix.sum [256] [x] (i : Int) ([256] : List Int).length = 256 * x[i] := by
   show wrap64 (0 + wrap64 (rd [256] ((0 : Nat) : Int) * rd x (i : Int))) = _
   rw [er, show rd [256] ((0 : Nat) : Int) = 256 from rfl, w64 (i := 256 * x[i]) (by omega) (by omega), w64 (by omega) (by omega)]; omega
 rw [es]
 have ef : floorZ (256 * x[i]) 256 = x[i] := by
   unfold floorZ
   rw [Int.mul_tdiv_cancel_left _ (by omega), Int.mul_tmod_right, if_neg (by omega), Int.add_zero]
 rw [ef]
 unfold clampZ
 rw [if_neg (by omega), if_neg (by omega)]
theorem FnMixes : laws_FnMixes.Pure := by
 intro l hg
 refine ⟨4000000, ?_⟩
 unfold laws_FnMixes.g laws_big.f
 rw [Option.bind_some]
 by_cases hb : (l.length : Int) > 1048576
 · rw [decide_eq_true hb, if_pos rfl]
 · rw [decide_eq_false hb, if_neg (by simp)]
   obtain ⟨q, ks, vs, e, hq, hk, hks, hv⟩ := attendG l (by omega)
   have hq' : q.length ≤ 1048576 := by omega
   have hks' : ∀ y ∈ ks, y.length ≤ 1048576 := fun y hy => by have := hks y hy; omega
   rw [e _ (by omega), Option.bind_some]
   show (impl_Attend.f 4000000 q ks vs).bind _ = _
   rw [impl_attend q ks vs hq' (by omega) hks' _ (by omega), Option.bind_some]
   show (spec_Attend.f 4000000 q ks vs).bind _ = _
   rw [spec_attend q ks vs hq' (by omega) hks' _ (by omega), Option.bind_some, if_pos rfl]
   by_cases hok : (attendOf q ks vs).2 = true
   · rw [if_pos hok]
     obtain ⟨ha, ss, hm, hs, hl, he⟩ := attend_yes q ks vs hok
     have ep : attendOf q ks vs = (mixL ss vs (vs.getD 0 []).length, true) := Prod.ext he hok
     have hl1 := hm.l1
     have hlv := hm.l
     have h0 := mixes_l0 q ks vs ss _ rfl hm hs hv (vs.getD 0 []).length 4000000 0 (by omega) (by have := hm.n2; omega)
     rw [show ((0 : Nat) : Int) = 0 from rfl] at h0
     rw [ep, h0, Option.bind_some]
     dsimp only
     have ev : vs.take (1 : Int).toNat = [vs.getD 0 []] := by
       match vs, hlv with
       | v :: vs, _ => rfl
       | [], h => rw [List.length_nil] at h; omega
     have hx0 := hm.v _ (List.getElem_mem (show 0 < vs.length by omega))
     have eg := getD_el vs 0 [] (by omega)
     rw [← eg] at hx0
     have hn1 := hm.n1
     have hn2 := hm.n2
     have ek := getD_el ks 0 [] (by omega)
     have hk0 := hks _ (List.getElem_mem (show 0 < ks.length by omega))
     rw [← ek] at hk0
     have hsc : (scoreOf q (ks.getD 0 [])).2 = true := by
       unfold scAll at ha
       rw [List.all_eq_true] at ha
       have := ha _ (List.getElem_mem (show 0 < ks.length by omega))
       rw [← ek] at this
       exact this
     rw [if_pos (by omega), ev, impl_mix, mix_one _ hn1 hn2 hx0.2, Option.bind_some, if_pos (by omega), Int.toNat_zero, scoreOf_impl q (ks.getD 0 []) hq' (by omega) _ (by omega), Option.bind_some, scoreOf_impl (ks.getD 0 []) q (by omega) hq' _ (by omega), Option.bind_some, score_swap q (ks.getD 0 []) hq' (by omega) hsc]
     dsimp only
     rw [if_pos rfl, if_pos hsc, if_pos hsc, if_pos (by omega), same_tells _ _ (by omega) _ (by omega), Option.bind_some, decide_eq_true rfl, if_pos rfl, beq_self_eq_true]
   · rw [if_neg hok, attend_no q ks vs hok]; rfl

end Go.Proofs.Ytoccifnjhbibcaa.Pure
