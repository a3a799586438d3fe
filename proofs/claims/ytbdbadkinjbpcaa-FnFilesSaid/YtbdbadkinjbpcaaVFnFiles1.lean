/- The words that the printed texts of this claim use. No conditions. -/
import Derived.Test.YtbdbadkinjbpcaaVFnFiles0
import Derived.Below
import Derived.Deep.Draws
import Derived.Deep.AppendLies
import Derived.Maps.AppendAt
import Derived.OwnWalk
import Derived.Laws.BytesArg
import Derived.Laws.MakeOwn
import Derived.Laws.OwnMore
import Derived.Deep.OwnRows
import Derived.Tactics
import Derived.Lib.ConvBytes
import Derived.Laws.Slices
import Derived.WalkKit
import Derived.KernelRfl
import Derived.RowKit3
import Derived.Deep.LoopGhost
import Derived.Deep.QuietTactic
import Derived.BigQuiet
import Derived.WideLaws
import Derived.Deep.DeepCutAuto
import Derived.Deep.CutBlock
import Derived.Deep.RegionHeld3
import Derived.Laws.Rows
import Derived.Lib.AppendStr
import Derived.ArgAppend
import Derived.Laws.IdiomCopy
import Derived.RowKit
import Derived.OrdersHeld
import Derived.Laws.BitsLemmas
import Derived.Deep.MidRow
import Derived.Laws.CopyOwn
import Derived.Lib.SlBytesConst
import Derived.Laws.DeepStrings4
import Derived.Laws.Strings3
import Derived.Deep.Slices
import Derived.WideShapes
import Derived.DataReads
import Derived.Laws.StructEq
namespace Go.Proofs.Ytbdbadkinjbpcaa.XSt
open Go.RowKit Go.Proofs.YtbdbadkinjbpcaaW.PrintWords Go.Proofs.YtbdbadkinjbpcaaW.PrintLast Go.Proofs.YtbdbadkinjbpcaaW.PrintMore Go.Proofs.Ytbdbadkinjbpcaa.XW Go.Proofs.Ytbdbadkinjbpcaa.XOp Go.Proofs.Ytbdbadkinjbpcaa.XDraw
set_option linter.unusedVariables false
def MarkedRow (w : World) (base : Nat) (e : TypeId) (size : Nat) (v : Value) (n : Nat) (xs : List Value) : Prop :=
 xs.length = n * size ∧ ∃ g cap cur f, v = .slice (some ⟨g, 0, none⟩) n cap ∧ base ≤ g ∧ w.heap[g]? = some (.cells cur e f) ∧ cur.size ≤ f.1 ∧ n ≤ cap ∧ cap ≤ maxLen ∧ cur.size = cap * size ∧ cur.toList.take (n * size) = xs
def OwnX (w : World) (base : Nat) (e : TypeId) (size : Nat) (v : Value) (n : Nat) (xs : List Value) : Prop := w.ownsRow base e size v n xs ∨ MarkedRow w base e size v n xs
def rowX (B e sz : Nat) (v : Value) (n : Nat) (inner : List Value) : Mu := ⟨v.ownBlock.toList, fun W => OwnX W B e sz v n inner⟩
section
variable {w w1 : World} {base e size n c : Nat} {v : Value} {xs : List Value} {A : Option Addr}
theorem ownX_block (h : OwnX w base e size v n xs) (k : Nat) (hk : v.ownBlock = some k) : base ≤ k ∧ k < w.heap.size := by
 rcases h with h | ⟨_, g, cap, cur, f, rfl, hb, hg, _⟩
 · exact ⟨own_base h k hk, own_lt h k hk⟩
 · have : g = k := by simpa [Value.ownBlock] using hk
   subst this
   exact ⟨hb, (Array.getElem?_eq_some_iff.1 hg).1⟩
theorem ownX_move (h : OwnX w base e size v n xs) (hm : ∀ k, v.ownBlock = some k → w1.heap[k]? = w.heap[k]?) : OwnX w1 base e size v n xs := by
 rcases h with h | ⟨h1, g, cap, cur, f, rfl, hb, hg, r⟩
 · exact .inl (own_move h hm)
 · exact .inr ⟨h1, g, cap, cur, f, rfl, hb, (hm g (by simp [Value.ownBlock])).trans hg, r⟩
theorem ownX_len (h : OwnX w base e size v n xs) : xs.length = n * size := h.elim (fun h => h.1) (fun h => h.1)
theorem rowX_slice (h : OwnX w base e size v n xs) : ∃ A c, v = .slice A n c := by
 rcases h with h | ⟨_, g, cap, cur, f, rfl, _⟩
 · exact row_slice h
 · exact ⟨_, _, rfl⟩
theorem rowX_le (h : OwnX w base e size (.slice A n c) n xs) : n ≤ c := by
 rcases h with h | ⟨_, g, cap, cur, f, h, _, _, _, h2, _⟩
 · exact row_le h
 · injection h with h1 h3 h4
   omega
theorem rowX_max (h : OwnX w base e size v n xs) : n ≤ maxLen := by
 rcases h with h | ⟨_, g, cap, cur, f, h, _, _, _, h2, h3, _⟩
 · rcases h.2 with ⟨_, h1⟩ | ⟨g, cap, cur, _, _, _, h2, h3, _⟩ <;> omega
 · omega
theorem rowX_cells (h : OwnX w base e size (.slice A n c) n xs) (h0 : 0 < n) : ∃ ad, A = some ad ∧ ∀ j u, xs[j]? = some u → w.cell? (ad.add j) = some u := by
 rcases h with h | ⟨h1, g, cap, cur, f, h, _, hg, _, h2, _, _, ht⟩
 · obtain ⟨ad, rfl⟩ := row_open h h0
   exact ⟨ad, rfl, fun j u hu => row_cell h hu⟩
 · injection h with h3 _ _
   refine ⟨_, h3, fun j u hu => ?_⟩
   have hj : j < n * size := by have := (List.getElem?_eq_some_iff.1 hu).1; omega
   rw [Addr.add_mid, Nat.zero_add, cell_of_row w g j cur e f hg]
   rw [← ht, List.getElem?_take_of_lt hj] at hu
   simpa using hu
theorem rowX_C {α : Type} {dd : Kd α} {xs : List α} {inner : List Value} (hn : n = xs.length) (h : OwnX w base e dd.sz (.slice A n c) n inner) (hr : Reps (dd.K w) dd.sz xs inner) : dd.C w A xs.length xs := by
 subst hn
 have hm := rowX_max h
 refine ⟨rfl, by simp only [maxLen] at hm; omega, fun h0 => ?_⟩
 obtain ⟨ad, rfl, hc⟩ := rowX_cells h h0
 refine ⟨ad, rfl, fun j p hj => ⟨(inner.drop (j * dd.sz)).take dd.sz, ?_, hr.2 j p hj, fun i u hu => ?_⟩⟩
 · have hjl := (List.getElem?_eq_some_iff.1 hj).1
   have h1 : j * dd.sz + dd.sz ≤ inner.length := by rw [hr.1, ← Nat.succ_mul]; exact Nat.mul_le_mul_right _ hjl
   rw [List.length_take, List.length_drop]; omega
 · refine hc _ u ?_
   have hi : i < dd.sz := by have := (List.getElem?_eq_some_iff.1 hu).1; rw [List.length_take] at this; omega
   rw [List.getElem?_take_of_lt hi, List.getElem?_drop] at hu
   exact hu
theorem foot_rowX (h : OwnX w base e size v n xs) : Foot (rowX base e size v n xs).P w (fun k => k ∈ (rowX base e size v n xs).blk) := fun W hW =>
 ownX_move h (fun k hk => hW k (by simp [rowX, hk]) (ownX_block h k hk).2)
end
theorem set_blk {w : World} {g : Nat} {t : TypeId} {cs : Array Value} {f : Nat × Nat} (h : w.heap[g]? = some (.cells cs t f)) (i : Nat) (u : Value) : (w.setCell ⟨g, i, none⟩ u).heap[g]? = some (.cells (cs.setIfInBounds i u) t f) := by
 unfold World.setCell
 simp [Array.getElem?_modify, h]
theorem sets_blk {g : Nat} {t : TypeId} {f : Nat × Nat} : ∀ (vs : List Value) (o : Nat) (w : World) (cs : Array Value), w.heap[g]? = some (.cells cs t f) → (w.setCells g o vs).heap[g]? = some (.cells (splice cs o vs) t f)
 | [], o, w, cs, h => h
 | v :: r, o, w, cs, h => sets_blk r (o + 1) _ _ (set_blk h o v)
theorem sets_grown {g : Nat} (vs : List Value) (o : Nat) (w : World) : w.grownBy (w.setCells g o vs) (some g) := by
 induction vs generalizing o w with
 | nil => exact ⟨rfl, rfl, rfl, Nat.le_refl _, fun _ _ _ => rfl⟩
 | cons v r ih =>
   have h := ih (o + 1) (w.setCell ⟨g, o, none⟩ v)
   refine ⟨h.os, h.tape, h.output, ?_, fun k hk hn => ?_⟩
   · have := h.size; rw [World.setCells]; exact Nat.le_trans (by simp [World.setCell]) this
   · rw [World.setCells, h.block k (by simpa [World.setCell] using hk) hn, Below.heap_setCell w ⟨g, o, none⟩ v k (fun e => hn (by rw [e]))]
section
variable {P : Program} (w : World)
theorem run_append_X (base : Nat) (t ty e : TypeId) (i : TypeInfo) (z : Value) (size bytes : Nat) (ht : P.underlying t = some (.slice e)) (hi : P.info? e = some i) (hz : i.zero = some z)
   (hsize : i.size = size) (hby : i.bytes = bytes) (hzs : z.cells.size = size) (hsz : 0 < size)
   (v : Value) (n : Nat) (xs : List Value) (hown : OwnX w base e size v n xs)
   (a : Addr) (m c : Nat) (news : List Value) (hl : news.length = m * size) (hnews : ∀ j u, news[j]? = some u → w.cell? (a.add j) = some u) (h1 : ∀ u ∈ news, u.oneCell' = true)
   (h63 : n + m ≤ maxLen) (hbytes : (n + m) * bytes ≤ 140737488355328) (hbase : base ≤ w.heap.size) :
   ∃ v' w', (Builtin.append_ #[t, t] ty #[v, .slice (some a) m c]).run P w = .ok v' w' ∧ OwnX w' base e size v' (n + m) (xs ++ news) ∧ w.grownBy w' v.ownBlock ∧ (v'.ownBlock = v.ownBlock ∨ v'.ownBlock = some w.heap.size) := by
 rcases hown with hown | ⟨hxl, g, cap, cur, f, rfl, hb, hg, hf, hnc, hcm, hcs, htake⟩
 · obtain ⟨v', w', a1, a2, a3, _, a5⟩ := run_append_own_at (P := P) w base t ty e i z size bytes ht hi hz hsize hby hzs hsz v n xs hown a m c news hl hnews h1 h63 hbytes hbase
   exact ⟨v', w', a1, .inl a2, a3, a5⟩
 · by_cases hr : n + m ≤ cap
   · have hfit : n * size + news.length ≤ cur.size := by rw [hl, hcs, ← Nat.add_mul]; exact Nat.mul_le_mul_right _ hr
     have hrun := run_append_room_cells (P := P) w t ty e i ht hi g 0 n cap a m c news (by rw [hsize]; exact hl) hnews h1 hr
       (fun j hj => by rw [cell_of_row w g _ cur e f hg, hsize, Array.getElem?_eq_getElem (by omega)]; rfl)
       (fun j hj => by
         have : 0 + n * i.size + j < f.1 := by rw [hsize]; omega
         simp only [World.frozen?, hg, Bool.and_eq_false_iff, decide_eq_false_iff_not]
         left; omega)
     rw [hsize, Nat.zero_add] at hrun
     refine ⟨_, _, hrun, .inr ⟨by rw [List.length_append, hxl, hl, Nat.add_mul], g, cap, _, f, rfl, hb, sets_blk news _ w cur hg, by rw [splice_size]; exact hf, hr, hcm, by rw [splice_size]; exact hcs, ?_⟩, sets_grown news _ w, Or.inl rfl⟩
     apply List.ext_getElem?
     intro j
     by_cases hj : j < (n + m) * size
     · rw [List.getElem?_take_of_lt hj, Array.getElem?_toList, splice_get _ _ _ _ hfit]
       rw [Nat.add_mul] at hj
       by_cases h2 : j < n * size
       · rw [if_neg (by omega), List.getElem?_append_left (by omega), ← htake, List.getElem?_take_of_lt h2, Array.getElem?_toList]
       · rw [if_pos (by omega), List.getElem?_append_right (by omega), hxl]
     · rw [List.getElem?_eq_none (by rw [List.length_take]; omega), List.getElem?_eq_none (by rw [List.length_append, hxl, hl, ← Nat.add_mul]; omega)]
   · have holds : ∀ j u, xs[j]? = some u → w.cell? ((⟨g, 0, none⟩ : Addr).add j) = some u := fun j u hu => by
       have hj : j < n * size := by have := (List.getElem?_eq_some_iff.1 hu).1; omega
       rw [Addr.add_mid, Nat.zero_add, cell_of_row w g j cur e f hg]
       rw [← htake, List.getElem?_take_of_lt hj] at hu
       simpa using hu
     subst hsize
     subst hby
     have hlen : (xs ++ news).length = (n + m) * i.size := by rw [List.length_append, hxl, hl, Nat.add_mul]
     have hge := grownCap_ge w (n + m) cap e
     have hcm2 : grownCap w (n + m) cap e ≤ maxLen := grownCap_le_maxLen w (n + m) cap e h63
     have hsmall : n + m ≤ 9223372036854775807 := by simp only [maxLen] at h63; omega
     have hrun := run_append_grow (P := P) w t ty e i z ht hi hz ⟨g, 0, none⟩ n cap xs hxl holds a m c news hl hnews (by omega) (by omega) (growslice_fits (by omega) hbytes)
     refine ⟨_, _, hrun, .inl ⟨hlen, .inr ⟨w.heap.size, _, _, rfl, hbase, heap_alloc_new w.drew _, hge, hcm2, ?_, ?_⟩⟩, ⟨rfl, rfl, rfl, by simp, fun k hk _ => by simp [World.alloc, World.drew, -World.alloc_eq, -World.drew_eq, Array.getElem?_push, Nat.ne_of_lt hk]⟩, Or.inr rfl⟩
     · simp only [Array.size_append, List.size_toArray, size_zeroCells, hzs, hxl, hl, ← Nat.add_mul]
       congr 1
       omega
     · simp only [Array.toList_append, List.append_assoc]
       rw [← List.append_assoc, ← hlen]
       exact List.take_left
end
section
variable {ok0 : Nat → Prop} {w0 w w1 : World} {ms : List Mu} {fo fn : List Fact} {e sz n : Nat} {v v1 : Value} {inner news : List Value}
theorem St.grownX (h : St ok0 w0 w ms fo fn) (i : Nat) {m : Nat} (hi : ms[i]? = some (rowX w0.heap.size e sz v n inner)) (ho : OwnX w1 w0.heap.size e sz v1 m news) (hg : w.grownBy w1 v.ownBlock) (hat : v1.ownBlock = v.ownBlock ∨ v1.ownBlock = some w.heap.size) :
   St ok0 w0 w1 (ms.set i (rowX w0.heap.size e sz v1 m news)) fo fn := by
 have hown : OwnX w w0.heap.size e sz v n inner := h.mu i hi
 refine h.put i hi (h.b.grown hg h.size (fun k hk => (ownX_block hown k hk).1)) hg.size (fun k hk hn => hg.block k hk (fun e2 => hn ?_)) (foot_rowX ho) ?_ (fun k hk => ?_)
 · show k ∈ v.ownBlock.toList
   rw [← e2]; simp
 · show v1.ownBlock.toList.Nodup
   cases v1.ownBlock <;> simp
 · have hk : v1.ownBlock = some k := by simpa [rowX] using hk
   rcases hat with h2 | h2
   · exact .inl (by show k ∈ v.ownBlock.toList; rw [← h2, hk]; simp)
   · rw [h2] at hk
     injection hk with hk
     subst hk
     exact .inr ⟨Nat.le_refl _, (ownX_block ho _ h2).2⟩
theorem St.rowXNew (h : St ok0 w0 w ms fo fn) (hb : Below w.heap.size w w1) (ho : OwnX w1 w.heap.size e sz v n inner) : St ok0 w0 w1 (rowX w0.heap.size e sz v n inner :: ms) fo fn := by
 have hB : OwnX w1 w0.heap.size e sz v n inner := ho.elim (fun h2 => .inl (own_weaken h2 h.size)) (fun ⟨a, g, cap, cur, f, b, c, r⟩ => .inr ⟨a, g, cap, cur, f, b, Nat.le_trans h.size c, r⟩)
 exact h.push hb (foot_rowX hB) (by show v.ownBlock.toList.Nodup; cases v.ownBlock <;> simp) (fun k hk => by
   have hk : v.ownBlock = some k := by simpa [rowX] using hk
   exact ownX_block ho k hk)
end
section
variable {P : Program} {Q : Exit → Act → World → Prop} {N : Nat} {E : Env} {ops : Array Oper} {o : Oper} {rest : List Oper} {d : Nat} {ok0 : Nat → Prop} {w0 w : World} {ms : List Mu} {fo fn : List Fact} {e sz n m c : Nat} {v : Value} {inner : List Value} {t src dst : TypeId} {s x : Operand} {A : Option Addr}
theorem append_noneX (H : St ok0 w0 w ms fo fn) (q : Nat) (hq : ms[q]? = some (rowX w0.heap.size e sz v n inner)) (ho : o.op = .call { callee := .builtin .append, args := #[s, x], argTypes := #[t, t] })
   (ht : P.underlying t = some (.slice e)) (hz : (P.info? e).map (·.size) = some sz) (hs : ev E s = some v) (hx : ev E x = some (.slice none 0 c)) : Run P E o w v w := fun ρ hρ => by
 obtain ⟨i0, hi0, hs0⟩ := Option.map_eq_some_iff.1 hz
 have hrow : OwnX w w0.heap.size e sz v n inner := H.mu q hq
 unfold execOp
 rcases hrow with hrow | ⟨_, g, cap, cur, f, rfl, _, _, _, hn, _⟩
 · rcases hrow.2 with ⟨rfl, rfl⟩ | ⟨g, cap, cur, rfl, _, _, hn, _⟩
   · simp [ho, hρ _ _ hs, hρ _ _ hx, resolve, invoke, builtin, Builtin.append_, run_underlying ht, sizeOf, typeInfo, hi0, Builtin.lenOf, Builtin.firstCells]
   · simp [ho, hρ _ _ hs, hρ _ _ hx, resolve, invoke, builtin, Builtin.append_, run_underlying ht, sizeOf, typeInfo, hi0, Builtin.lenOf, Builtin.firstCells, hn, storeCells]
 · simp [ho, hρ _ _ hs, hρ _ _ hx, resolve, invoke, builtin, Builtin.append_, run_underlying ht, sizeOf, typeInfo, hi0, Builtin.lenOf, Builtin.firstCells, hn, storeCells]
theorem appendX_run (H : St ok0 w0 w ms fo fn) (q : Nat) (hq : ms[q]? = some (rowX w0.heap.size e sz v n inner)) (ho : o.op = .call { callee := .builtin .append, args := #[s, x], argTypes := #[t, t] })
   (z : Value) (bytes : Nat) (ht : P.underlying t = some (.slice e)) (hinfo : (P.info? e).map (fun i => (i.zero, i.size, i.bytes)) = some (some z, sz, bytes)) (hz : z.cells.size = sz) (hs0 : 0 < sz) (hb0 : 0 < bytes)
   (hs : ev E s = some v) (hx : ev E x = some (.slice A m c)) (L : List Value) (hl : L.length = m * sz) (hcell : 0 < m → ∃ ad, A = some ad ∧ ∀ j u, L[j]? = some u → w.cell? (ad.add j) = some u) (h1 : ∀ u ∈ L, u.oneCell' = true) (hbytes : (n + m) * bytes ≤ 140737488355328) (n' : Nat) (hn : n + m = n') :
   ∃ v1 w1, Run P E o w v1 w1 ∧ St ok0 w0 w1 (ms.set q (rowX w0.heap.size e sz v1 n' (inner ++ L))) fo fn := by
 obtain ⟨i0, hi0, hzz⟩ := Option.map_eq_some_iff.1 hinfo
 simp only [Prod.mk.injEq] at hzz
 obtain ⟨hz0, hz1, hz2⟩ := hzz
 have hlen : n + m ≤ 140737488355328 := Nat.le_trans (Nat.le_mul_of_pos_right _ hb0) hbytes
 cases A with
 | some ad =>
   subst hn
   have hnews : ∀ j u, L[j]? = some u → w.cell? (ad.add j) = some u := fun j u hj => by
     have hm : 0 < m := Nat.pos_of_ne_zero (fun e0 => by
       subst e0
       rw [Nat.zero_mul] at hl
       rw [List.eq_nil_of_length_eq_zero hl] at hj
       simp at hj)
     obtain ⟨ad', e1, h2⟩ := hcell hm
     injection e1 with e1
     subst e1
     exact h2 j u hj
   obtain ⟨v', w', hr, h2, h3, h5⟩ := run_append_X (P := P) w w0.heap.size t o.type e i0 z sz bytes ht hi0 hz0 hz1 hz2 hz hs0 v n inner (H.mu q hq) ad m c L hl hnews h1 (by simp only [maxLen]; omega) hbytes H.size
   refine ⟨v', w', fun ρ hρ => ?_, H.grownX q hq h2 h3 h5⟩
   unfold execOp
   simp only [ho, resolve, invoke, builtin, Sem.run_bind, Sem.run_pure, Result.andThen_ok, List.map_toArray, List.map_cons, List.map_nil, hρ _ _ hs, hρ _ _ hx, hr]
 | none =>
   have hm : m = 0 := Nat.eq_zero_of_not_pos (fun h => by obtain ⟨ad, e1, _⟩ := hcell h; cases e1)
   subst hm
   rw [Nat.zero_mul] at hl
   obtain rfl := List.eq_nil_of_length_eq_zero hl
   refine ⟨v, w, append_noneX H q hq ho ht (by rw [hi0]; simp [hz1]) hs hx, ?_⟩
   rw [Nat.add_zero] at hn
   subst hn
   rw [List.append_nil]
   obtain ⟨g1, g2⟩ := List.getElem?_eq_some_iff.1 hq
   rw [← g2, List.set_getElem_self]
   exact H
theorem WL.appendX (H : St ok0 w0 w ms fo fn) (q : Nat) (hq : ms[q]? = some (rowX w0.heap.size e sz v n inner)) (hg : o.guard = none) (hd : o.dst = some d) (hlt : d < N) (ho : o.op = .call { callee := .builtin .append, args := #[s, x], argTypes := #[t, t] })
   (z : Value) (bytes : Nat) (ht : P.underlying t = some (.slice e)) (hinfo : (P.info? e).map (fun i => (i.zero, i.size, i.bytes)) = some (some z, sz, bytes)) (hz : z.cells.size = sz) (hs0 : 0 < sz) (hb0 : 0 < bytes)
   (hs : ev E s = some v) (hx : ev E x = some (.slice A m c)) (L : List Value) (hl : L.length = m * sz) (hcell : 0 < m → ∃ ad, A = some ad ∧ ∀ j u, L[j]? = some u → w.cell? (ad.add j) = some u) (h1 : ∀ u ∈ L, u.oneCell' = true) (hbytes : (n + m) * bytes ≤ 140737488355328) (n' : Nat) (hn : n + m = n')
   (h : ∀ v1 w1 I, I = inner ++ L → St ok0 w0 w1 (ms.set q (rowX w0.heap.size e sz v1 n' I)) fo fn → WL P ops Q rest N ((d, v1) :: E) w1) : WL P ops Q (o :: rest) N E w := by
 obtain ⟨v1, w1, hr, H1⟩ := appendX_run H q hq ho z bytes ht hinfo hz hs0 hb0 hs hx L hl hcell h1 hbytes n' hn
 exact WL.val hg hd hlt hr (h v1 w1 _ rfl H1)
theorem WD.appendX {S : World → Prop} {ds : List Nat} {fuel : Nat} {l : Array Bool} (i : Nat) (hw : ∀ a, Fits a N E → Region.wanted o (yielded ops a.tmps) = true) (H : St ok0 w0 w ms fo fn) (q : Nat) (hq : ms[q]? = some (rowX w0.heap.size e sz v n inner)) (ho : o.op = .call { callee := .builtin .append, args := #[s, x], argTypes := #[t, t] })
   (z : Value) (bytes : Nat) (ht : P.underlying t = some (.slice e)) (hinfo : (P.info? e).map (fun i => (i.zero, i.size, i.bytes)) = some (some z, sz, bytes)) (hz : z.cells.size = sz) (hs0 : 0 < sz) (hb0 : 0 < bytes)
   (hs : ev E s = some v) (hx : ev E x = some (.slice A m c)) (L : List Value) (hl : L.length = m * sz) (hcell : 0 < m → ∃ ad, A = some ad ∧ ∀ j u, L[j]? = some u → w.cell? (ad.add j) = some u) (h1 : ∀ u ∈ L, u.oneCell' = true) (hbytes : (n + m) * bytes ≤ 140737488355328) (n' : Nat) (hn : n + m = n')
   (h : ∀ v1 w1 I, I = inner ++ L → St ok0 w0 w1 (ms.set q (rowX w0.heap.size e sz v1 n' I)) fo fn → S w1 ∧ WD P ops Q S ds fuel (l.setIfInBounds i true) N ((d, v1) :: E) w1)
   (hi : ops[i]? = some o := by rfl) (hd : o.dst = some d := by rfl) (hlt : d < N := by decide) (hc : readyB .any ops l (l.setIfInBounds i true) i = true := by kernel_rfl) (hds : i ∉ ds := by decide) : WD P ops Q S ds (fuel + 1) l N E w := by
 obtain ⟨v1, w1, hr, H1⟩ := appendX_run H q hq ho z bytes ht hinfo hz hs0 hb0 hs hx L hl hcell h1 hbytes n' hn
 have g := h v1 w1 _ rfl H1
 exact dv_ i hw hr g.1 g.2 hi hd hlt hc hds
def bcells (s : ByteArray) : List Value := (bytesOf s).map (Value.int .u8)
theorem bcells_reps (s : ByteArray) : Reps ((Kd.int .u8).K w) (Kd.int .u8).sz (bytesOf s) (bcells s) := by
 refine ⟨by show (bcells s).length = (bytesOf s).length * 1; simp [bcells], fun j p hj => ?_⟩
 show ((bcells s).drop (j * 1)).take 1 = [Value.int .u8 p]
 have hl := (List.getElem?_eq_some_iff.1 hj).1
 rw [Nat.mul_one, List.take_one, List.head?_drop, bcells, List.getElem?_map, hj]; rfl
theorem bytes_own (W : World) (e : TypeId) (b : ByteArray) (hb : b.size < 4294967296) : OwnX (Lib.bytesWorld W e b) W.heap.size e 1 (.slice (some ⟨W.heap.size, 0, none⟩) b.size (grownCap W b.size 0 e)) b.size (bcells b) := by
 have hl : (bcells b).length = b.size := by rw [bcells, List.length_map, bytesOf_length]
 have hge := grownCap_ge W b.size 0 e
 have hsz : (Lib.bytesCells W e b).size = grownCap W b.size 0 e := by
   have : b.data.size = b.size := rfl
   simp [Lib.bytesCells, this]; omega
 refine .inr ⟨by rw [hl, Nat.mul_one], W.heap.size, _, Lib.bytesCells W e b, _, rfl, Nat.le_refl _, Lib.bytesWorld_at_new W e b, Nat.le_refl _, hge, grownCap_le_maxLen W b.size 0 e (by simp only [maxLen]; omega), by rw [hsz, Nat.mul_one], ?_⟩
 rw [Nat.mul_one, Lib.bytesCells, Array.toList_append, List.take_left' (by simp)]
 simp [bcells, bytesOf, List.map_map, Function.comp_def]
theorem Run.bytes {b : ByteArray} {u : TypeDesc} (ho : o.op = .convert src dst x) (hs : P.underlying src = some u) (hd : P.underlying dst = some (.slice e)) (he : P.underlying e = some (.int .u8)) (hx : ev E x = some (.string b)) :
   Run P E o w (.slice (some ⟨w.heap.size, 0, none⟩) b.size (grownCap w b.size 0 e)) (Lib.bytesWorld w e b) := fun ρ hρ => by
 unfold execOp
 simp [ho, hρ _ _ hx, Lib.run_convert_string_bytes w src dst e b hs hd he]
theorem WL.bytes {b : ByteArray} {u : TypeDesc} (H : St ok0 w0 w ms fo fn) (hg : o.guard = none) (hdst : o.dst = some d) (hlt : d < N) (ho : o.op = .convert src dst x) (hs : P.underlying src = some u) (hd : P.underlying dst = some (.slice e)) (he : P.underlying e = some (.int .u8)) (hx : ev E x = some (.string b)) (hb : b.size < 4294967296)
   (h : ∀ v w1, St ok0 w0 w1 (rowX w0.heap.size e 1 v (bytesOf b).length (bcells b) :: ms) fo fn → WL P ops Q rest N ((d, v) :: E) w1) : WL P ops Q (o :: rest) N E w :=
 WL.val hg hdst hlt (Run.bytes ho hs hd he hx) (h _ _ (by rw [bytesOf_length]; exact H.rowXNew (bytes_below (Below.refl _ _) (Nat.le_refl _) e b) (bytes_own w e b hb)))
theorem mark_run (H : St ok0 w0 w ms fo fn) (q : Nat) (hq : ms[q]? = some (rowM w0.heap.size e sz v n inner)) (ho : o.op = .convert t t x) (ht : P.underlying t = some (.slice e)) (he : P.underlying e = some (.int .u8)) (hx : ev E x = some v) (h0 : 0 < n) :
   ∃ w1, Run P E o w v w1 ∧ St ok0 w0 w1 (ms.set q (rowX w0.heap.size e sz v n inner)) fo fn := by
 have hrow : w.ownsRow w0.heap.size e sz v n inner := H.mu q hq
 obtain ⟨hl, hrow⟩ := hrow
 rcases hrow with ⟨_, h1⟩ | ⟨g, cap, cur, rfl, hb, hg, hn, hm, hs, htk⟩
 · omega
 · have hsh : w.shape? g = some (e, cur.size) := by simp [World.shape?, hg]
   have hlt := (Array.getElem?_eq_some_iff.1 hg).1
   have hfr : (w.freeze ⟨g, cur.size, none⟩ 1).heap[g]? = some (.cells cur e (cur.size, cur.size + 1)) := by
     simp [World.freeze, Array.getElem?_modify, hg]
   refine ⟨w.freeze ⟨g, cur.size, none⟩ 1, fun ρ hρ => ?_, ?_⟩
   · unfold execOp
     simp [ho, hρ _ _ hx, convert, run_underlying ht, run_underlying he, markStringish, hsh]
   · refine H.put q hq ?_ (by simp [World.freeze]) (fun k hk hn2 => ?_) (foot_rowX (.inr ⟨hl, g, cap, cur, _, rfl, hb, hfr, Nat.le_refl _, hn, hm, hs, htk⟩)) (by simp [rowX, Value.ownBlock]) (fun k hk => .inl hk)
     · refine H.b.trans ⟨rfl, rfl, rfl, by simp [World.freeze], fun k hk => ?_⟩
       have hne : g ≠ k := by omega
       simp [World.freeze, Array.getElem?_modify, hne]
     · have hne : g ≠ k := fun e2 => hn2 (by simp [rowM, Value.ownBlock, e2])
       simp [World.freeze, Array.getElem?_modify, hne]
theorem WL.mark (H : St ok0 w0 w ms fo fn) (q : Nat) (hq : ms[q]? = some (rowM w0.heap.size e sz v n inner)) (hg : o.guard = none) (hdst : o.dst = some d) (hlt : d < N) (ho : o.op = .convert t t x) (ht : P.underlying t = some (.slice e)) (he : P.underlying e = some (.int .u8)) (hx : ev E x = some v) (h0 : 0 < n)
   (h : ∀ w1, St ok0 w0 w1 (ms.set q (rowX w0.heap.size e sz v n inner)) fo fn → WL P ops Q rest N ((d, v) :: E) w1) : WL P ops Q (o :: rest) N E w := by
 obtain ⟨w1, hr, H1⟩ := mark_run H q hq ho ht he hx h0
 exact WL.val hg hdst hlt hr (h w1 H1)
theorem Run.str {xs : List Int} (ho : o.op = .convert src dst x) (hs : P.underlying src = some (.slice e)) (he : P.underlying e = some (.int .u8)) (hd : P.underlying dst = some .string) (hx : ev E x = some (.slice A n c)) (h : (Kd.int .u8).C w A n xs) :
   Run P E o w (.string (strOfNums xs)) w := fun ρ hρ => by
 unfold execOp
 simp [ho, hρ _ _ hx, Kd.C_string hs he hd h]
end
section
variable {P : Program} {Q : Exit → Act → World → Prop} {N : Nat} {E : Env} {ops : Array Oper} {o : Oper} {ok0 : Nat → Prop} {w0 w : World} {ms : List Mu} {fo fn : List Fact} {e sz n c : Nat} {u : Value} {inner : List Value} {t : TypeId} {x y : Operand} {ad : Addr}
theorem putEl_run (H : St ok0 w0 w ms fo fn) (i : Nat) (hi : ms[i]? = some (rowM w0.heap.size e sz (.slice (some ad) n c) n inner)) (ho : o.op = .store t x y) {k : Nat} (hx : ev E x = some (.pointer (some (ad.add k)))) (hy : ev E y = some u) (vs : List Value) (hv : u.cells = vs.toArray) (h1 : ∀ u ∈ vs, u.oneCell' = true) (hz : (P.info? t).map (·.size) = some vs.length) (hk : k + vs.length ≤ n * sz) :
   ∃ w1, RunU P E o w w1 ∧ St ok0 w0 w1 (ms.set i (rowM w0.heap.size e sz (.slice (some ad) n c) n (cut inner k vs))) fo fn := by
 have hrow : w.ownsRow w0.heap.size e sz (.slice (some ad) n c) n inner := H.mu i hi
 obtain ⟨g, cur, hge, hb, hh, hs, ht⟩ := own_at hrow
 obtain ⟨g2, hge2, hcut⟩ := own_cut (vs := vs) hrow k hk
 have hgg : g2 = g := by rw [hge] at hge2; injection hge2 with h1 _ _; exact h1.symm
 subst hgg
 subst hge
 refine ⟨w.setCells g2 k vs, fun ρ hρ => ?_, ?_⟩
 · have hst := run_storeVar_mid (P := P) w g2 k t vs.toArray (fun j hj => by
     have hj : j < vs.length := by simpa using hj
     refine ⟨?_, blk_frozen hh _⟩
     rw [blk_cell hh, Array.getElem?_eq_getElem (by omega)]; rfl) (by simpa using hz) (all_oneCell_toArray h1)
   have h2 : (storeVar t ⟨g2, k, none⟩ u).run P w = (storeVar t ⟨g2, k, none⟩ (.agg vs.toArray)).run P w := by
     unfold storeVar
     rw [show u.cells = (Value.agg vs.toArray).cells from hv]
   have hp := hρ _ _ hx
   rw [Addr.add_mid, Nat.zero_add] at hp
   unfold execOp
   simp only [ho, hp, hρ _ _ hy, Instr.storeAt, Instr.sureAddr, Sem.run_bind, Sem.run_pure, Result.andThen_ok]
   rw [h2, hst]; rfl
 · refine H.put i hi (setCells_below vs g2 k H.b hb) (by rw [setCells_size]; exact Nat.le_refl _) (fun j hj hn => setCells_other vs w g2 k j (fun e2 => hn (by subst e2; simp [rowM, Value.ownBlock]))) (foot_row hcut) (by simp [rowM, Value.ownBlock]) (fun j hj => .inl hj)
theorem WD.putElL {S : World → Prop} {ds : List Nat} {fuel : Nat} {l : Array Bool} (i : Nat) (H : St ok0 w0 w ms fo fn) (q : Nat) (hq : ms[q]? = some (rowM w0.heap.size e sz (.slice (some ad) n c) n inner)) (ho : o.op = .store t x y) {k : Nat} (hx : ev E x = some (.pointer (some (ad.add k)))) (hy : ev E y = some u) (vs : List Value) (hv : u.cells = vs.toArray) (h1 : ∀ u ∈ vs, u.oneCell' = true) (hz : (P.info? t).map (·.size) = some vs.length) (hk : k + vs.length ≤ n * sz)
   (h : ∀ w1 I, I = cut inner k vs → St ok0 w0 w1 (ms.set q (rowM w0.heap.size e sz (.slice (some ad) n c) n I)) fo fn → WD P ops Q S ds fuel (l.setIfInBounds i true) N E w1)
   (hi : ops[i]? = some o := by rfl) (hd : o.dst = none := by rfl) (hg : o.guard = none := by rfl) (hc : readyB .any ops l (l.setIfInBounds i true) i = true := by kernel_rfl) (hds : i ∈ ds := by decide) : WD P ops Q S ds (fuel + 1) l N E w := by
 obtain ⟨w1, hr, H1⟩ := putEl_run H q hq ho hx hy vs hv h1 hz hk
 exact dl_ i hr (h w1 _ rfl H1) hi hd hg hc hds
end
theorem WC.endK {P : Program} {c : Code} {Q : Exit → Act → World → Prop} {n : Nat} {E : Env} {w : World} (h : ∀ K : Act → World → Prop, (∀ E w', WQ Q .normal n E w' → ∀ a, Fits a n E → K a w') → WC P c (Exit.then K Q) n E w) : WC P c Q n E w := by
 have e : Exit.then (fun a w => Q .normal a w) Q = Q := by
   funext e a w
   cases e <;> rfl
 have h1 := h (fun a w => Q .normal a w) (fun _ _ hy a hf => hy a hf)
 rwa [e] at h1
theorem viaQ_ {Q Q' : Exit → Act → World → Prop} {K : Act → World → Prop} {n : Nat} {E : Env} {w : World} {e e' : Exit} (hK : ∀ E w', WQ Q e' n E w' → ∀ a, Fits a n E → K a w') (h : WQ Q e' n E w) (hq : ∀ a w, K a w → Q' e a w := by exact fun _ _ h => h) : WQ Q' e n E w := fun a ha => hq a w (hK E w h a ha)
end Go.Proofs.Ytbdbadkinjbpcaa.XSt
namespace Go.Proofs.Ytbdbadkinjbpcaa.XSt
open Go.RowKit Go.Proofs.YtbdbadkinjbpcaaW.PrintWords Go.Proofs.YtbdbadkinjbpcaaW.PrintLast Go.Proofs.YtbdbadkinjbpcaaW.PrintMore Go.Proofs.Ytbdbadkinjbpcaa.XW Go.Proofs.Ytbdbadkinjbpcaa.XOp Go.Proofs.Ytbdbadkinjbpcaa.XDraw
set_option linter.unusedVariables false
section
variable {w : World} {base e size n : Nat} {v : Value} {xs : List Value}
theorem ownX_cases (h : OwnX w base e size v n xs) : (v = .slice none 0 0 ∧ n = 0 ∧ xs = []) ∨ (xs.length = n * size ∧ ∃ g cap cur f, v = .slice (some ⟨g, 0, none⟩) n cap ∧ base ≤ g ∧ w.heap[g]? = some (.cells cur e f) ∧ (f = (0, 0) ∨ cur.size ≤ f.1) ∧ n ≤ cap ∧ cap ≤ maxLen ∧ cur.size = cap * size ∧ cur.toList.take (n * size) = xs) := by
 rcases h with ⟨h1, h2⟩ | ⟨h1, g, cap, cur, f, a, b, c, d, r⟩
 · rcases h2 with ⟨rfl, rfl⟩ | ⟨g, cap, cur, a, b, c, r⟩
   · exact .inl ⟨rfl, rfl, List.eq_nil_of_length_eq_zero (by simpa using h1)⟩
   · exact .inr ⟨h1, g, cap, cur, _, a, b, c, .inl rfl, r⟩
 · exact .inr ⟨h1, g, cap, cur, f, a, b, c, .inr d, r⟩
theorem ownX_of {g cap : Nat} {cur : Array Value} {f : Nat × Nat} (h1 : xs.length = n * size) (hv : v = .slice (some ⟨g, 0, none⟩) n cap) (hb : base ≤ g) (hg : w.heap[g]? = some (.cells cur e f)) (hf : f = (0, 0) ∨ cur.size ≤ f.1) (r : n ≤ cap ∧ cap ≤ maxLen ∧ cur.size = cap * size ∧ cur.toList.take (n * size) = xs) : OwnX w base e size v n xs := by
 rcases hf with rfl | hf
 · exact .inl ⟨h1, .inr ⟨g, cap, cur, hv, hb, hg, r⟩⟩
 · exact .inr ⟨h1, g, cap, cur, f, hv, hb, hg, hf, r⟩
end
theorem bcells_array (s : ByteArray) : s.data.map (fun b : UInt8 => Value.int .u8 (b.toNat : Int)) = (bcells s).toArray := by
 apply Array.ext'
 simp [bcells, bytesOf, Function.comp_def]
theorem bcells_length (s : ByteArray) : (bcells s).length = s.size := by rw [bcells, List.length_map, bytesOf_length]
theorem bcells_one (s : ByteArray) : ∀ u ∈ bcells s, u.oneCell' = true := fun u hu => by
 obtain ⟨x, _, rfl⟩ := List.mem_map.1 hu
 rfl
theorem first_str {P : Program} {w : World} (size : Nat) (s : ByteArray) : (Builtin.firstCells size s.size (.string s)).run P w = .ok (bcells s).toArray w := by
 simp [Builtin.firstCells]
 rw [← bcells_array]
section
variable {P : Program} (w : World)
theorem run_append_str (base : Nat) (t u ty e : TypeId) (i : TypeInfo) (z : Value) (bytes : Nat) (ht : P.underlying t = some (.slice e)) (hu : P.underlying u = some .string) (hi : P.info? e = some i) (hz : i.zero = some z)
   (hsize : i.size = 1) (hby : i.bytes = bytes) (hzs : z.cells.size = 1)
   (v : Value) (n : Nat) (xs : List Value) (hown : OwnX w base e 1 v n xs) (s : ByteArray)
   (h63 : n + s.size ≤ maxLen) (hbytes : (n + s.size) * bytes ≤ 140737488355328) (hbase : base ≤ w.heap.size) :
   ∃ v' w', (Builtin.append_ #[t, u] ty #[v, .string s]).run P w = .ok v' w' ∧ OwnX w' base e 1 v' (n + s.size) (xs ++ bcells s) ∧ w.grownBy w' v.ownBlock ∧ (v'.ownBlock = v.ownBlock ∨ v'.ownBlock = some w.heap.size) := by
 have hsmall : n + s.size ≤ 9223372036854775807 := by simp only [maxLen] at h63; omega
 have hl := bcells_length s
 have hf : ∀ W : World, (Builtin.firstCells 1 s.size (.string s)).run P W = .ok (bcells s).toArray W := fun W => first_str 1 s
 rcases ownX_cases hown with ⟨rfl, rfl, rfl⟩ | ⟨hxl, g, cap, cur, f, rfl, hb, hg, hfz, hnc, hcm, hcs, htake⟩
 · by_cases h0 : s.size = 0
   · have hn : bcells s = [] := List.eq_nil_of_length_eq_zero (by omega)
     have hf0 : ∀ W : World, (Builtin.firstCells 1 0 (.string s)).run P W = .ok #[] W := fun W => by
       have := hf W
       rw [h0, hn] at this
       exact this
     refine ⟨.slice none 0 0, w, ?_, ?_, ⟨rfl, rfl, rfl, Nat.le_refl _, fun _ _ _ => rfl⟩, Or.inl rfl⟩
     · simp [Builtin.append_, run_underlying ht, run_underlying hu, sizeOf, typeInfo, hi, hsize, Builtin.lenOf, h0, hf0]
     · rw [hn, h0]; exact .inl (World.ownsRow_nil w base e 1)
   · have hr := run_append_nil_string (P := P) w t u ty e i z ht hu hi hz s (by omega) (by omega) (by rw [hby]; have hb2 := hbytes; rw [Nat.zero_add] at hb2; omega)
     rw [bcells_array] at hr
     have hge := grownCap_ge w s.size 0 e
     have hcm2 : grownCap w s.size 0 e ≤ maxLen := grownCap_le_maxLen w s.size 0 e (by omega)
     refine ⟨_, _, hr, ?_, ⟨rfl, rfl, rfl, by simp, fun k hk _ => by simp [World.alloc, World.drew, -World.alloc_eq, -World.drew_eq, Array.getElem?_push, Nat.ne_of_lt hk]⟩, Or.inr rfl⟩
     rw [Nat.zero_add, List.nil_append]
     refine ownX_of (g := w.heap.size) (cap := grownCap w s.size 0 e) (f := (0, 0)) (by omega) rfl hbase (heap_alloc_new w.drew _) (.inl rfl) ⟨hge, hcm2, ?_, ?_⟩
     · simp only [Array.size_append, List.size_toArray, size_zeroCells, hzs, hl]; omega
     · rw [Array.toList_append]; exact List.take_left' (by simp [hl])
 · by_cases hr : n + s.size ≤ cap
   · have hfit : n * 1 + (bcells s).length ≤ cur.size := by rw [hl, hcs]; omega
     have hst := run_storeCells_cells (P := P) g (n * 1) (bcells s) 0 w
       (fun j hj => by rw [cell_of_row w g _ cur e f hg, Array.getElem?_eq_getElem (by omega)]; rfl)
       (fun j hj => by
         simp only [World.frozen?, hg, Bool.and_eq_false_iff, decide_eq_false_iff_not]
         rcases hfz with rfl | hfz
         · right; omega
         · left; omega) (bcells_one s)
     simp only [Nat.add_zero] at hst
     have hrun : (Builtin.append_ #[t, u] ty #[.slice (some ⟨g, 0, none⟩) n cap, .string s]).run P w = .ok (.slice (some ⟨g, 0, none⟩) (n + s.size) cap) (w.setCells g (n * 1) (bcells s)) := by
       simp [Builtin.append_, run_underlying ht, run_underlying hu, sizeOf, typeInfo, hi, hsize, Builtin.lenOf, hr, hf, Addr.add_lit]
       rw [Nat.mul_one] at hst
       rw [hst]; rfl
     refine ⟨_, _, hrun, ownX_of (g := g) (cap := cap) (f := f) (by rw [List.length_append, hxl, hl]; omega) rfl hb (sets_blk (bcells s) _ w cur hg) (by rw [splice_size]; exact hfz) ⟨hr, hcm, by rw [splice_size]; exact hcs, ?_⟩, sets_grown (bcells s) _ w, Or.inl rfl⟩
     apply List.ext_getElem?
     intro j
     by_cases hj : j < (n + s.size) * 1
     · rw [List.getElem?_take_of_lt hj, Array.getElem?_toList, splice_get _ _ _ _ hfit]
       by_cases h2 : j < n * 1
       · rw [if_neg (by omega), List.getElem?_append_left (by omega), ← htake, List.getElem?_take_of_lt h2, Array.getElem?_toList]
       · rw [if_pos (by omega), List.getElem?_append_right (by omega), hxl]
     · rw [List.getElem?_eq_none (by rw [List.length_take]; omega), List.getElem?_eq_none (by rw [List.length_append, hxl, hl]; omega)]
   · have holds : ∀ j u, xs[j]? = some u → w.cell? ((⟨g, 0, none⟩ : Addr).add j) = some u := fun j u hu => by
       have hj : j < n * 1 := by have := (List.getElem?_eq_some_iff.1 hu).1; omega
       rw [Addr.add_mid, Nat.zero_add, cell_of_row w g j cur e f hg]
       rw [← htake, List.getElem?_take_of_lt hj] at hu
       simpa using hu
     have hge := grownCap_ge w (n + s.size) cap e
     have hcm2 : grownCap w (n + s.size) cap e ≤ maxLen := grownCap_le_maxLen w (n + s.size) cap e h63
     have hn : ¬ (n + s.size ≤ cap) := hr
     have h63' : ¬ (9223372036854775807 < ((n : Int) + (s.size : Int))) := by omega
     have hfits := growslice_fits (show cap < n + s.size by omega) hbytes
     have h48' : ¬ (281474976710656 < Builtin.nextslicecap (n + s.size) cap * i.bytes) := by rw [hby]; omega
     have hfo := run_firstCells_some (P := P) w.drew 1 n ⟨g, 0, none⟩ n cap xs hxl (by simpa using holds)
     have hrun : (Builtin.append_ #[t, u] ty #[.slice (some ⟨g, 0, none⟩) n cap, .string s]).run P w = .ok (.slice (some ⟨w.heap.size, 0, none⟩) (n + s.size) (grownCap w (n + s.size) cap e)) (w.drew.alloc (.cells (xs.toArray ++ (bcells s).toArray ++ Builtin.zeroCells z.cells (grownCap w (n + s.size) cap e - (n + s.size))) e)) := by
       simp [Builtin.append_, run_underlying ht, run_underlying hu, sizeOf, typeInfo, zeroValue, hi, hz, hsize, Builtin.lenOf, hn, h63', h48', Question.forced, hf, hfo, newRow, grownCap]
       congr 2
       apply Array.ext'
       simp [List.append_assoc]
     refine ⟨_, _, hrun, ownX_of (g := w.heap.size) (cap := grownCap w (n + s.size) cap e) (f := (0, 0)) (by rw [List.length_append, hxl, hl]; omega) rfl hbase (heap_alloc_new w.drew _) (.inl rfl) ⟨hge, hcm2, ?_, ?_⟩, ⟨rfl, rfl, rfl, by simp, fun k hk _ => by simp [World.alloc, World.drew, -World.alloc_eq, -World.drew_eq, Array.getElem?_push, Nat.ne_of_lt hk]⟩, Or.inr rfl⟩
     · simp only [Array.size_append, List.size_toArray, size_zeroCells, hzs, hxl, hl]; omega
     · simp only [Array.toList_append]
       exact List.take_left' (by simp [hxl, hl])
end
section
variable {P : Program} {Q : Exit → Act → World → Prop} {N : Nat} {E : Env} {ops : Array Oper} {o : Oper} {rest : List Oper} {d : Nat} {ok0 : Nat → Prop} {w0 w : World} {ms : List Mu} {fo fn : List Fact} {e n : Nat} {v : Value} {inner : List Value} {t u : TypeId} {s x : Operand}
theorem WL.appendS {b : ByteArray} (H : St ok0 w0 w ms fo fn) (q : Nat) (hq : ms[q]? = some (rowX w0.heap.size e 1 v n inner)) (hg : o.guard = none) (hd : o.dst = some d) (hlt : d < N) (ho : o.op = .call { callee := .builtin .append, args := #[s, x], argTypes := #[t, u] })
   (z : Value) (bytes : Nat) (ht : P.underlying t = some (.slice e)) (hu : P.underlying u = some .string) (hinfo : (P.info? e).map (fun i => (i.zero, i.size, i.bytes)) = some (some z, 1, bytes)) (hz : z.cells.size = 1) (hb0 : 0 < bytes)
   (hs : ev E s = some v) (hx : ev E x = some (.string b)) (hbytes : (n + b.size) * bytes ≤ 140737488355328) (n' : Nat) (hn : n + b.size = n')
   (h : ∀ v1 w1 I, I = inner ++ bcells b → St ok0 w0 w1 (ms.set q (rowX w0.heap.size e 1 v1 n' I)) fo fn → WL P ops Q rest N ((d, v1) :: E) w1) : WL P ops Q (o :: rest) N E w := by
 subst hn
 obtain ⟨i0, hi0, hzz⟩ := Option.map_eq_some_iff.1 hinfo
 simp only [Prod.mk.injEq] at hzz
 obtain ⟨hz0, hz1, hz2⟩ := hzz
 have hlen : n + b.size ≤ 140737488355328 := Nat.le_trans (Nat.le_mul_of_pos_right _ hb0) hbytes
 obtain ⟨v', w', hr, h2, h3, h5⟩ := run_append_str (P := P) w w0.heap.size t u o.type e i0 z bytes ht hu hi0 hz0 hz1 hz2 hz v n inner (H.mu q hq) b (by simp only [maxLen]; omega) hbytes H.size
 refine WL.val hg hd hlt (v := v') (w1 := w') (fun ρ hρ => ?_) (h v' w' _ rfl (H.grownX q hq h2 h3 h5))
 unfold execOp
 simp only [ho, resolve, invoke, builtin, Sem.run_bind, Sem.run_pure, Result.andThen_ok, List.map_toArray, List.map_cons, List.map_nil, hρ _ _ hs, hρ _ _ hx, hr]
end
section
variable {P : Program} {E : Env} {o : Oper} {w : World} {t t2 : TypeId} {x y : Operand} {v : Value} {op : BinOp} {a b : ByteArray}
theorem bin_neqT : (Go.binOp .neq t (.string a) (.string b)).run P w = .ok (.bool (a.toList != b.toList)) w := by simp [Go.binOp, Op.stringOp, bne]
theorem bin_addT (h : a.size + b.size < 4294967296) : (Go.binOp .add t (.string a) (.string b)).run P w = .ok (.string (a ++ b)) w := by
 have := run_string_add_sum (P := P) (w := w) a b (by omega)
 simpa [Go.binOp] using this
theorem eqGuard_str (op : BinOp) (a b : ByteArray) : (eqGuard op t x y (.string a) (.string b)).run P w = .ok () w := by unfold eqGuard; split <;> simp
theorem Run.binT (ho : o.op = .binOp op t x y t2) (hx : ev E x = some (.string a)) (hy : ev E y = some (.string b)) (hr : (Go.binOp op t (.string a) (.string b)).run P w = .ok v w) : Run P E o w v w := fun ρ hρ => by
 unfold execOp; simp [ho, hρ _ _ hx, hρ _ _ hy, eqGuard_str, hr]
end
end Go.Proofs.Ytbdbadkinjbpcaa.XSt
namespace Go.Proofs.Ytbdbadkinjbpcaa.XSt
open Go.RowKit Go.Proofs.YtbdbadkinjbpcaaW.PrintWords Go.Proofs.YtbdbadkinjbpcaaW.PrintLast Go.Proofs.YtbdbadkinjbpcaaW.PrintMore Go.Proofs.Ytbdbadkinjbpcaa.XW Go.Proofs.Ytbdbadkinjbpcaa.XOp Go.Proofs.Ytbdbadkinjbpcaa.XDraw
set_option linter.unusedVariables false
structure Dk (α : Type) where
 d : Kd α
 B : World → α → List Value → List Nat → Prop
 K : ∀ {w : World} {x : α} {cs : List Value} {bl : List Nat}, B w x cs bl → d.K w x cs
 mv : ∀ {w w1 : World} {x : α} {cs : List Value} {bl : List Nat}, B w x cs bl → (∀ k, k ∈ bl → w1.heap[k]? = w.heap[k]?) → B w1 x cs bl
 lt : ∀ {w : World} {x : α} {cs : List Value} {bl : List Nat}, B w x cs bl → ∀ k, k ∈ bl → k < w.heap.size
theorem el_at {α : Type} {dd : Kd α} {W : World} {ad : Addr} {n : Nat} {xs : List α} (h : dd.C W (some ad) n xs) (z : α) (j : Int) (h0 : 0 ≤ j) (h1 : j < (n : Int)) {o : Nat} {u : Value} (ha : ∀ c, dd.K W (xs.getD j.toNat z) c → c[o]? = some u) : W.cell? ((ad.add (j.toNat * dd.sz)).add o) = some u := by
 obtain ⟨ad', c, e, hl, hK, hc⟩ := Kd.C_get h z j h0 h1
 injection e with e
 subst e
 rw [XLoad.add_add]; exact hc o u (ha c hK)
end Go.Proofs.Ytbdbadkinjbpcaa.XSt
namespace Go.Proofs.Ytbdbadkinjbpcaa.XSt
open Go.RowKit Go.Proofs.YtbdbadkinjbpcaaW.PrintWords Go.Proofs.YtbdbadkinjbpcaaW.PrintLast Go.Proofs.YtbdbadkinjbpcaaW.PrintMore Go.Proofs.Ytbdbadkinjbpcaa.XW Go.Proofs.Ytbdbadkinjbpcaa.XOp Go.Proofs.Ytbdbadkinjbpcaa.XDraw
set_option linter.unusedVariables false
section
variable {P : Program} {E : Env} {w : World} {o : Oper} {x y z : Operand} {t : TypeId} {b : ByteArray} {k k2 : IntKind} {i j : Int}
theorem Run.strIndex (ho : o.op = .index t x y) (ht : P.underlying t = some .string) (hx : ev E x = some (.string b)) (hy : ev E y = some (.int k i)) (h0 : 0 ≤ i) (h1 : i < (b.size : Int)) : Run P E o w (.int .u8 (bt b i)) w := fun ρ hρ => by
 have h2 := bt_at b i (by omega)
 unfold execOp
 simp only [ho, hρ _ _ hx, hρ _ _ hy, Sem.run_bind, run_index_string w t b k i ht, dif_pos (show 0 ≤ i ∧ i < (b.size : Int) from ⟨h0, h1⟩), Result.andThen_ok, Sem.run_pure, h2]
theorem Run.strLH (ho : o.op = .slice t x (some y) (some z) none) (ht : P.underlying t = some .string) (hx : ev E x = some (.string b)) (hy : ev E y = some (.int k i)) (hz : ev E z = some (.int k2 j)) (h0 : 0 ≤ i) (h1 : i ≤ j) (h2 : j ≤ (b.size : Int)) : Run P E o w (.string (b.extract i.toNat j.toNat)) w := fun ρ hρ => by
 unfold execOp
 simp only [ho, hρ _ _ hx, Option.map_some, Option.map_none, hρ _ _ hy, hρ _ _ hz, Sem.run_bind, run_sliceAt_string w t _ _ _ _ ht, run_slice_string_if w t b k k2 i j ht, if_pos (show 0 ≤ j ∧ j ≤ (b.size : Int) from ⟨by omega, h2⟩), if_pos (show 0 ≤ i ∧ i ≤ j from ⟨h0, h1⟩), Result.andThen_ok, Sem.run_pure]
theorem Run.strL (ho : o.op = .slice t x (some y) none none) (ht : P.underlying t = some .string) (hx : ev E x = some (.string b)) (hy : ev E y = some (.int k i)) (h0 : 0 ≤ i) (h1 : i ≤ (b.size : Int)) : Run P E o w (.string (b.extract i.toNat b.size)) w := fun ρ hρ => by
 unfold execOp
 simp only [ho, hρ _ _ hx, Option.map_some, Option.map_none, hρ _ _ hy, Sem.run_bind, run_sliceAt_string w t _ _ _ _ ht, run_slice_string_from_if w t b k i ht, if_pos (show 0 ≤ i ∧ i ≤ (b.size : Int) from ⟨h0, h1⟩), Result.andThen_ok, Sem.run_pure]
theorem Run.strH (ho : o.op = .slice t x none (some z) none) (ht : P.underlying t = some .string) (hx : ev E x = some (.string b)) (hz : ev E z = some (.int k j)) (h0 : 0 ≤ j) (h1 : j ≤ (b.size : Int)) : Run P E o w (.string (b.extract 0 j.toNat)) w := fun ρ hρ => by
 unfold execOp
 simp only [ho, hρ _ _ hx, Option.map_some, Option.map_none, hρ _ _ hz, Sem.run_bind, run_sliceAt_string w t _ _ _ _ ht, run_slice_string_to_if w t b k j ht, if_pos (show 0 ≤ j ∧ j ≤ (b.size : Int) from ⟨h0, h1⟩), Result.andThen_ok, Sem.run_pure]
end
section
variable {w : World} {B e sz n c : Nat} {ad : Addr} {inner vs : List Value}
theorem ownX_at (h : OwnX w B e sz (.slice (some ad) n c) n inner) : ∃ g cur f, ad = ⟨g, 0, none⟩ ∧ B ≤ g ∧ w.heap[g]? = some (.cells cur e f) ∧ (f = (0, 0) ∨ cur.size ≤ f.1) ∧ n * sz ≤ cur.size ∧ cur.toList.take (n * sz) = inner := by
 rcases h with h | ⟨_, g, cap, cur, f, e1, hb, hg, hf, hn, _, hc, ht⟩
 · obtain ⟨g, cur, e1, hb, hh, hs, ht⟩ := own_at h
   exact ⟨g, cur, (0, 0), e1, hb, hh, .inl rfl, hs, ht⟩
 · injection e1 with e1 e2 e3
   injection e1 with e1
   exact ⟨g, cur, f, e1, hb, hg, .inr hf, by rw [hc]; exact Nat.mul_le_mul_right _ hn, ht⟩
theorem ownX_cut (h : OwnX w B e sz (.slice (some ad) n c) n inner) (k : Nat) (hk : k + vs.length ≤ n * sz) : ∃ g, ad = ⟨g, 0, none⟩ ∧ OwnX (w.setCells g k vs) B e sz (.slice (some ad) n c) n (cut inner k vs) := by
 have hx := ownX_len h
 rcases h with h | ⟨hl, g, cap, cur, f, e1, hb, hg, hf, hn, hm, hc, ht⟩
 · obtain ⟨g, e1, h2⟩ := own_cut (vs := vs) h k hk
   exact ⟨g, e1, .inl h2⟩
 · injection e1 with e1 e2 e3
   injection e1 with e1
   subst e1 e3
   have hs : n * sz ≤ cur.size := by rw [hc]; exact Nat.mul_le_mul_right _ hn
   refine ⟨g, rfl, .inr ⟨by rw [cut_length (by omega)]; exact hl, g, c, _, f, rfl, hb, sets_blk vs k w cur hg, by rw [splice_size]; exact hf, hn, hm, by rw [splice_size]; exact hc, ?_⟩⟩
   apply List.ext_getElem?
   intro i
   rw [cut_get (by omega)]
   by_cases hi : i < n * sz
   · rw [List.getElem?_take_of_lt hi, Array.getElem?_toList, splice_get vs cur k i (by omega)]
     by_cases h2 : k ≤ i ∧ i < k + vs.length
     · rw [if_pos h2, if_pos h2]
     · rw [if_neg h2, if_neg h2, ← ht, List.getElem?_take_of_lt hi, Array.getElem?_toList]
   · rw [List.getElem?_eq_none (by rw [List.length_take]; omega), if_neg (by omega), List.getElem?_eq_none (by omega)]
theorem rowX_open {A : Option Addr} (h : OwnX w B e sz (.slice A n c) n inner) (h0 : 0 < n) : ∃ ad, A = some ad := by
 obtain ⟨ad, e1, _⟩ := rowX_cells h h0
 exact ⟨ad, e1⟩
theorem rowX_int {k : IntKind} {xs : List Int} (h : OwnX w B e 1 (.slice (some ad) n c) n inner) (hr : Reps ((Kd.int k).K w) (Kd.int k).sz xs inner) {i : Int} (h0 : 0 ≤ i) (h1 : i < ((n : Nat) : Int)) : w.cell? (ad.add (i.toNat * 1)) = some (.int k (xs.getD i.toNat 0)) := by
 have hl : inner.length = xs.length * 1 := hr.1
 have hn := ownX_len h
 have hi : i.toNat < xs.length := by omega
 have h2 : (inner.drop (i.toNat * 1)).take 1 = [.int k (xs.getD i.toNat 0)] := by
   have := hr.2 i.toNat _ (List.getElem?_eq_getElem hi)
   rw [List.getD_eq_getElem?_getD, List.getElem?_eq_getElem hi]
   exact this
 obtain ⟨ad', e1, hc⟩ := rowX_cells h (by omega)
 injection e1 with e1
 subst e1
 refine hc _ _ ?_
 rw [Nat.mul_one] at h2 ⊢
 have h3 := congrArg List.head? h2
 rw [List.head?_take, List.head?_drop] at h3
 simpa using h3
end
section
variable {P : Program} {Q : Exit → Act → World → Prop} {N : Nat} {E : Env} {ops : Array Oper} {o : Oper} {rest : List Oper} {ok0 : Nat → Prop} {w0 w : World} {ms : List Mu} {fo fn : List Fact} {e sz n c : Nat} {u : Value} {inner : List Value} {t : TypeId} {x y : Operand} {ad : Addr}
theorem St.rowXN (h : St ok0 w0 w ms fo fn) {B n' : Nat} {v : Value} (i : Nat) (hi : ms[i]? = some (rowX B e sz v n inner)) (hn : n = n') : St ok0 w0 w (ms.set i (rowX B e sz v n' inner)) fo fn := by
 subst hn
 obtain ⟨h1, h2⟩ := List.getElem?_eq_some_iff.1 hi
 rw [← h2, List.set_getElem_self]
 exact h
theorem putElX_run (H : St ok0 w0 w ms fo fn) (i : Nat) (hi : ms[i]? = some (rowX w0.heap.size e sz (.slice (some ad) n c) n inner)) (ho : o.op = .store t x y) {k : Nat} (hx : ev E x = some (.pointer (some (ad.add k)))) (hy : ev E y = some u) (vs : List Value) (hv : u.cells = vs.toArray) (h1 : ∀ u ∈ vs, u.oneCell' = true) (hz : (P.info? t).map (·.size) = some vs.length) (hk : k + vs.length ≤ n * sz) :
   ∃ w1, RunU P E o w w1 ∧ St ok0 w0 w1 (ms.set i (rowX w0.heap.size e sz (.slice (some ad) n c) n (cut inner k vs))) fo fn := by
 have hrow : OwnX w w0.heap.size e sz (.slice (some ad) n c) n inner := H.mu i hi
 obtain ⟨g, cur, f, hge, hb, hh, hf, hs, ht⟩ := ownX_at hrow
 obtain ⟨g2, hge2, hcut⟩ := ownX_cut (vs := vs) hrow k hk
 have hgg : g2 = g := by rw [hge] at hge2; injection hge2 with h1 _ _; exact h1.symm
 subst hgg
 subst hge
 refine ⟨w.setCells g2 k vs, fun ρ hρ => ?_, ?_⟩
 · have hst := run_storeVar_mid (P := P) w g2 k t vs.toArray (fun j hj => by
     have hj : j < vs.length := by simpa using hj
     refine ⟨by rw [cell_of_row w g2 _ cur e f hh, Array.getElem?_eq_getElem (by omega)]; rfl, ?_⟩
     rcases hf with rfl | hf
     · exact blk_frozen hh _
     · have : k + j < f.1 := by omega
       simp only [World.frozen?, hh, Bool.and_eq_false_iff, decide_eq_false_iff_not]
       left; omega) (by simpa using hz) (all_oneCell_toArray h1)
   have h2 : (storeVar t ⟨g2, k, none⟩ u).run P w = (storeVar t ⟨g2, k, none⟩ (.agg vs.toArray)).run P w := by
     unfold storeVar
     rw [show u.cells = (Value.agg vs.toArray).cells from hv]
   have hp := hρ _ _ hx
   rw [Addr.add_mid, Nat.zero_add] at hp
   unfold execOp
   simp only [ho, hp, hρ _ _ hy, Instr.storeAt, Instr.sureAddr, Sem.run_bind, Sem.run_pure, Result.andThen_ok]
   rw [h2, hst]; rfl
 · refine H.put i hi (setCells_below vs g2 k H.b hb) (by rw [setCells_size]; exact Nat.le_refl _) (fun j hj hn => setCells_other vs w g2 k j (fun e2 => hn (by subst e2; simp [rowX, Value.ownBlock]))) (foot_rowX hcut) (by simp [rowX, Value.ownBlock]) (fun j hj => .inl hj)
theorem WD.putElXL {S : World → Prop} {ds : List Nat} {fuel : Nat} {l : Array Bool} (i : Nat) (H : St ok0 w0 w ms fo fn) (q : Nat) (hq : ms[q]? = some (rowX w0.heap.size e sz (.slice (some ad) n c) n inner)) (ho : o.op = .store t x y) {k : Nat} (hx : ev E x = some (.pointer (some (ad.add k)))) (hy : ev E y = some u) (vs : List Value) (hv : u.cells = vs.toArray) (h1 : ∀ u ∈ vs, u.oneCell' = true) (hz : (P.info? t).map (·.size) = some vs.length) (hk : k + vs.length ≤ n * sz)
   (h : ∀ w1 I, I = cut inner k vs → St ok0 w0 w1 (ms.set q (rowX w0.heap.size e sz (.slice (some ad) n c) n I)) fo fn → WD P ops Q S ds fuel (l.setIfInBounds i true) N E w1)
   (hi : ops[i]? = some o := by rfl) (hd : o.dst = none := by rfl) (hg : o.guard = none := by rfl) (hc : readyB .any ops l (l.setIfInBounds i true) i = true := by kernel_rfl) (hds : i ∈ ds := by decide) : WD P ops Q S ds (fuel + 1) l N E w := by
 obtain ⟨w1, hr, H1⟩ := putElX_run H q hq ho hx hy vs hv h1 hz hk
 exact dl_ i hr (h w1 _ rfl H1) hi hd hg hc hds
end
end Go.Proofs.Ytbdbadkinjbpcaa.XSt
namespace Go.Proofs.Ytbdbadkinjbpcaa.XSt
open Go.RowKit Go.Proofs.YtbdbadkinjbpcaaW.PrintWords Go.Proofs.YtbdbadkinjbpcaaW.PrintLast Go.Proofs.YtbdbadkinjbpcaaW.PrintMore Go.Proofs.Ytbdbadkinjbpcaa.XW Go.Proofs.Ytbdbadkinjbpcaa.XOp Go.Proofs.Ytbdbadkinjbpcaa.XDraw
set_option linter.unusedVariables false
abbrev vi (n : Int) : Value := .int .i64 n
abbrev sn : Value := .slice none 0 0
abbrev kI : Kd Int := Kd.int .i64
abbrev kU : Kd Int := Kd.int .u8
abbrev cF {α : Type} (d : Kd α) (A : Option Addr) (xs : List α) : Fact := fun W => d.C W A xs.length xs
abbrev rF {α : Type} (d : Kd α) (xs : List α) (I : List Value) : Fact := fun W => Reps (d.K W) d.sz xs I
abbrev kF {α : Type} (d : Kd α) (x : α) (cs : List Value) : Fact := fun W => d.K W x cs
theorem oneL {vs : List Value} (h : (vs.all fun u => u.oneCell') = true) : ∀ u ∈ vs, u.oneCell' = true := List.all_eq_true.1 h
theorem sb {E E' : Env} (h : (E'.map fun p => lk E p.1) = E'.map fun p => some p.2) : Sub E' E := by
 induction E' with
 | nil => trivial
 | cons p E' ih =>
   obtain ⟨t, v⟩ := p
   rw [List.map_cons, List.map_cons] at h
   injection h with h1 h2
   exact ⟨h1, ih h2⟩
theorem all_idx {W : World} {fs : List Fact} : ∀ {is : List Nat} {gs : List Fact}, is.map (fun i => fs[i]?) = gs.map some → AllF W fs → AllF W gs
 | [], [], _, _ => trivial
 | i :: is, g :: gs, e, h => by
   rw [List.map_cons, List.map_cons] at e
   injection e with e1 e2
   exact ⟨AllF.get i e1 h, all_idx e2 h⟩
 | [], _ :: _, e, _ => by cases e
 | _ :: _, [], e, _ => by cases e
theorem St.pk {ok0 : Nat → Prop} {w0 w : World} {ms : List Mu} {fo fn fo' fn' : List Fact} (h : St ok0 w0 w ms fo fn) (is js : List Nat) (hO : is.map (fun i => fo[i]?) = fo'.map some) (hN : js.map (fun i => fn[i]?) = fn'.map some) : St ok0 w0 w ms fo' fn' :=
 h.pick (fun W => all_idx hO) (fun W => all_idx hN)
theorem WL.storeW {P : Program} {Q : Exit → Act → World → Prop} {N : Nat} {E : Env} {ops : Array Oper} {o : Oper} {rest : List Oper} {ok0 : Nat → Prop} {w0 w : World} {ms : List Mu} {fo fn : List Fact} {t ty : TypeId} {x y : Operand} {cs : Array Value}
   (H : St ok0 w0 w ms fo fn) (i : Nat) {b : Nat} {vs : List Value} (hi : ms[i]? = some (boxM b cs ty)) (hg : o.guard = none) (hd : o.dst = none) (ho : o.op = .store t x y) (hx : ev E x = some (.pointer (some ⟨b, 0, none⟩))) (hy : ev E y = some (.agg vs.toArray)) (hv : ∀ u ∈ vs, u.oneCell' = true) (hz : (P.info? t).map (·.size) = some vs.length) (hj : vs.length = cs.size)
   (h : ∀ w1, St ok0 w0 w1 (ms.set i (boxM b vs.toArray ty)) fo fn → WL P ops Q rest N E w1) : WL P ops Q (o :: rest) N E w :=
 WL.storeS H i hi hg hd ho hx hy hv hz (by omega) (splice_all hj) h
theorem ble_ {n m : Nat} (h : Nat.ble n m = true) : n ≤ m := Nat.le_of_ble_eq_true h
theorem ad_ {P : Program} {Q Q' : Exit → Act → World → Prop} {K : Act → World → Prop} {n : Nat} {E : Env} {w : World} {ops : Array Oper} {o : Oper} {y : Code} {x : Operand} {d : Nat} {v : Value} (hK : ∀ E w', WC P y Q n E w' → ∀ a, Fits a n E → K a w') (h : WC P y Q n ((d, v) :: E) w)
   (ho : o.op = .assign x := by rfl) (hx : ev E x = some v := by rfl) (hg : o.guard = none := by rfl) (hd : o.dst = some d := by rfl) (hlt : d < n := by decide) (hq : ∀ a w, K a w → Q' .normal a w := by exact fun _ _ h => h) : WL P ops Q' [o] n E w := as_ (dn_ hK h hq) ho hx hg hd hlt
section
variable {α β : Type} {b : Kd β} {a : Kd α} {w : World} {y : β} {cs c0 c1 : List Value}
theorem pI {k : IntKind} {x : Int} (h : b.K w y cs) : (Kd.pair (Kd.int k) b).K w (x, y) (.int k x :: cs) := ⟨[.int k x], cs, rfl, rfl, h⟩
theorem pS {e : Nat} {xs : List α} {A : Option Addr} {c : Nat} (l : xs.length ≤ c) (g : a.C w A xs.length xs) (h : b.K w y cs) : (Kd.pair (Kd.slice e a) b).K w (xs, y) (.slice A xs.length c :: cs) := ⟨[.slice A xs.length c], cs, rfl, ⟨A, c, rfl, l, g⟩, h⟩
theorem pK (n : Nat) {x : α} (h0 : a.K w x (cs.take n)) (h : b.K w y (cs.drop n)) : (Kd.pair a b).K w (x, y) cs := ⟨cs.take n, cs.drop n, (List.take_append_drop n cs).symm, h0, h⟩
theorem lS {e : Nat} {xs : List α} {A : Option Addr} {c : Nat} (l : xs.length ≤ c) (g : a.C w A xs.length xs) : (Kd.slice e a).K w xs [.slice A xs.length c] := ⟨A, c, rfl, l, g⟩
end
theorem iq {α β : Type} {p : α → β → Prop} (a : α) (b : β) (h : p a b) : p a b := h
section
variable {P : Program} {n : Nat} {E E' : Env} {w : World} {Q' : Exit → Act → World → Prop} {e : Exit}
theorem wr_ {J : Nat → Env → World → Prop} (k : Nat) (hq : ∀ a w, (∃ k' E', k' < k + 1 ∧ Fits a n E' ∧ J k' E' w) → Q' e a w) (hJ : J k E' w) (hE : Sub E' E := by exact sb rfl) : WQ Q' e n E w := WQ.round k hq (Nat.lt_succ_self _) hJ hE
theorem wv_ {K : Act → World → Prop} {J : Env → World → Prop} (hq : ∀ a w, K a w → Q' e a w) (hX : ∀ E w', J E w' → ∀ a, Fits a n E → K a w') (hJ : J E' w) (hE : Sub E' E := by exact sb rfl) : WQ Q' e n E w := WQ.via2 hq hX hJ hE
end
end Go.Proofs.Ytbdbadkinjbpcaa.XSt
namespace Go.Proofs.Ytbdbadkinjbpcaa.XSt
open Go.RowKit Go.Proofs.YtbdbadkinjbpcaaW.PrintWords Go.Proofs.YtbdbadkinjbpcaaW.PrintLast Go.Proofs.YtbdbadkinjbpcaaW.PrintMore Go.Proofs.Ytbdbadkinjbpcaa.XW Go.Proofs.Ytbdbadkinjbpcaa.XOp Go.Proofs.Ytbdbadkinjbpcaa.XDraw Go.Proofs.Ytbdbadkinjbpcaa.XLeaf
set_option linter.unusedVariables false
def only (w : World) (bl : List Nat) : World := { w with heap := w.heap.mapIdx fun i c => open Classical in if i ∈ bl then c else .cells #[] 0 (0, 0) }
end Go.Proofs.Ytbdbadkinjbpcaa.XSt
namespace Go.Proofs.Ytbdbadkinjbpcaa.XOpen
open Go.RowKit Go.Proofs.YtbdbadkinjbpcaaW.PrintWords Go.Proofs.YtbdbadkinjbpcaaW.PrintLast Go.Proofs.YtbdbadkinjbpcaaW.PrintMore Go.Deep Go.ChangeShapes Go.WideShapes
set_option linter.unusedVariables false
set_option linter.unusedSimpArgs false
def Opens {α : Type} (P : Program) (t : TypeId) (d : Kd α) (G : α → Prop) : Prop :=
 ∀ {H : Type} {enc : TypeId × Value → H} {w : World} {base : Nat} {held : Bool} {fuel : Nat} {cs : List Value} {x : DataW H × List MemPlace},
   DataW.trod enc P w base (fun _ => true) held fuel t cs = some x → ∃ a, d.K w a cs ∧ G a
theorem opens_int {P : Program} {t : TypeId} {k : IntKind} (ht : P.underlying t = some (.int k)) : Opens P t (Kd.int k) (fun n => (Lit.int k n).wf = true) := by
 intro H enc w base held fuel cs x h
 obtain ⟨n, rfl, _, hw⟩ := DataW.trod_int ht h
 exact ⟨n, rfl, hw⟩
theorem list_of {α : Type} (Q : Nat → α → Prop) : ∀ n, (∀ i, i < n → ∃ a, Q i a) → ∃ xs : List α, xs.length = n ∧ ∀ i a, xs[i]? = some a → Q i a
 | 0, _ => ⟨[], rfl, fun i a h => by simp at h⟩
 | n + 1, h => by
   obtain ⟨xs, hl, hq⟩ := list_of Q n (fun i hi => h i (by omega))
   obtain ⟨a, ha⟩ := h n (by omega)
   refine ⟨xs ++ [a], by simp [hl], fun i b hb => ?_⟩
   by_cases hi : i < n
   · rw [List.getElem?_append_left (by omega)] at hb; exact hq i b hb
   · have : i = n := by
       have := (List.getElem?_eq_some_iff.1 hb).1
       simp at this; omega
     subst this
     rw [List.getElem?_append_right (by omega), hl, Nat.sub_self] at hb
     have : a = b := by simpa using hb
     subst this; exact ha
theorem opens_slice {α : Type} {P : Program} {t e : TypeId} {d : Kd α} {G : α → Prop} (ht : P.underlying t = some (.slice e)) (hc : P.cellsOf e = d.sz) (ho : Opens P e d G) :
   Opens P t (Kd.slice e d) (fun xs => xs.length ≤ 9223372036854775807 ∧ ∀ x ∈ xs, G x) := by
 intro H enc w base held fuel cs x h
 rcases open_slice ht h with ⟨rfl, _⟩ | ⟨a, len, cap, m, n, D, Pl, rfl, hb, hl, hm, hmm, _, hx⟩
 · exact ⟨[], ⟨none, 0, rfl, Nat.le_refl _, rfl, Nat.zero_le _, fun h => absurd h (Nat.lt_irrefl _)⟩, Nat.zero_le _, fun x hx => by cases hx⟩
 · simp only [if_true] at hmm
   subst hmm
   obtain ⟨xs, hxl, hxs⟩ := list_of (fun i p => G p ∧ ∃ c, c.length = d.sz ∧ d.K w p c ∧ ∀ j u, c[j]? = some u → w.cell? (a.add (i * d.sz + j)) = some u) len (fun i hi => by
     obtain ⟨cs', hcells, htr⟩ := hx i (by omega)
     obtain ⟨p, hp, hg⟩ := ho htr
     refine ⟨p, hg, cs', d.K_len hp, hp, fun j u hu => ?_⟩
     have hcs := hcells
     unfold World.cells? at hcs
     obtain ⟨_, h2, h3⟩ := World.cells?_some hcells
     have hj : j < P.cellsOf e := by
       have := (List.getElem?_eq_some_iff.1 hu).1
       omega
     have := h3 j hj
     rw [hu, Go.Deep.add_add, hc] at this
     exact this)
   refine ⟨xs, ⟨some a, m, by rw [hxl], by omega, rfl, ?_, fun _ => ⟨a, rfl, fun j p hp => ?_⟩⟩, ?_, fun p hp => ?_⟩
   · have : m ≤ 9223372036854775807 := hm
     omega
   · obtain ⟨_, c, h1, h2, h3⟩ := hxs j p hp
     exact ⟨c, h1, h2, h3⟩
   · have : m ≤ 9223372036854775807 := hm
     omega
   · obtain ⟨i, hi⟩ := List.getElem?_of_mem hp
     exact (hxs i p hi).1
def Part {α : Type} (d : Kd α) (G : α → Prop) (w : World) (cs : List Value) (off : Nat) (a : α) : Prop := d.K w a ((cs.drop off).take d.sz) ∧ G a
theorem part_all {α : Type} {d : Kd α} {G : α → Prop} {w : World} {cs : List Value} {a : α} (h : Part d G w cs 0 a) (hl : cs.length = d.sz) : d.K w a cs ∧ G a := by
 have h1 := h.1
 rw [List.drop_zero, List.take_of_length_le (by omega)] at h1
 exact ⟨h1, h.2⟩
end Go.Proofs.Ytbdbadkinjbpcaa.XOpen
namespace Go.Proofs.YtbdbadkinjbpcaaW.PrintLast
open Go.Proofs.YtbdbadkinjbpcaaW.PrintWords (Aside0)
section
variable {md : Region.Mode} {ops : Array Oper} {T : Bool × List (List Nat × List Nat)} {l l' li lj lk : Array Bool} {ds : List Nat} {i j k : Nat}
theorem gd (l : Array Bool) (j : Nat) (b : Bool) : l.getD j b = l.toList.getD j b := by simp [Array.getD_eq_getD_getElem?, List.getD_eq_getElem?_getD]
end
end Go.Proofs.YtbdbadkinjbpcaaW.PrintLast
namespace Go.Proofs.YtbdbadkinjbpcaaW.PrintWords
open Go.RowKit
section
variable {P : Program} {d : Nat} {xs ys : Array Value} {f : Field} {fs : List Field} {a b : Value} {r s : Bool} {w : World}
theorem eqf_last (hn : (f.name == "_") = false) (ha : (part f.type xs f.offset).run P w = .ok a w) (hb : (part f.type ys f.offset).run P w = .ok b w) (he : (Op.equalIn d f.type a b).run P w = .ok r w) : (Op.eqFields d xs ys [f]).run P w = .ok r w := by
 have hn' : f.name ≠ "_" := by simpa using hn
 simp only [Op.eqFields, if_pos hn', Sem.run_bind, ha, hb, he, Result.andThen_ok]
 cases r <;> simp
theorem eqf_cons (hn : (f.name == "_") = false) (ha : (part f.type xs f.offset).run P w = .ok a w) (hb : (part f.type ys f.offset).run P w = .ok b w) (he : (Op.equalIn d f.type a b).run P w = .ok r w) (hr : (Op.eqFields d xs ys fs).run P w = .ok s w) : (Op.eqFields d xs ys (f :: fs)).run P w = .ok (r && s) w := by
 have hn' : f.name ≠ "_" := by simpa using hn
 rw [Op.eqFields]
 simp only [if_pos hn', Sem.run_bind, ha, hb, he, Result.andThen_ok]
 cases r
 · simp
 · simpa using hr
theorem eqA_of {t : TypeId} {fs : Array Field} (hu : P.underlying t = some (.struct fs)) (hp : P.stoodInHeld t = false) (h : (Op.eqFields d xs ys fs.toList).run P w = .ok r w) : (Op.equalIn (d + 1) t (.agg xs) (.agg ys)).run P w = .ok r w := by
 have hf : P.fieldsOf t = fs := by simp [Program.fieldsOf, hu]
 rw [run_equalIn_struct (P := P) w d t xs ys (by rw [hf]; exact hu) hp, hf]
 exact h
end
end Go.Proofs.YtbdbadkinjbpcaaW.PrintWords
namespace Go.Proofs.YtbdbadkinjbpcaaW.PrintWords
theorem Reps.one {α : Type} {R : α → List Value → Prop} {ps : List α} {cs : List Value} {p : α} {v : Value} (hp : R p [v]) (h : Reps R 1 ps cs) : Reps R 1 (p :: ps) (v :: cs) := by
 refine ⟨by simp [h.1], fun j q hq => ?_⟩
 cases j with
 | zero =>
   simp only [List.getElem?_cons_zero, Option.some.injEq] at hq
   subst hq
   simpa using hp
 | succ j =>
   simp only [List.getElem?_cons_succ] at hq
   have h1 := h.2 j q hq
   simpa [Nat.mul_one] using h1
end Go.Proofs.YtbdbadkinjbpcaaW.PrintWords
namespace Go.Proofs.YtbdbadkinjbpcaaW.PrintLast
def up (b : Nat → Bool) (i : Nat) : Nat → Bool := fun j => if j = i then true else b j
end Go.Proofs.YtbdbadkinjbpcaaW.PrintLast
namespace Go.Proofs.YtbdbadkinjbpcaaW.PrintLast
section
variable {ops : Array Oper} {a : Act} {o og : Oper} {g : Nat} {t : Tmp} {u : Bool}
theorem wanted_on (hg : o.guard = some (g, u)) (ho : ops[g]? = some og) (hd : og.dst = some t) (hv : a.tmps[t]? = some (.bool u)) : Region.wanted o (yielded ops a.tmps) = true := by
 simp [Region.wanted, hg, yielded, ho, hd, hv]
theorem wanted_off (hg : o.guard = some (g, u)) (ho : ops[g]? = some og) (hd : og.dst = some t) (hv : a.tmps[t]? = some (.bool (!u))) : Region.wanted o (yielded ops a.tmps) = false := by
 cases u <;> simp_all [Region.wanted, yielded]
end
end Go.Proofs.YtbdbadkinjbpcaaW.PrintLast
