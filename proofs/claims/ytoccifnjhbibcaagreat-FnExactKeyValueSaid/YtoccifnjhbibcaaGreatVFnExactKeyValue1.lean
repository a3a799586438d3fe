/- The words that the printed texts of this claim use. No conditions. -/
import Derived.Test.YtoccifnjhbibcaaGreatVFnExactKeyValue0
import Derived.Below
import Derived.Deep.Draws
import Derived.Deep.AppendLies
import Derived.Maps.AppendAt
import Derived.OwnWalk
import Derived.Laws.BytesArg
import Derived.Laws.MakeOwn
import Derived.Laws.OwnMore
import Derived.Deep.OwnRows
import Derived.Tactics
import Derived.Lib.ConvBytes
import Derived.Laws.Slices
import Derived.WalkKit
import Derived.KernelRfl
import Derived.RowKit3
import Derived.Deep.LoopGhost
import Derived.Deep.QuietTactic
import Derived.BigQuiet
import Derived.WideLaws
import Derived.Deep.DeepCutAuto
import Derived.Deep.CutBlock
import Derived.Deep.RegionHeld3
import Derived.Laws.Rows
import Derived.Lib.AppendStr
import Derived.ArgAppend
import Derived.Laws.IdiomCopy
import Derived.RowKit
import Derived.OrdersHeld
import Derived.Laws.BitsLemmas
import Derived.Deep.MidRow
import Derived.Laws.CopyOwn
import Derived.Lib.SlBytesConst
import Derived.Laws.DeepStrings4
import Derived.Laws.Strings3
import Derived.Lib.SliceRun
import Derived.Deep.Slices
import Derived.WideShapes
import Derived.DataReads
import Derived.Laws.StructEq
namespace Go.Proofs.YtoccifnjhbibcaaGreat.XSt
open Go.RowKit Go.Proofs.YtoccifnjhbibcaaGreatW.PrintWords Go.Proofs.YtoccifnjhbibcaaGreatW.PrintLast Go.Proofs.YtoccifnjhbibcaaGreatW.PrintMore Go.Proofs.YtoccifnjhbibcaaGreat.XW Go.Proofs.YtoccifnjhbibcaaGreat.XOp Go.Proofs.YtoccifnjhbibcaaGreat.XDraw Go.Proofs.YtoccifnjhbibcaaGreat.XLeaf
set_option linter.unusedVariables false
def only (w : World) (bl : List Nat) : World := { w with heap := w.heap.mapIdx fun i c => open Classical in if i ∈ bl then c else .cells #[] 0 (0, 0) }
theorem only_in {w : World} {bl : List Nat} {k : Nat} (h : k ∈ bl) : (only w bl).heap[k]? = w.heap[k]? := by
 unfold only
 simp only [Array.getElem?_mapIdx]
 cases w.heap[k]? with
 | none => rfl
 | some c => simp [h]
theorem only_cell {w : World} {bl : List Nat} {k o : Nat} {cs : Array Value} {t : TypeId} {u : Value} (h : (only w bl).heap[k]? = some (.cells cs t (0, 0))) (ho : cs[o]? = some u) : k ∈ bl ∧ w.heap[k]? = some (.cells cs t (0, 0)) := by
 have hk : k ∈ bl := Classical.byContradiction fun hn => by
   unfold only at h
   simp only [Array.getElem?_mapIdx] at h
   cases hw : w.heap[k]? with
   | none => rw [hw] at h; cases h
   | some c =>
     rw [hw] at h
     simp only [Option.map_some, hn, if_false] at h
     injection h with h
     injection h with h1
     subst h1
     simp at ho
 exact ⟨hk, (only_in hk).symm.trans h⟩
theorem Lv.mono {w w1 : World} {s : Sh} (hm : ∀ (b o : Nat) (cs : Array Value) (t : TypeId) (u : Value), w.heap[b]? = some (.cells cs t (0, 0)) → cs[o]? = some u → w1.heap[b]? = some (.cells cs t (0, 0))) : ∀ {b o : Nat} {L : List Addr}, Lv w s b o L → Lv w1 s b o L := by
 induction s with
 | int =>
   rintro b o L ⟨e, cs, t, n, hb, ho⟩
   exact ⟨e, cs, t, n, hm _ _ _ _ _ hb ho, ho⟩
 | row s ih =>
   rintro b o L ⟨cs, t, A, n, c, hb, ho, hn, f, e, hf⟩
   exact ⟨cs, t, A, n, c, hm _ _ _ _ _ hb ho, ho, hn, f, e, fun i hi => by obtain ⟨g, e2, hl⟩ := hf i hi; exact ⟨g, e2, ih hl⟩⟩
 | both s t ih1 ih2 =>
   rintro b o L ⟨L1, L2, e, h1, h2⟩
   exact ⟨L1, L2, e, ih1 h1, ih2 h2⟩
theorem RowLv.mono {w w1 : World} {s : Sh} {A : Option Addr} {n : Nat} {L : List Addr} (h : RowLv w s A n L) (hm : ∀ (b o : Nat) (cs : Array Value) (t : TypeId) (u : Value), w.heap[b]? = some (.cells cs t (0, 0)) → cs[o]? = some u → w1.heap[b]? = some (.cells cs t (0, 0))) : RowLv w1 s A n L := by
 obtain ⟨hn, f, e, hf⟩ := h
 exact ⟨hn, f, e, fun i hi => by obtain ⟨g, e2, hl⟩ := hf i hi; exact ⟨g, e2, Lv.mono hm hl⟩⟩
theorem RowLv.out {w : World} {bl : List Nat} {s : Sh} {A : Option Addr} {n : Nat} {L : List Addr} (h : RowLv (only w bl) s A n L) : RowLv w s A n L := RowLv.mono h (fun b o cs t u hb ho => (only_cell hb ho).2)
structure LeafB {α : Type} (D : Dk α) (s : Sh) (cnt : α → Nat) : Prop where
 sz : D.d.sz = s.sz
 get : ∀ {w : World} {x : α} {cs : List Value} {bl : List Nat} {b o : Nat} {bc : Array Value} {t : TypeId}, D.B w x cs bl → bl.Nodup → w.heap[b]? = some (.cells bc t (0, 0)) → (∀ i u, cs[i]? = some u → bc[o + i]? = some u) → b ∉ bl →
   ∃ L, Lv w s b o L ∧ L.Nodup ∧ L.length = cnt x ∧ ∀ p, p ∈ L → (p.block = b ∧ o ≤ p.off ∧ p.off < o + s.sz) ∨ p.block ∈ bl
theorem LeafB.int : LeafB (Dk.int .i64) .int (fun _ => 1) := ⟨rfl, by
 intro w x cs bl b o bc t h hn hb hc _
 have e : cs = [.int .i64 x] := h.1
 subst e
 exact ⟨[⟨b, o, none⟩], ⟨rfl, bc, t, x, hb, hc 0 _ rfl⟩, by simp, rfl, fun p hp => by rw [List.mem_singleton.1 hp]; exact .inl ⟨rfl, Nat.le_refl _, by show o < o + 1; omega⟩⟩⟩
theorem flat_idx {L : List (List Nat)} (h : L.flatten.Nodup) {i j : Nat} {a b : List Nat} {k : Nat} (hi : L[i]? = some a) (hj : L[j]? = some b) (ha : k ∈ a) (hb : k ∈ b) : i = j := by
 induction L generalizing i j with
 | nil => simp at hi
 | cons x L ih =>
   rw [List.flatten_cons] at h
   obtain ⟨d1, d2, d3⟩ := List.nodup_append.1 h
   cases i with
   | zero =>
     cases j with
     | zero => rfl
     | succ j =>
       have e : x = a := by simpa using hi
       subst e
       exact absurd rfl (d3 k ha k (List.mem_flatten.2 ⟨b, List.mem_of_getElem? (by simpa using hj), hb⟩))
   | succ i =>
     cases j with
     | zero =>
       have e : x = b := by simpa using hj
       subst e
       exact absurd rfl (d3 k hb k (List.mem_flatten.2 ⟨a, List.mem_of_getElem? (by simpa using hi), ha⟩))
     | succ j => exact congrArg Nat.succ (ih d2 (by simpa using hi) (by simpa using hj))
theorem flat_nodup {L : List (List Nat)} (h : L.flatten.Nodup) {a : List Nat} (ha : a ∈ L) : a.Nodup := by
 induction L with
 | nil => cases ha
 | cons x L ih =>
   rw [List.flatten_cons] at h
   obtain ⟨d1, d2, d3⟩ := List.nodup_append.1 h
   rcases List.mem_cons.1 ha with rfl | ha
   · exact d1
   · exact ih d2 ha
theorem LeafB.row {α : Type} {D : Dk α} {s : Sh} {cnt : α → Nat} (hd : LeafB D s cnt) {e : Nat} {w : World} {v : Value} {xs : List α} {bl : List Nat} (h : (Dk.slice e D).B w xs [v] bl) (hN : bl.Nodup) :
   ∃ A c L, v = .slice A xs.length c ∧ xs.length ≤ c ∧ RowLv w s A xs.length L ∧ L.Nodup ∧ L.length = (xs.map cnt).sum ∧ ∀ p, p ∈ L → p.block ∈ bl := by
 have hmax : xs.length ≤ 9223372036854775807 := by
   obtain ⟨_, _, _, _, hC⟩ := (Dk.slice e D).K h
   exact Kd.C_max hC
 obtain ⟨A, c, rfl, hc⟩ := val_slice h
 obtain ⟨v', inner, bl', e1, e2, ho, ps, e3, e4, hr⟩ := h
 injection e1 with e1
 subst e1
 have hpl : ps.length = xs.length := by rw [e3, List.length_map]
 rw [e2] at hN
 obtain ⟨n1, n2, n3⟩ := List.nodup_append.1 hN
 have hex : ∀ i, i < xs.length → ∃ Li, (∃ g, A = some ⟨g, 0, none⟩ ∧ Lv w s g (i * s.sz) Li) ∧ Li.Nodup ∧ (∀ hi : i < xs.length, Li.length = cnt xs[i]) ∧ ∀ p, p ∈ Li → (∃ g, A = some ⟨g, 0, none⟩ ∧ p.block = g ∧ i * s.sz ≤ p.off ∧ p.off < i * s.sz + s.sz) ∨ (p.block ∈ bl' ∧ (∀ g, A = some ⟨g, 0, none⟩ → p.block ≠ g) ∧ ∃ q, (ps.map Prod.snd)[i]? = some q ∧ p.block ∈ q) := by
   intro i hi
   obtain ⟨g, cap, hA, hbase, hlt⟩ := ho.form (by omega)
   injection hA with hA _ _
   subst hA
   rcases ho.2 with ⟨hv, _⟩ | ⟨g', cap', cur, hv, _, hb, _, _, hs, htake⟩
   · cases hv
   · injection hv with hv _ _
     injection hv with hv
     injection hv with hv
     subst hv
     have hpi : i < ps.length := by omega
     have hB := hr.2 i ps[i] (List.getElem?_eq_getElem hpi)
     have hmem : (ps[i]).2 ∈ ps.map Prod.snd := List.mem_map_of_mem (List.getElem_mem hpi)
     have hsub : ∀ k, k ∈ (ps[i]).2 → k ∈ bl' := fun k hk => by rw [e4]; exact List.mem_flatten.2 ⟨_, hmem, hk⟩
     have hg : ∀ k, k ∈ bl' → k ≠ g := fun k hk h2 => n3 g (by simp [Value.ownBlock]) k hk h2.symm
     obtain ⟨Li, hLv, hnd, hlen, hin⟩ := hd.get hB (flat_nodup (e4 ▸ n2) hmem) hb (o := i * s.sz) (fun j u hu => by
       rw [List.getElem?_take] at hu
       split at hu
       · rw [List.getElem?_drop, ← htake, List.getElem?_take] at hu
         split at hu
         · rw [← hd.sz]; simpa using hu
         · cases hu
       · cases hu) (fun h2 => hg g (hsub g h2) rfl)
     refine ⟨Li, ⟨g, rfl, hLv⟩, hnd, fun _ => by rw [hlen]; congr 1; simp [e3], fun p hp => ?_⟩
     rcases hin p hp with h2 | h2
     · exact .inl ⟨g, rfl, h2⟩
     · exact .inr ⟨hsub _ h2, fun g2 e5 h3 => by injection e5 with e5; injection e5 with e5; subst e5; exact hg _ (hsub _ h2) h3, (ps[i]).2, by rw [List.getElem?_map, List.getElem?_eq_getElem hpi]; rfl, h2⟩
 have hch : ∃ f : Nat → List Addr, ∀ i, i < xs.length → (∃ g, A = some ⟨g, 0, none⟩ ∧ Lv w s g (i * s.sz) (f i)) ∧ (f i).Nodup ∧ (∀ hi : i < xs.length, (f i).length = cnt xs[i]) ∧ ∀ p, p ∈ f i → (∃ g, A = some ⟨g, 0, none⟩ ∧ p.block = g ∧ i * s.sz ≤ p.off ∧ p.off < i * s.sz + s.sz) ∨ (p.block ∈ bl' ∧ (∀ g, A = some ⟨g, 0, none⟩ → p.block ≠ g) ∧ ∃ q, (ps.map Prod.snd)[i]? = some q ∧ p.block ∈ q) :=
   ⟨fun i => open Classical in if hi : i < xs.length then (hex i hi).choose else [], fun i hi => by simp only [dif_pos hi]; exact (hex i hi).choose_spec⟩
 obtain ⟨f, hf⟩ := hch
 refine ⟨A, c, (List.range xs.length).flatMap f, rfl, hc, ⟨hmax, f, rfl, fun i hi => (hf i hi).1⟩, nodup_range f _ (fun i hi => (hf i hi).2.1) (fun i j p hi hj hp hq => ?_), sum_range cnt xs f (fun i hi => (hf i hi).2.2.1 hi), fun p hp => ?_⟩
 · rcases (hf i hi).2.2.2 p hp with ⟨g, f1, f2, f3, f4⟩ | ⟨a1, a2, q, a3, a4⟩
   · rcases (hf j hj).2.2.2 p hq with ⟨g', f1', f2', f3', f4'⟩ | ⟨a1, a2, _⟩
     · rcases Nat.lt_trichotomy i j with hij | hij | hij
       · have := Nat.mul_le_mul_right s.sz (show i + 1 ≤ j by omega)
         rw [Nat.add_mul] at this
         omega
       · exact hij
       · have := Nat.mul_le_mul_right s.sz (show j + 1 ≤ i by omega)
         rw [Nat.add_mul] at this
         omega
     · exact absurd f2 (a2 g f1)
   · rcases (hf j hj).2.2.2 p hq with ⟨g', f1', f2', f3', f4'⟩ | ⟨b1, b2, q', b3, b4⟩
     · exact absurd f2' (a2 g' f1')
     · exact flat_idx (e4 ▸ n2) a3 b3 a4 b4
 · obtain ⟨i, hi, hp⟩ := List.mem_flatMap.1 hp
   rw [e2]
   rcases (hf i (List.mem_range.1 hi)).2.2.2 p hp with ⟨g, f1, f2, _⟩ | ⟨a1, _⟩
   · subst f1
     rw [f2]
     exact List.mem_append_left _ (by simp [Value.ownBlock])
   · exact List.mem_append_right _ a1
theorem LeafB.slice {α : Type} {D : Dk α} {s : Sh} {cnt : α → Nat} (hd : LeafB D s cnt) (e : Nat) : LeafB (Dk.slice e D) (.row s) (fun xs => (xs.map cnt).sum) := ⟨rfl, by
 intro w x cs bl b o bc t h hN hb hc hn
 have h' := h
 obtain ⟨v, _, _, rfl, _⟩ := h'
 obtain ⟨A, c, L, rfl, _, ⟨hn1, f, e2, hf⟩, hd2, hlen, hin⟩ := hd.row h hN
 exact ⟨L, ⟨bc, t, A, x.length, c, hb, hc 0 _ rfl, hn1, f, e2, hf⟩, hd2, hlen, fun p hp => .inr (hin p hp)⟩⟩
theorem LeafB.pair {α β : Type} {d : Dk α} {d' : Dk β} {s s' : Sh} {cnt : α → Nat} {cnt' : β → Nat} (hd : LeafB d s cnt) (hd' : LeafB d' s' cnt') : LeafB (Dk.pair d d') (.both s s') (fun x => cnt x.1 + cnt' x.2) := ⟨by show d.d.sz + d'.d.sz = s.sz + s'.sz; rw [hd.sz, hd'.sz], by
 intro w x cs bl b o bc t h hN hb hc hn
 obtain ⟨c0, c1, b0, b1, rfl, rfl, h0, h1⟩ := h
 obtain ⟨n1, n2, n3⟩ := List.nodup_append.1 hN
 have hl : c0.length = s.sz := by rw [← hd.sz]; exact d.d.K_len (d.K h0)
 obtain ⟨L1, a1, d1, l1, g1⟩ := hd.get h0 n1 hb (o := o) (fun i u hu => hc i u (by rw [List.getElem?_append_left (List.getElem?_eq_some_iff.1 hu).1]; exact hu)) (fun h2 => hn (List.mem_append_left _ h2))
 obtain ⟨L2, a2, d2, l2, g2⟩ := hd'.get h1 n2 hb (o := o + s.sz) (fun i u hu => by
   have := hc (s.sz + i) u (by rw [List.getElem?_append_right (by omega), hl, Nat.add_sub_cancel_left]; exact hu)
   rwa [← Nat.add_assoc] at this) (fun h2 => hn (List.mem_append_right _ h2))
 refine ⟨L1 ++ L2, ⟨L1, L2, rfl, a1, a2⟩, List.nodup_append.2 ⟨d1, d2, fun p hp q hq e => ?_⟩, by rw [List.length_append, l1, l2], fun p hp => ?_⟩
 · subst e
   rcases g1 p hp with ⟨e1, e2, e3⟩ | h2
   · rcases g2 p hq with ⟨e4, e5, e6⟩ | h3
     · omega
     · exact hn (List.mem_append_right _ (e1 ▸ h3))
   · rcases g2 p hq with ⟨e4, e5, e6⟩ | h3
     · exact hn (List.mem_append_left _ (e4 ▸ h2))
     · exact n3 _ h2 _ h3 rfl
 · rcases List.mem_append.1 hp with hp | hp
   · rcases g1 p hp with ⟨e1, e2, e3⟩ | h2
     · exact .inl ⟨e1, e2, by show _ < o + (s.sz + s'.sz); omega⟩
     · exact .inr (List.mem_append_left _ h2)
   · rcases g2 p hp with ⟨e1, e2, e3⟩ | h2
     · exact .inl ⟨e1, by omega, by show _ < o + (s.sz + s'.sz); omega⟩
     · exact .inr (List.mem_append_right _ h2)⟩
theorem LeafB.iso {α β : Type} {d : Dk α} {s : Sh} {cnt : α → Nat} (hd : LeafB d s cnt) (f : β → α) : LeafB (Dk.iso d f) s (fun x => cnt (f x)) := ⟨hd.sz, fun h hN hb hc hn => hd.get h hN hb hc hn⟩
def preM (s : Sh) (A : Option Addr) (n : Nat) (L : List Addr) (bl : List Nat) : Mu := ⟨bl, fun W => RowLv (only W bl) s A n L ∧ L.Nodup ∧ ∀ p, p ∈ L → p.block ∈ bl⟩
def leafM (s : Sh) (A : Option Addr) (n : Nat) (L : List Addr) (k : Int) (bl : List Nat) : Mu := ⟨bl, fun W => (RowLv (only W bl) s A n L ∧ ∀ p, p ∈ L → p.block ∈ bl) ∧ ToldAt W L k⟩
theorem only_step {w W : World} {bl : List Nat} (hW : ∀ k, k ∈ bl → k < w.heap.size → W.heap[k]? = w.heap[k]?) : ∀ (b o : Nat) (cs : Array Value) (t : TypeId) (u : Value), (only w bl).heap[b]? = some (.cells cs t (0, 0)) → cs[o]? = some u → (only W bl).heap[b]? = some (.cells cs t (0, 0)) := by
 intro b o cs t u hb ho
 obtain ⟨hk, hw⟩ := only_cell hb ho
 rw [only_in hk, hW b hk (blk_lt hw), hw]
theorem cell_step {w W : World} {p : Addr} {v : Value} (h : w.cell? p = some v) (hW : W.heap[p.block]? = w.heap[p.block]?) : W.cell? p = some v := by
 unfold World.cell? at h ⊢
 rw [hW]; exact h
theorem cell_lt {w : World} {p : Addr} {v : Value} (h : w.cell? p = some v) : p.block < w.heap.size := by
 unfold World.cell? at h
 cases hb : w.heap[p.block]? with
 | none => rw [hb] at h; cases h
 | some c => exact (Array.getElem?_eq_some_iff.1 hb).1
section
variable {ok0 : Nat → Prop} {w0 w w1 : World} {ms : List Mu} {fo fn : List Fact} {α : Type} {D : Dk α} {xs : List α} {e n c : Nat} {v : Value} {bl : List Nat} {s : Sh} {cnt : α → Nat} {A : Option Addr} {L : List Addr} {k : Int}
theorem St.pre (h : St ok0 w0 w (valM (Dk.slice e D) xs [v] bl :: ms) fo fn) (hd : LeafB D s cnt) : ∃ A c L, v = .slice A xs.length c ∧ L.length = (xs.map cnt).sum ∧ St ok0 w0 w (preM s A xs.length L bl :: ms) fo fn := by
 have hB : (Dk.slice e D).B w xs [v] bl := h.mu 0 rfl
 have hN : bl.Nodup := (List.nodup_append.1 h.d).1
 have hB' : (Dk.slice e D).B (only w bl) xs [v] bl := (Dk.slice e D).mv hB (fun k hk => only_in hk)
 obtain ⟨A, c, L, e1, _, hR, hL, hlen, hin⟩ := hd.row hB' hN
 exact ⟨A, c, L, e1, hlen, h.put0 _ (fun _ W hW => ⟨RowLv.mono hR (only_step hW), hL, hin⟩) (fun h_ => h_) (fun _ h_ => h_)⟩
theorem St.preK (h : St ok0 w0 w ms fo fn) (i : Nat) (hi : ms[i]? = some (preM s A n L bl)) : RowLv w s A n L := by
 have hP : RowLv (only w bl) s A n L ∧ L.Nodup ∧ ∀ p, p ∈ L → p.block ∈ bl := h.mu i hi
 exact RowLv.out hP.1
theorem St.marked (h : St ok0 w0 w ms fo fn) (i : Nat) (hi : ms[i]? = some (preM s A n L bl)) (hm : Marked L k w w1) : St ok0 w0 w1 (ms.set i (leafM s A n L k bl)) fo fn := by
 obtain ⟨hR, hN, hin⟩ := h.mu i hi
 have hl : ∀ b, b ∈ bl → w0.heap.size ≤ b ∧ b < w.heap.size := fun b hb => h.l b (by
   obtain ⟨e1, _, _⟩ := split_at hi
   rw [e1, bks_app, bks]
   exact List.mem_append_right _ (List.mem_append_left _ hb))
 have hnb : bl.Nodup := by
   obtain ⟨e1, _, _⟩ := split_at hi
   have := h.d
   rw [e1, bks_app, bks] at this
   exact (List.nodup_append.1 (List.nodup_append.1 this).2.1).1
 have ht : ToldAt w1 L k := hm.told hN
 have hR1 : RowLv (only w1 bl) s A n L := by
   refine RowLv.ints (w := only w bl) (ok := fun _ => True) hR ⟨hm.i.os, hm.i.tape, hm.i.output, by simpa [only] using hm.i.size, fun _ _ hn => (hn trivial).elim, fun q cs t hq => ?_⟩
   by_cases hk : q ∈ bl
   · rw [only_in hk] at hq ⊢
     exact hm.i.cells q cs t hq
   · have hq' := hq
     unfold only at hq
     simp only [Array.getElem?_mapIdx] at hq
     cases hw : w.heap[q]? with
     | none => rw [hw] at hq; cases hq
     | some c0 =>
       rw [hw] at hq
       simp only [Option.map_some, hk, if_false] at hq
       injection hq with hq
       injection hq with h1 h2 _
       subst h1 h2
       have hlt : q < w1.heap.size := Nat.lt_of_lt_of_le (Array.getElem?_eq_some_iff.1 hw).1 hm.i.size
       refine ⟨#[], ?_, fun o u hu => by simp at hu⟩
       unfold only
       simp only [Array.getElem?_mapIdx, Array.getElem?_eq_getElem hlt, Option.map_some, hk, if_false]
 refine h.put i hi (hm.i.below h.b h.b.size ?_) hm.i.size (fun b hb hn => hm.i.keep b hb ?_) ?_ hnb (fun b hb => .inl hb)
 · rintro q ⟨p, hp, rfl⟩; exact (hl _ (hin p hp)).1
 · rintro ⟨p, hp, rfl⟩; exact hn (hin p hp)
 · intro W hW
   refine ⟨⟨RowLv.mono hR1 (only_step hW), hin⟩, fun j p hj => ?_⟩
   have hc := ht j p hj
   exact cell_step hc (hW _ (hin p (List.mem_of_getElem? hj)) (cell_lt hc))
theorem St.leafK (h : St ok0 w0 w ms fo fn) (i : Nat) (hi : ms[i]? = some (leafM s A n L k bl)) : RowLv w s A n L := by
 have hP : (RowLv (only w bl) s A n L ∧ ∀ p, p ∈ L → p.block ∈ bl) ∧ ToldAt w L k := h.mu i hi
 exact RowLv.out hP.1.1
theorem St.leafT (h : St ok0 w0 w ms fo fn) (i : Nat) (hi : ms[i]? = some (leafM s A n L k bl)) : ToldAt w L k := (h.mu i hi).2
end
section
variable {ok0 : Nat → Prop} {w0 w w1 : World} {ms : List Mu} {fo fn : List Fact} {α : Type} {D : Dk α} {xs : List α} {e n c : Nat} {bl : List Nat} {s : Sh} {cnt : α → Nat} {A : Option Addr}
theorem St.pre2 (h : St ok0 w0 w (valM (Dk.slice e D) xs [.slice A n c] bl :: ms) fo fn) (hd : LeafB D s cnt) : ∃ L, L.length = (xs.map cnt).sum ∧ St ok0 w0 w (preM s A n L bl :: ms) fo fn := by
 obtain ⟨A1, c1, L, e1, h1, h2⟩ := h.pre hd
 injection e1 with ea en ec
 subst ea en
 exact ⟨L, h1, h2⟩
end
section
variable {P : Program} {Q : Exit → Act → World → Prop} {N fuel d : Nat} {E : Env} {w : World} {S : World → Prop} {ops : Array Oper} {o oi : Oper} {rest : List Oper} {ds : List Nat} {l : Array Bool} {ok0 : Nat → Prop} {w0 : World} {ms : List Mu} {fo fn : List Fact} {x y : Operand} {t e : TypeId}
theorem ci_ {f : FuncId} {fn : Func} {as : Array Operand} {ts : Array TypeId} {args : List Value} (hf : P.funcs[f]? = some fn) (hc : Calls P f args.toArray w (fun e w1 => ∃ v, e = .returned v ∧ WL P ops Q rest N ((d, v) :: E) w1))
   (hop : o.op = .call { callee := .value (.func f), args := as, argTypes := ts } := by rfl) (hargs : as.toList.map (ev E) = args.map some := by rfl) (hg : o.guard = none := by rfl) (hd : o.dst = some d := by rfl) (hlt : d < N := by decide) (hname : (fn.name == "runtime.NumGoroutine") = false := by rfl) (hb : fn.body.isSome = true := by rfl) : WL P ops Q (o :: rest) N E w := c_ hf hc (fun _ _ h => h) hop hargs hg hd hlt hname hb
theorem WL.makeO {α : Type} (D : Dk α) (H : St ok0 w0 w ms fo fn) (hg : o.guard = none) (hd : o.dst = some d) (hlt : d < N) (ho : o.op = .makeSlice t x y) {m : Int} (hx : ev E x = some (.int .i64 m)) (hy : ev E y = some (.int .i64 m)) (z : Value) (bytes : Nat) (z0 : α) (ht : P.underlying t = some (.slice e)) (hinfo : (P.info? e).map (fun i => (i.zero, i.size, i.bytes)) = some (some z, D.d.sz, bytes)) (hz : z.cells.size = D.d.sz) (hs0 : 0 < D.d.sz) (hb0 : 0 < bytes) (hK : ∀ W, D.B W z0 z.cells.toList []) (h0 : 0 ≤ m) (hl : m.toNat * bytes ≤ 140737488355328)
   (h : ∀ v w1 I, St ok0 w0 w1 (rowM w0.heap.size e D.d.sz v (List.replicate m.toNat z0).length I :: elsM D (List.replicate m.toNat z0) I [] :: ms) fo fn → WL P ops Q rest N ((d, v) :: E) w1) : WL P ops Q (o :: rest) N E w := by
 obtain ⟨q, rfl⟩ := Int.eq_ofNat_of_zero_le h0
 simp only [Int.toNat_natCast] at hl h
 obtain ⟨i0, hi, hzz⟩ := Option.map_eq_some_iff.1 hinfo
 simp only [Prod.mk.injEq] at hzz
 obtain ⟨hz0, hz1, hz2⟩ := hzz
 have hm : q ≤ 140737488355328 := Nat.le_trans (Nat.le_mul_of_pos_right _ hb0) hl
 have hr := run_make (P := P) w t e i0 z ht hi hz0 .i64 .i64 (q : Int) (q : Int) (by omega) (by omega)
   (by
     have h3 : ((i0.bytes * q : Nat) : Int) ≤ 281474976710656 := by rw [hz2, Nat.mul_comm]; omega
     rwa [Int.natCast_mul] at h3) (by omega)
 simp only [Int.toNat_natCast] at hr
 rw [hz1] at hr
 have hrep : ∀ W, RepsB D W (List.replicate q z0) (madeCells z.cells (q * D.d.sz)).toList [] := fun W => ⟨List.replicate q (z0, []), by simp, by simp, Kd.reps_made hz hs0 (hK W) q⟩
 have hown := World.ownsRow_lit (base := w.heap.size) (e := e) (size := D.d.sz) w (madeCells z.cells (q * D.d.sz)) q (Nat.le_refl _) (by simp only [maxLen]; omega) (size_madeCells _ _)
 refine WL.val hg hd hlt (v := .slice (some ⟨w.heap.size, 0, none⟩) q q) (w1 := w.alloc (.cells (madeCells z.cells (q * D.d.sz)) e)) (fun ρ hρ => ?_) (h _ _ _ ((H.none0 (elsM D (List.replicate q z0) (madeCells z.cells (q * D.d.sz)).toList []) rfl hrep).rowNew (below_alloc (Below.refl _ _) _) (by rw [List.length_replicate]; exact hown)))
 unfold execOp
 simp [ho, hρ _ _ hx, hρ _ _ hy, hr]
end
end Go.Proofs.YtoccifnjhbibcaaGreat.XSt
namespace Go.Proofs.YtoccifnjhbibcaaGreat.XSt
open Go.RowKit Go.Proofs.YtoccifnjhbibcaaGreatW.PrintWords Go.Proofs.YtoccifnjhbibcaaGreatW.PrintLast Go.Proofs.YtoccifnjhbibcaaGreatW.PrintMore Go.Proofs.YtoccifnjhbibcaaGreat.XW Go.Proofs.YtoccifnjhbibcaaGreat.XOp Go.Proofs.YtoccifnjhbibcaaGreat.XDraw Go.Proofs.YtoccifnjhbibcaaGreat.XLeaf
set_option linter.unusedVariables false
def flS : Sh → Nat → List (Nat × Sh)
 | .both s t, o => flS s o ++ flS t (o + s.sz)
 | .int, o => [(o, .int)]
 | .row s, o => [(o, .row s)]
theorem fl_of {w : World} {s : Sh} : ∀ {b o : Nat} {L : List Addr}, Lv w s b o L → ∃ Ls : List (List Addr), L = Ls.flatten ∧ Ls.length = (flS s o).length ∧ ∀ (i : Nat) (p : Nat × Sh), (flS s o)[i]? = some p → ∃ Li, Ls[i]? = some Li ∧ Lv w p.2 b p.1 Li := by
 induction s with
 | int =>
   intro b o L h
   refine ⟨[L], by simp, rfl, fun i p hp => ?_⟩
   cases i with
   | zero => obtain rfl : (o, Sh.int) = p := by simpa [flS] using hp
             exact ⟨L, rfl, h⟩
   | succ i => simp [flS] at hp
 | row s _ =>
   intro b o L h
   refine ⟨[L], by simp, rfl, fun i p hp => ?_⟩
   cases i with
   | zero => obtain rfl : (o, Sh.row s) = p := by simpa [flS] using hp
             exact ⟨L, rfl, h⟩
   | succ i => simp [flS] at hp
 | both s t ih1 ih2 =>
   rintro b o L ⟨L1, L2, rfl, h1, h2⟩
   obtain ⟨A1, rfl, n1, g1⟩ := ih1 h1
   obtain ⟨A2, rfl, n2, g2⟩ := ih2 h2
   refine ⟨A1 ++ A2, by simp, by simp [flS, n1, n2], fun i p hp => ?_⟩
   by_cases hlt : i < (flS s o).length
   · rw [flS, List.getElem?_append_left hlt] at hp
     rw [List.getElem?_append_left (by omega)]
     exact g1 i p hp
   · rw [flS, List.getElem?_append_right (by omega)] at hp
     rw [List.getElem?_append_right (by omega), n1]
     exact g2 _ p hp
theorem take_flat {Ls : List (List Addr)} {i : Nat} {Li : List Addr} (h : Ls[i]? = some Li) : (Ls.take (i + 1)).flatten = (Ls.take i).flatten ++ Li ∧ (Ls.take i).flatten.length + Li.length ≤ Ls.flatten.length := by
 obtain ⟨hl, e⟩ := List.getElem?_eq_some_iff.1 h
 have e1 : Ls.take (i + 1) = Ls.take i ++ [Li] := by rw [List.take_add_one, h]; rfl
 refine ⟨by rw [e1, List.flatten_append]; simp, ?_⟩
 have e2 : Ls.flatten = (Ls.take (i + 1)).flatten ++ (Ls.drop (i + 1)).flatten := by rw [← List.flatten_append, List.take_append_drop]
 rw [e2, e1, List.flatten_append]
 simp
theorem wrap_id {y : Int} (h0 : -9223372036854775808 ≤ y) (h1 : y ≤ 9223372036854775807) : wrap64 y = y := by
 unfold wrap64
 omega
theorem ptr_at (g j sz : Nat) : Value.pointer (some ((⟨g, 0, none⟩ : Addr).add ((j : Int).toNat * sz))) = .pointer (some ⟨g, j * sz, none⟩) := by
 rw [Addr.add_mid, Nat.zero_add]; rfl
structure MkI (w W : World) (z : Int) (g : Nat) (F : List (Nat × Sh)) (Ls : List (List Addr)) (i : Nat) (y : Int) : Prop where
 m : Marked (Ls.take i).flatten z w W
 y : y = z + ((Ls.take i).flatten.length : Int)
 z0 : 0 ≤ z
 hi : z + (Ls.flatten.length : Int) ≤ 4611686018427387904
 l : ∀ (i : Nat) (p : Nat × Sh), F[i]? = some p → ∃ Li, Ls[i]? = some Li ∧ Lv W p.2 g p.1 Li
 n : Ls.length = F.length
section
variable {w W : World} {z y : Int} {g i o : Nat} {F : List (Nat × Sh)} {Ls : List (List Addr)} {s : Sh}
theorem MkI.y0 (h : MkI w W z g F Ls i y) : 0 ≤ y := by have := h.y; have := h.z0; omega
theorem MkI.row (h : MkI w W z g F Ls i y) (hf : F[i]? = some (o, .row s)) : ∃ Li A n c y', W.cell? ⟨g, o, none⟩ = some (.slice A n c) ∧ RowLv W s A n Li ∧ y + (Li.length : Int) ≤ 4611686018427387904 ∧ y' = y + (Li.length : Int) ∧ ∀ W', Marked Li y W W' → MkI w W' z g F Ls (i + 1) y' := by
 obtain ⟨Li, hL, hv⟩ := h.l i _ hf
 obtain ⟨e1, e2⟩ := take_flat hL
 have hy := h.y
 have hi := h.hi
 have hv2 := hv
 obtain ⟨cs, t, A, n, c, hb, ho, hn, hr⟩ := hv2
 refine ⟨Li, A, n, c, _, by rw [blk_cell hb]; exact ho, ⟨hn, hr⟩, by omega, rfl, fun W' hm => ⟨?_, ?_, h.z0, h.hi, fun i p hp => ?_, h.n⟩⟩
 · rw [e1]; exact h.m.app (by rw [← hy]; exact hm)
 · rw [e1, List.length_append, hy]; omega
 · obtain ⟨Lj, a, b⟩ := h.l i p hp; exact ⟨Lj, a, Lv.ints b hm.i⟩
theorem MkI.int (h : MkI w W z g F Ls i y) (hf : F[i]? = some (o, .int)) : ∃ (cs : Array Value) (t : TypeId) (y' : Int), W.heap[g]? = some (.cells cs t (0, 0)) ∧ o < cs.size ∧ wrap64 (y + 1) = y' ∧ MkI w (W.setCell ⟨g, o, none⟩ (.int .i64 y)) z g F Ls (i + 1) y' := by
 obtain ⟨Li, hL, hv⟩ := h.l i _ hf
 obtain ⟨e1, e2⟩ := take_flat hL
 have hy := h.y
 have hi := h.hi
 have hm := Marked.set hv y
 have hv2 := hv
 obtain ⟨e3, cs, t, m, hb, ho⟩ := hv2
 have hl : Li.length = 1 := by rw [e3]; rfl
 refine ⟨cs, t, y + 1, hb, (Array.getElem?_eq_some_iff.1 ho).1, wrap_id (by have := h.y0; omega) (by omega), ⟨?_, ?_, h.z0, h.hi, fun i p hp => ?_, h.n⟩⟩
 · rw [e1]; exact h.m.app (by rw [← hy]; exact hm)
 · rw [e1, List.length_append, hy, hl]; omega
 · obtain ⟨Lj, a, b⟩ := h.l i p hp; exact ⟨Lj, a, Lv.ints b hm.i⟩
end
theorem WL.mset {P : Program} {Q : Exit → Act → World → Prop} {N : Nat} {E : Env} {ops : Array Oper} {op : Oper} {rest : List Oper} {t : TypeId} {p u : Operand} {w W : World} {z y : Int} {g o : Nat} {F : List (Nat × Sh)} {Ls : List (List Addr)} (i : Nat) (HI : MkI w W z g F Ls i y) (hf : F[i]? = some (o, .int)) (hx : ev E p = some (.pointer (some ⟨g, o, none⟩)))
   (h : ∀ W' y', wrap64 (y + 1) = y' → MkI w W' z g F Ls (i + 1) y' → WL P ops Q rest N E W') (ho : op.op = .store t p u := by rfl) (hy : ev E u = some (.int .i64 y) := by rfl) (hg : op.guard = none := by rfl) (hd : op.dst = none := by rfl) (hi : (P.info? t).map (·.size) = some 1 := by kernel_rfl) : WL P ops Q (op :: rest) N E W := by
 obtain ⟨cs, t, y', hb, hj, hw, HI⟩ := HI.int hf
 exact WL.skip hg hd (RunU.store ho hx hy rfl hi hb hj) (h _ y' hw HI)
structure MkJ (w W : World) (z : Int) (s : Sh) (A : Option Addr) (n : Nat) (f : Nat → List Addr) (j : Nat) (y : Int) : Prop where
 m : Marked ((List.range j).flatMap f) z w W
 y : y = z + (((List.range j).flatMap f).length : Int)
 z0 : 0 ≤ z
 hi : z + (((List.range n).flatMap f).length : Int) ≤ 4611686018427387904
 l : ∀ i, i < n → ∃ g, A = some ⟨g, 0, none⟩ ∧ Lv w s g (i * s.sz) (f i)
 n : n ≤ 9223372036854775807
section
variable {w W : World} {z y : Int} {s : Sh} {A : Option Addr} {n j : Nat} {f : Nat → List Addr}
theorem MkJ.start {L : List Addr} (h : RowLv w s A n L) (h0 : 0 ≤ z) (h1 : z + (L.length : Int) ≤ 4611686018427387904) : ∃ f, L = (List.range n).flatMap f ∧ MkJ w w z s A n f 0 z := by
 obtain ⟨hn, f, rfl, hf⟩ := h
 exact ⟨f, rfl, ⟨by simpa using Marked.nil _ _, by simp, h0, h1, hf, hn⟩⟩
theorem MkJ.round (h : MkJ w W z s A n f j y) (hj : j < n) : ∃ (g : Nat) (Ls : List (List Addr)), A = some ⟨g, 0, none⟩ ∧ wrap64 ((j : Int) + 1) = ((j + 1 : Nat) : Int) ∧ (Ls.flatten = f j) ∧ MkI W W y g (flS s (j * s.sz)) Ls 0 y := by
 obtain ⟨g, e, hl⟩ := h.l j hj
 obtain ⟨Ls, e1, e2, e3⟩ := fl_of (Lv.ints hl h.m.i)
 have hy := h.y
 have hi := h.hi
 have hz := h.z0
 have hn := h.n
 have := len_at f hj
 exact ⟨g, Ls, e, by rw [wrap_id (by omega) (by omega)]; rfl, e1.symm, ⟨by simpa using Marked.nil _ _, by simp, by omega, by rw [← e1]; omega, e3, e2⟩⟩
theorem MkJ.next {W' : World} {g i : Nat} {F : List (Nat × Sh)} {Ls : List (List Addr)} {y' : Int} (h : MkJ w W z s A n f j y) (he : Ls.flatten = f j) (hI : MkI W W' y g F Ls i y') (hi : i = F.length) : MkJ w W' z s A n f (j + 1) y' := by
 have e1 : Ls.take i = Ls := List.take_of_length_le (by rw [hI.n, hi]; exact Nat.le_refl _)
 have hm := hI.m
 have hy := hI.y
 rw [e1, he] at hm hy
 refine ⟨?_, ?_, h.z0, h.hi, h.l, h.n⟩
 · rw [range_snoc]; exact h.m.app (by rw [← h.y]; exact hm)
 · rw [range_snoc, List.length_append, hy, h.y]; omega
end
structure HeI (w W : World) (z : Int) (g : Nat) (F : List (Nat × Sh)) (Ls : List (List Addr)) (i : Nat) (y : Int) : Prop where
 m : Below w.heap.size w W
 y : y = z + ((Ls.take i).flatten.length : Int)
 z0 : 0 ≤ z
 hi : z + (Ls.flatten.length : Int) ≤ 4611686018427387904
 l : ∀ (i : Nat) (p : Nat × Sh), F[i]? = some p → ∃ Li, Ls[i]? = some Li ∧ Lv w p.2 g p.1 Li
 n : Ls.length = F.length
 t : ToldAt w Ls.flatten z
section
variable {w W : World} {z y : Int} {g i o : Nat} {F : List (Nat × Sh)} {Ls : List (List Addr)} {s : Sh}
theorem HeI.y0 (h : HeI w W z g F Ls i y) : 0 ≤ y := by have := h.y; have := h.z0; omega
theorem HeI.told {Li : List Addr} (h : HeI w W z g F Ls i y) (hL : Ls[i]? = some Li) : ToldAt w Li y := by
 obtain ⟨hl, e⟩ := List.getElem?_eq_some_iff.1 hL
 have e1 : Ls = Ls.take i ++ Li :: Ls.drop (i + 1) := by rw [← e, List.getElem_cons_drop, List.take_append_drop]
 have ht := h.t
 rw [e1, List.flatten_append, List.flatten_cons] at ht
 have := ht.right.left
 rwa [← h.y] at this
theorem HeI.row (h : HeI w W z g F Ls i y) (hf : F[i]? = some (o, .row s)) : ∃ Li A n c y', W.cell? ⟨g, o, none⟩ = some (.slice A n c) ∧ RowLv W s A n Li ∧ ToldAt W Li y ∧ y + (Li.length : Int) ≤ 4611686018427387904 ∧ y' = y + (Li.length : Int) ∧ ∀ W', Below W.heap.size W W' → HeI w W' z g F Ls (i + 1) y' := by
 obtain ⟨Li, hL, hv⟩ := h.l i _ hf
 obtain ⟨e1, e2⟩ := take_flat hL
 have hy := h.y
 have hi := h.hi
 have hv2 := Lv.ints hv (Ints.of_below (ok := fun _ => False) h.m)
 obtain ⟨cs, t, A, n, c, hb, ho, hn, hr⟩ := hv2
 refine ⟨Li, A, n, c, _, by rw [blk_cell hb]; exact ho, ⟨hn, hr⟩, (h.told hL).below h.m, by omega, rfl, fun W' hm => ⟨h.m.trans (hm.mono h.m.size), ?_, h.z0, h.hi, h.l, h.n, h.t⟩⟩
 rw [e1, List.length_append, hy]; omega
theorem HeI.int (h : HeI w W z g F Ls i y) (hf : F[i]? = some (o, .int)) : ∃ y', W.cell? ⟨g, o, none⟩ = some (.int .i64 y) ∧ wrap64 (y + 1) = y' ∧ HeI w W z g F Ls (i + 1) y' := by
 obtain ⟨Li, hL, hv⟩ := h.l i _ hf
 obtain ⟨e1, e2⟩ := take_flat hL
 have hy := h.y
 have hi := h.hi
 have ht := h.told hL
 obtain ⟨e3, _⟩ := hv
 have hl : Li.length = 1 := by rw [e3]; rfl
 refine ⟨y + 1, ?_, wrap_id (by have := h.y0; omega) (by omega), ⟨h.m, ?_, h.z0, h.hi, h.l, h.n, h.t⟩⟩
 · have := ht 0 ⟨g, o, none⟩ (by rw [e3]; rfl)
   rw [pw_cell_below h.m this]; simp
 · rw [e1, List.length_append, hy, hl]; omega
end
structure HeJ (w W : World) (z : Int) (s : Sh) (A : Option Addr) (n : Nat) (f : Nat → List Addr) (j : Nat) (y : Int) : Prop where
 m : Below w.heap.size w W
 y : y = z + (((List.range j).flatMap f).length : Int)
 z0 : 0 ≤ z
 hi : z + (((List.range n).flatMap f).length : Int) ≤ 4611686018427387904
 l : ∀ i, i < n → ∃ g, A = some ⟨g, 0, none⟩ ∧ Lv w s g (i * s.sz) (f i)
 t : ToldAt w ((List.range n).flatMap f) z
 n : n ≤ 9223372036854775807
section
variable {w W : World} {z y : Int} {s : Sh} {A : Option Addr} {n j : Nat} {f : Nat → List Addr}
theorem HeJ.start {L : List Addr} (h : RowLv w s A n L) (ht : ToldAt w L z) (h0 : 0 ≤ z) (h1 : z + (L.length : Int) ≤ 4611686018427387904) : ∃ f, L = (List.range n).flatMap f ∧ HeJ w w z s A n f 0 z := by
 obtain ⟨hn, f, rfl, hf⟩ := h
 exact ⟨f, rfl, ⟨Below.refl _ _, by simp, h0, h1, hf, ht, hn⟩⟩
theorem HeJ.round (h : HeJ w W z s A n f j y) (hj : j < n) : ∃ (g : Nat) (Ls : List (List Addr)), A = some ⟨g, 0, none⟩ ∧ wrap64 ((j : Int) + 1) = ((j + 1 : Nat) : Int) ∧ (Ls.flatten = f j) ∧ HeI W W y g (flS s (j * s.sz)) Ls 0 y := by
 obtain ⟨g, e, hl⟩ := h.l j hj
 obtain ⟨Ls, e1, e2, e3⟩ := fl_of (Lv.ints hl (Ints.of_below (ok := fun _ => False) h.m))
 have hy := h.y
 have hi := h.hi
 have hz := h.z0
 have hn := h.n
 have := len_at f hj
 exact ⟨g, Ls, e, by rw [wrap_id (by omega) (by omega)]; rfl, e1.symm, ⟨Below.refl _ _, by simp, by omega, by rw [← e1]; omega, e3, e2, by rw [← e1, hy]; exact (told_at f h.t hj).below h.m⟩⟩
theorem HeJ.next {W' : World} {g i : Nat} {F : List (Nat × Sh)} {Ls : List (List Addr)} {y' : Int} (h : HeJ w W z s A n f j y) (he : Ls.flatten = f j) (hI : HeI W W' y g F Ls i y') (hi : i = F.length) : HeJ w W' z s A n f (j + 1) y' := by
 have e1 : Ls.take i = Ls := List.take_of_length_le (by rw [hI.n, hi]; exact Nat.le_refl _)
 have hy := hI.y
 rw [e1, he] at hy
 refine ⟨h.m.trans (hI.m.mono h.m.size), ?_, h.z0, h.hi, h.l, h.t, h.n⟩
 rw [range_snoc, List.length_append, hy, h.y]; omega
end
end Go.Proofs.YtoccifnjhbibcaaGreat.XSt
namespace Go.Proofs.YtoccifnjhbibcaaGreat.XSt
open Go.RowKit Go.Proofs.YtoccifnjhbibcaaGreatW.PrintWords Go.Proofs.YtoccifnjhbibcaaGreatW.PrintLast Go.Proofs.YtoccifnjhbibcaaGreatW.PrintMore Go.Proofs.YtoccifnjhbibcaaGreat.XW Go.Proofs.YtoccifnjhbibcaaGreat.XOp Go.Proofs.YtoccifnjhbibcaaGreat.XDraw
set_option linter.unusedVariables false
theorem eqGuard_slice {P : Program} {w : World} {t : TypeId} {x y : Operand} (op : BinOp) (A A' : Option Addr) (n c n' c' : Nat) : (eqGuard op t x y (.slice A n c) (.slice A' n' c')).run P w = .ok () w := by unfold eqGuard; split <;> simp
theorem Run.eqNil {P : Program} {E : Env} {o : Oper} {w : World} {t t2 e : TypeId} {x y : Operand} {A : Option Addr} {n c : Nat} (ho : o.op = .binOp .eql t x y t2) (hx : ev E x = some (.slice A n c)) (hy : ev E y = some (.slice none 0 0)) (ht : P.underlying t = some (.slice e)) : Run P E o w (.bool A.isNone) w := fun ρ hρ => by
 unfold execOp; simp [ho, hρ _ _ hx, hρ _ _ hy, eqGuard_slice, Lib.run_eql_slice_nil w t e A n c 0 0 ht]
theorem C_nilL {α : Type} {d : Kd α} {w : World} {xs : List α} (h : d.C w none xs.length xs) : xs = [] := by
 by_cases hn : xs.length = 0
 · exact List.eq_nil_of_length_eq_zero hn
 · obtain ⟨ad, e, _⟩ := h.2.2 (by omega)
   cases e
end Go.Proofs.YtoccifnjhbibcaaGreat.XSt
namespace Go.Proofs.YtoccifnjhbibcaaGreat.XSt
open Go.RowKit Go.Proofs.YtoccifnjhbibcaaGreatW.PrintWords Go.Proofs.YtoccifnjhbibcaaGreatW.PrintLast Go.Proofs.YtoccifnjhbibcaaGreatW.PrintMore Go.Proofs.YtoccifnjhbibcaaGreat.XW Go.Proofs.YtoccifnjhbibcaaGreat.XOp Go.Proofs.YtoccifnjhbibcaaGreat.XDraw
set_option linter.unusedVariables false
end Go.Proofs.YtoccifnjhbibcaaGreat.XSt
namespace Go.Proofs.YtoccifnjhbibcaaGreat.XClass
open Go.Proofs.YtoccifnjhbibcaaGreat.XLaw Go.Proofs.YtoccifnjhbibcaaGreat.XLeaf
set_option linter.unusedVariables false
open Go.RowKit Go.Proofs.YtoccifnjhbibcaaGreatW.PrintWords Go.Proofs.YtoccifnjhbibcaaGreatW.PrintLast Go.Proofs.YtoccifnjhbibcaaGreatW.PrintMore
end Go.Proofs.YtoccifnjhbibcaaGreat.XClass
namespace Go.Proofs.YtoccifnjhbibcaaGreat.XSt
open Go.RowKit Go.Proofs.YtoccifnjhbibcaaGreatW.PrintWords Go.Proofs.YtoccifnjhbibcaaGreatW.PrintLast Go.Proofs.YtoccifnjhbibcaaGreatW.PrintMore Go.Proofs.YtoccifnjhbibcaaGreat.XW Go.Proofs.YtoccifnjhbibcaaGreat.XOp Go.Proofs.YtoccifnjhbibcaaGreat.XDraw
set_option linter.unusedVariables false
def kNil : Kd Unit := Kd.scalar (fun _ => .pointer none) (fun _ => rfl)
theorem hNil : Kd.Heap kNil := ⟨fun _ h => h⟩
section
variable {β : Type} {b : Kd β} {y : β} {w : World} {cs : List Value} {o : Nat}
theorem AtK.nilP {x : Unit} (h : AtK kNil w x cs o) : cs[o]? = some (.pointer none) := by
 obtain ⟨p, hp, hc⟩ := h
 have e : p = [.pointer none] := hp
 subst e
 exact hc 0 _ rfl
end
def litL : Nat → (Nat → Value) → List Value
 | 0, _ => []
 | n + 1, v => v 0 :: litL n (fun i => v (i + 1))
theorem ex_lit : ∀ (n : Nat) (cs : List Value), cs.length = n → ∃ v, cs = litL n v
 | 0, [], _ => ⟨fun _ => undef, rfl⟩
 | n + 1, c :: cs, h => by
   obtain ⟨v, e⟩ := ex_lit n cs (by simpa using h)
   exact ⟨fun i => match i with | 0 => c | i + 1 => v i, by rw [e]; rfl⟩
theorem eqGuard_nil {P : Program} {w : World} {t : TypeId} {x y : Operand} (op : BinOp) : (eqGuard op t x y (.pointer none) (.pointer none)).run P w = .ok () w := by unfold eqGuard; split <;> simp
theorem equal_nilP {P : Program} {w : World} {t e : TypeId} (ht : P.underlying t = some (.pointer e)) : (Op.equal t (.pointer none) (.pointer none)).run P w = .ok true w := by
 have h : ∀ d : Nat, (Op.equalIn (d + 1) t (.pointer none) (.pointer none)).run P w = .ok true w := fun d => by
   simp [Op.equalIn, run_underlying ht]
 exact h 9999
theorem Run.neNilP {P : Program} {E : Env} {o : Oper} {w : World} {t t2 e : TypeId} {x y : Operand} (ho : o.op = .binOp .neq t x y t2) (hx : ev E x = some (.pointer none)) (hy : ev E y = some (.pointer none)) (ht : P.underlying t = some (.pointer e)) : Run P E o w (.bool false) w := fun ρ hρ => by
 unfold execOp; simp [ho, hρ _ _ hx, hρ _ _ hy, eqGuard_nil, binOp, equal_nilP ht]
section
variable {ok0 : Nat → Prop} {w0 w : World} {ms : List Mu} {fo fn : List Fact} {α β : Type} {D : Dk α} {D2 : Dk β} {cs : List Value} {bl : List Nat} {e : Nat} {k : IntKind}
theorem St.openIso {f : β → α} {x : β} (h : St ok0 w0 w (valM (Dk.iso D f) x cs bl :: ms) fo fn) : St ok0 w0 w (valM D (f x) cs bl :: ms) fo fn := h
theorem St.openPair {x : α × β} (h : St ok0 w0 w (valM (Dk.pair D D2) x cs bl :: ms) fo fn) : ∃ c0 c1 b0 b1, cs = c0 ++ c1 ∧ St ok0 w0 w (valM D x.1 c0 b0 :: valM D2 x.2 c1 b1 :: ms) fo fn := by
 obtain ⟨c0, c1, b0, b1, e1, e2, h0, h1⟩ := (h.mu 0 rfl : (Dk.pair D D2).B w x cs bl)
 exact ⟨c0, c1, b0, b1, e1, h.halves _ _ (fun _ => ⟨foot_val h0, foot_val h1⟩) e2⟩
theorem St.openInt {x : Int} (h : St ok0 w0 w (valM (Dk.int k) x cs bl :: ms) fo fn) : cs = [.int k x] ∧ St ok0 w0 w ms fo fn := ⟨((h.mu 0 rfl : (Dk.int k).B w x cs bl)).1, h.forget 0 rfl⟩
theorem St.openSl {xs : List α} (h : St ok0 w0 w (valM (Dk.slice e D) xs cs bl :: ms) fo fn) : ∃ v, cs = [v] ∧ St ok0 w0 w (valM (Dk.slice e D) xs [v] bl :: ms) fo fn := by
 obtain ⟨v, inner, bl', e1, e2, h0, h1⟩ := (h.mu 0 rfl : (Dk.slice e D).B w xs cs bl)
 subst e1
 exact ⟨v, rfl, h⟩
end
end Go.Proofs.YtoccifnjhbibcaaGreat.XSt
namespace Go.Proofs.YtoccifnjhbibcaaGreat.XOpen
open Go.RowKit Go.Proofs.YtoccifnjhbibcaaGreatW.PrintWords Go.Proofs.YtoccifnjhbibcaaGreatW.PrintLast Go.Proofs.YtoccifnjhbibcaaGreatW.PrintMore Go.Deep Go.ChangeShapes Go.WideShapes
set_option linter.unusedVariables false
set_option linter.unusedSimpArgs false
def Opens {α : Type} (P : Program) (t : TypeId) (d : Kd α) (G : α → Prop) : Prop :=
 ∀ {H : Type} {enc : TypeId × Value → H} {w : World} {base : Nat} {held : Bool} {fuel : Nat} {cs : List Value} {x : DataW H × List MemPlace},
   DataW.trod enc P w base (fun _ => true) held fuel t cs = some x → ∃ a, d.K w a cs ∧ G a
theorem opens_int {P : Program} {t : TypeId} {k : IntKind} (ht : P.underlying t = some (.int k)) : Opens P t (Kd.int k) (fun n => (Lit.int k n).wf = true) := by
 intro H enc w base held fuel cs x h
 obtain ⟨n, rfl, _, hw⟩ := DataW.trod_int ht h
 exact ⟨n, rfl, hw⟩
theorem list_of {α : Type} (Q : Nat → α → Prop) : ∀ n, (∀ i, i < n → ∃ a, Q i a) → ∃ xs : List α, xs.length = n ∧ ∀ i a, xs[i]? = some a → Q i a
 | 0, _ => ⟨[], rfl, fun i a h => by simp at h⟩
 | n + 1, h => by
   obtain ⟨xs, hl, hq⟩ := list_of Q n (fun i hi => h i (by omega))
   obtain ⟨a, ha⟩ := h n (by omega)
   refine ⟨xs ++ [a], by simp [hl], fun i b hb => ?_⟩
   by_cases hi : i < n
   · rw [List.getElem?_append_left (by omega)] at hb; exact hq i b hb
   · have : i = n := by
       have := (List.getElem?_eq_some_iff.1 hb).1
       simp at this; omega
     subst this
     rw [List.getElem?_append_right (by omega), hl, Nat.sub_self] at hb
     have : a = b := by simpa using hb
     subst this; exact ha
theorem opens_slice {α : Type} {P : Program} {t e : TypeId} {d : Kd α} {G : α → Prop} (ht : P.underlying t = some (.slice e)) (hc : P.cellsOf e = d.sz) (ho : Opens P e d G) :
   Opens P t (Kd.slice e d) (fun xs => xs.length ≤ 9223372036854775807 ∧ ∀ x ∈ xs, G x) := by
 intro H enc w base held fuel cs x h
 rcases open_slice ht h with ⟨rfl, _⟩ | ⟨a, len, cap, m, n, D, Pl, rfl, hb, hl, hm, hmm, _, hx⟩
 · exact ⟨[], ⟨none, 0, rfl, Nat.le_refl _, rfl, Nat.zero_le _, fun h => absurd h (Nat.lt_irrefl _)⟩, Nat.zero_le _, fun x hx => by cases hx⟩
 · simp only [if_true] at hmm
   subst hmm
   obtain ⟨xs, hxl, hxs⟩ := list_of (fun i p => G p ∧ ∃ c, c.length = d.sz ∧ d.K w p c ∧ ∀ j u, c[j]? = some u → w.cell? (a.add (i * d.sz + j)) = some u) len (fun i hi => by
     obtain ⟨cs', hcells, htr⟩ := hx i (by omega)
     obtain ⟨p, hp, hg⟩ := ho htr
     refine ⟨p, hg, cs', d.K_len hp, hp, fun j u hu => ?_⟩
     have hcs := hcells
     unfold World.cells? at hcs
     obtain ⟨_, h2, h3⟩ := World.cells?_some hcells
     have hj : j < P.cellsOf e := by
       have := (List.getElem?_eq_some_iff.1 hu).1
       omega
     have := h3 j hj
     rw [hu, Go.Deep.add_add, hc] at this
     exact this)
   refine ⟨xs, ⟨some a, m, by rw [hxl], by omega, rfl, ?_, fun _ => ⟨a, rfl, fun j p hp => ?_⟩⟩, ?_, fun p hp => ?_⟩
   · have : m ≤ 9223372036854775807 := hm
     omega
   · obtain ⟨_, c, h1, h2, h3⟩ := hxs j p hp
     exact ⟨c, h1, h2, h3⟩
   · have : m ≤ 9223372036854775807 := hm
     omega
   · obtain ⟨i, hi⟩ := List.getElem?_of_mem hp
     exact (hxs i p hi).1
def Part {α : Type} (d : Kd α) (G : α → Prop) (w : World) (cs : List Value) (off : Nat) (a : α) : Prop := d.K w a ((cs.drop off).take d.sz) ∧ G a
theorem part_pair {α β : Type} {d : Kd α} {d' : Kd β} {G : α → Prop} {G' : β → Prop} {w : World} {cs : List Value} {off off' : Nat} {a : α} {b : β} (h : Part d G w cs off a) (h' : Part d' G' w cs off' b) (ho : off' = off + d.sz) :
   Part (Kd.pair d d') (fun p => G p.1 ∧ G' p.2) w cs off (a, b) := by
 subst ho
 refine ⟨⟨(cs.drop off).take d.sz, (cs.drop (off + d.sz)).take d'.sz, ?_, h.1, h'.1⟩, h.2, h'.2⟩
 show (cs.drop off).take (d.sz + d'.sz) = _
 rw [List.take_add, List.drop_drop]
theorem part_all {α : Type} {d : Kd α} {G : α → Prop} {w : World} {cs : List Value} {a : α} (h : Part d G w cs 0 a) (hl : cs.length = d.sz) : d.K w a cs ∧ G a := by
 have h1 := h.1
 rw [List.drop_zero, List.take_of_length_le (by omega)] at h1
 exact ⟨h1, h.2⟩
theorem part_field {α : Type} {P : Program} {d : Kd α} {G : α → Prop} {H : Type} {enc : TypeId × Value → H} {w : World} {base : Nat} {held : Bool} {n : Nat} {cs : List Value} {fs : Array Field} {xs : List (DataW H × List MemPlace)} {f : Field}
   (hlen : xs.length = fs.size) (hf : ∀ (i : Nat) (f : Field), fs[i]? = some f → DataW.trod enc P w base (fun _ => true) held n f.type ((cs.drop f.offset).take (P.cellsOf f.type)) = xs[i]?)
   (i : Nat) (hi : fs[i]? = some f) (hc : P.cellsOf f.type = d.sz) (ho : Opens P f.type d G) : ∃ a, Part d G w cs f.offset a := by
 have h := hf i f hi
 have hlt : i < xs.length := by rw [hlen]; exact (Array.getElem?_eq_some_iff.1 hi).1
 rw [List.getElem?_eq_getElem hlt] at h
 obtain ⟨a, ha⟩ := ho h
 rw [hc] at ha
 exact ⟨a, ha⟩
end Go.Proofs.YtoccifnjhbibcaaGreat.XOpen
namespace Go.Proofs.YtoccifnjhbibcaaGreat.XShape
open Go.RowKit Go.Proofs.YtoccifnjhbibcaaGreatW.PrintWords Go.Proofs.YtoccifnjhbibcaaGreatW.PrintLast Go.Proofs.YtoccifnjhbibcaaGreatW.PrintMore
variable {α : Type} {d : Kd α} {e : Nat} {w : World} {base : Nat} {ok : Nat → Prop} {v : Value} {xs : List α}
theorem wrap_pow (n : Nat) : wrap64 (2 ^ n) = wrap64 (2 ^ min n 64) := by
 by_cases h : n ≤ 64
 · rw [Nat.min_eq_left h]
 · rw [Nat.min_eq_right (by omega)]
   have e : (2 : Int) ^ n = 2 ^ 64 * 2 ^ (n - 64) := by rw [← Int.pow_add, Nat.add_sub_cancel' (by omega)]
   rw [e]
   generalize (2 : Int) ^ (n - 64) = m
   unfold wrap64
   omega
end Go.Proofs.YtoccifnjhbibcaaGreat.XShape
namespace Go.Proofs.YtoccifnjhbibcaaGreatW.PrintWords
open Go.RowKit
section
variable {P : Program} {d : Nat} {xs ys : Array Value} {f : Field} {fs : List Field} {a b : Value} {r s : Bool} {w : World}
theorem eqf_last (hn : (f.name == "_") = false) (ha : (part f.type xs f.offset).run P w = .ok a w) (hb : (part f.type ys f.offset).run P w = .ok b w) (he : (Op.equalIn d f.type a b).run P w = .ok r w) : (Op.eqFields d xs ys [f]).run P w = .ok r w := by
 have hn' : f.name ≠ "_" := by simpa using hn
 simp only [Op.eqFields, if_pos hn', Sem.run_bind, ha, hb, he, Result.andThen_ok]
 cases r <;> simp
theorem eqf_cons (hn : (f.name == "_") = false) (ha : (part f.type xs f.offset).run P w = .ok a w) (hb : (part f.type ys f.offset).run P w = .ok b w) (he : (Op.equalIn d f.type a b).run P w = .ok r w) (hr : (Op.eqFields d xs ys fs).run P w = .ok s w) : (Op.eqFields d xs ys (f :: fs)).run P w = .ok (r && s) w := by
 have hn' : f.name ≠ "_" := by simpa using hn
 rw [Op.eqFields]
 simp only [if_pos hn', Sem.run_bind, ha, hb, he, Result.andThen_ok]
 cases r
 · simp
 · simpa using hr
theorem eqA_of {t : TypeId} {fs : Array Field} (hu : P.underlying t = some (.struct fs)) (hp : P.stoodInHeld t = false) (h : (Op.eqFields d xs ys fs.toList).run P w = .ok r w) : (Op.equalIn (d + 1) t (.agg xs) (.agg ys)).run P w = .ok r w := by
 have hf : P.fieldsOf t = fs := by simp [Program.fieldsOf, hu]
 rw [run_equalIn_struct (P := P) w d t xs ys (by rw [hf]; exact hu) hp, hf]
 exact h
end
end Go.Proofs.YtoccifnjhbibcaaGreatW.PrintWords
namespace Go.Proofs.YtoccifnjhbibcaaGreatW.PrintLast
def up (b : Nat → Bool) (i : Nat) : Nat → Bool := fun j => if j = i then true else b j
end Go.Proofs.YtoccifnjhbibcaaGreatW.PrintLast
namespace Go.Proofs.YtoccifnjhbibcaaGreatW.PrintLast
section
variable {ops : Array Oper} {a : Act} {o og : Oper} {g : Nat} {t : Tmp} {u : Bool}
theorem wanted_on (hg : o.guard = some (g, u)) (ho : ops[g]? = some og) (hd : og.dst = some t) (hv : a.tmps[t]? = some (.bool u)) : Region.wanted o (yielded ops a.tmps) = true := by
 simp [Region.wanted, hg, yielded, ho, hd, hv]
theorem wanted_off (hg : o.guard = some (g, u)) (ho : ops[g]? = some og) (hd : og.dst = some t) (hv : a.tmps[t]? = some (.bool (!u))) : Region.wanted o (yielded ops a.tmps) = false := by
 cases u <;> simp_all [Region.wanted, yielded]
end
end Go.Proofs.YtoccifnjhbibcaaGreatW.PrintLast
