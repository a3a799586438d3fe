/- The words that the printed texts of this claim use. No conditions. -/
import Derived.Test.YtlpginalgdbopaaVFnBlocks0
import Derived.Below
import Derived.Deep.Draws
import Derived.Deep.AppendLies
import Derived.Maps.AppendAt
import Derived.OwnWalk
import Derived.Laws.BytesArg
import Derived.Laws.MakeOwn
import Derived.Laws.OwnMore
import Derived.Deep.OwnRows
import Derived.Tactics
import Derived.Lib.ConvBytes
import Derived.Laws.Slices
import Derived.WalkKit
import Derived.KernelRfl
import Derived.RowKit3
import Derived.Deep.LoopGhost
import Derived.Deep.QuietTactic
import Derived.BigQuiet
import Derived.WideLaws
import Derived.Deep.DeepCutAuto
import Derived.Deep.CutBlock
import Derived.Deep.RegionHeld3
import Derived.Laws.Rows
import Derived.Lib.AppendStr
import Derived.ArgAppend
import Derived.Laws.IdiomCopy
import Derived.RowKit
import Derived.OrdersHeld
import Derived.Laws.BitsLemmas
import Derived.Deep.MidRow
import Derived.Laws.CopyOwn
import Derived.Lib.SlBytesConst
import Derived.Laws.DeepStrings4
import Derived.Laws.Strings3
import Derived.Lib.SliceRun
import Derived.Deep.Slices
import Derived.WideShapes
import Derived.DataReads
import Derived.Laws.StructEq
namespace Go.Proofs.Ytlpginalgdbopaa.XSt
open Go.RowKit Go.Proofs.YtlpginalgdbopaaW.PrintWords Go.Proofs.YtlpginalgdbopaaW.PrintLast Go.Proofs.YtlpginalgdbopaaW.PrintMore Go.Proofs.Ytlpginalgdbopaa.XW Go.Proofs.Ytlpginalgdbopaa.XOp Go.Proofs.Ytlpginalgdbopaa.XDraw
set_option linter.unusedVariables false
theorem ite_ {α : Type} {p : Prop} [Decidable p] {a b r : α} (h : (if p then a else b) = r) : (p ∧ a = r) ∨ (¬ p ∧ b = r) := by
 by_cases c : p
 · rw [if_pos c] at h; exact .inl ⟨c, h⟩
 · rw [if_neg c] at h; exact .inr ⟨c, h⟩
theorem eti_ {α : Type} {p : Prop} [Decidable p] {a b r : α} (h : (if p then a else b) = r) : (¬ p ∧ b = r) ∨ (p ∧ a = r) := (ite_ h).symm
theorem bF {b : Bool} (h : ¬ b = true) : b = false := Bool.eq_false_iff.mpr h
theorem nB {b c : Bool} (h : b = c) : (!b) = !c := congrArg (fun b_ => !b_) h
theorem qF {α : Type} [BEq α] [LawfulBEq α] {a b : α} (h : a = b) : (a != b) = false := bne_eq_false_iff_eq.mpr h
theorem qT {α : Type} [BEq α] [LawfulBEq α] {a b : α} (h : ¬ a = b) : (a != b) = true := bne_iff_ne.mpr h
theorem eT {α : Type} [BEq α] [LawfulBEq α] {a b : α} (h : a = b) : (a == b) = true := beq_iff_eq.mpr h
theorem eF {α : Type} [BEq α] [LawfulBEq α] {a b : α} (h : ¬ a = b) : (a == b) = false := beq_eq_false_iff_ne.mpr h
theorem dT {p : Prop} [Decidable p] (h : p) : decide p = true := decide_eq_true h
theorem dF {p : Prop} [Decidable p] (h : ¬ p) : decide p = false := decide_eq_false h
theorem os {α : Type} {a b : α} (h : some a = some b) : a = b := Option.some.inj h
section
variable {P : Program} {Q Q' : Exit → Act → World → Prop} {n fuel d : Nat} {E : Env} {w w1 W0 : World} {c : Code} {K : Act → World → Prop} {e : Exit} {fn : Func} {R R' : Ending → World → Prop} {r s q : ResultVar} {v u z : Value} {ops : Array Oper} {o oi : Oper} {rest : List Oper} {ds : List Nat} {l : Array Bool} {i j g : Nat} {b b' : Bool} {ok0 : Nat → Prop} {w0 : World} {ms : List Mu} {fo fs : List Fact}
theorem via_ (hK : ∀ E w', WC P c Q n E w' → ∀ a, Fits a n E → K a w') (h : WC P c Q n E w) (hq : ∀ a w, K a w → Q' e a w := by exact fun _ _ h => h) : WQ Q' e n E w := WQ.via hq hK h
theorem rg_ {id : Nat} {l : List Oper} (h : WL P l.toArray Q l n E w) : WC P (.region id l.toArray false) Q n E w := WC.region h
theorem fin0 (fn : Func) {e : Exit} (hR : ∀ e w', R e w' → R' e w') (h : R (.returned (.tuple #[])) w) (he : e = .ret ∨ e = .normal := by exact Or.inl rfl) (hr : fn.results = #[] := by rfl) (hq : ∀ a w, bodyPost P fn R' e a w → Q' e a w := by exact fun _ _ h => h) : WQ Q' e n E w :=
 WQ.fin hq (WQ.ret0 he hr (hR _ _ h))
theorem fin1 (fn : Func) (hr : fn.results = #[r]) (h1 : ResV P w E r v) (hR : ∀ e w', R e w' → R' e w') (h : R (.returned v) w) (hq : ∀ a w, bodyPost P fn R' .ret a w → Q' e a w := by exact fun _ _ h => h) : WQ Q' e n E w :=
 WQ.fin hq (WQ.ret1 hr h1 (hR _ _ h))
theorem fin2 (fn : Func) (hr : fn.results = #[r, s]) (h1 : ResV P w E r v) (h2 : ResV P w E s u) (hR : ∀ e w', R e w' → R' e w') (h : R (.returned (.tuple #[v, u])) w) (hq : ∀ a w, bodyPost P fn R' .ret a w → Q' e a w := by exact fun _ _ h => h) : WQ Q' e n E w :=
 WQ.fin hq (WQ.ret2 hr h1 h2 (hR _ _ h))
theorem fin3 (fn : Func) (hr : fn.results = #[r, s, q]) (h1 : ResV P w E r v) (h2 : ResV P w E s u) (h3 : ResV P w E q z) (hR : ∀ e w', R e w' → R' e w') (h : R (.returned (.tuple #[v, u, z])) w) (hq : ∀ a w, bodyPost P fn R' .ret a w → Q' e a w := by exact fun _ _ h => h) : WQ Q' e n E w :=
 WQ.fin hq (WQ.ret3 hr h1 h2 h3 (hR _ _ h))
theorem cs_ {f : FuncId} {as : Array Operand} {ts : Array TypeId} {args : List Value} (HS : St ok0 w0 w ms fo fs) (hf : P.funcs[f]? = some fn) (hc : Calls P f args.toArray w (fun e w' => e = .returned v ∧ Below w.heap.size w w')) (h : ∀ w1, St ok0 w0 w1 ms fo fs → WL P ops Q rest n ((d, v) :: E) w1)
   (hop : o.op = .call { callee := .value (.func f), args := as, argTypes := ts } := by rfl) (hargs : as.toList.map (ev E) = args.map some := by rfl) (hg : o.guard = none := by rfl) (hd : o.dst = some d := by rfl) (hlt : d < n := by decide) (hname : (fn.name == "runtime.NumGoroutine") = false := by rfl) (hb : fn.body.isSome = true := by rfl) : WL P ops Q (o :: rest) n E w :=
 c_ hf hc (fun e w1 hh => ⟨v, hh.1, h w1 (HS.below hh.2)⟩) hop hargs hg hd hlt hname hb
theorem cs0_ {f : FuncId} {as : Array Operand} {ts : Array TypeId} {args : List Value} (HS : St ok0 w0 w ms fo fs) (hf : P.funcs[f]? = some fn) (hc : Calls P f args.toArray w (fun e w' => e = .returned v ∧ Drawn0 w w')) (h : ∀ w1, St ok0 w0 w1 ms fo fs → WL P ops Q rest n ((d, v) :: E) w1)
   (hop : o.op = .call { callee := .value (.func f), args := as, argTypes := ts } := by rfl) (hargs : as.toList.map (ev E) = args.map some := by rfl) (hg : o.guard = none := by rfl) (hd : o.dst = some d := by rfl) (hlt : d < n := by decide) (hname : (fn.name == "runtime.NumGoroutine") = false := by rfl) (hb : fn.body.isSome = true := by rfl) : WL P ops Q (o :: rest) n E w :=
 c_ hf hc (fun e w1 hh => ⟨v, hh.1, h w1 (HS.below hh.2.below)⟩) hop hargs hg hd hlt hname hb
theorem dcs_ {f : FuncId} {as : Array Operand} {ts : Array TypeId} {args : List Value} (HS : St ok0 w0 w ms fo fs) (HB : Below W0.heap.size W0 w) (i : Nat) (hw : ∀ a, Fits a n E → Region.wanted oi (yielded ops a.tmps) = true) (hf : P.funcs[f]? = some fn) (hc : Calls P f args.toArray w (fun e w' => e = .returned v ∧ Below w.heap.size w w'))
   (h : ∀ w1, St ok0 w0 w1 ms fo fs → Below W0.heap.size W0 w1 → WD P ops Q (fun w' => Below W0.heap.size W0 w') ds fuel (l.setIfInBounds i true) n ((d, v) :: E) w1)
   (hi : ops[i]? = some oi := by rfl) (hd : oi.dst = some d := by rfl) (hlt : d < n := by decide) (hc2 : readyB .any ops l (l.setIfInBounds i true) i = true := by exact one_of rfl (by kernel_rfl)) (hds : i ∉ ds := by decide) (hop : oi.op = .call { callee := .value (.func f), args := as, argTypes := ts } := by rfl) (hargs : as.toList.map (ev E) = args.map some := by rfl) (hname : (fn.name == "runtime.NumGoroutine") = false := by rfl) (hb : fn.body.isSome = true := by rfl) : WD P ops Q (fun w' => Below W0.heap.size W0 w') ds (fuel + 1) l n E w :=
 dc_ i hw hf hc (fun e w1 hh => have hb := HB.trans (hh.2.mono HB.size); ⟨hb, v, hh.1, h w1 (HS.below hh.2) hb⟩) hi hd hlt hc2 hds hop hargs hname hb
theorem dcs0_ {f : FuncId} {as : Array Operand} {ts : Array TypeId} {args : List Value} (HS : St ok0 w0 w ms fo fs) (HB : Below W0.heap.size W0 w) (i : Nat) (hw : ∀ a, Fits a n E → Region.wanted oi (yielded ops a.tmps) = true) (hf : P.funcs[f]? = some fn) (hc : Calls P f args.toArray w (fun e w' => e = .returned v ∧ Drawn0 w w'))
   (h : ∀ w1, St ok0 w0 w1 ms fo fs → Below W0.heap.size W0 w1 → WD P ops Q (fun w' => Below W0.heap.size W0 w') ds fuel (l.setIfInBounds i true) n ((d, v) :: E) w1)
   (hi : ops[i]? = some oi := by rfl) (hd : oi.dst = some d := by rfl) (hlt : d < n := by decide) (hc2 : readyB .any ops l (l.setIfInBounds i true) i = true := by exact one_of rfl (by kernel_rfl)) (hds : i ∉ ds := by decide) (hop : oi.op = .call { callee := .value (.func f), args := as, argTypes := ts } := by rfl) (hargs : as.toList.map (ev E) = args.map some := by rfl) (hname : (fn.name == "runtime.NumGoroutine") = false := by rfl) (hb : fn.body.isSome = true := by rfl) : WD P ops Q (fun w' => Below W0.heap.size W0 w') ds (fuel + 1) l n E w :=
 dc_ i hw hf hc (fun e w1 hh => have hb := HB.trans (hh.2.below.mono HB.size); ⟨hb, v, hh.1, h w1 (HS.below hh.2.below) hb⟩) hi hd hlt hc2 hds hop hargs hname hb
theorem lb_ {bb oo : Nat} {t t0 : TypeId} {cs : List Value} {dd : TypeDesc} {x : Operand} (hb : w.heap[bb]? = some (.cells cs.toArray t0 (0, 0))) (ht : P.underlying t = some dd) (hc : cs[oo]? = some v) (ho : o.op = .load t x := by rfl) (hx : ev E x = some (.pointer (some ⟨bb, oo, none⟩)) := by rfl) (hd : dd.isRow = false := by rfl) : Run P E o w v w := Run.load ho hx ht hd (box_cell hb hc)
theorem fa_ {ad ad' : Addr} {m : Nat} {fs : Array Field} {f : Field} {s : TypeId} {x : Operand} (hs : P.underlying s = some (.struct fs)) (ho : o.op = .fieldAddr s x m := by rfl) (hx : ev E x = some (.pointer (some ad)) := by rfl) (hf : fs[m]? = some f := by rfl) (hi : (P.info? f.type).map (fun i => i.size == 0) = some false := by kernel_rfl) (he : ad.add f.offset = ad' := by rfl) :
   Run P E o w (.pointer (some ad')) w := Run.fieldAddr ho hx hs hf hi he
theorem ia_ {ad : Addr} {m c e : Nat} {t : TypeId} {x y : Operand} {k : IntKind} {i : Int} (ht : P.underlying t = some (.slice e)) (sz : Nat) (h0 : 0 ≤ i) (h1 : i < (m : Int)) (ho : o.op = .indexAddr t x y := by rfl) (hx : ev E x = some (.slice (some ad) m c) := by rfl) (hy : ev E y = some (.int k i) := by rfl) (hsz : (P.info? e).map (·.size) = some sz := by kernel_rfl) :
   Run P E o w (.pointer (some (ad.add (i.toNat * sz)))) w := Run.indexAddr ho hx hy ht hsz h0 h1
end
section
variable {α : Type} {d : Kd α} {ok0 : Nat → Prop} {w0 w : World} {ms : List Mu} {fo fn : List Fact} {x : α} {cs : List Value}
theorem St.aN (h : St ok0 w0 w ms fo fn) (i : Nat) (hi : fn[i]? = some (fun W => d.K W x cs)) : AtK d w x cs 0 := AtK.whole (h.getN i hi)
end
section
variable {P : Program} {Q Q' : Exit → Act → World → Prop} {n fuel d : Nat} {E : Env} {w w1 W0 : World} {x y : Code} {K : Act → World → Prop} {e : Exit} {fn : Func} {R R' : Ending → World → Prop} {r s q : ResultVar} {v u z : Value} {ops : Array Oper} {o oi : Oper} {rest : List Oper} {ds : List Nat} {l : Array Bool} {i j g : Nat} {b b' : Bool} {ok0 : Nat → Prop} {w0 : World} {ms : List Mu} {fo fs : List Fact}
theorem sr_ {id : Nat} {l : List Oper} (h : ∀ K : Act → World → Prop, (∀ E w', WC P y Q n E w' → ∀ a, Fits a n E → K a w') → WL P l.toArray (Exit.then K Q) l n E w) : WC P (.seq (.region id l.toArray false) y) Q n E w := WC.seq fun K hK => WC.region (h K hK)
theorem dn_ (hK : ∀ E w', WC P y Q n E w' → ∀ a, Fits a n E → K a w') (h : WC P y Q n E w) (hq : ∀ a w, K a w → Q' .normal a w := by exact fun _ _ h => h) : WL P ops Q' [] n E w := WL.done (WQ.via hq hK h)
theorem rt1 (fn : Func) (hr : fn.results = #[r]) (h1 : ResV P w E r v) (hR : ∀ e w', R e w' → R' e w') (h : R (.returned v) w) (hq : ∀ a w, bodyPost P fn R' .ret a w → Q .ret a w := by exact fun _ _ h => h) : WC P .ret Q n E w := WC.ret (fin1 fn hr h1 hR h hq)
theorem rt3 (fn : Func) (hr : fn.results = #[r, s, q]) (h1 : ResV P w E r v) (h2 : ResV P w E s u) (h3 : ResV P w E q z) (hR : ∀ e w', R e w' → R' e w') (h : R (.returned (.tuple #[v, u, z])) w) (hq : ∀ a w, bodyPost P fn R' .ret a w → Q .ret a w := by exact fun _ _ h => h) : WC P .ret Q n E w := WC.ret (fin3 fn hr h1 h2 h3 hR h hq)
theorem no_ {α : Type} {a : α} {p : Prop} (h : (none : Option α) = some a) : p := by cases h
theorem ln_ {A : Option Addr} {m c e : Nat} {t : TypeId} {x : Operand} (ht : P.underlying t = some (.slice e)) (h : WL P ops Q rest n ((d, .int .i64 (m : Int)) :: E) w) (ho : o.op = .call { callee := .builtin .len, args := #[x], argTypes := #[t] } := by rfl) (hx : ev E x = some (.slice A m c) := by rfl) (hg : o.guard = none := by rfl) (hd : o.dst = some d := by rfl) (hlt : d < n := by decide) : WL P ops Q (o :: rest) n E w := WL.val hg hd hlt (Run.len (ts := #[]) ho ht hx) h
theorem b_ {x y : Operand} {t t2 : TypeId} {k : IntKind} {i j : Int} {op : BinOp} (hr : (Go.binOp op t (.int k i) (.int k j)).run P w = .ok v w) (h : WL P ops Q rest n ((d, v) :: E) w) (ho : o.op = .binOp op t x y t2 := by rfl) (hx : ev E x = some (.int k i) := by rfl) (hy : ev E y = some (.int k j) := by rfl) (hg : o.guard = none := by rfl) (hd : o.dst = some d := by rfl) (hlt : d < n := by decide) : WL P ops Q (o :: rest) n E w := WL.val hg hd hlt (Run.bin ho hx hy hr) h
theorem nt_ {x : Operand} {ty : TypeId} {b : Bool} (h : WL P ops Q rest n ((d, .bool (!b)) :: E) w) (ho : o.op = .unOp .not ty x := by rfl) (hx : ev E x = some (.bool b) := by rfl) (hg : o.guard = none := by rfl) (hd : o.dst = some d := by rfl) (hlt : d < n := by decide) : WL P ops Q (o :: rest) n E w := WL.val hg hd hlt (Run.not ho hx) h
theorem bo_ {t : TypeId} {x : Operand} {cs : Array Value} (H : St ok0 w0 w ms fo fs) (h : ∀ b w1, w0.heap.size ≤ b → St ok0 w0 w1 (boxM b cs t :: ms) fo fs → WL P ops Q rest n ((d, .pointer (some ⟨b, 0, none⟩)) :: E) w1) (ho : o.op = .box t x := by rfl) (hx : ev E x = some v := by rfl) (hv : v.cells = cs := by rfl) (hg : o.guard = none := by rfl) (hd : o.dst = some d := by rfl) (hlt : d < n := by decide) : WL P ops Q (o :: rest) n E w := WL.box H hg hd hlt ho hx hv h
theorem cw_ {f : FuncId} {c : Code} {args : List Value} (hf : P.funcs[f]? = some fn) (h : ∀ R' : Ending → World → Prop, (∀ e w', R e w' → R' e w') → WC P c (bodyPost P fn R') n (envOf 0 args) w) (hb : fn.body = some c := by rfl) (hn : fn.ntmps = n := by rfl) (hl : args.length ≤ n := by exact Nat.le_of_ble_eq_true rfl) : Calls P f args.toArray w R := calls_W hf hb hn hl h
theorem ls_ {bb oo : Nat} {t t0 : TypeId} {cs cs0 : List Value} {dd : TypeDesc} {x : Operand} (hb : w.heap[bb]? = some (.cells cs0.toArray t0 (0, 0))) (ht : P.underlying t = some dd) (hp : Part cs cs0 oo) (ho : o.op = .load t x := by rfl) (hx : ev E x = some (.pointer (some ⟨bb, oo, none⟩)) := by rfl) (hd : dd.isRow = true := by rfl) (hi : (P.info? t).map (·.size) = some cs.length := by kernel_rfl) : Run P E o w (.agg cs.toArray) w := Run.loadS ho hx ht hd hi (box_part hb hp)
theorem wy_ {c : Operand} {t : Bool} (ht : t = true) (h : WC P x Q n E w) (hc : ev E c = some (.bool t) := by rfl) : WC P (.cond c x y) Q n E w := WC.yes hc ht h
theorem wn_ {c : Operand} {t : Bool} (ht : t = false) (h : WC P y Q n E w) (hc : ev E c = some (.bool t) := by rfl) : WC P (.cond c x y) Q n E w := WC.no hc ht h
theorem dd_ {m : Nat} {S : World → Prop} (h : WQ Q .normal n E w) (hr : (Region.ready .any ops l == []) = true := by kernel_rfl) : WD P ops Q S ds m l n E w := WD.done hr h
theorem bl_ {bb oo : Nat} {t t0 : TypeId} {cs : List Value} {dd : TypeDesc} {x : Operand} (i : Nat) (HS : St ok0 w0 W0 ms fo fs) (HB : Below W0.heap.size W0 w) (q : Nat) (ht : P.underlying t = some dd) (hc0 : cs[oo]? = some v) (h : WD P ops Q (fun w' => Below W0.heap.size W0 w') ds fuel (l.setIfInBounds i true) n ((d, v) :: E) w) (hq : ms[q]? = some (boxM bb cs.toArray t0) := by rfl) (hi : ops[i]? = some oi := by rfl) (ho : oi.op = .load t x := by rfl) (hx : ev E x = some (.pointer (some ⟨bb, oo, none⟩)) := by rfl) (hdd : dd.isRow = false := by rfl)
   (hd : oi.dst = some d := by rfl) (hlt : d < n := by decide) (hc : takeB .any ops ds l (l.setIfInBounds i true) i = true := by exact take_of rfl (by kernel_rfl)) (hQ : ∀ v c a w, Q (.panic c) (a.put oi.dst v) w → Q (.panic c) a w := by exact fun _ _ _ _ h => h) (hg : oi.guard = none := by rfl) : WD P ops Q (fun w' => Below W0.heap.size W0 w') ds (fuel + 1) l n E w :=
 WD.take i hi hd hlt hc hQ hg HB (fun w_ hw_ => lb_ ((HS.below hw_).mu q hq) ht hc0 ho hx hdd) h
theorem blg_ {c : Bool} {bb oo : Nat} {t t0 : TypeId} {cs : List Value} {dd : TypeDesc} {x : Operand} (i : Nat) (hcb : c = b) (HS : St ok0 w0 W0 ms fo fs) (HB : Below W0.heap.size W0 w) (q : Nat) (ht : P.underlying t = some dd) (hc0 : cs[oo]? = some v) (h : WD P ops Q (fun w' => Below W0.heap.size W0 w') ds fuel (l.setIfInBounds i true) n ((d, v) :: E) w) (hq : ms[q]? = some (boxM bb cs.toArray t0) := by rfl) (hi : ops[i]? = some oi := by rfl) (ho : oi.op = .load t x := by rfl) (hx : ev E x = some (.pointer (some ⟨bb, oo, none⟩)) := by rfl) (hdd : dd.isRow = false := by rfl)
   (hd : oi.dst = some d := by rfl) (hlt : d < n := by decide) (hc : takeB .any ops ds l (l.setIfInBounds i true) i = true := by exact take_of rfl (by kernel_rfl)) (hQ : ∀ v c a w, Q (.panic c) (a.put oi.dst v) w → Q (.panic c) a w := by exact fun _ _ _ _ h => h) (hg : oi.guard = some (j, b) := by rfl) (hj : (ops[j]?).bind (·.dst) = some g := by rfl) (hv : lk E g = some (.bool c) := by rfl) : WD P ops Q (fun w' => Below W0.heap.size W0 w') ds (fuel + 1) l n E w :=
 WD.takeG i hi hd hlt hc hQ hg hj hv hcb HB (fun w_ hw_ => lb_ ((HS.below hw_).mu q hq) ht hc0 ho hx hdd) h
end
section
variable {α β : Type} {d : Kd α} {dd : Kd β} {ok0 : Nat → Prop} {w0 w : World} {ms : List Mu} {fo fn : List Fact} {x : α} {cs : List Value} {xs : List β} {e o : Nat} {Rr : World → Prop}
theorem St.sN (h : St ok0 w0 w ms fo fn) (i : Nat) (hi : fn[i]? = some (fun W => d.K W x cs)) (hat : ∀ {W : World}, AtK d W x cs 0 → AtK (Kd.slice e dd) W xs cs o) : ∃ A c, cs[o]? = some (.slice A xs.length c) ∧ xs.length ≤ c ∧ St ok0 w0 w ms fo ((fun W => dd.C W A xs.length xs) :: fn) := by
 obtain ⟨A, c, h1, h2⟩ := (hat (h.aN i hi)).slice
 exact ⟨A, c, h1, h2, h.deriveN (fun W hN => (hat (AtK.whole (AllF.get i hi hN))).C h1)⟩
theorem St.eO (h : St ok0 w0 w ms fo fn) (i : Nat) (hi : fo[i]? = some (fun W => d.K W x cs ∧ Rr W)) (hat : ∀ {W : World}, AtK d W x cs 0 → AtK (Kd.slice e dd) W xs cs o) : ∃ A c, cs[o]? = some (.slice A xs.length c) ∧ xs.length ≤ c ∧ St ok0 w0 w ms ((fun W => dd.C W A xs.length xs) :: fo) fn := by
 obtain ⟨A, c, h1, h2⟩ := (hat (AtK.whole (h.getO i hi).1)).slice
 exact ⟨A, c, h1, h2, h.deriveO (fun W hO hN => (hat (AtK.whole (AllF.get i hi hO).1)).C h1)⟩
theorem St.eN (h : St ok0 w0 w ms fo fn) (i : Nat) (hi : fn[i]? = some (fun W => d.K W x cs ∧ Rr W)) (hat : ∀ {W : World}, AtK d W x cs 0 → AtK (Kd.slice e dd) W xs cs o) : ∃ A c, cs[o]? = some (.slice A xs.length c) ∧ xs.length ≤ c ∧ St ok0 w0 w ms fo ((fun W => dd.C W A xs.length xs) :: fn) := by
 obtain ⟨A, c, h1, h2⟩ := (hat (AtK.whole (h.getN i hi).1)).slice
 exact ⟨A, c, h1, h2, h.deriveN (fun W hN => (hat (AtK.whole (AllF.get i hi hN).1)).C h1)⟩
end
section
variable {P : Program} {Q : Exit → Act → World → Prop} {n fuel d : Nat} {E : Env} {w W0 : World} {S : World → Prop} {ops : Array Oper} {oi : Oper} {ds : List Nat} {l : Array Bool} {j g : Nat} {b c : Bool}
theorem df_ {ad ad' : Addr} {m : Nat} {fs : Array Field} {f : Field} {s : TypeId} {x : Operand} (i : Nat) (hs : P.underlying s = some (.struct fs)) (h : WD P ops Q S ds fuel (l.setIfInBounds i true) n ((d, .pointer (some ad')) :: E) w) (hi : ops[i]? = some oi := by rfl) (ho : oi.op = .fieldAddr s x m := by rfl) (hx : ev E x = some (.pointer (some ad)) := by rfl) (hf : fs[m]? = some f := by rfl) (hz : (P.info? f.type).map (fun i => i.size == 0) = some false := by kernel_rfl) (he : ad.add f.offset = ad' := by rfl)
   (hd : oi.dst = some d := by rfl) (hlt : d < n := by decide) (hc : anyB .any ops l (l.setIfInBounds i true) i = true := by exact any_of rfl (by kernel_rfl)) (hQ : ∀ v c a w, Q (.panic c) (a.put oi.dst v) w → Q (.panic c) a w := by exact fun _ _ _ _ h => h) (hg : oi.guard = none := by rfl) : WD P ops Q S ds (fuel + 1) l n E w := WD.pure i hi hd hlt hc hQ hg (fun _ => Run.fieldAddr ho hx hs hf hz he) h
theorem dfg_ {ad ad' : Addr} {m : Nat} {fs : Array Field} {f : Field} {s : TypeId} {x : Operand} (i : Nat) (hcb : c = b) (hs : P.underlying s = some (.struct fs)) (h : WD P ops Q S ds fuel (l.setIfInBounds i true) n ((d, .pointer (some ad')) :: E) w) (hi : ops[i]? = some oi := by rfl) (ho : oi.op = .fieldAddr s x m := by rfl) (hx : ev E x = some (.pointer (some ad)) := by rfl) (hf : fs[m]? = some f := by rfl) (hz : (P.info? f.type).map (fun i => i.size == 0) = some false := by kernel_rfl) (he : ad.add f.offset = ad' := by rfl)
   (hd : oi.dst = some d := by rfl) (hlt : d < n := by decide) (hc : anyB .any ops l (l.setIfInBounds i true) i = true := by exact any_of rfl (by kernel_rfl)) (hQ : ∀ v c a w, Q (.panic c) (a.put oi.dst v) w → Q (.panic c) a w := by exact fun _ _ _ _ h => h) (hg : oi.guard = some (j, b) := by rfl) (hj : (ops[j]?).bind (·.dst) = some g := by rfl) (hv : lk E g = some (.bool c) := by rfl) : WD P ops Q S ds (fuel + 1) l n E w := WD.pureG i hi hd hlt hc hQ hg hj hv hcb (fun _ => Run.fieldAddr ho hx hs hf hz he) h
theorem di_ {ad : Addr} {m c e : Nat} {t : TypeId} {x y : Operand} {k : IntKind} {q : Int} (i : Nat) (ht : P.underlying t = some (.slice e)) (sz : Nat) (h0 : 0 ≤ q) (h1 : q < (m : Int)) (h : WD P ops Q S ds fuel (l.setIfInBounds i true) n ((d, .pointer (some (ad.add (q.toNat * sz)))) :: E) w) (hi : ops[i]? = some oi := by rfl) (ho : oi.op = .indexAddr t x y := by rfl) (hx : ev E x = some (.slice (some ad) m c) := by rfl) (hy : ev E y = some (.int k q) := by rfl) (hsz : (P.info? e).map (·.size) = some sz := by kernel_rfl)
   (hd : oi.dst = some d := by rfl) (hlt : d < n := by decide) (hc : anyB .any ops l (l.setIfInBounds i true) i = true := by exact any_of rfl (by kernel_rfl)) (hQ : ∀ v c a w, Q (.panic c) (a.put oi.dst v) w → Q (.panic c) a w := by exact fun _ _ _ _ h => h) (hg : oi.guard = none := by rfl) : WD P ops Q S ds (fuel + 1) l n E w := WD.pure i hi hd hlt hc hQ hg (fun _ => Run.indexAddr ho hx hy ht hsz h0 h1) h
theorem dm_ {v : Value} {x : Operand} (i : Nat) (h : WD P ops Q S ds fuel (l.setIfInBounds i true) n ((d, v) :: E) w) (hi : ops[i]? = some oi := by rfl) (ho : oi.op = .move x := by rfl) (hx : ev E x = some v := by rfl)
   (hd : oi.dst = some d := by rfl) (hlt : d < n := by decide) (hc : anyB .any ops l (l.setIfInBounds i true) i = true := by exact any_of rfl (by kernel_rfl)) (hQ : ∀ v c a w, Q (.panic c) (a.put oi.dst v) w → Q (.panic c) a w := by exact fun _ _ _ _ h => h) (hg : oi.guard = none := by rfl) : WD P ops Q S ds (fuel + 1) l n E w := WD.pure i hi hd hlt hc hQ hg (fun _ => Run.move ho hx) h
end
theorem row_all {α : Type} {dd : Kd α} {w : World} {B e n c : Nat} {A : Option Addr} {inner : List Value} {xs : List α} (h : w.ownsRow B e dd.sz (.slice A n c) n inner) (hr : Reps (dd.K w) dd.sz xs inner) (hs : 0 < dd.sz) : inner.length = n * dd.sz ∧ (∀ u ∈ inner, u.oneCell' = true) ∧ (0 < n → ∃ ad, A = some ad ∧ ∀ j u, inner[j]? = some u → w.cell? (ad.add j) = some u) := by
 refine ⟨h.1, Kd.reps_one hr hs (fun _ _ hp => dd.K_one hp), fun h0 => ?_⟩
 obtain ⟨ad, rfl⟩ := row_open h h0
 exact ⟨ad, rfl, fun j u hu => row_cell h hu⟩
theorem dco_ {P : Program} {Q : Exit → Act → World → Prop} {n fuel d : Nat} {E : Env} {w : World} {S : World → Prop} {ops : Array Oper} {oi : Oper} {ds : List Nat} {l : Array Bool} {f : FuncId} {fn : Func} {as : Array Operand} {ts : Array TypeId} {args : List Value} {R : Ending → World → Prop} (i : Nat) (hw : ∀ a, Fits a n E → Region.wanted oi (yielded ops a.tmps) = true) (hf : P.funcs[f]? = some fn) (hcall : Calls P f args.toArray w R) (h : ∀ e w1, R e w1 → S w1 ∧ ∃ v, e = .returned v ∧ WD P ops Q S ds fuel (l.setIfInBounds i true) n ((d, v) :: E) w1)
   (hd : oi.dst = some d := by rfl) (hlt : d < n := by decide) (hop : oi.op = .call { callee := .value (.func f), args := as, argTypes := ts } := by rfl) (hargs : as.toList.map (ev E) = args.map some := by rfl) (hname : (fn.name == "runtime.NumGoroutine") = false := by rfl) (hb : fn.body.isSome = true := by rfl) : WDop P ops Q S ds fuel l n E w oi i d := fun K hK a ha =>
 goes_ hf hname hb args.toArray (hw a ha) hd hop (args_evalA ha hargs) (hcall.mono fun e w' hh => by
   obtain ⟨h1, v, rfl, hk⟩ := h e w' hh
   exact ⟨v, rfl, hK _ _ h1 hk _ (ha.put hlt v)⟩)
theorem db_ {P : Program} {Q : Exit → Act → World → Prop} {n fuel d : Nat} {E : Env} {w : World} {S : World → Prop} {ops : Array Oper} {oi : Oper} {ds : List Nat} {l : Array Bool} {t : TypeId} {ps : Array (Nat × Operand)} {cells : Array Value} (i : Nat) (vs : List (Nat × Value)) (hi : ops[i]? = some oi) (ho : oi.op = .build t ps) (hE : EvB E ps.toList vs) (hb : P.built t vs = some cells) (h : WD P ops Q S ds fuel (l.setIfInBounds i true) n ((d, .agg cells) :: E) w)
   (hd : oi.dst = some d := by rfl) (hlt : d < n := by decide) (hc : anyB .any ops l (l.setIfInBounds i true) i = true := by exact any_of rfl (by kernel_rfl)) (hQ : ∀ v c a w, Q (.panic c) (a.put oi.dst v) w → Q (.panic c) a w := by exact fun _ _ _ _ h => h) (hg : oi.guard = none := by rfl) : WD P ops Q S ds (fuel + 1) l n E w := WD.pure i hi hd hlt hc hQ hg (fun _ => Run.build ho vs hE hb) h
end Go.Proofs.Ytlpginalgdbopaa.XSt
namespace Go.Proofs.Ytlpginalgdbopaa.XSt
open Go.RowKit Go.Proofs.YtlpginalgdbopaaW.PrintWords Go.Proofs.YtlpginalgdbopaaW.PrintLast Go.Proofs.YtlpginalgdbopaaW.PrintMore Go.Proofs.Ytlpginalgdbopaa.XW Go.Proofs.Ytlpginalgdbopaa.XOp Go.Proofs.Ytlpginalgdbopaa.XDraw
set_option linter.unusedVariables false
def Upd {α : Type} (d : Kd α) (w : World) (o : Nat) (v : Value) (x x' : α) : Prop := ∀ cs, d.K w x cs → d.K w x' (cs.set o v)
section
variable {α β : Type} {d : Kd α} {a : Kd α} {b : Kd β} {w : World} {o o' e c : Nat} {v : Value} {k : IntKind} {A : Option Addr}
theorem Upd.fst {x x' : α} {y : β} (h : Upd a w o v x x') (hs : o < a.sz) : Upd (Kd.pair a b) w o v (x, y) (x', y) := by
 rintro cs ⟨c0, c1, rfl, h0, h1⟩
 have hl := a.K_len h0
 exact ⟨c0.set o v, c1, by rw [List.set_append_left _ _ (by omega)], h c0 h0, h1⟩
theorem Upd.snd {x : α} {y y' : β} (h : Upd b w o v y y') (he : o' = a.sz + o) : Upd (Kd.pair a b) w o' v (x, y) (x, y') := by
 rintro cs ⟨c0, c1, rfl, h0, h1⟩
 have hl := a.K_len h0
 subst he
 exact ⟨c0, c1.set o v, by rw [List.set_append_right _ _ (by omega), hl, Nat.add_sub_cancel_left], h0, h c1 h1⟩
theorem Upd.iso {f : β → α} {x x' : β} (h : Upd d w o v (f x) (f x')) : Upd (Kd.iso d f) w o v x x' := h
theorem Upd.int {x y : Int} : Upd (Kd.int k) w 0 (.int k y) x y := fun cs h => by
 have e : cs = [.int k x] := h
 subst e; rfl
theorem Upd.bool {x y : Bool} : Upd Kd.bool w 0 (.bool y) x y := fun cs h => by
 have e : cs = [.bool x] := h
 subst e; rfl
theorem Upd.slice {xs ys : List α} (hl : ys.length ≤ c) (hC : d.C w A ys.length ys) : Upd (Kd.slice e d) w 0 (.slice A ys.length c) xs ys := fun cs h => by
 obtain ⟨A', c', rfl, _⟩ := h
 exact ⟨A, c, rfl, hl, hC⟩
end
end Go.Proofs.Ytlpginalgdbopaa.XSt
namespace Go.Proofs.Ytlpginalgdbopaa.XSt
open Go.RowKit Go.Proofs.YtlpginalgdbopaaW.PrintWords Go.Proofs.YtlpginalgdbopaaW.PrintLast Go.Proofs.YtlpginalgdbopaaW.PrintMore Go.Proofs.Ytlpginalgdbopaa.XW Go.Proofs.Ytlpginalgdbopaa.XOp Go.Proofs.Ytlpginalgdbopaa.XDraw
set_option linter.unusedVariables false
def MarkedRow (w : World) (base : Nat) (e : TypeId) (size : Nat) (v : Value) (n : Nat) (xs : List Value) : Prop :=
 xs.length = n * size ∧ ∃ g cap cur f, v = .slice (some ⟨g, 0, none⟩) n cap ∧ base ≤ g ∧ w.heap[g]? = some (.cells cur e f) ∧ cur.size ≤ f.1 ∧ n ≤ cap ∧ cap ≤ maxLen ∧ cur.size = cap * size ∧ cur.toList.take (n * size) = xs
def OwnX (w : World) (base : Nat) (e : TypeId) (size : Nat) (v : Value) (n : Nat) (xs : List Value) : Prop := w.ownsRow base e size v n xs ∨ MarkedRow w base e size v n xs
def rowX (B e sz : Nat) (v : Value) (n : Nat) (inner : List Value) : Mu := ⟨v.ownBlock.toList, fun W => OwnX W B e sz v n inner⟩
section
variable {w w1 : World} {base e size n c : Nat} {v : Value} {xs : List Value} {A : Option Addr}
theorem ownX_block (h : OwnX w base e size v n xs) (k : Nat) (hk : v.ownBlock = some k) : base ≤ k ∧ k < w.heap.size := by
 rcases h with h | ⟨_, g, cap, cur, f, rfl, hb, hg, _⟩
 · exact ⟨own_base h k hk, own_lt h k hk⟩
 · have : g = k := by simpa [Value.ownBlock] using hk
   subst this
   exact ⟨hb, (Array.getElem?_eq_some_iff.1 hg).1⟩
theorem ownX_move (h : OwnX w base e size v n xs) (hm : ∀ k, v.ownBlock = some k → w1.heap[k]? = w.heap[k]?) : OwnX w1 base e size v n xs := by
 rcases h with h | ⟨h1, g, cap, cur, f, rfl, hb, hg, r⟩
 · exact .inl (own_move h hm)
 · exact .inr ⟨h1, g, cap, cur, f, rfl, hb, (hm g (by simp [Value.ownBlock])).trans hg, r⟩
theorem foot_rowX (h : OwnX w base e size v n xs) : Foot (rowX base e size v n xs).P w (fun k => k ∈ (rowX base e size v n xs).blk) := fun W hW =>
 ownX_move h (fun k hk => hW k (by simp [rowX, hk]) (ownX_block h k hk).2)
end
section
variable {ok0 : Nat → Prop} {w0 w w1 : World} {ms : List Mu} {fo fn : List Fact} {e sz n : Nat} {v v1 : Value} {inner news : List Value}
theorem St.rowXNew (h : St ok0 w0 w ms fo fn) (hb : Below w.heap.size w w1) (ho : OwnX w1 w.heap.size e sz v n inner) : St ok0 w0 w1 (rowX w0.heap.size e sz v n inner :: ms) fo fn := by
 have hB : OwnX w1 w0.heap.size e sz v n inner := ho.elim (fun h2 => .inl (own_weaken h2 h.size)) (fun ⟨a, g, cap, cur, f, b, c, r⟩ => .inr ⟨a, g, cap, cur, f, b, Nat.le_trans h.size c, r⟩)
 exact h.push hb (foot_rowX hB) (by show v.ownBlock.toList.Nodup; cases v.ownBlock <;> simp) (fun k hk => by
   have hk : v.ownBlock = some k := by simpa [rowX] using hk
   exact ownX_block ho k hk)
end
section
variable {P : Program} {Q : Exit → Act → World → Prop} {N : Nat} {E : Env} {ops : Array Oper} {o : Oper} {rest : List Oper} {d : Nat} {ok0 : Nat → Prop} {w0 w : World} {ms : List Mu} {fo fn : List Fact} {e sz n m c : Nat} {v : Value} {inner : List Value} {t src dst : TypeId} {s x : Operand} {A : Option Addr}
def bcells (s : ByteArray) : List Value := (bytesOf s).map (Value.int .u8)
theorem bytes_own (W : World) (e : TypeId) (b : ByteArray) (hb : b.size < 4294967296) : OwnX (Lib.bytesWorld W e b) W.heap.size e 1 (.slice (some ⟨W.heap.size, 0, none⟩) b.size (grownCap W b.size 0 e)) b.size (bcells b) := by
 have hl : (bcells b).length = b.size := by rw [bcells, List.length_map, bytesOf_length]
 have hge := grownCap_ge W b.size 0 e
 have hsz : (Lib.bytesCells W e b).size = grownCap W b.size 0 e := by
   have : b.data.size = b.size := rfl
   simp [Lib.bytesCells, this]; omega
 refine .inr ⟨by rw [hl, Nat.mul_one], W.heap.size, _, Lib.bytesCells W e b, _, rfl, Nat.le_refl _, Lib.bytesWorld_at_new W e b, Nat.le_refl _, hge, grownCap_le_maxLen W b.size 0 e (by simp only [maxLen]; omega), by rw [hsz, Nat.mul_one], ?_⟩
 rw [Nat.mul_one, Lib.bytesCells, Array.toList_append, List.take_left' (by simp)]
 simp [bcells, bytesOf, List.map_map, Function.comp_def]
theorem Run.bytes {b : ByteArray} {u : TypeDesc} (ho : o.op = .convert src dst x) (hs : P.underlying src = some u) (hd : P.underlying dst = some (.slice e)) (he : P.underlying e = some (.int .u8)) (hx : ev E x = some (.string b)) :
   Run P E o w (.slice (some ⟨w.heap.size, 0, none⟩) b.size (grownCap w b.size 0 e)) (Lib.bytesWorld w e b) := fun ρ hρ => by
 unfold execOp
 simp [ho, hρ _ _ hx, Lib.run_convert_string_bytes w src dst e b hs hd he]
theorem WL.bytes {b : ByteArray} {u : TypeDesc} (H : St ok0 w0 w ms fo fn) (hg : o.guard = none) (hdst : o.dst = some d) (hlt : d < N) (ho : o.op = .convert src dst x) (hs : P.underlying src = some u) (hd : P.underlying dst = some (.slice e)) (he : P.underlying e = some (.int .u8)) (hx : ev E x = some (.string b)) (hb : b.size < 4294967296)
   (h : ∀ v w1, St ok0 w0 w1 (rowX w0.heap.size e 1 v (bytesOf b).length (bcells b) :: ms) fo fn → WL P ops Q rest N ((d, v) :: E) w1) : WL P ops Q (o :: rest) N E w :=
 WL.val hg hdst hlt (Run.bytes ho hs hd he hx) (h _ _ (by rw [bytesOf_length]; exact H.rowXNew (bytes_below (Below.refl _ _) (Nat.le_refl _) e b) (bytes_own w e b hb)))
end
section
variable {P : Program} {Q : Exit → Act → World → Prop} {N : Nat} {E : Env} {ops : Array Oper} {o : Oper} {ok0 : Nat → Prop} {w0 w : World} {ms : List Mu} {fo fn : List Fact} {e sz n c : Nat} {u : Value} {inner : List Value} {t : TypeId} {x y : Operand} {ad : Addr}
theorem putEl_run (H : St ok0 w0 w ms fo fn) (i : Nat) (hi : ms[i]? = some (rowM w0.heap.size e sz (.slice (some ad) n c) n inner)) (ho : o.op = .store t x y) {k : Nat} (hx : ev E x = some (.pointer (some (ad.add k)))) (hy : ev E y = some u) (vs : List Value) (hv : u.cells = vs.toArray) (h1 : ∀ u ∈ vs, u.oneCell' = true) (hz : (P.info? t).map (·.size) = some vs.length) (hk : k + vs.length ≤ n * sz) :
   ∃ w1, RunU P E o w w1 ∧ St ok0 w0 w1 (ms.set i (rowM w0.heap.size e sz (.slice (some ad) n c) n (cut inner k vs))) fo fn := by
 have hrow : w.ownsRow w0.heap.size e sz (.slice (some ad) n c) n inner := H.mu i hi
 obtain ⟨g, cur, hge, hb, hh, hs, ht⟩ := own_at hrow
 obtain ⟨g2, hge2, hcut⟩ := own_cut (vs := vs) hrow k hk
 have hgg : g2 = g := by rw [hge] at hge2; injection hge2 with h1 _ _; exact h1.symm
 subst hgg
 subst hge
 refine ⟨w.setCells g2 k vs, fun ρ hρ => ?_, ?_⟩
 · have hst := run_storeVar_mid (P := P) w g2 k t vs.toArray (fun j hj => by
     have hj : j < vs.length := by simpa using hj
     refine ⟨?_, blk_frozen hh _⟩
     rw [blk_cell hh, Array.getElem?_eq_getElem (by omega)]; rfl) (by simpa using hz) (all_oneCell_toArray h1)
   have h2 : (storeVar t ⟨g2, k, none⟩ u).run P w = (storeVar t ⟨g2, k, none⟩ (.agg vs.toArray)).run P w := by
     unfold storeVar
     rw [show u.cells = (Value.agg vs.toArray).cells from hv]
   have hp := hρ _ _ hx
   rw [Addr.add_mid, Nat.zero_add] at hp
   unfold execOp
   simp only [ho, hp, hρ _ _ hy, Instr.storeAt, Instr.sureAddr, Sem.run_bind, Sem.run_pure, Result.andThen_ok]
   rw [h2, hst]; rfl
 · refine H.put i hi (setCells_below vs g2 k H.b hb) (by rw [setCells_size]; exact Nat.le_refl _) (fun j hj hn => setCells_other vs w g2 k j (fun e2 => hn (by subst e2; simp [rowM, Value.ownBlock]))) (foot_row hcut) (by simp [rowM, Value.ownBlock]) (fun j hj => .inl hj)
theorem WD.putElL {S : World → Prop} {ds : List Nat} {fuel : Nat} {l : Array Bool} (i : Nat) (H : St ok0 w0 w ms fo fn) (q : Nat) (hq : ms[q]? = some (rowM w0.heap.size e sz (.slice (some ad) n c) n inner)) (ho : o.op = .store t x y) {k : Nat} (hx : ev E x = some (.pointer (some (ad.add k)))) (hy : ev E y = some u) (vs : List Value) (hv : u.cells = vs.toArray) (h1 : ∀ u ∈ vs, u.oneCell' = true) (hz : (P.info? t).map (·.size) = some vs.length) (hk : k + vs.length ≤ n * sz)
   (h : ∀ w1 I, I = cut inner k vs → St ok0 w0 w1 (ms.set q (rowM w0.heap.size e sz (.slice (some ad) n c) n I)) fo fn → WD P ops Q S ds fuel (l.setIfInBounds i true) N E w1)
   (hi : ops[i]? = some o := by rfl) (hd : o.dst = none := by rfl) (hg : o.guard = none := by rfl) (hc : readyB .any ops l (l.setIfInBounds i true) i = true := by exact one_of rfl (by kernel_rfl)) (hds : i ∈ ds := by decide) : WD P ops Q S ds (fuel + 1) l N E w := by
 obtain ⟨w1, hr, H1⟩ := putEl_run H q hq ho hx hy vs hv h1 hz hk
 exact dl_ i hr (h w1 _ rfl H1) hi hd hg hc hds
end
theorem WC.endK {P : Program} {c : Code} {Q : Exit → Act → World → Prop} {n : Nat} {E : Env} {w : World} (h : ∀ K : Act → World → Prop, (∀ E w', WQ Q .normal n E w' → ∀ a, Fits a n E → K a w') → WC P c (Exit.then K Q) n E w) : WC P c Q n E w := by
 have e : Exit.then (fun a w => Q .normal a w) Q = Q := by
   funext e a w
   cases e <;> rfl
 have h1 := h (fun a w => Q .normal a w) (fun _ _ hy a hf => hy a hf)
 rwa [e] at h1
theorem viaQ_ {Q Q' : Exit → Act → World → Prop} {K : Act → World → Prop} {n : Nat} {E : Env} {w : World} {e e' : Exit} (hK : ∀ E w', WQ Q e' n E w' → ∀ a, Fits a n E → K a w') (h : WQ Q e' n E w) (hq : ∀ a w, K a w → Q' e a w := by exact fun _ _ h => h) : WQ Q' e n E w := fun a ha => hq a w (hK E w h a ha)
end Go.Proofs.Ytlpginalgdbopaa.XSt
namespace Go.Proofs.Ytlpginalgdbopaa.XSt
open Go.RowKit Go.Proofs.YtlpginalgdbopaaW.PrintWords Go.Proofs.YtlpginalgdbopaaW.PrintLast Go.Proofs.YtlpginalgdbopaaW.PrintMore Go.Proofs.Ytlpginalgdbopaa.XW Go.Proofs.Ytlpginalgdbopaa.XOp Go.Proofs.Ytlpginalgdbopaa.XDraw
set_option linter.unusedVariables false
end Go.Proofs.Ytlpginalgdbopaa.XSt
namespace Go.Proofs.Ytlpginalgdbopaa.XSt
open Go.RowKit Go.Proofs.YtlpginalgdbopaaW.PrintWords Go.Proofs.YtlpginalgdbopaaW.PrintLast Go.Proofs.YtlpginalgdbopaaW.PrintMore Go.Proofs.Ytlpginalgdbopaa.XW Go.Proofs.Ytlpginalgdbopaa.XOp Go.Proofs.Ytlpginalgdbopaa.XDraw
set_option linter.unusedVariables false
structure Dk (α : Type) where
 d : Kd α
 B : World → α → List Value → List Nat → Prop
 K : ∀ {w : World} {x : α} {cs : List Value} {bl : List Nat}, B w x cs bl → d.K w x cs
 mv : ∀ {w w1 : World} {x : α} {cs : List Value} {bl : List Nat}, B w x cs bl → (∀ k, k ∈ bl → w1.heap[k]? = w.heap[k]?) → B w1 x cs bl
 lt : ∀ {w : World} {x : α} {cs : List Value} {bl : List Nat}, B w x cs bl → ∀ k, k ∈ bl → k < w.heap.size
def RepsB {α : Type} (D : Dk α) (w : World) (xs : List α) (inner : List Value) (bl : List Nat) : Prop :=
 ∃ ps : List (α × List Nat), xs = ps.map Prod.fst ∧ bl = (ps.map Prod.snd).flatten ∧ Reps (fun (p : α × List Nat) cs => D.B w p.1 cs p.2) D.d.sz ps inner
section
variable {α β : Type} {D : Dk α} {w w1 : World} {xs : List α} {x : α} {inner cs : List Value} {bl bx : List Nat}
theorem RepsB.reps (h : RepsB D w xs inner bl) : Reps (D.d.K w) D.d.sz xs inner := by
 obtain ⟨ps, rfl, _, h1, h2⟩ := h
 refine ⟨by rw [List.length_map]; exact h1, fun j p hj => ?_⟩
 rw [List.getElem?_map] at hj
 obtain ⟨q, hq, rfl⟩ := Option.map_eq_some_iff.1 hj
 exact D.K (h2 j q hq)
theorem RepsB.none (D : Dk α) (w : World) : RepsB D w [] [] [] := ⟨[], rfl, rfl, Reps.none _ _⟩
theorem RepsB.mv (h : RepsB D w xs inner bl) (hm : ∀ k, k ∈ bl → w1.heap[k]? = w.heap[k]?) : RepsB D w1 xs inner bl := by
 obtain ⟨ps, rfl, rfl, h1, h2⟩ := h
 exact ⟨ps, rfl, rfl, h1, fun j p hj => D.mv (h2 j p hj) (fun k hk => hm k (List.mem_flatten.2 ⟨p.2, List.mem_map_of_mem (List.mem_of_getElem? hj), hk⟩))⟩
theorem RepsB.lt (h : RepsB D w xs inner bl) : ∀ k, k ∈ bl → k < w.heap.size := by
 obtain ⟨ps, rfl, rfl, h1, h2⟩ := h
 intro k hk
 obtain ⟨l, hl, hk⟩ := List.mem_flatten.1 hk
 obtain ⟨p, hp, rfl⟩ := List.mem_map.1 hl
 obtain ⟨j, hj⟩ := List.getElem?_of_mem hp
 exact D.lt (h2 j p hj) k hk
theorem RepsB.snoc (h : RepsB D w xs inner bl) (hx : D.B w x cs bx) : RepsB D w (xs ++ [x]) (inner ++ cs) (bl ++ bx) := by
 obtain ⟨ps, rfl, rfl, h1⟩ := h
 exact ⟨ps ++ [(x, bx)], by simp, by simp, Reps.snoc h1 hx (D.d.K_len (D.K hx))⟩
theorem flatten_set {L : List (List Nat)} {j : Nat} {b : List Nat} (hj : j < L.length) : (∀ k, k ∈ (L.set j b).flatten → k ∈ L.flatten ∨ k ∈ b) ∧ (L.flatten.Nodup → b.Nodup → (∀ k, k ∈ b → k ∉ L.flatten) → (L.set j b).flatten.Nodup) := by
 have e1 : L = L.take j ++ L[j] :: L.drop (j + 1) := by rw [List.getElem_cons_drop, List.take_append_drop]
 have e2 : L.set j b = L.take j ++ b :: L.drop (j + 1) := by rw [List.set_eq_take_append_cons_drop, if_pos hj]
 rw [e2]
 generalize L.take j = l1 at *
 generalize L.drop (j + 1) = l2 at *
 generalize L[j] = o at *
 subst e1
 simp only [List.flatten_append, List.flatten_cons, List.mem_append]
 refine ⟨fun k hk => ?_, fun hd hb hn => ?_⟩
 · rcases hk with hk | hk | hk
   · exact .inl (.inl hk)
   · exact .inr hk
   · exact .inl (.inr (.inr hk))
 · obtain ⟨d1, d2, d3⟩ := List.nodup_append.1 hd
   obtain ⟨d4, d5, d6⟩ := List.nodup_append.1 d2
   refine List.nodup_append.2 ⟨d1, List.nodup_append.2 ⟨hb, d5, fun a ha c hc e => ?_⟩, fun a ha c hc e => ?_⟩
   · subst e; exact hn a ha (.inr (.inr hc))
   · subst e
     rcases List.mem_append.1 hc with hc | hc
     · exact hn a hc (.inl ha)
     · exact d3 a ha a (List.mem_append_right _ hc) rfl
theorem RepsB.set (h : RepsB D w xs inner bl) (j : Nat) (hj : j < xs.length) (hx : D.B w x cs bx) : ∃ bl', RepsB D w (xs.set j x) (cut inner (j * D.d.sz) cs) bl' ∧ (∀ k, k ∈ bl' → k ∈ bl ∨ k ∈ bx) ∧ (bl.Nodup → bx.Nodup → (∀ k, k ∈ bx → k ∉ bl) → bl'.Nodup) := by
 obtain ⟨ps, rfl, rfl, h1⟩ := h
 rw [List.length_map] at hj
 obtain ⟨f1, f2⟩ := flatten_set (L := ps.map Prod.snd) (b := bx) (j := j) (by rwa [List.length_map])
 exact ⟨_, ⟨ps.set j (x, bx), by rw [List.map_set], by rw [List.map_set], Reps.set_ h1 j (x, bx) hx (D.d.K_len (D.K hx)) hj⟩, f1, f2⟩
theorem RepsB.flat (h : Reps (D.d.K w) D.d.sz xs inner) (hB : ∀ x cs, D.d.K w x cs → D.B w x cs []) : RepsB D w xs inner [] := by
 refine ⟨xs.map fun x => (x, []), by rw [List.map_map]; simp [Function.comp_def], ?_, by rw [List.length_map]; exact h.1, fun j p hj => ?_⟩
 · rw [List.map_map, Function.comp_def]; symm; simp
 · rw [List.getElem?_map] at hj
   obtain ⟨q, hq, rfl⟩ := Option.map_eq_some_iff.1 hj
   exact hB _ _ (h.2 j q hq)
end
def Dk.int (k : IntKind) : Dk Int := ⟨Kd.int k, fun w x cs bl => (Kd.int k).K w x cs ∧ bl = [], fun h => h.1, fun h _ => h, fun h k hk => by rw [h.2] at hk; cases hk⟩
def Dk.bool : Dk Bool := ⟨Kd.bool, fun w x cs bl => Kd.bool.K w x cs ∧ bl = [], fun h => h.1, fun h _ => h, fun h k hk => by rw [h.2] at hk; cases hk⟩
theorem seal_K {α : Type} {D : Dk α} {w : World} {B e : Nat} {v : Value} {xs : List α} {inner : List Value} {bl : List Nat} (ho : w.ownsRow B e D.d.sz v xs.length inner) (h : RepsB D w xs inner bl) : (Kd.slice e D.d).K w xs [v] := by
 obtain ⟨A, c, rfl, h1, h2⟩ := row_reads ho h.reps
 exact ⟨A, c, rfl, h1, h2⟩
def Dk.slice {α : Type} (e : Nat) (D : Dk α) : Dk (List α) where
 d := Kd.slice e D.d
 B := fun w xs cs bl => ∃ v inner bl', cs = [v] ∧ bl = v.ownBlock.toList ++ bl' ∧ w.ownsRow 0 e D.d.sz v xs.length inner ∧ RepsB D w xs inner bl'
 K := fun ⟨v, inner, bl', e1, _, ho, h⟩ => by subst e1; exact seal_K ho h
 mv := fun ⟨v, inner, bl', e1, e2, ho, h⟩ hm => ⟨v, inner, bl', e1, e2, own_move ho (fun k hk => hm k (by rw [e2, hk]; simp)), h.mv (fun k hk => hm k (by rw [e2]; exact List.mem_append_right _ hk))⟩
 lt := fun ⟨v, inner, bl', e1, e2, ho, h⟩ k hk => by
   rw [e2] at hk
   rcases List.mem_append.1 hk with hk | hk
   · exact own_lt ho k (by simpa using hk)
   · exact h.lt k hk
def Dk.pair {α β : Type} (a : Dk α) (b : Dk β) : Dk (α × β) where
 d := Kd.pair a.d b.d
 B := fun w x cs bl => ∃ c0 c1 b0 b1, cs = c0 ++ c1 ∧ bl = b0 ++ b1 ∧ a.B w x.1 c0 b0 ∧ b.B w x.2 c1 b1
 K := fun ⟨c0, c1, b0, b1, e1, _, h0, h1⟩ => ⟨c0, c1, e1, a.K h0, b.K h1⟩
 mv := fun ⟨c0, c1, b0, b1, e1, e2, h0, h1⟩ hm => ⟨c0, c1, b0, b1, e1, e2, a.mv h0 (fun k hk => hm k (by rw [e2]; exact List.mem_append_left _ hk)), b.mv h1 (fun k hk => hm k (by rw [e2]; exact List.mem_append_right _ hk))⟩
 lt := fun ⟨c0, c1, b0, b1, e1, e2, h0, h1⟩ k hk => by
   rw [e2] at hk
   rcases List.mem_append.1 hk with hk | hk
   · exact a.lt h0 k hk
   · exact b.lt h1 k hk
def Dk.iso {α β : Type} (D : Dk α) (f : β → α) : Dk β where
 d := Kd.iso D.d f
 B := fun w x cs bl => D.B w (f x) cs bl
 K := fun h => D.K h
 mv := fun h hm => D.mv h hm
 lt := fun h => D.lt h
def valM {α : Type} (D : Dk α) (x : α) (cs : List Value) (bl : List Nat) : Mu := ⟨bl, fun W => D.B W x cs bl⟩
def elsM {α : Type} (D : Dk α) (xs : List α) (inner : List Value) (bl : List Nat) : Mu := ⟨bl, fun W => RepsB D W xs inner bl⟩
section
variable {α : Type} {D : Dk α} {w w1 : World} {xs : List α} {x : α} {inner cs : List Value} {bl bx : List Nat}
theorem foot_val (h : D.B w x cs bl) : Foot (valM D x cs bl).P w (fun k => k ∈ (valM D x cs bl).blk) := fun W hW => D.mv h (fun k hk => hW k hk (D.lt h k hk))
theorem foot_els (h : RepsB D w xs inner bl) : Foot (elsM D xs inner bl).P w (fun k => k ∈ (elsM D xs inner bl).blk) := fun W hW => h.mv (fun k hk => hW k hk (h.lt k hk))
end
section
variable {ok0 : Nat → Prop} {w0 w w1 : World} {ms Ms : List Mu} {fo fn fs : List Fact} {p : Fact} {m m1 m2 : Mu} {e sz n c : Nat} {v v1 : Value}
theorem St.put0 (h : St ok0 w0 w (m :: ms) fo fn) (m' : Mu) (hf : m.P w → Foot m'.P w (fun k => k ∈ m'.blk)) (hn : m.blk.Nodup → m'.blk.Nodup) (hb : ∀ k, k ∈ m'.blk → k ∈ m.blk) : St ok0 w0 w (m' :: ms) fo fn :=
 h.put 0 rfl h.b (Nat.le_refl _) (fun _ _ _ => rfl) (hf (h.mu 0 rfl)) (hn (List.nodup_append.1 h.d).1) (fun k hk => .inl (hb k hk))
theorem St.both (h : St ok0 w0 w (m1 :: m2 :: ms) fo fn) : St ok0 w0 w (⟨m1.blk ++ m2.blk, fun W => m1.P W ∧ m2.P W⟩ :: ms) fo fn := by
 have hm := h.m
 refine ⟨h.b, ?_, ?_, ⟨fun W hW => ⟨hm.1 W (fun k hk hl => hW k (List.mem_append_left _ hk) hl), hm.2.1 W (fun k hk hl => hW k (List.mem_append_right _ hk) hl)⟩, hm.2.2⟩, ?_, ?_⟩
 · exact h.o.mono (fun k hk => ⟨hk.1, fun h2 => hk.2 (by simpa [bks] using h2)⟩)
 · exact h.n.mono (fun k hk => ⟨hk.1, fun h2 => hk.2 (by simpa [bks] using h2)⟩)
 · have := h.d; simpa [bks] using this
 · intro k hk; exact h.l k (by simpa [bks] using hk)
theorem St.halves (h : St ok0 w0 w (m :: ms) fo fn) (m1 m2 : Mu) (hf : m.P w → Foot m1.P w (fun k => k ∈ m1.blk) ∧ Foot m2.P w (fun k => k ∈ m2.blk)) (e : m.blk = m1.blk ++ m2.blk) : St ok0 w0 w (m1 :: m2 :: ms) fo fn := by
 have hd := h.d; have hl := h.l; have ho := h.o; have hn := h.n
 obtain ⟨g1, g2⟩ := hf (h.mu 0 rfl)
 have eb : bks (m1 :: m2 :: ms) = bks (m :: ms) := by simp [bks, e]
 exact ⟨h.b, by rw [eb]; exact ho, by rw [eb]; exact hn, ⟨g1, g2, h.m.2⟩, by rw [eb]; exact hd, by rw [eb]; exact hl⟩
theorem St.none0 (h : St ok0 w0 w ms fo fn) (m : Mu) (hb : m.blk = []) (hf : ∀ W, m.P W) : St ok0 w0 w (m :: ms) fo fn :=
 h.push (Below.refl _ _) (fun W _ => hf W) (by rw [hb]; exact List.nodup_nil) (fun k hk => by rw [hb] at hk; cases hk)
section
variable {α : Type} {D : Dk α} {xs : List α} {x : α} {inner cs I : List Value} {bl bx : List Nat}
theorem St.els0 (h : St ok0 w0 w ms fo fn) (D : Dk α) : St ok0 w0 w (elsM D [] [] [] :: ms) fo fn := h.none0 _ rfl (fun W => RepsB.none D W)
theorem St.elsF (h : St ok0 w0 w ms fo fn) (D : Dk α) (hB : ∀ W x cs, D.d.K W x cs → D.B W x cs []) (hr : ∀ W, Reps (D.d.K W) D.d.sz xs inner) : St ok0 w0 w (elsM D xs inner [] :: ms) fo fn := h.none0 _ rfl (fun W => RepsB.flat (hr W) (hB W))
theorem St.elsSnoc (h : St ok0 w0 w (valM D x cs bx :: elsM D xs inner bl :: ms) fo fn) (hI : I = inner ++ cs) : St ok0 w0 w (elsM D (xs ++ [x]) I (bl ++ bx) :: ms) fo fn := by
 subst hI
 refine (h.both).put0 _ (fun hP => foot_els (hP.2.snoc hP.1)) (fun hn => ?_) (fun k hk => ?_)
 · obtain ⟨a, b, c⟩ := List.nodup_append.1 hn
   exact List.nodup_append.2 ⟨b, a, fun k hk j hj e => c j hj k hk e.symm⟩
 · rcases List.mem_append.1 hk with hk | hk
   · exact List.mem_append_right _ hk
   · exact List.mem_append_left _ hk
theorem St.elsSet (h : St ok0 w0 w (valM D x cs bx :: elsM D xs inner bl :: ms) fo fn) (j : Nat) (hs : D.d.sz = sz) (hI : I = cut inner (j * sz) cs) (hj : j < xs.length) : ∃ bl', St ok0 w0 w (elsM D (xs.set j x) I bl' :: ms) fo fn := by
 subst hs hI
 obtain ⟨bl', h1, h2, h3⟩ := (RepsB.set (h.mu 1 rfl) j hj (h.mu 0 rfl))
 refine ⟨bl', (h.both).put0 _ (fun _ => foot_els h1) (fun hn => ?_) (fun k hk => ?_)⟩
 · obtain ⟨a, b, c⟩ := List.nodup_append.1 hn
   exact h3 b a (fun k hk hk2 => c k hk k hk2 rfl)
 · rcases h2 k hk with hk | hk
   · exact List.mem_append_right _ hk
   · exact List.mem_append_left _ hk
theorem St.seal {B : Nat} (h : St ok0 w0 w (rowM B e sz v n inner :: elsM D xs inner bl :: ms) fo fn) (hs : D.d.sz = sz) (hn : n = xs.length) : St ok0 w0 w (valM (Dk.slice e D) xs [v] (v.ownBlock.toList ++ bl) :: ms) fo fn := by
 subst hn hs
 exact (h.both).put0 _ (fun hP => foot_val (D := Dk.slice e D) ⟨v, inner, bl, rfl, rfl, own_weaken hP.1 (Nat.zero_le _), hP.2⟩) (fun hn => hn) (fun k hk => hk)
theorem St.nilV (h : St ok0 w0 w ms fo fn) (e : Nat) (D : Dk α) : St ok0 w0 w (valM (Dk.slice e D) ([] : List α) [.slice none 0 0] [] :: ms) fo fn :=
 h.none0 _ rfl (fun W => ⟨.slice none 0 0, [], [], rfl, rfl, own_nil _ _ _ _, RepsB.none D W⟩)
theorem St.unseal (h : St ok0 w0 w (valM (Dk.slice e D) xs [v] bl :: ms) fo fn) (hs : D.d.sz = sz) : ∃ inner bl', St ok0 w0 w (rowM w0.heap.size e sz v xs.length inner :: elsM D xs inner bl' :: ms) fo fn := by
 subst hs
 have hP : (Dk.slice e D).B w xs [v] bl := h.mu 0 rfl
 obtain ⟨v', inner, bl', e1, e2, ho, hr⟩ := hP
 injection e1 with e1
 subst e1
 refine ⟨inner, bl', h.halves _ _ (fun _ => ⟨foot_row ?_, foot_els hr⟩) e2⟩
 refine ⟨ho.1, ?_⟩
 rcases ho.2 with ho | ⟨g, cap, cur, rfl, _, r⟩
 · exact .inl ho
 · exact .inr ⟨g, cap, cur, rfl, (h.l g (by show g ∈ bl ++ _; rw [e2]; simp [Value.ownBlock])).1, r⟩
end
def Owns (w : World) (B : Nat) (Ms : List Mu) : Prop := AllM w Ms ∧ (bks Ms).Nodup ∧ ∀ k, k ∈ bks Ms → B ≤ k ∧ k < w.heap.size
theorem St.owns (h : St ok0 w0 w ms fo fn) : Owns w w0.heap.size ms := ⟨h.m, h.d, h.l⟩
theorem St.got (h : St ok0 w0 w ms fo fn) (hb : Below w.heap.size w w1) (ho : Owns w1 w.heap.size Ms) : St ok0 w0 w1 (Ms ++ ms) fo fn := by
 have h1 := h.below hb
 obtain ⟨a, b, c⟩ := ho
 have hnew : ∀ k, k ∈ bks Ms → k ∉ bks ms := fun k hk h2 => by have := (c k hk).1; have := (h.l k h2).2; omega
 refine ⟨h1.b, ?_, ?_, AllM.app.2 ⟨a, h1.m⟩, ?_, ?_⟩
 · refine ((h.o.bound).step (fun k _ hk => hb.block k hk)).mono (fun k hk => ⟨hk.1.1, fun h2 => ?_⟩)
   rw [bks_app] at h2
   rcases List.mem_append.1 h2 with h2 | h2
   · have := (c k h2).1; have := hk.2; omega
   · exact hk.1.2 h2
 · refine ((h.n.bound).step (fun k _ hk => hb.block k hk)).mono (fun k hk => ⟨hk.1.1, fun h2 => ?_⟩)
   rw [bks_app] at h2
   rcases List.mem_append.1 h2 with h2 | h2
   · have := (c k h2).1; have := hk.2; omega
   · exact hk.1.2 h2
 · rw [bks_app]; exact List.nodup_append.2 ⟨b, h.d, fun k hk j hj e => by subst e; exact hnew k hk hj⟩
 · intro k hk
   rw [bks_app] at hk
   rcases List.mem_append.1 hk with hk | hk
   · exact ⟨Nat.le_trans h.size (c k hk).1, (c k hk).2⟩
   · exact h1.l k hk
end
theorem el_at {α : Type} {dd : Kd α} {W : World} {ad : Addr} {n : Nat} {xs : List α} (h : dd.C W (some ad) n xs) (z : α) (j : Int) (h0 : 0 ≤ j) (h1 : j < (n : Int)) {o : Nat} {u : Value} (ha : ∀ c, dd.K W (xs.getD j.toNat z) c → c[o]? = some u) : W.cell? ((ad.add (j.toNat * dd.sz)).add o) = some u := by
 obtain ⟨ad', c, e, hl, hK, hc⟩ := Kd.C_get h z j h0 h1
 injection e with e
 subst e
 rw [XLoad.add_add]; exact hc o u (ha c hK)
theorem val_slice {α : Type} {D : Dk α} {w : World} {e : Nat} {xs : List α} {v : Value} {bl : List Nat} (h : (Dk.slice e D).B w xs [v] bl) : ∃ A c, v = .slice A xs.length c ∧ xs.length ≤ c := by
 obtain ⟨v', inner, bl', e1, e2, ho, hr⟩ := h
 injection e1 with e1
 subst e1
 obtain ⟨A, c, rfl, h1, _⟩ := row_reads ho hr.reps
 exact ⟨A, c, rfl, h1⟩
end Go.Proofs.Ytlpginalgdbopaa.XSt
namespace Go.Proofs.Ytlpginalgdbopaa.XSt
open Go.RowKit Go.Proofs.YtlpginalgdbopaaW.PrintWords Go.Proofs.YtlpginalgdbopaaW.PrintLast Go.Proofs.YtlpginalgdbopaaW.PrintMore Go.Proofs.Ytlpginalgdbopaa.XW Go.Proofs.Ytlpginalgdbopaa.XOp Go.Proofs.Ytlpginalgdbopaa.XDraw
set_option linter.unusedVariables false
end Go.Proofs.Ytlpginalgdbopaa.XSt
namespace Go.Proofs.Ytlpginalgdbopaa.XSt
open Go.RowKit Go.Proofs.YtlpginalgdbopaaW.PrintWords Go.Proofs.YtlpginalgdbopaaW.PrintLast Go.Proofs.YtlpginalgdbopaaW.PrintMore Go.Proofs.Ytlpginalgdbopaa.XW Go.Proofs.Ytlpginalgdbopaa.XOp Go.Proofs.Ytlpginalgdbopaa.XDraw
set_option linter.unusedVariables false
abbrev vi (n : Int) : Value := .int .i64 n
abbrev sn : Value := .slice none 0 0
abbrev pp (b : Nat) : Value := .pointer (some ⟨b, 0, none⟩)
abbrev kI : Kd Int := Kd.int .i64
abbrev kU : Kd Int := Kd.int .u8
abbrev cF {α : Type} (d : Kd α) (A : Option Addr) (xs : List α) : Fact := fun W => d.C W A xs.length xs
abbrev rF {α : Type} (d : Kd α) (xs : List α) (I : List Value) : Fact := fun W => Reps (d.K W) d.sz xs I
abbrev kF {α : Type} (d : Kd α) (x : α) (cs : List Value) : Fact := fun W => d.K W x cs
theorem oneL {vs : List Value} (h : (vs.all fun u => u.oneCell') = true) : ∀ u ∈ vs, u.oneCell' = true := List.all_eq_true.1 h
theorem sb {E E' : Env} (h : (E'.map fun p => lk E p.1) = E'.map fun p => some p.2) : Sub E' E := by
 induction E' with
 | nil => trivial
 | cons p E' ih =>
   obtain ⟨t, v⟩ := p
   rw [List.map_cons, List.map_cons] at h
   injection h with h1 h2
   exact ⟨h1, ih h2⟩
theorem all_idx {W : World} {fs : List Fact} : ∀ {is : List Nat} {gs : List Fact}, is.map (fun i => fs[i]?) = gs.map some → AllF W fs → AllF W gs
 | [], [], _, _ => trivial
 | i :: is, g :: gs, e, h => by
   rw [List.map_cons, List.map_cons] at e
   injection e with e1 e2
   exact ⟨AllF.get i e1 h, all_idx e2 h⟩
 | [], _ :: _, e, _ => by cases e
 | _ :: _, [], e, _ => by cases e
theorem St.pk {ok0 : Nat → Prop} {w0 w : World} {ms : List Mu} {fo fn fo' fn' : List Fact} (h : St ok0 w0 w ms fo fn) (is js : List Nat) (hO : is.map (fun i => fo[i]?) = fo'.map some) (hN : js.map (fun i => fn[i]?) = fn'.map some) : St ok0 w0 w ms fo' fn' :=
 h.pick (fun W => all_idx hO) (fun W => all_idx hN)
theorem WL.storeW {P : Program} {Q : Exit → Act → World → Prop} {N : Nat} {E : Env} {ops : Array Oper} {o : Oper} {rest : List Oper} {ok0 : Nat → Prop} {w0 w : World} {ms : List Mu} {fo fn : List Fact} {t ty : TypeId} {x y : Operand} {cs : Array Value}
   (H : St ok0 w0 w ms fo fn) (i : Nat) {b : Nat} {vs : List Value} (hi : ms[i]? = some (boxM b cs ty)) (hg : o.guard = none) (hd : o.dst = none) (ho : o.op = .store t x y) (hx : ev E x = some (.pointer (some ⟨b, 0, none⟩))) (hy : ev E y = some (.agg vs.toArray)) (hv : ∀ u ∈ vs, u.oneCell' = true) (hz : (P.info? t).map (·.size) = some vs.length) (hj : vs.length = cs.size)
   (h : ∀ w1, St ok0 w0 w1 (ms.set i (boxM b vs.toArray ty)) fo fn → WL P ops Q rest N E w1) : WL P ops Q (o :: rest) N E w :=
 WL.storeS H i hi hg hd ho hx hy hv hz (by omega) (splice_all hj) h
theorem ble_ {n m : Nat} (h : Nat.ble n m = true) : n ≤ m := Nat.le_of_ble_eq_true h
theorem ad_ {P : Program} {Q Q' : Exit → Act → World → Prop} {K : Act → World → Prop} {n : Nat} {E : Env} {w : World} {ops : Array Oper} {o : Oper} {y : Code} {x : Operand} {d : Nat} {v : Value} (hK : ∀ E w', WC P y Q n E w' → ∀ a, Fits a n E → K a w') (h : WC P y Q n ((d, v) :: E) w)
   (ho : o.op = .assign x := by rfl) (hx : ev E x = some v := by rfl) (hg : o.guard = none := by rfl) (hd : o.dst = some d := by rfl) (hlt : d < n := by decide) (hq : ∀ a w, K a w → Q' .normal a w := by exact fun _ _ h => h) : WL P ops Q' [o] n E w := as_ (dn_ hK h hq) ho hx hg hd hlt
section
variable {α β : Type} {b : Kd β} {a : Kd α} {w : World} {y : β} {cs c0 c1 : List Value}
theorem pI {k : IntKind} {x : Int} (h : b.K w y cs) : (Kd.pair (Kd.int k) b).K w (x, y) (.int k x :: cs) := ⟨[.int k x], cs, rfl, rfl, h⟩
theorem pS {e : Nat} {xs : List α} {A : Option Addr} {c : Nat} (l : xs.length ≤ c) (g : a.C w A xs.length xs) (h : b.K w y cs) : (Kd.pair (Kd.slice e a) b).K w (xs, y) (.slice A xs.length c :: cs) := ⟨[.slice A xs.length c], cs, rfl, ⟨A, c, rfl, l, g⟩, h⟩
theorem lS {e : Nat} {xs : List α} {A : Option Addr} {c : Nat} (l : xs.length ≤ c) (g : a.C w A xs.length xs) : (Kd.slice e a).K w xs [.slice A xs.length c] := ⟨A, c, rfl, l, g⟩
end
theorem lenpos {i : Int} {n : Nat} (h0 : 0 ≤ i) (h1 : i < (n : Int)) : 0 < n := by omega
theorem iq {α β : Type} {p : α → β → Prop} (a : α) (b : β) (h : p a b) : p a b := h
section
variable {P : Program} {n : Nat} {E E' : Env} {w : World} {Q' : Exit → Act → World → Prop} {e : Exit}
theorem wr_ {J : Nat → Env → World → Prop} (k : Nat) (hq : ∀ a w, (∃ k' E', k' < k + 1 ∧ Fits a n E' ∧ J k' E' w) → Q' e a w) (hJ : J k E' w) (hE : Sub E' E := by exact sb rfl) : WQ Q' e n E w := WQ.round k hq (Nat.lt_succ_self _) hJ hE
theorem wv_ {K : Act → World → Prop} {J : Env → World → Prop} (hq : ∀ a w, K a w → Q' e a w) (hX : ∀ E w', J E w' → ∀ a, Fits a n E → K a w') (hJ : J E' w) (hE : Sub E' E := by exact sb rfl) : WQ Q' e n E w := WQ.via2 hq hX hJ hE
end
section
variable {P : Program} {Q : Exit → Act → World → Prop} {n fuel : Nat} {S : World → Prop} {ops : Array Oper} {ds : List Nat}
def offE : List Nat → Env → Env
 | [], E => E
 | d :: r, E => offE r ((d, undef) :: E)
def setA : List Nat → Array Bool → Array Bool
 | [], l => l
 | i :: r, l => setA r (l.setIfInBounds i true)
def offB (ops : Array Oper) (n g : Nat) (cc : Bool) : List Nat → List Nat → Array Bool → Bool
 | [], [], _ => true
 | i :: is, d :: r, l => (match ops[i]? with
   | some oi => (oi.dst == some d && (Nat.blt d n && !(Nat.beq d g))) && (match oi.guard with
     | some (j, b) => (ops[j]?).bind (·.dst) == some g && !(cc == b)
     | none => false)
   | none => false) && (anyT (rtab .any ops) l.toList (l.setIfInBounds i true).toList i && offB ops n g cc is r (l.setIfInBounds i true))
 | _, _, _ => false
theorem offs {g : Nat} {cc c : Bool} (hcc : c = cc) (hQ : ∀ d v c a w, Q (.panic c) (a.put (some d) v) w → Q (.panic c) a w) : ∀ (is r : List Nat) (l : Array Bool) (E : Env) (w : World), lk E g = some (.bool c) → offB ops n g cc is r l = true →
   WD P ops Q S ds fuel (setA is l) n (offE r E) w → WD P ops Q S ds (fuel + is.length) l n E w
 | [], [], l, E, w, _, _, h => h
 | [], _ :: _, l, E, w, _, hb, h => by cases hb
 | _ :: _, [], l, E, w, _, hb, h => by cases hb
 | i :: is, d :: r, l, E, w, hv, hb, h => by
   have hb' : ((match ops[i]? with
     | some oi => (oi.dst == some d && (Nat.blt d n && !(Nat.beq d g))) && (match oi.guard with
       | some (j, b) => (ops[j]?).bind (·.dst) == some g && !(cc == b)
       | none => false)
     | none => false) && (anyT (rtab .any ops) l.toList (l.setIfInBounds i true).toList i && offB ops n g cc is r (l.setIfInBounds i true))) = true := hb
   rw [Bool.and_eq_true, Bool.and_eq_true] at hb'
   obtain ⟨h1, h2, h3⟩ := hb'
   cases hi : ops[i]? with
   | none => rw [hi] at h1; cases h1
   | some oi =>
     rw [hi] at h1
     cases hg : oi.guard with
     | none => simp only [hg, Bool.and_false] at h1; cases h1
     | some q =>
       obtain ⟨j, b⟩ := q
       simp only [hg, Bool.and_eq_true, beq_iff_eq, Bool.not_eq_true'] at h1
       obtain ⟨⟨e1, e2, e3⟩, e4, e5⟩ := h1
       have hlt : d < n := Nat.le_of_ble_eq_true e2
       have hne : Nat.beq d g = false := e3
       have hv2 : lk ((d, undef) :: E) g = some (.bool c) := by
         show cond (Nat.beq d g) (some undef) (lk E g) = _
         rw [hne]; exact hv
       have := offs hcc hQ is r (l.setIfInBounds i true) ((d, undef) :: E) w hv2 h3 h
       show WD P ops Q S ds ((fuel + is.length) + 1) l n E w
       exact WD.off i hi e1 hlt (any_of rfl h2) (fun v c a w => by rw [e1]; exact hQ _ v c a w) hg e4 hv hcc e5 this
theorem doTs_ {c : Bool} {l : Array Bool} {E : Env} {w : World} (m g : Nat) (is r : List Nat) (hcc : c = true) (h : WD P ops Q S ds fuel (setA is l) n (offE r E) w) (hv : lk E g = some (.bool c) := by rfl) (hb : offB ops n g true is r l = true := by kernel_rfl) (hQ : ∀ d v c a w, Q (.panic c) (a.put (some d) v) w → Q (.panic c) a w := by exact fun _ _ _ _ _ h => h) (hm : is.length = m := by rfl) : WD P ops Q S ds (fuel + m) l n E w := by
 subst hm; exact offs hcc hQ is r l E w hv hb h
end
end Go.Proofs.Ytlpginalgdbopaa.XSt
namespace Go.Proofs.Ytlpginalgdbopaa.XLeaf
open Go.Proofs.Ytlpginalgdbopaa.XLaw
open Go.RowKit Go.Proofs.YtlpginalgdbopaaW.PrintWords Go.Proofs.YtlpginalgdbopaaW.PrintLast Go.Proofs.YtlpginalgdbopaaW.PrintMore
set_option linter.unusedVariables false
inductive Sh where
 | int : Sh
 | row : Sh → Sh
 | both : Sh → Sh → Sh
def Sh.sz : Sh → Nat
 | .int => 1
 | .row _ => 1
 | .both a b => a.sz + b.sz
def Lv (w : World) : Sh → Nat → Nat → List Addr → Prop
 | .int, b, o, L => L = [⟨b, o, none⟩] ∧ ∃ cs t n, w.heap[b]? = some (.cells cs t (0, 0)) ∧ cs[o]? = some (.int .i64 n)
 | .row s, b, o, L => ∃ cs t A n c, w.heap[b]? = some (.cells cs t (0, 0)) ∧ cs[o]? = some (.slice A n c) ∧ n ≤ 9223372036854775807 ∧
     ∃ f : Nat → List Addr, L = (List.range n).flatMap f ∧ ∀ i, i < n → ∃ g, A = some ⟨g, 0, none⟩ ∧ Lv w s g (i * s.sz) (f i)
 | .both s t, b, o, L => ∃ L1 L2, L = L1 ++ L2 ∧ Lv w s b o L1 ∧ Lv w t b (o + s.sz) L2
def RowLv (w : World) (s : Sh) (A : Option Addr) (n : Nat) (L : List Addr) : Prop :=
 n ≤ 9223372036854775807 ∧ ∃ f : Nat → List Addr, L = (List.range n).flatMap f ∧ ∀ i, i < n → ∃ g, A = some ⟨g, 0, none⟩ ∧ Lv w s g (i * s.sz) (f i)
structure Ints (ok : Nat → Prop) (w w1 : World) : Prop where
 os : w1.os = w.os
 tape : w1.tape = w.tape
 output : w1.output = w.output
 size : w.heap.size ≤ w1.heap.size
 keep : ∀ k : Nat, k < w.heap.size → ¬ ok k → w1.heap[k]? = w.heap[k]?
 cells : ∀ (k : Nat) (cs : Array Value) (t : TypeId), w.heap[k]? = some (.cells cs t (0, 0)) → ∃ cs1 : Array Value, w1.heap[k]? = some (.cells cs1 t (0, 0)) ∧ ∀ (o : Nat) (u : Value), cs[o]? = some u → cs1[o]? = some u ∨ ∃ n m : Int, u = .int .i64 n ∧ cs1[o]? = some (.int .i64 m)
section
variable {ok ok' : Nat → Prop} {w w1 w2 : World}
theorem Ints.of_below (h : Below w.heap.size w w1) : Ints ok w w1 :=
 ⟨h.os, h.tape, h.output, h.size, fun k hk _ => h.block k hk, fun k cs t hb => ⟨cs, (h.block k (blk_lt hb)).trans hb, fun _ _ hu => .inl hu⟩⟩
theorem Ints.refl (ok : Nat → Prop) (w : World) : Ints ok w w := Ints.of_below (Below.refl _ _)
theorem Ints.mono (h : Ints ok w w1) (hm : ∀ k, ok k → ok' k) : Ints ok' w w1 :=
 ⟨h.os, h.tape, h.output, h.size, fun k hk hn => h.keep k hk (fun h2 => hn (hm k h2)), h.cells⟩
theorem Ints.trans (h : Ints ok w w1) (h' : Ints ok w1 w2) : Ints ok w w2 :=
 ⟨h'.os.trans h.os, h'.tape.trans h.tape, h'.output.trans h.output, Nat.le_trans h.size h'.size, fun k hk hn => (h'.keep k (Nat.lt_of_lt_of_le hk h.size) hn).trans (h.keep k hk hn), fun k cs t hb => by
   obtain ⟨cs1, h1, g1⟩ := h.cells k cs t hb
   obtain ⟨cs2, h2, g2⟩ := h'.cells k cs1 t h1
   refine ⟨cs2, h2, fun o u hu => ?_⟩
   rcases g1 o u hu with h3 | ⟨n, m, h3, h4⟩
   · exact g2 o u h3
   · rcases g2 o _ h4 with h5 | ⟨_, m', _, h5⟩
     · exact .inr ⟨n, m, h3, h5⟩
     · exact .inr ⟨n, m', h3, h5⟩⟩
theorem Ints.kept (h : Ints ok w w1) : Kept w w1 ok := ⟨h.size, fun k hk hn => h.keep k hk hn⟩
theorem Ints.below {B : Nat} {w0 : World} (h : Ints ok w w1) (hb : Below B w0 w) (hB : B ≤ w.heap.size) (ho : ∀ k, ok k → B ≤ k) : Below B w0 w1 :=
 ⟨h.os.trans hb.os, h.tape.trans hb.tape, h.output.trans hb.output, Nat.le_trans hb.size h.size, fun k hk => (h.keep k (by omega) (fun h2 => by have := ho k h2; omega)).trans (hb.block k hk)⟩
theorem Lv.ints {s : Sh} : ∀ {b o : Nat} {L : List Addr}, Lv w s b o L → Ints ok w w1 → Lv w1 s b o L := by
 induction s with
 | int =>
   rintro b o L ⟨rfl, cs, t, n, hb, ho⟩ h
   obtain ⟨cs1, h1, g1⟩ := h.cells b cs t hb
   refine ⟨rfl, cs1, t, ?_⟩
   rcases g1 o _ ho with h2 | ⟨_, m, _, h2⟩
   · exact ⟨n, h1, h2⟩
   · exact ⟨m, h1, h2⟩
 | row s ih =>
   rintro b o L ⟨cs, t, A, n, c, hb, ho, hn, f, rfl, hf⟩ h
   obtain ⟨cs1, h1, g1⟩ := h.cells b cs t hb
   refine ⟨cs1, t, A, n, c, h1, ?_, hn, f, rfl, fun i hi => ?_⟩
   · rcases g1 o _ ho with h2 | ⟨_, m, h3, _⟩
     · exact h2
     · cases h3
   · obtain ⟨g, e, hl⟩ := hf i hi
     exact ⟨g, e, ih hl h⟩
 | both s t ih1 ih2 =>
   rintro b o L ⟨L1, L2, rfl, h1, h2⟩ h
   exact ⟨L1, L2, rfl, ih1 h1 h, ih2 h2 h⟩
theorem RowLv.ints {s : Sh} {A : Option Addr} {n : Nat} {L : List Addr} (hr : RowLv w s A n L) (h : Ints ok w w1) : RowLv w1 s A n L := by
 obtain ⟨hn, f, e, hf⟩ := hr
 exact ⟨hn, f, e, fun i hi => by obtain ⟨g, e2, hl⟩ := hf i hi; exact ⟨g, e2, hl.ints h⟩⟩
end
structure Marked (L : List Addr) (k : Int) (w w1 : World) : Prop where
 i : Ints (fun b => ∃ p, p ∈ L ∧ p.block = b) w w1
 rest : ∀ (p : Addr) (v : Value), w.cell? p = some v → p ∉ L → w1.cell? p = some v
 told : L.Nodup → ∀ (j : Nat) (p : Addr), L[j]? = some p → w1.cell? p = some (.int .i64 (k + (j : Int)))
def ToldAt (w : World) (L : List Addr) (k : Int) : Prop := ∀ (j : Nat) (p : Addr), L[j]? = some p → w.cell? p = some (.int .i64 (k + (j : Int)))
section
variable {w w1 w2 : World} {L L1 L2 : List Addr} {k : Int}
theorem Marked.nil (k : Int) (w : World) : Marked [] k w w := ⟨Ints.refl _ _, fun _ _ h _ => h, fun _ j p h => by simp at h⟩
theorem Marked.app (h : Marked L1 k w w1) (h' : Marked L2 (k + (L1.length : Int)) w1 w2) : Marked (L1 ++ L2) k w w2 := by
 refine ⟨(h.i.mono ?_).trans (h'.i.mono ?_), fun p v hv hn => ?_, fun hd j p hj => ?_⟩
 · rintro b ⟨p, hp, e⟩; exact ⟨p, List.mem_append_left _ hp, e⟩
 · rintro b ⟨p, hp, e⟩; exact ⟨p, List.mem_append_right _ hp, e⟩
 · rw [List.mem_append] at hn
   exact h'.rest p v (h.rest p v hv (fun hp => hn (.inl hp))) (fun hp => hn (.inr hp))
 · obtain ⟨d1, d2, d3⟩ := List.nodup_append.1 hd
   by_cases hlt : j < L1.length
   · rw [List.getElem?_append_left hlt] at hj
     have h1 := h.told d1 j p hj
     exact h'.rest p _ h1 (fun hp => d3 p (List.mem_of_getElem? hj) p hp rfl)
   · rw [List.getElem?_append_right (by omega)] at hj
     have h1 := h'.told d2 _ p hj
     rw [h1]
     congr 2
     omega
theorem Marked.before (hb : Below w.heap.size w w1) (h : Marked L k w1 w2) : Marked L k w w2 :=
 ⟨(Ints.of_below hb).trans h.i, fun p v hv hn => h.rest p v (pw_cell_below hb hv) hn, h.told⟩
theorem Marked.behind (h : Marked L k w w1) (hb : Below w1.heap.size w1 w2) : Marked L k w w2 :=
 ⟨h.i.trans (Ints.of_below hb), fun p v hv hn => pw_cell_below hb (h.rest p v hv hn), fun hd j p hj => pw_cell_below hb (h.told hd j p hj)⟩
theorem ToldAt.below (h : ToldAt w L k) (hb : Below w.heap.size w w1) : ToldAt w1 L k := fun j p hj => pw_cell_below hb (h j p hj)
theorem ToldAt.left (h : ToldAt w (L1 ++ L2) k) : ToldAt w L1 k := fun j p hj => h j p (by rw [List.getElem?_append_left (List.getElem?_eq_some_iff.1 hj).1]; exact hj)
theorem ToldAt.right (h : ToldAt w (L1 ++ L2) k) : ToldAt w L2 (k + (L1.length : Int)) := fun j p hj => by
 have := h (L1.length + j) p (by rw [List.getElem?_append_right (by omega), Nat.add_sub_cancel_left]; exact hj)
 rw [this]
 congr 2
 omega
theorem Marked.set {b o : Nat} {L : List Addr} (h : Lv w .int b o L) (k : Int) : Marked L k w (w.setCell ⟨b, o, none⟩ (.int .i64 k)) := by
 obtain ⟨rfl, cs, t, n, hb, ho⟩ := h
 have hset : (w.setCell ⟨b, o, none⟩ (.int .i64 k)).heap[b]? = some (.cells (cs.setIfInBounds o (.int .i64 k)) t (0, 0)) := blk_set hb o _
 have hlt : o < cs.size := (Array.getElem?_eq_some_iff.1 ho).1
 refine ⟨⟨rfl, rfl, rfl, by simp [World.setCell], fun q hq hn => Below.heap_setCell _ _ _ _ (fun e => hn ⟨_, List.mem_singleton.2 rfl, e.symm⟩), fun q cs2 t2 hq => ?_⟩, fun p v hv hn => ?_, fun _ j p hj => ?_⟩
 · by_cases e : q = b
   · subst e
     rw [hb] at hq
     injection hq with hq
     injection hq with h1 h2 h3
     subst h1 h2
     refine ⟨_, hset, fun o2 u hu => ?_⟩
     by_cases e2 : o = o2
     · subst e2
       rw [ho] at hu
       injection hu with hu
       exact .inr ⟨n, k, hu.symm, by rw [Array.getElem?_setIfInBounds_self_of_lt hlt]⟩
     · exact .inl (by rw [Array.getElem?_setIfInBounds_ne e2]; exact hu)
   · exact ⟨cs2, (Below.heap_setCell w ⟨b, o, none⟩ _ q e).trans hq, fun _ _ hu => .inl hu⟩
 · have : (⟨b, o, none⟩ : Addr) ≠ p := fun e => hn (by rw [e]; exact List.mem_singleton.2 rfl)
   rw [World.cell?_setCell_other _ _ _ _ this]; exact hv
 · cases j with
   | zero =>
     have e : (⟨b, o, none⟩ : Addr) = p := by simpa using hj
     subst e
     rw [blk_cell hset o, Array.getElem?_setIfInBounds_self_of_lt hlt]
     simp
   | succ j => simp at hj
end
theorem range_snoc (f : Nat → List Addr) (j : Nat) : (List.range (j + 1)).flatMap f = (List.range j).flatMap f ++ f j := by
 rw [List.range_succ, List.flatMap_append]; simp
theorem range_cut (f : Nat → List Addr) {j n : Nat} (h : j ≤ n) : ∃ R, (List.range n).flatMap f = (List.range j).flatMap f ++ R := by
 obtain ⟨m, rfl⟩ := Nat.exists_eq_add_of_le h
 exact ⟨_, by rw [List.range_add, List.flatMap_append]⟩
theorem told_at {w : World} {k : Int} (f : Nat → List Addr) {j n : Nat} (h : ToldAt w ((List.range n).flatMap f) k) (hj : j < n) : ToldAt w (f j) (k + (((List.range j).flatMap f).length : Int)) := by
 obtain ⟨R, e⟩ := range_cut f (show j + 1 ≤ n by omega)
 rw [e, range_snoc] at h
 exact h.left.right
theorem len_at (f : Nat → List Addr) {j n : Nat} (h : j < n) : ((List.range j).flatMap f).length + (f j).length ≤ ((List.range n).flatMap f).length := by
 obtain ⟨R, e⟩ := range_cut f (show j + 1 ≤ n by omega)
 rw [e, range_snoc, List.length_append, List.length_append]
 omega
theorem Lv.lt {w : World} {s : Sh} : ∀ {b o : Nat} {L : List Addr}, Lv w s b o L → ∀ p, p ∈ L → p.block < w.heap.size := by
 induction s with
 | int =>
   rintro b o L ⟨rfl, cs, t, n, hb, ho⟩ p hp
   rw [List.mem_singleton.1 hp]
   exact blk_lt hb
 | row s ih =>
   rintro b o L ⟨cs, t, A, n, c, hb, ho, hn, f, rfl, hf⟩ p hp
   obtain ⟨i, hi, hp⟩ := List.mem_flatMap.1 hp
   obtain ⟨g, e, hl⟩ := hf i (List.mem_range.1 hi)
   exact ih hl p hp
 | both s t ih1 ih2 =>
   rintro b o L ⟨L1, L2, rfl, h1, h2⟩ p hp
   rcases List.mem_append.1 hp with hp | hp
   · exact ih1 h1 p hp
   · exact ih2 h2 p hp
theorem RowLv.lt {w : World} {s : Sh} {A : Option Addr} {n : Nat} {L : List Addr} (h : RowLv w s A n L) : ∀ p, p ∈ L → p.block < w.heap.size := by
 obtain ⟨hn, f, rfl, hf⟩ := h
 intro p hp
 obtain ⟨i, hi, hp⟩ := List.mem_flatMap.1 hp
 obtain ⟨g, e, hl⟩ := hf i (List.mem_range.1 hi)
 exact hl.lt p hp
structure Leafs {α : Type} (d : Kd α) (s : Sh) (cnt : α → Nat) : Prop where
 sz : d.sz = s.sz
 get : ∀ {w : World} {base : Nat} {ok : Nat → Prop} {x : α} {cs : List Value} {b o : Nat} {bc : Array Value} {t : TypeId}, d.M w base ok x cs → w.heap[b]? = some (.cells bc t (0, 0)) → (∀ i u, cs[i]? = some u → bc[o + i]? = some u) →
   ∃ L, Lv w s b o L ∧ L.length = cnt x ∧ ∀ p, p ∈ L → (p.block = b ∧ o ≤ p.off ∧ p.off < o + s.sz) ∨ ok p.block
theorem Leafs.int : Leafs (Kd.int .i64) .int (fun _ => 1) := ⟨rfl, by
 intro w base ok x cs b o bc t h hb hc
 have e : cs = [.int .i64 x] := h
 subst e
 exact ⟨[⟨b, o, none⟩], ⟨rfl, bc, t, x, hb, hc 0 _ rfl⟩, rfl, fun p hp => by rw [List.mem_singleton.1 hp]; exact .inl ⟨rfl, Nat.le_refl _, by show o < o + 1; omega⟩⟩⟩
theorem sum_range {α : Type} (cnt : α → Nat) (xs : List α) (f : Nat → List Addr) (h : ∀ i (hi : i < xs.length), (f i).length = cnt xs[i]) : ((List.range xs.length).flatMap f).length = (xs.map cnt).sum := by
 rw [List.length_flatMap]
 congr 1
 apply List.ext_getElem
 · simp
 · intro i h1 h2
   simp only [List.getElem_map, List.getElem_range]
   exact h i (by simpa using h2)
theorem Leafs.row {α : Type} {d : Kd α} {s : Sh} {cnt : α → Nat} (hd : Leafs d s cnt) {e : Nat} {w : World} {base : Nat} {ok : Nat → Prop} {v : Value} {xs : List α} (h : d.R e w base ok v xs) :
   ∃ A c L, v = .slice A xs.length c ∧ RowLv w s A xs.length L ∧ L.length = (xs.map cnt).sum ∧ ∀ p, p ∈ L → ok p.block := by
 have hmax := h
 obtain ⟨A, c, rfl, hl, hC⟩ := Kd.R_reads hmax
 have hn := Kd.C_max hC
 obtain ⟨h0, inner, ho, hr⟩ := h
 have hex : ∀ i, i < xs.length → ∃ Li, (∃ g, A = some ⟨g, 0, none⟩ ∧ Lv w s g (i * s.sz) Li) ∧ (∀ hi : i < xs.length, Li.length = cnt xs[i]) ∧ ∀ p, p ∈ Li → ok p.block := by
   intro i hi
   obtain ⟨g, cap, hA, hbase, hlt⟩ := ho.form (by omega)
   injection hA with hA _ _
   subst hA
   rcases ho.2 with ⟨hv, _⟩ | ⟨g', cap', cur, hv, _, hb, _, _, hs, htake⟩
   · cases hv
   · injection hv with hv _ _
     injection hv with hv
     injection hv with hv
     subst hv
     have hM := hr.2 i _ (List.getElem?_eq_getElem hi)
     have hg : some g = (Value.slice (some ⟨g, 0, none⟩) xs.length c).ownBlock := rfl
     obtain ⟨Li, hLv, hlen, hin⟩ := hd.get hM hb (o := i * s.sz) (fun j u hu => by
       rw [List.getElem?_take] at hu
       split at hu
       · rw [List.getElem?_drop, ← htake, List.getElem?_take] at hu
         split at hu
         · rw [← hd.sz]; simpa using hu
         · cases hu
       · cases hu)
     refine ⟨Li, ⟨g, rfl, hLv⟩, fun _ => hlen, fun p hp => ?_⟩
     rcases hin p hp with ⟨e1, _⟩ | h2
     · rw [e1]; exact h0 g rfl
     · exact h2.1
 have hch : ∃ f : Nat → List Addr, ∀ i, i < xs.length → (∃ g, A = some ⟨g, 0, none⟩ ∧ Lv w s g (i * s.sz) (f i)) ∧ (∀ hi : i < xs.length, (f i).length = cnt xs[i]) ∧ ∀ p, p ∈ f i → ok p.block :=
   ⟨fun i => open Classical in if hi : i < xs.length then (hex i hi).choose else [], fun i hi => by simp only [dif_pos hi]; exact (hex i hi).choose_spec⟩
 obtain ⟨f, hf⟩ := hch
 refine ⟨A, c, (List.range xs.length).flatMap f, rfl, ⟨hn, f, rfl, fun i hi => (hf i hi).1⟩, sum_range cnt xs f (fun i hi => (hf i hi).2.1 hi), fun p hp => ?_⟩
 obtain ⟨i, hi, hp⟩ := List.mem_flatMap.1 hp
 exact (hf i (List.mem_range.1 hi)).2.2 p hp
theorem Leafs.slice {α : Type} {d : Kd α} {s : Sh} {cnt : α → Nat} (hd : Leafs d s cnt) (e : Nat) : Leafs (Kd.slice e d) (.row s) (fun xs => (xs.map cnt).sum) := ⟨rfl, by
 intro w base ok x cs b o bc t h hb hc
 obtain ⟨v, rfl, hR⟩ := h
 obtain ⟨A, c, L, rfl, ⟨hn, f, e2, hf⟩, hlen, hin⟩ := hd.row hR
 exact ⟨L, ⟨bc, t, A, x.length, c, hb, hc 0 _ rfl, hn, f, e2, hf⟩, hlen, fun p hp => .inr (hin p hp)⟩⟩
theorem Leafs.pair {α β : Type} {d : Kd α} {d' : Kd β} {s s' : Sh} {cnt : α → Nat} {cnt' : β → Nat} (hd : Leafs d s cnt) (hd' : Leafs d' s' cnt') : Leafs (Kd.pair d d') (.both s s') (fun x => cnt x.1 + cnt' x.2) := ⟨by show d.sz + d'.sz = s.sz + s'.sz; rw [hd.sz, hd'.sz], by
 intro w base ok x cs b o bc t h hb hc
 obtain ⟨c0, c1, rfl, h0, h1⟩ := h
 have hl : c0.length = s.sz := by rw [← hd.sz]; exact d.K_len (d.K_of_M h0)
 obtain ⟨L1, a1, b1, g1⟩ := hd.get h0 hb (o := o) (fun i u hu => hc i u (by rw [List.getElem?_append_left (List.getElem?_eq_some_iff.1 hu).1]; exact hu))
 obtain ⟨L2, a2, b2, g2⟩ := hd'.get h1 hb (o := o + s.sz) (fun i u hu => by
   have := hc (s.sz + i) u (by rw [List.getElem?_append_right (by omega), hl, Nat.add_sub_cancel_left]; exact hu)
   rwa [← Nat.add_assoc] at this)
 refine ⟨L1 ++ L2, ⟨L1, L2, rfl, a1, a2⟩, by rw [List.length_append, b1, b2], fun p hp => ?_⟩
 rcases List.mem_append.1 hp with hp | hp
 · rcases g1 p hp with ⟨e1, e2, e3⟩ | h2
   · exact .inl ⟨e1, e2, by show _ < o + (s.sz + s'.sz); omega⟩
   · exact .inr h2
 · rcases g2 p hp with ⟨e1, e2, e3⟩ | h2
   · exact .inl ⟨e1, by omega, by show _ < o + (s.sz + s'.sz); omega⟩
   · exact .inr h2⟩
theorem Leafs.iso {α β : Type} {d : Kd α} {s : Sh} {cnt : α → Nat} (hd : Leafs d s cnt) (f : β → α) : Leafs (Kd.iso d f) s (fun x => cnt (f x)) := ⟨hd.sz, fun h hb hc => hd.get h hb hc⟩
structure Once {α : Type} (d : Kd α) (s : Sh) (cnt : α → Nat) : Prop where
 sz : d.sz = s.sz
 get : ∀ {w : World} {base : Nat} {ok : Nat → Prop} {x : α} {cs : List Value} {b o : Nat} {bc : Array Value} {t : TypeId}, d.M w base ok x cs → w.heap[b]? = some (.cells bc t (0, 0)) → (∀ i u, cs[i]? = some u → bc[o + i]? = some u) → ¬ ok b →
   ∃ L, Lv w s b o L ∧ L.Nodup ∧ L.length = cnt x ∧ ∀ p, p ∈ L → (p.block = b ∧ o ≤ p.off ∧ p.off < o + s.sz) ∨ ok p.block
theorem Once.int : Once (Kd.int .i64) .int (fun _ => 1) := ⟨rfl, by
 intro w base ok x cs b o bc t h hb hc _
 have e : cs = [.int .i64 x] := h
 subst e
 exact ⟨[⟨b, o, none⟩], ⟨rfl, bc, t, x, hb, hc 0 _ rfl⟩, by simp, rfl, fun p hp => by rw [List.mem_singleton.1 hp]; exact .inl ⟨rfl, Nat.le_refl _, by show o < o + 1; omega⟩⟩⟩
theorem nodup_range (f : Nat → List Addr) (n : Nat) (h1 : ∀ i, i < n → (f i).Nodup) (h2 : ∀ i j p, i < n → j < n → p ∈ f i → p ∈ f j → i = j) : ((List.range n).flatMap f).Nodup := by
 induction n with
 | zero => simp
 | succ n ih =>
   rw [range_snoc]
   refine List.nodup_append.2 ⟨ih (fun i hi => h1 i (by omega)) (fun i j p hi hj => h2 i j p (by omega) (by omega)), h1 n (by omega), fun p hp q hq e => ?_⟩
   subst e
   obtain ⟨i, hi, hp⟩ := List.mem_flatMap.1 hp
   have := List.mem_range.1 hi
   have := h2 i n p (by omega) (by omega) hp hq
   omega
theorem Once.row {α : Type} {d : Kd α} {s : Sh} {cnt : α → Nat} (hd : Once d s cnt) {e : Nat} {w : World} {base : Nat} {ok : Nat → Prop} {v : Value} {xs : List α} (h : Kd.S d e w base ok v xs) :
   ∃ A c L, v = .slice A xs.length c ∧ RowLv w s A xs.length L ∧ L.Nodup ∧ L.length = (xs.map cnt).sum ∧ ∀ p, p ∈ L → ok p.block := by
 obtain ⟨A, c, rfl, hl, hC⟩ := Kd.S_reads h
 have hn := Kd.C_max hC
 obtain ⟨own, h0, inner, ho, hr⟩ := h
 have hzl : xs.zipIdx.length = xs.length := List.length_zipIdx
 have hex : ∀ i, i < xs.length → ∃ Li, (∃ g, A = some ⟨g, 0, none⟩ ∧ Lv w s g (i * s.sz) Li) ∧ Li.Nodup ∧ (∀ hi : i < xs.length, Li.length = cnt xs[i]) ∧ ∀ p, p ∈ Li → (∃ g, A = some ⟨g, 0, none⟩ ∧ p.block = g ∧ i * s.sz ≤ p.off ∧ p.off < i * s.sz + s.sz) ∨ (ok p.block ∧ (∀ g, A = some ⟨g, 0, none⟩ → p.block ≠ g) ∧ own p.block = i) := by
   intro i hi
   obtain ⟨g, cap, hA, hbase, hlt⟩ := ho.form (by omega)
   injection hA with hA _ _
   subst hA
   rcases ho.2 with ⟨hv, _⟩ | ⟨g', cap', cur, hv, _, hb, _, _, hs, htake⟩
   · cases hv
   · injection hv with hv _ _
     injection hv with hv
     injection hv with hv
     subst hv
     have hM : d.M w base (fun k => (ok k ∧ some k ≠ (Value.slice (some ⟨g, 0, none⟩) xs.length c).ownBlock) ∧ own k = i) xs[i] _ := hr.2 i (xs[i], i) (Kd.zip_at (List.getElem?_eq_getElem hi))
     obtain ⟨Li, hLv, hnd, hlen, hin⟩ := hd.get hM hb (o := i * s.sz) (fun j u hu => by
       rw [List.getElem?_take] at hu
       split at hu
       · rw [List.getElem?_drop, ← htake, List.getElem?_take] at hu
         split at hu
         · rw [← hd.sz]; simpa [Kd.tag] using hu
         · cases hu
       · cases hu) (fun h2 => h2.1.2 rfl)
     refine ⟨Li, ⟨g, rfl, hLv⟩, hnd, fun _ => hlen, fun p hp => ?_⟩
     rcases hin p hp with h2 | h2
     · exact .inl ⟨g, rfl, h2⟩
     · exact .inr ⟨h2.1.1, fun g2 e2 h3 => by injection e2 with e2; injection e2 with e2; subst e2; exact h2.1.2 (by rw [h3]; rfl), h2.2⟩
 have hch : ∃ f : Nat → List Addr, ∀ i, i < xs.length → (∃ g, A = some ⟨g, 0, none⟩ ∧ Lv w s g (i * s.sz) (f i)) ∧ (f i).Nodup ∧ (∀ hi : i < xs.length, (f i).length = cnt xs[i]) ∧ ∀ p, p ∈ f i → (∃ g, A = some ⟨g, 0, none⟩ ∧ p.block = g ∧ i * s.sz ≤ p.off ∧ p.off < i * s.sz + s.sz) ∨ (ok p.block ∧ (∀ g, A = some ⟨g, 0, none⟩ → p.block ≠ g) ∧ own p.block = i) :=
   ⟨fun i => open Classical in if hi : i < xs.length then (hex i hi).choose else [], fun i hi => by simp only [dif_pos hi]; exact (hex i hi).choose_spec⟩
 obtain ⟨f, hf⟩ := hch
 refine ⟨A, c, (List.range xs.length).flatMap f, rfl, ⟨hn, f, rfl, fun i hi => (hf i hi).1⟩, nodup_range f _ (fun i hi => (hf i hi).2.1) (fun i j p hi hj hp hq => ?_), sum_range cnt xs f (fun i hi => (hf i hi).2.2.1 hi), fun p hp => ?_⟩
 · rcases (hf i hi).2.2.2 p hp with ⟨g, e1, e2, e3, e4⟩ | ⟨a1, a2, a3⟩
   · rcases (hf j hj).2.2.2 p hq with ⟨g', e1', e2', e3', e4'⟩ | ⟨a1, a2, a3⟩
     · rcases Nat.lt_trichotomy i j with hij | hij | hij
       · have := Nat.mul_le_mul_right s.sz (show i + 1 ≤ j by omega)
         rw [Nat.add_mul] at this
         omega
       · exact hij
       · have := Nat.mul_le_mul_right s.sz (show j + 1 ≤ i by omega)
         rw [Nat.add_mul] at this
         omega
     · exact absurd e2 (a2 g e1)
   · rcases (hf j hj).2.2.2 p hq with ⟨g', e1', e2', e3', e4'⟩ | ⟨b1, b2, b3⟩
     · exact absurd e2' (a2 g' e1')
     · omega
 · obtain ⟨i, hi, hp⟩ := List.mem_flatMap.1 hp
   rcases (hf i (List.mem_range.1 hi)).2.2.2 p hp with ⟨g, e1, e2, _⟩ | ⟨a1, _⟩
   · subst e1
     rw [e2]
     exact (h0 g rfl)
   · exact a1
theorem ints_apart {e : Nat} {w : World} {base : Nat} {ok : Nat → Prop} {v : Value} {xs : List Int} (h : (Kd.int .i64).R e w base ok v xs) : Kd.S (Kd.int .i64) e w base ok v xs := by
 obtain ⟨h0, inner, ho, hr⟩ := h
 refine ⟨fun _ => 0, h0, inner, by rw [List.length_zipIdx]; exact ho, by rw [List.length_zipIdx]; exact hr.1, fun j p hj => ?_⟩
 rw [List.getElem?_zipIdx, Nat.zero_add] at hj
 obtain ⟨q, hq, rfl⟩ := Option.map_eq_some_iff.1 hj
 exact hr.2 j q hq
theorem Once.ints (e : Nat) : Once (Kd.slice e (Kd.int .i64)) (.row .int) (fun xs => (xs.map fun _ => 1).sum) := ⟨rfl, by
 intro w base ok x cs b o bc t h hb hc _
 obtain ⟨v, rfl, hR⟩ := h
 obtain ⟨A, c, L, rfl, ⟨hn, f, e2, hf⟩, hnd, hlen, hin⟩ := Once.int.row (ints_apart hR)
 exact ⟨L, ⟨bc, t, A, x.length, c, hb, hc 0 _ rfl, hn, f, e2, hf⟩, hnd, hlen, fun p hp => .inr (hin p hp)⟩⟩
section
variable {α : Type} {d : Kd α} {s : Sh} {cnt : α → Nat} {e b lo hi n c : Nat} {A : Option Addr} {xs : List α} {w w0 w1 : World} {fs : List Fct} {f : Fct} {L : List Addr} {k : Int}
def dead (f : Fct) : Fct := ⟨f.lo, f.hi, fun _ => True, fun _ _ => trivial⟩
theorem Now.marked (h : Now w0 w fs) (i : Nat) (hi : fs[i]? = some f) (hm : Marked L k w w1) (hin : ∀ p, p ∈ L → (f.lo ≤ p.block ∧ p.block < f.hi) ∧ w0.heap.size ≤ p.block) : Now w0 w1 (fs.set i (dead f)) := by
 refine Now.put h i hi (hm.i.below h.b h.b.size ?_) (hm.i.kept.mono ?_) rfl rfl trivial
 · rintro q ⟨p, hp, rfl⟩; exact (hin p hp).2
 · rintro q ⟨p, hp, rfl⟩; exact (hin p hp).1
end
end Go.Proofs.Ytlpginalgdbopaa.XLeaf
namespace Go.Proofs.Ytlpginalgdbopaa.XSt
open Go.RowKit Go.Proofs.YtlpginalgdbopaaW.PrintWords Go.Proofs.YtlpginalgdbopaaW.PrintLast Go.Proofs.YtlpginalgdbopaaW.PrintMore Go.Proofs.Ytlpginalgdbopaa.XW Go.Proofs.Ytlpginalgdbopaa.XOp Go.Proofs.Ytlpginalgdbopaa.XDraw Go.Proofs.Ytlpginalgdbopaa.XLeaf
set_option linter.unusedVariables false
def only (w : World) (bl : List Nat) : World := { w with heap := w.heap.mapIdx fun i c => open Classical in if i ∈ bl then c else .cells #[] 0 (0, 0) }
theorem only_in {w : World} {bl : List Nat} {k : Nat} (h : k ∈ bl) : (only w bl).heap[k]? = w.heap[k]? := by
 unfold only
 simp only [Array.getElem?_mapIdx]
 cases w.heap[k]? with
 | none => rfl
 | some c => simp [h]
theorem only_cell {w : World} {bl : List Nat} {k o : Nat} {cs : Array Value} {t : TypeId} {u : Value} (h : (only w bl).heap[k]? = some (.cells cs t (0, 0))) (ho : cs[o]? = some u) : k ∈ bl ∧ w.heap[k]? = some (.cells cs t (0, 0)) := by
 have hk : k ∈ bl := Classical.byContradiction fun hn => by
   unfold only at h
   simp only [Array.getElem?_mapIdx] at h
   cases hw : w.heap[k]? with
   | none => rw [hw] at h; cases h
   | some c =>
     rw [hw] at h
     simp only [Option.map_some, hn, if_false] at h
     injection h with h
     injection h with h1
     subst h1
     simp at ho
 exact ⟨hk, (only_in hk).symm.trans h⟩
theorem Lv.mono {w w1 : World} {s : Sh} (hm : ∀ (b o : Nat) (cs : Array Value) (t : TypeId) (u : Value), w.heap[b]? = some (.cells cs t (0, 0)) → cs[o]? = some u → w1.heap[b]? = some (.cells cs t (0, 0))) : ∀ {b o : Nat} {L : List Addr}, Lv w s b o L → Lv w1 s b o L := by
 induction s with
 | int =>
   rintro b o L ⟨e, cs, t, n, hb, ho⟩
   exact ⟨e, cs, t, n, hm _ _ _ _ _ hb ho, ho⟩
 | row s ih =>
   rintro b o L ⟨cs, t, A, n, c, hb, ho, hn, f, e, hf⟩
   exact ⟨cs, t, A, n, c, hm _ _ _ _ _ hb ho, ho, hn, f, e, fun i hi => by obtain ⟨g, e2, hl⟩ := hf i hi; exact ⟨g, e2, ih hl⟩⟩
 | both s t ih1 ih2 =>
   rintro b o L ⟨L1, L2, e, h1, h2⟩
   exact ⟨L1, L2, e, ih1 h1, ih2 h2⟩
theorem RowLv.mono {w w1 : World} {s : Sh} {A : Option Addr} {n : Nat} {L : List Addr} (h : RowLv w s A n L) (hm : ∀ (b o : Nat) (cs : Array Value) (t : TypeId) (u : Value), w.heap[b]? = some (.cells cs t (0, 0)) → cs[o]? = some u → w1.heap[b]? = some (.cells cs t (0, 0))) : RowLv w1 s A n L := by
 obtain ⟨hn, f, e, hf⟩ := h
 exact ⟨hn, f, e, fun i hi => by obtain ⟨g, e2, hl⟩ := hf i hi; exact ⟨g, e2, Lv.mono hm hl⟩⟩
theorem RowLv.out {w : World} {bl : List Nat} {s : Sh} {A : Option Addr} {n : Nat} {L : List Addr} (h : RowLv (only w bl) s A n L) : RowLv w s A n L := RowLv.mono h (fun b o cs t u hb ho => (only_cell hb ho).2)
structure LeafB {α : Type} (D : Dk α) (s : Sh) (cnt : α → Nat) : Prop where
 sz : D.d.sz = s.sz
 get : ∀ {w : World} {x : α} {cs : List Value} {bl : List Nat} {b o : Nat} {bc : Array Value} {t : TypeId}, D.B w x cs bl → bl.Nodup → w.heap[b]? = some (.cells bc t (0, 0)) → (∀ i u, cs[i]? = some u → bc[o + i]? = some u) → b ∉ bl →
   ∃ L, Lv w s b o L ∧ L.Nodup ∧ L.length = cnt x ∧ ∀ p, p ∈ L → (p.block = b ∧ o ≤ p.off ∧ p.off < o + s.sz) ∨ p.block ∈ bl
theorem LeafB.int : LeafB (Dk.int .i64) .int (fun _ => 1) := ⟨rfl, by
 intro w x cs bl b o bc t h hn hb hc _
 have e : cs = [.int .i64 x] := h.1
 subst e
 exact ⟨[⟨b, o, none⟩], ⟨rfl, bc, t, x, hb, hc 0 _ rfl⟩, by simp, rfl, fun p hp => by rw [List.mem_singleton.1 hp]; exact .inl ⟨rfl, Nat.le_refl _, by show o < o + 1; omega⟩⟩⟩
theorem flat_idx {L : List (List Nat)} (h : L.flatten.Nodup) {i j : Nat} {a b : List Nat} {k : Nat} (hi : L[i]? = some a) (hj : L[j]? = some b) (ha : k ∈ a) (hb : k ∈ b) : i = j := by
 induction L generalizing i j with
 | nil => simp at hi
 | cons x L ih =>
   rw [List.flatten_cons] at h
   obtain ⟨d1, d2, d3⟩ := List.nodup_append.1 h
   cases i with
   | zero =>
     cases j with
     | zero => rfl
     | succ j =>
       have e : x = a := by simpa using hi
       subst e
       exact absurd rfl (d3 k ha k (List.mem_flatten.2 ⟨b, List.mem_of_getElem? (by simpa using hj), hb⟩))
   | succ i =>
     cases j with
     | zero =>
       have e : x = b := by simpa using hj
       subst e
       exact absurd rfl (d3 k hb k (List.mem_flatten.2 ⟨a, List.mem_of_getElem? (by simpa using hi), ha⟩))
     | succ j => exact congrArg Nat.succ (ih d2 (by simpa using hi) (by simpa using hj))
theorem flat_nodup {L : List (List Nat)} (h : L.flatten.Nodup) {a : List Nat} (ha : a ∈ L) : a.Nodup := by
 induction L with
 | nil => cases ha
 | cons x L ih =>
   rw [List.flatten_cons] at h
   obtain ⟨d1, d2, d3⟩ := List.nodup_append.1 h
   rcases List.mem_cons.1 ha with rfl | ha
   · exact d1
   · exact ih d2 ha
theorem LeafB.row {α : Type} {D : Dk α} {s : Sh} {cnt : α → Nat} (hd : LeafB D s cnt) {e : Nat} {w : World} {v : Value} {xs : List α} {bl : List Nat} (h : (Dk.slice e D).B w xs [v] bl) (hN : bl.Nodup) :
   ∃ A c L, v = .slice A xs.length c ∧ xs.length ≤ c ∧ RowLv w s A xs.length L ∧ L.Nodup ∧ L.length = (xs.map cnt).sum ∧ ∀ p, p ∈ L → p.block ∈ bl := by
 have hmax : xs.length ≤ 9223372036854775807 := by
   obtain ⟨_, _, _, _, hC⟩ := (Dk.slice e D).K h
   exact Kd.C_max hC
 obtain ⟨A, c, rfl, hc⟩ := val_slice h
 obtain ⟨v', inner, bl', e1, e2, ho, ps, e3, e4, hr⟩ := h
 injection e1 with e1
 subst e1
 have hpl : ps.length = xs.length := by rw [e3, List.length_map]
 rw [e2] at hN
 obtain ⟨n1, n2, n3⟩ := List.nodup_append.1 hN
 have hex : ∀ i, i < xs.length → ∃ Li, (∃ g, A = some ⟨g, 0, none⟩ ∧ Lv w s g (i * s.sz) Li) ∧ Li.Nodup ∧ (∀ hi : i < xs.length, Li.length = cnt xs[i]) ∧ ∀ p, p ∈ Li → (∃ g, A = some ⟨g, 0, none⟩ ∧ p.block = g ∧ i * s.sz ≤ p.off ∧ p.off < i * s.sz + s.sz) ∨ (p.block ∈ bl' ∧ (∀ g, A = some ⟨g, 0, none⟩ → p.block ≠ g) ∧ ∃ q, (ps.map Prod.snd)[i]? = some q ∧ p.block ∈ q) := by
   intro i hi
   obtain ⟨g, cap, hA, hbase, hlt⟩ := ho.form (by omega)
   injection hA with hA _ _
   subst hA
   rcases ho.2 with ⟨hv, _⟩ | ⟨g', cap', cur, hv, _, hb, _, _, hs, htake⟩
   · cases hv
   · injection hv with hv _ _
     injection hv with hv
     injection hv with hv
     subst hv
     have hpi : i < ps.length := by omega
     have hB := hr.2 i ps[i] (List.getElem?_eq_getElem hpi)
     have hmem : (ps[i]).2 ∈ ps.map Prod.snd := List.mem_map_of_mem (List.getElem_mem hpi)
     have hsub : ∀ k, k ∈ (ps[i]).2 → k ∈ bl' := fun k hk => by rw [e4]; exact List.mem_flatten.2 ⟨_, hmem, hk⟩
     have hg : ∀ k, k ∈ bl' → k ≠ g := fun k hk h2 => n3 g (by simp [Value.ownBlock]) k hk h2.symm
     obtain ⟨Li, hLv, hnd, hlen, hin⟩ := hd.get hB (flat_nodup (e4 ▸ n2) hmem) hb (o := i * s.sz) (fun j u hu => by
       rw [List.getElem?_take] at hu
       split at hu
       · rw [List.getElem?_drop, ← htake, List.getElem?_take] at hu
         split at hu
         · rw [← hd.sz]; simpa using hu
         · cases hu
       · cases hu) (fun h2 => hg g (hsub g h2) rfl)
     refine ⟨Li, ⟨g, rfl, hLv⟩, hnd, fun _ => by rw [hlen]; congr 1; simp [e3], fun p hp => ?_⟩
     rcases hin p hp with h2 | h2
     · exact .inl ⟨g, rfl, h2⟩
     · exact .inr ⟨hsub _ h2, fun g2 e5 h3 => by injection e5 with e5; injection e5 with e5; subst e5; exact hg _ (hsub _ h2) h3, (ps[i]).2, by rw [List.getElem?_map, List.getElem?_eq_getElem hpi]; rfl, h2⟩
 have hch : ∃ f : Nat → List Addr, ∀ i, i < xs.length → (∃ g, A = some ⟨g, 0, none⟩ ∧ Lv w s g (i * s.sz) (f i)) ∧ (f i).Nodup ∧ (∀ hi : i < xs.length, (f i).length = cnt xs[i]) ∧ ∀ p, p ∈ f i → (∃ g, A = some ⟨g, 0, none⟩ ∧ p.block = g ∧ i * s.sz ≤ p.off ∧ p.off < i * s.sz + s.sz) ∨ (p.block ∈ bl' ∧ (∀ g, A = some ⟨g, 0, none⟩ → p.block ≠ g) ∧ ∃ q, (ps.map Prod.snd)[i]? = some q ∧ p.block ∈ q) :=
   ⟨fun i => open Classical in if hi : i < xs.length then (hex i hi).choose else [], fun i hi => by simp only [dif_pos hi]; exact (hex i hi).choose_spec⟩
 obtain ⟨f, hf⟩ := hch
 refine ⟨A, c, (List.range xs.length).flatMap f, rfl, hc, ⟨hmax, f, rfl, fun i hi => (hf i hi).1⟩, nodup_range f _ (fun i hi => (hf i hi).2.1) (fun i j p hi hj hp hq => ?_), sum_range cnt xs f (fun i hi => (hf i hi).2.2.1 hi), fun p hp => ?_⟩
 · rcases (hf i hi).2.2.2 p hp with ⟨g, f1, f2, f3, f4⟩ | ⟨a1, a2, q, a3, a4⟩
   · rcases (hf j hj).2.2.2 p hq with ⟨g', f1', f2', f3', f4'⟩ | ⟨a1, a2, _⟩
     · rcases Nat.lt_trichotomy i j with hij | hij | hij
       · have := Nat.mul_le_mul_right s.sz (show i + 1 ≤ j by omega)
         rw [Nat.add_mul] at this
         omega
       · exact hij
       · have := Nat.mul_le_mul_right s.sz (show j + 1 ≤ i by omega)
         rw [Nat.add_mul] at this
         omega
     · exact absurd f2 (a2 g f1)
   · rcases (hf j hj).2.2.2 p hq with ⟨g', f1', f2', f3', f4'⟩ | ⟨b1, b2, q', b3, b4⟩
     · exact absurd f2' (a2 g' f1')
     · exact flat_idx (e4 ▸ n2) a3 b3 a4 b4
 · obtain ⟨i, hi, hp⟩ := List.mem_flatMap.1 hp
   rw [e2]
   rcases (hf i (List.mem_range.1 hi)).2.2.2 p hp with ⟨g, f1, f2, _⟩ | ⟨a1, _⟩
   · subst f1
     rw [f2]
     exact List.mem_append_left _ (by simp [Value.ownBlock])
   · exact List.mem_append_right _ a1
theorem LeafB.slice {α : Type} {D : Dk α} {s : Sh} {cnt : α → Nat} (hd : LeafB D s cnt) (e : Nat) : LeafB (Dk.slice e D) (.row s) (fun xs => (xs.map cnt).sum) := ⟨rfl, by
 intro w x cs bl b o bc t h hN hb hc hn
 have h' := h
 obtain ⟨v, _, _, rfl, _⟩ := h'
 obtain ⟨A, c, L, rfl, _, ⟨hn1, f, e2, hf⟩, hd2, hlen, hin⟩ := hd.row h hN
 exact ⟨L, ⟨bc, t, A, x.length, c, hb, hc 0 _ rfl, hn1, f, e2, hf⟩, hd2, hlen, fun p hp => .inr (hin p hp)⟩⟩
theorem LeafB.pair {α β : Type} {d : Dk α} {d' : Dk β} {s s' : Sh} {cnt : α → Nat} {cnt' : β → Nat} (hd : LeafB d s cnt) (hd' : LeafB d' s' cnt') : LeafB (Dk.pair d d') (.both s s') (fun x => cnt x.1 + cnt' x.2) := ⟨by show d.d.sz + d'.d.sz = s.sz + s'.sz; rw [hd.sz, hd'.sz], by
 intro w x cs bl b o bc t h hN hb hc hn
 obtain ⟨c0, c1, b0, b1, rfl, rfl, h0, h1⟩ := h
 obtain ⟨n1, n2, n3⟩ := List.nodup_append.1 hN
 have hl : c0.length = s.sz := by rw [← hd.sz]; exact d.d.K_len (d.K h0)
 obtain ⟨L1, a1, d1, l1, g1⟩ := hd.get h0 n1 hb (o := o) (fun i u hu => hc i u (by rw [List.getElem?_append_left (List.getElem?_eq_some_iff.1 hu).1]; exact hu)) (fun h2 => hn (List.mem_append_left _ h2))
 obtain ⟨L2, a2, d2, l2, g2⟩ := hd'.get h1 n2 hb (o := o + s.sz) (fun i u hu => by
   have := hc (s.sz + i) u (by rw [List.getElem?_append_right (by omega), hl, Nat.add_sub_cancel_left]; exact hu)
   rwa [← Nat.add_assoc] at this) (fun h2 => hn (List.mem_append_right _ h2))
 refine ⟨L1 ++ L2, ⟨L1, L2, rfl, a1, a2⟩, List.nodup_append.2 ⟨d1, d2, fun p hp q hq e => ?_⟩, by rw [List.length_append, l1, l2], fun p hp => ?_⟩
 · subst e
   rcases g1 p hp with ⟨e1, e2, e3⟩ | h2
   · rcases g2 p hq with ⟨e4, e5, e6⟩ | h3
     · omega
     · exact hn (List.mem_append_right _ (e1 ▸ h3))
   · rcases g2 p hq with ⟨e4, e5, e6⟩ | h3
     · exact hn (List.mem_append_left _ (e4 ▸ h2))
     · exact n3 _ h2 _ h3 rfl
 · rcases List.mem_append.1 hp with hp | hp
   · rcases g1 p hp with ⟨e1, e2, e3⟩ | h2
     · exact .inl ⟨e1, e2, by show _ < o + (s.sz + s'.sz); omega⟩
     · exact .inr (List.mem_append_left _ h2)
   · rcases g2 p hp with ⟨e1, e2, e3⟩ | h2
     · exact .inl ⟨e1, by omega, by show _ < o + (s.sz + s'.sz); omega⟩
     · exact .inr (List.mem_append_right _ h2)⟩
theorem LeafB.iso {α β : Type} {d : Dk α} {s : Sh} {cnt : α → Nat} (hd : LeafB d s cnt) (f : β → α) : LeafB (Dk.iso d f) s (fun x => cnt (f x)) := ⟨hd.sz, fun h hN hb hc hn => hd.get h hN hb hc hn⟩
def preM (s : Sh) (A : Option Addr) (n : Nat) (L : List Addr) (bl : List Nat) : Mu := ⟨bl, fun W => RowLv (only W bl) s A n L ∧ L.Nodup ∧ ∀ p, p ∈ L → p.block ∈ bl⟩
def leafM (s : Sh) (A : Option Addr) (n : Nat) (L : List Addr) (k : Int) (bl : List Nat) : Mu := ⟨bl, fun W => (RowLv (only W bl) s A n L ∧ ∀ p, p ∈ L → p.block ∈ bl) ∧ ToldAt W L k⟩
theorem only_step {w W : World} {bl : List Nat} (hW : ∀ k, k ∈ bl → k < w.heap.size → W.heap[k]? = w.heap[k]?) : ∀ (b o : Nat) (cs : Array Value) (t : TypeId) (u : Value), (only w bl).heap[b]? = some (.cells cs t (0, 0)) → cs[o]? = some u → (only W bl).heap[b]? = some (.cells cs t (0, 0)) := by
 intro b o cs t u hb ho
 obtain ⟨hk, hw⟩ := only_cell hb ho
 rw [only_in hk, hW b hk (blk_lt hw), hw]
theorem cell_step {w W : World} {p : Addr} {v : Value} (h : w.cell? p = some v) (hW : W.heap[p.block]? = w.heap[p.block]?) : W.cell? p = some v := by
 unfold World.cell? at h ⊢
 rw [hW]; exact h
theorem cell_lt {w : World} {p : Addr} {v : Value} (h : w.cell? p = some v) : p.block < w.heap.size := by
 unfold World.cell? at h
 cases hb : w.heap[p.block]? with
 | none => rw [hb] at h; cases h
 | some c => exact (Array.getElem?_eq_some_iff.1 hb).1
section
variable {ok0 : Nat → Prop} {w0 w w1 : World} {ms : List Mu} {fo fn : List Fact} {α : Type} {D : Dk α} {xs : List α} {e n c : Nat} {v : Value} {bl : List Nat} {s : Sh} {cnt : α → Nat} {A : Option Addr} {L : List Addr} {k : Int}
theorem St.marked (h : St ok0 w0 w ms fo fn) (i : Nat) (hi : ms[i]? = some (preM s A n L bl)) (hm : Marked L k w w1) : St ok0 w0 w1 (ms.set i (leafM s A n L k bl)) fo fn := by
 obtain ⟨hR, hN, hin⟩ := h.mu i hi
 have hl : ∀ b, b ∈ bl → w0.heap.size ≤ b ∧ b < w.heap.size := fun b hb => h.l b (by
   obtain ⟨e1, _, _⟩ := split_at hi
   rw [e1, bks_app, bks]
   exact List.mem_append_right _ (List.mem_append_left _ hb))
 have hnb : bl.Nodup := by
   obtain ⟨e1, _, _⟩ := split_at hi
   have := h.d
   rw [e1, bks_app, bks] at this
   exact (List.nodup_append.1 (List.nodup_append.1 this).2.1).1
 have ht : ToldAt w1 L k := hm.told hN
 have hR1 : RowLv (only w1 bl) s A n L := by
   refine RowLv.ints (w := only w bl) (ok := fun _ => True) hR ⟨hm.i.os, hm.i.tape, hm.i.output, by simpa [only] using hm.i.size, fun _ _ hn => (hn trivial).elim, fun q cs t hq => ?_⟩
   by_cases hk : q ∈ bl
   · rw [only_in hk] at hq ⊢
     exact hm.i.cells q cs t hq
   · have hq' := hq
     unfold only at hq
     simp only [Array.getElem?_mapIdx] at hq
     cases hw : w.heap[q]? with
     | none => rw [hw] at hq; cases hq
     | some c0 =>
       rw [hw] at hq
       simp only [Option.map_some, hk, if_false] at hq
       injection hq with hq
       injection hq with h1 h2 _
       subst h1 h2
       have hlt : q < w1.heap.size := Nat.lt_of_lt_of_le (Array.getElem?_eq_some_iff.1 hw).1 hm.i.size
       refine ⟨#[], ?_, fun o u hu => by simp at hu⟩
       unfold only
       simp only [Array.getElem?_mapIdx, Array.getElem?_eq_getElem hlt, Option.map_some, hk, if_false]
 refine h.put i hi (hm.i.below h.b h.b.size ?_) hm.i.size (fun b hb hn => hm.i.keep b hb ?_) ?_ hnb (fun b hb => .inl hb)
 · rintro q ⟨p, hp, rfl⟩; exact (hl _ (hin p hp)).1
 · rintro ⟨p, hp, rfl⟩; exact hn (hin p hp)
 · intro W hW
   refine ⟨⟨RowLv.mono hR1 (only_step hW), hin⟩, fun j p hj => ?_⟩
   have hc := ht j p hj
   exact cell_step hc (hW _ (hin p (List.mem_of_getElem? hj)) (cell_lt hc))
end
section
variable {ok0 : Nat → Prop} {w0 w w1 : World} {ms : List Mu} {fo fn : List Fact} {α : Type} {D : Dk α} {xs : List α} {e n c : Nat} {bl : List Nat} {s : Sh} {cnt : α → Nat} {A : Option Addr}
theorem St.carry2O {W0 : World} {f1 f2 : Fact} {fo' fn' : List Fact} (h : St ok0 w0 w ms fo' fn') (hW : St ok0 w0 W0 ms (f1 :: f2 :: fo) fn) (hb : Below W0.heap.size W0 w) : St ok0 w0 w ms (f1 :: f2 :: fo') fn' := (h.addO ((hW.below hb).footO 1 rfl)).addO ((hW.below hb).footO 0 rfl)
theorem St.carry1N {W0 : World} {f1 : Fact} {fo' fn' : List Fact} (h : St ok0 w0 w ms fo' fn') (hW : St ok0 w0 W0 ms fo (f1 :: fn)) (hb : Below W0.heap.size W0 w) : St ok0 w0 w ms fo' (f1 :: fn') := h.addN ((hW.below hb).footN 0 rfl)
end
section
variable {P : Program} {Q : Exit → Act → World → Prop} {N fuel d : Nat} {E : Env} {w : World} {S : World → Prop} {ops : Array Oper} {o oi : Oper} {rest : List Oper} {ds : List Nat} {l : Array Bool} {ok0 : Nat → Prop} {w0 : World} {ms : List Mu} {fo fn : List Fact} {x y : Operand} {t e : TypeId}
theorem ci_ {f : FuncId} {fn : Func} {as : Array Operand} {ts : Array TypeId} {args : List Value} (hf : P.funcs[f]? = some fn) (hc : Calls P f args.toArray w (fun e w1 => ∃ v, e = .returned v ∧ WL P ops Q rest N ((d, v) :: E) w1))
   (hop : o.op = .call { callee := .value (.func f), args := as, argTypes := ts } := by rfl) (hargs : as.toList.map (ev E) = args.map some := by rfl) (hg : o.guard = none := by rfl) (hd : o.dst = some d := by rfl) (hlt : d < N := by decide) (hname : (fn.name == "runtime.NumGoroutine") = false := by rfl) (hb : fn.body.isSome = true := by rfl) : WL P ops Q (o :: rest) N E w := c_ hf hc (fun _ _ h => h) hop hargs hg hd hlt hname hb
end
end Go.Proofs.Ytlpginalgdbopaa.XSt
namespace Go.Proofs.Ytlpginalgdbopaa.XSt
open Go.RowKit Go.Proofs.YtlpginalgdbopaaW.PrintWords Go.Proofs.YtlpginalgdbopaaW.PrintLast Go.Proofs.YtlpginalgdbopaaW.PrintMore Go.Proofs.Ytlpginalgdbopaa.XW Go.Proofs.Ytlpginalgdbopaa.XOp Go.Proofs.Ytlpginalgdbopaa.XDraw Go.Proofs.Ytlpginalgdbopaa.XLeaf
set_option linter.unusedVariables false
def flS : Sh → Nat → List (Nat × Sh)
 | .both s t, o => flS s o ++ flS t (o + s.sz)
 | .int, o => [(o, .int)]
 | .row s, o => [(o, .row s)]
theorem fl_of {w : World} {s : Sh} : ∀ {b o : Nat} {L : List Addr}, Lv w s b o L → ∃ Ls : List (List Addr), L = Ls.flatten ∧ Ls.length = (flS s o).length ∧ ∀ (i : Nat) (p : Nat × Sh), (flS s o)[i]? = some p → ∃ Li, Ls[i]? = some Li ∧ Lv w p.2 b p.1 Li := by
 induction s with
 | int =>
   intro b o L h
   refine ⟨[L], by simp, rfl, fun i p hp => ?_⟩
   cases i with
   | zero => obtain rfl : (o, Sh.int) = p := by simpa [flS] using hp
             exact ⟨L, rfl, h⟩
   | succ i => simp [flS] at hp
 | row s _ =>
   intro b o L h
   refine ⟨[L], by simp, rfl, fun i p hp => ?_⟩
   cases i with
   | zero => obtain rfl : (o, Sh.row s) = p := by simpa [flS] using hp
             exact ⟨L, rfl, h⟩
   | succ i => simp [flS] at hp
 | both s t ih1 ih2 =>
   rintro b o L ⟨L1, L2, rfl, h1, h2⟩
   obtain ⟨A1, rfl, n1, g1⟩ := ih1 h1
   obtain ⟨A2, rfl, n2, g2⟩ := ih2 h2
   refine ⟨A1 ++ A2, by simp, by simp [flS, n1, n2], fun i p hp => ?_⟩
   by_cases hlt : i < (flS s o).length
   · rw [flS, List.getElem?_append_left hlt] at hp
     rw [List.getElem?_append_left (by omega)]
     exact g1 i p hp
   · rw [flS, List.getElem?_append_right (by omega)] at hp
     rw [List.getElem?_append_right (by omega), n1]
     exact g2 _ p hp
theorem take_flat {Ls : List (List Addr)} {i : Nat} {Li : List Addr} (h : Ls[i]? = some Li) : (Ls.take (i + 1)).flatten = (Ls.take i).flatten ++ Li ∧ (Ls.take i).flatten.length + Li.length ≤ Ls.flatten.length := by
 obtain ⟨hl, e⟩ := List.getElem?_eq_some_iff.1 h
 have e1 : Ls.take (i + 1) = Ls.take i ++ [Li] := by rw [List.take_add_one, h]; rfl
 refine ⟨by rw [e1, List.flatten_append]; simp, ?_⟩
 have e2 : Ls.flatten = (Ls.take (i + 1)).flatten ++ (Ls.drop (i + 1)).flatten := by rw [← List.flatten_append, List.take_append_drop]
 rw [e2, e1, List.flatten_append]
 simp
theorem wrap_id {y : Int} (h0 : -9223372036854775808 ≤ y) (h1 : y ≤ 9223372036854775807) : wrap64 y = y := by
 unfold wrap64
 omega
structure MkI (w W : World) (z : Int) (g : Nat) (F : List (Nat × Sh)) (Ls : List (List Addr)) (i : Nat) (y : Int) : Prop where
 m : Marked (Ls.take i).flatten z w W
 y : y = z + ((Ls.take i).flatten.length : Int)
 z0 : 0 ≤ z
 hi : z + (Ls.flatten.length : Int) ≤ 4611686018427387904
 l : ∀ (i : Nat) (p : Nat × Sh), F[i]? = some p → ∃ Li, Ls[i]? = some Li ∧ Lv W p.2 g p.1 Li
 n : Ls.length = F.length
section
variable {w W : World} {z y : Int} {g i o : Nat} {F : List (Nat × Sh)} {Ls : List (List Addr)} {s : Sh}
theorem MkI.y0 (h : MkI w W z g F Ls i y) : 0 ≤ y := by have := h.y; have := h.z0; omega
theorem MkI.row (h : MkI w W z g F Ls i y) (hf : F[i]? = some (o, .row s)) : ∃ Li A n c y', W.cell? ⟨g, o, none⟩ = some (.slice A n c) ∧ RowLv W s A n Li ∧ y + (Li.length : Int) ≤ 4611686018427387904 ∧ y' = y + (Li.length : Int) ∧ ∀ W', Marked Li y W W' → MkI w W' z g F Ls (i + 1) y' := by
 obtain ⟨Li, hL, hv⟩ := h.l i _ hf
 obtain ⟨e1, e2⟩ := take_flat hL
 have hy := h.y
 have hi := h.hi
 have hv2 := hv
 obtain ⟨cs, t, A, n, c, hb, ho, hn, hr⟩ := hv2
 refine ⟨Li, A, n, c, _, by rw [blk_cell hb]; exact ho, ⟨hn, hr⟩, by omega, rfl, fun W' hm => ⟨?_, ?_, h.z0, h.hi, fun i p hp => ?_, h.n⟩⟩
 · rw [e1]; exact h.m.app (by rw [← hy]; exact hm)
 · rw [e1, List.length_append, hy]; omega
 · obtain ⟨Lj, a, b⟩ := h.l i p hp; exact ⟨Lj, a, Lv.ints b hm.i⟩
theorem MkI.int (h : MkI w W z g F Ls i y) (hf : F[i]? = some (o, .int)) : ∃ (cs : Array Value) (t : TypeId) (y' : Int), W.heap[g]? = some (.cells cs t (0, 0)) ∧ o < cs.size ∧ wrap64 (y + 1) = y' ∧ MkI w (W.setCell ⟨g, o, none⟩ (.int .i64 y)) z g F Ls (i + 1) y' := by
 obtain ⟨Li, hL, hv⟩ := h.l i _ hf
 obtain ⟨e1, e2⟩ := take_flat hL
 have hy := h.y
 have hi := h.hi
 have hm := Marked.set hv y
 have hv2 := hv
 obtain ⟨e3, cs, t, m, hb, ho⟩ := hv2
 have hl : Li.length = 1 := by rw [e3]; rfl
 refine ⟨cs, t, y + 1, hb, (Array.getElem?_eq_some_iff.1 ho).1, wrap_id (by have := h.y0; omega) (by omega), ⟨?_, ?_, h.z0, h.hi, fun i p hp => ?_, h.n⟩⟩
 · rw [e1]; exact h.m.app (by rw [← hy]; exact hm)
 · rw [e1, List.length_append, hy, hl]; omega
 · obtain ⟨Lj, a, b⟩ := h.l i p hp; exact ⟨Lj, a, Lv.ints b hm.i⟩
end
structure MkJ (w W : World) (z : Int) (s : Sh) (A : Option Addr) (n : Nat) (f : Nat → List Addr) (j : Nat) (y : Int) : Prop where
 m : Marked ((List.range j).flatMap f) z w W
 y : y = z + (((List.range j).flatMap f).length : Int)
 z0 : 0 ≤ z
 hi : z + (((List.range n).flatMap f).length : Int) ≤ 4611686018427387904
 l : ∀ i, i < n → ∃ g, A = some ⟨g, 0, none⟩ ∧ Lv w s g (i * s.sz) (f i)
 n : n ≤ 9223372036854775807
section
variable {w W : World} {z y : Int} {s : Sh} {A : Option Addr} {n j : Nat} {f : Nat → List Addr}
theorem MkJ.start {L : List Addr} (h : RowLv w s A n L) (h0 : 0 ≤ z) (h1 : z + (L.length : Int) ≤ 4611686018427387904) : ∃ f, L = (List.range n).flatMap f ∧ MkJ w w z s A n f 0 z := by
 obtain ⟨hn, f, rfl, hf⟩ := h
 exact ⟨f, rfl, ⟨by simpa using Marked.nil _ _, by simp, h0, h1, hf, hn⟩⟩
theorem MkJ.round (h : MkJ w W z s A n f j y) (hj : j < n) : ∃ (g : Nat) (Ls : List (List Addr)), A = some ⟨g, 0, none⟩ ∧ wrap64 ((j : Int) + 1) = ((j + 1 : Nat) : Int) ∧ (Ls.flatten = f j) ∧ MkI W W y g (flS s (j * s.sz)) Ls 0 y := by
 obtain ⟨g, e, hl⟩ := h.l j hj
 obtain ⟨Ls, e1, e2, e3⟩ := fl_of (Lv.ints hl h.m.i)
 have hy := h.y
 have hi := h.hi
 have hz := h.z0
 have hn := h.n
 have := len_at f hj
 exact ⟨g, Ls, e, by rw [wrap_id (by omega) (by omega)]; rfl, e1.symm, ⟨by simpa using Marked.nil _ _, by simp, by omega, by rw [← e1]; omega, e3, e2⟩⟩
theorem MkJ.next {W' : World} {g i : Nat} {F : List (Nat × Sh)} {Ls : List (List Addr)} {y' : Int} (h : MkJ w W z s A n f j y) (he : Ls.flatten = f j) (hI : MkI W W' y g F Ls i y') (hi : i = F.length) : MkJ w W' z s A n f (j + 1) y' := by
 have e1 : Ls.take i = Ls := List.take_of_length_le (by rw [hI.n, hi]; exact Nat.le_refl _)
 have hm := hI.m
 have hy := hI.y
 rw [e1, he] at hm hy
 refine ⟨?_, ?_, h.z0, h.hi, h.l, h.n⟩
 · rw [range_snoc]; exact h.m.app (by rw [← h.y]; exact hm)
 · rw [range_snoc, List.length_append, hy, h.y]; omega
end
structure HeI (w W : World) (z : Int) (g : Nat) (F : List (Nat × Sh)) (Ls : List (List Addr)) (i : Nat) (y : Int) : Prop where
 m : Below w.heap.size w W
 y : y = z + ((Ls.take i).flatten.length : Int)
 z0 : 0 ≤ z
 hi : z + (Ls.flatten.length : Int) ≤ 4611686018427387904
 l : ∀ (i : Nat) (p : Nat × Sh), F[i]? = some p → ∃ Li, Ls[i]? = some Li ∧ Lv w p.2 g p.1 Li
 n : Ls.length = F.length
 t : ToldAt w Ls.flatten z
section
variable {w W : World} {z y : Int} {g i o : Nat} {F : List (Nat × Sh)} {Ls : List (List Addr)} {s : Sh}
theorem HeI.y0 (h : HeI w W z g F Ls i y) : 0 ≤ y := by have := h.y; have := h.z0; omega
theorem HeI.told {Li : List Addr} (h : HeI w W z g F Ls i y) (hL : Ls[i]? = some Li) : ToldAt w Li y := by
 obtain ⟨hl, e⟩ := List.getElem?_eq_some_iff.1 hL
 have e1 : Ls = Ls.take i ++ Li :: Ls.drop (i + 1) := by rw [← e, List.getElem_cons_drop, List.take_append_drop]
 have ht := h.t
 rw [e1, List.flatten_append, List.flatten_cons] at ht
 have := ht.right.left
 rwa [← h.y] at this
theorem HeI.row (h : HeI w W z g F Ls i y) (hf : F[i]? = some (o, .row s)) : ∃ Li A n c y', W.cell? ⟨g, o, none⟩ = some (.slice A n c) ∧ RowLv W s A n Li ∧ ToldAt W Li y ∧ y + (Li.length : Int) ≤ 4611686018427387904 ∧ y' = y + (Li.length : Int) ∧ ∀ W', Below W.heap.size W W' → HeI w W' z g F Ls (i + 1) y' := by
 obtain ⟨Li, hL, hv⟩ := h.l i _ hf
 obtain ⟨e1, e2⟩ := take_flat hL
 have hy := h.y
 have hi := h.hi
 have hv2 := Lv.ints hv (Ints.of_below (ok := fun _ => False) h.m)
 obtain ⟨cs, t, A, n, c, hb, ho, hn, hr⟩ := hv2
 refine ⟨Li, A, n, c, _, by rw [blk_cell hb]; exact ho, ⟨hn, hr⟩, (h.told hL).below h.m, by omega, rfl, fun W' hm => ⟨h.m.trans (hm.mono h.m.size), ?_, h.z0, h.hi, h.l, h.n, h.t⟩⟩
 rw [e1, List.length_append, hy]; omega
theorem HeI.int (h : HeI w W z g F Ls i y) (hf : F[i]? = some (o, .int)) : ∃ y', W.cell? ⟨g, o, none⟩ = some (.int .i64 y) ∧ wrap64 (y + 1) = y' ∧ HeI w W z g F Ls (i + 1) y' := by
 obtain ⟨Li, hL, hv⟩ := h.l i _ hf
 obtain ⟨e1, e2⟩ := take_flat hL
 have hy := h.y
 have hi := h.hi
 have ht := h.told hL
 obtain ⟨e3, _⟩ := hv
 have hl : Li.length = 1 := by rw [e3]; rfl
 refine ⟨y + 1, ?_, wrap_id (by have := h.y0; omega) (by omega), ⟨h.m, ?_, h.z0, h.hi, h.l, h.n, h.t⟩⟩
 · have := ht 0 ⟨g, o, none⟩ (by rw [e3]; rfl)
   rw [pw_cell_below h.m this]; simp
 · rw [e1, List.length_append, hy, hl]; omega
end
structure HeJ (w W : World) (z : Int) (s : Sh) (A : Option Addr) (n : Nat) (f : Nat → List Addr) (j : Nat) (y : Int) : Prop where
 m : Below w.heap.size w W
 y : y = z + (((List.range j).flatMap f).length : Int)
 z0 : 0 ≤ z
 hi : z + (((List.range n).flatMap f).length : Int) ≤ 4611686018427387904
 l : ∀ i, i < n → ∃ g, A = some ⟨g, 0, none⟩ ∧ Lv w s g (i * s.sz) (f i)
 t : ToldAt w ((List.range n).flatMap f) z
 n : n ≤ 9223372036854775807
section
variable {w W : World} {z y : Int} {s : Sh} {A : Option Addr} {n j : Nat} {f : Nat → List Addr}
theorem HeJ.start {L : List Addr} (h : RowLv w s A n L) (ht : ToldAt w L z) (h0 : 0 ≤ z) (h1 : z + (L.length : Int) ≤ 4611686018427387904) : ∃ f, L = (List.range n).flatMap f ∧ HeJ w w z s A n f 0 z := by
 obtain ⟨hn, f, rfl, hf⟩ := h
 exact ⟨f, rfl, ⟨Below.refl _ _, by simp, h0, h1, hf, ht, hn⟩⟩
theorem HeJ.round (h : HeJ w W z s A n f j y) (hj : j < n) : ∃ (g : Nat) (Ls : List (List Addr)), A = some ⟨g, 0, none⟩ ∧ wrap64 ((j : Int) + 1) = ((j + 1 : Nat) : Int) ∧ (Ls.flatten = f j) ∧ HeI W W y g (flS s (j * s.sz)) Ls 0 y := by
 obtain ⟨g, e, hl⟩ := h.l j hj
 obtain ⟨Ls, e1, e2, e3⟩ := fl_of (Lv.ints hl (Ints.of_below (ok := fun _ => False) h.m))
 have hy := h.y
 have hi := h.hi
 have hz := h.z0
 have hn := h.n
 have := len_at f hj
 exact ⟨g, Ls, e, by rw [wrap_id (by omega) (by omega)]; rfl, e1.symm, ⟨Below.refl _ _, by simp, by omega, by rw [← e1]; omega, e3, e2, by rw [← e1, hy]; exact (told_at f h.t hj).below h.m⟩⟩
theorem HeJ.next {W' : World} {g i : Nat} {F : List (Nat × Sh)} {Ls : List (List Addr)} {y' : Int} (h : HeJ w W z s A n f j y) (he : Ls.flatten = f j) (hI : HeI W W' y g F Ls i y') (hi : i = F.length) : HeJ w W' z s A n f (j + 1) y' := by
 have e1 : Ls.take i = Ls := List.take_of_length_le (by rw [hI.n, hi]; exact Nat.le_refl _)
 have hy := hI.y
 rw [e1, he] at hy
 refine ⟨h.m.trans (hI.m.mono h.m.size), ?_, h.z0, h.hi, h.l, h.t, h.n⟩
 rw [range_snoc, List.length_append, hy, h.y]; omega
end
end Go.Proofs.Ytlpginalgdbopaa.XSt
namespace Go.Proofs.Ytlpginalgdbopaa.XSt
open Go.RowKit Go.Proofs.YtlpginalgdbopaaW.PrintWords Go.Proofs.YtlpginalgdbopaaW.PrintLast Go.Proofs.YtlpginalgdbopaaW.PrintMore Go.Proofs.Ytlpginalgdbopaa.XW Go.Proofs.Ytlpginalgdbopaa.XOp Go.Proofs.Ytlpginalgdbopaa.XDraw
set_option linter.unusedVariables false
theorem eqGuard_slice {P : Program} {w : World} {t : TypeId} {x y : Operand} (op : BinOp) (A A' : Option Addr) (n c n' c' : Nat) : (eqGuard op t x y (.slice A n c) (.slice A' n' c')).run P w = .ok () w := by unfold eqGuard; split <;> simp
theorem Run.eqNil {P : Program} {E : Env} {o : Oper} {w : World} {t t2 e : TypeId} {x y : Operand} {A : Option Addr} {n c : Nat} (ho : o.op = .binOp .eql t x y t2) (hx : ev E x = some (.slice A n c)) (hy : ev E y = some (.slice none 0 0)) (ht : P.underlying t = some (.slice e)) : Run P E o w (.bool A.isNone) w := fun ρ hρ => by
 unfold execOp; simp [ho, hρ _ _ hx, hρ _ _ hy, eqGuard_slice, Lib.run_eql_slice_nil w t e A n c 0 0 ht]
theorem C_nilL {α : Type} {d : Kd α} {w : World} {xs : List α} (h : d.C w none xs.length xs) : xs = [] := by
 by_cases hn : xs.length = 0
 · exact List.eq_nil_of_length_eq_zero hn
 · obtain ⟨ad, e, _⟩ := h.2.2 (by omega)
   cases e
theorem reps_uncons {α : Type} {R : α → List Value → Prop} {sz : Nat} {x : α} {xs : List α} {I : List Value} (h : Reps R sz (x :: xs) I) : R x (I.take sz) ∧ Reps R sz xs (I.drop sz) := by
 refine ⟨by have := h.2 0 x rfl; simpa using this, ?_⟩
 have := Kd.reps_drop (m := 1) h
 simpa using this
theorem cut_mid {P S cs vs : List Value} {k : Nat} (hk : k = P.length) (hl : vs.length = cs.length) : cut (P ++ (cs ++ S)) k vs = P ++ (vs ++ S) := by
 subst hk
 unfold cut
 rw [List.take_left', List.drop_append, List.drop_eq_nil_of_le (by omega), List.nil_append, Nat.add_sub_cancel_left, List.drop_append, List.drop_eq_nil_of_le (by omega), List.nil_append, hl, Nat.sub_self, List.drop_zero]
 rfl
theorem wrap_succ {j n : Nat} (h : j < n) (hn : n < 4294967296) : wrap64 ((j : Int) + 1) = ((j + 1 : Nat) : Int) := by rw [wrap_id (by omega) (by omega)]; rfl
section
variable {P : Program} {Q : Exit → Act → World → Prop} {n fuel di dj dm : Nat} {E : Env} {w w1 : World} {S : World → Prop} {ops : Array Oper} {oi oj om : Oper} {ds : List Nat} {l : Array Bool}
theorem three__ (i j m : Nat) (h1 : WDop P ops Q S ds fuel l n E w oi i di) (h2 : WDop P ops Q S ds fuel l n E w oj j dj) (h3 : WDop P ops Q S ds fuel l n E w om m dm) (hi : ops[i]? = some oi := by rfl) (hj : ops[j]? = some oj := by rfl) (hm : ops[m]? = some om := by rfl) (hdi : oi.dst = some di := by rfl) (hdj : oj.dst = some dj := by rfl) (hdm : om.dst = some dm := by rfl)
   (hc : (Region.ready .any ops l == [i, j, m]) = true := by kernel_rfl) (hdsi : i ∉ ds := by decide) (hdsj : j ∉ ds := by decide) (hdsm : m ∉ ds := by decide) : WD P ops Q S ds (fuel + 1) l n E w := fun a ha =>
 three_ (l.setIfInBounds i true) (l.setIfInBounds j true) (l.setIfInBounds m true) hi hj hm hdi hdj hdm (by rw [hc]; simp) hdsi hdsj hdsm
   (fun K hK => h1 K (fun E' w' hw' hD a' ha' => hK.out a' w' hw' (fun _ => hD a' ha')) a ha)
   (fun K hK => h2 K (fun E' w' hw' hD a' ha' => hK.out a' w' hw' (fun _ => hD a' ha')) a ha)
   (fun K hK => h3 K (fun E' w' hw' hD a' ha' => hK.out a' w' hw' (fun _ => hD a' ha')) a ha)
end
section
variable {ok0 : Nat → Prop} {w0 w : World} {ms : List Mu} {fo fn : List Fact} {α : Type} {dd : Kd α} {xs : List α} {I : List Value}
theorem reps_seg {R : α → List Value → Prop} {sz : Nat} (h : Reps R sz xs I) (z : α) (i : Int) (h0 : 0 ≤ i) (h1 : i < ((xs.length : Nat) : Int)) : R (xs.getD i.toNat z) ((I.drop (i.toNat * sz)).take sz) := by
 have hl : i.toNat < xs.length := by omega
 have := h.2 i.toNat xs[i.toNat] (List.getElem?_eq_getElem hl)
 rw [List.getD_eq_getElem?_getD, List.getElem?_eq_getElem hl]
 exact this
theorem St.elRN (h : St ok0 w0 w ms fo fn) (j : Nat) (hj : fn[j]? = some (fun W => Reps (dd.K W) dd.sz xs I)) (z : α) (i : Int) (h0 : 0 ≤ i) (h1 : i < ((xs.length : Nat) : Int)) : ∃ cs, (I.drop (i.toNat * dd.sz)).take dd.sz = cs ∧ cs.length = dd.sz ∧ St ok0 w0 w ms fo ((fun W => dd.K W (xs.getD i.toNat z) cs) :: fn) :=
 ⟨_, rfl, dd.K_len (reps_seg (h.getN j hj) z i h0 h1), h.deriveN (fun W hN => reps_seg (AllF.get j hj hN) z i h0 h1)⟩
theorem elr_ {W : World} {B e sz n c k m : Nat} {ad : Addr} {cs vs : List Value} (ho : W.ownsRow B e sz (.slice (some ad) n c) n I) (hI : (I.drop k).take m = cs) (hp : Part vs cs 0) : ∀ j v, vs[j]? = some v → W.cell? ((ad.add k).add j) = some v :=
 cells_part (fun i u hu => by
   subst hI
   rw [List.getElem?_take] at hu
   split at hu
   · rw [List.getElem?_drop] at hu
     rw [XLoad.add_add]; exact row_cell ho hu
   · cases hu) hp
end
end Go.Proofs.Ytlpginalgdbopaa.XSt
namespace Go.Proofs.Ytlpginalgdbopaa.XSt
open Go.RowKit Go.Proofs.YtlpginalgdbopaaW.PrintWords Go.Proofs.YtlpginalgdbopaaW.PrintLast Go.Proofs.YtlpginalgdbopaaW.PrintMore Go.Proofs.Ytlpginalgdbopaa.XW Go.Proofs.Ytlpginalgdbopaa.XOp Go.Proofs.Ytlpginalgdbopaa.XDraw
set_option linter.unusedVariables false
end Go.Proofs.Ytlpginalgdbopaa.XSt
namespace Go.Proofs.Ytlpginalgdbopaa.XClass
open Go.Proofs.Ytlpginalgdbopaa.XLaw Go.Proofs.Ytlpginalgdbopaa.XLeaf
set_option linter.unusedVariables false
open Go.RowKit Go.Proofs.YtlpginalgdbopaaW.PrintWords Go.Proofs.YtlpginalgdbopaaW.PrintLast Go.Proofs.YtlpginalgdbopaaW.PrintMore
end Go.Proofs.Ytlpginalgdbopaa.XClass
namespace Go.Proofs.Ytlpginalgdbopaa.XSt
open Go.RowKit Go.Proofs.YtlpginalgdbopaaW.PrintWords Go.Proofs.YtlpginalgdbopaaW.PrintLast Go.Proofs.YtlpginalgdbopaaW.PrintMore Go.Proofs.Ytlpginalgdbopaa.XW Go.Proofs.Ytlpginalgdbopaa.XOp Go.Proofs.Ytlpginalgdbopaa.XDraw
set_option linter.unusedVariables false
end Go.Proofs.Ytlpginalgdbopaa.XSt
namespace Go.Proofs.Ytlpginalgdbopaa.XOpen
open Go.RowKit Go.Proofs.YtlpginalgdbopaaW.PrintWords Go.Proofs.YtlpginalgdbopaaW.PrintLast Go.Proofs.YtlpginalgdbopaaW.PrintMore Go.Deep Go.ChangeShapes Go.WideShapes
set_option linter.unusedVariables false
set_option linter.unusedSimpArgs false
def Opens {α : Type} (P : Program) (t : TypeId) (d : Kd α) (G : α → Prop) : Prop :=
 ∀ {H : Type} {enc : TypeId × Value → H} {w : World} {base : Nat} {held : Bool} {fuel : Nat} {cs : List Value} {x : DataW H × List MemPlace},
   DataW.trod enc P w base (fun _ => true) held fuel t cs = some x → ∃ a, d.K w a cs ∧ G a
theorem opens_int {P : Program} {t : TypeId} {k : IntKind} (ht : P.underlying t = some (.int k)) : Opens P t (Kd.int k) (fun n => (Lit.int k n).wf = true) := by
 intro H enc w base held fuel cs x h
 obtain ⟨n, rfl, _, hw⟩ := DataW.trod_int ht h
 exact ⟨n, rfl, hw⟩
theorem list_of {α : Type} (Q : Nat → α → Prop) : ∀ n, (∀ i, i < n → ∃ a, Q i a) → ∃ xs : List α, xs.length = n ∧ ∀ i a, xs[i]? = some a → Q i a
 | 0, _ => ⟨[], rfl, fun i a h => by simp at h⟩
 | n + 1, h => by
   obtain ⟨xs, hl, hq⟩ := list_of Q n (fun i hi => h i (by omega))
   obtain ⟨a, ha⟩ := h n (by omega)
   refine ⟨xs ++ [a], by simp [hl], fun i b hb => ?_⟩
   by_cases hi : i < n
   · rw [List.getElem?_append_left (by omega)] at hb; exact hq i b hb
   · have : i = n := by
       have := (List.getElem?_eq_some_iff.1 hb).1
       simp at this; omega
     subst this
     rw [List.getElem?_append_right (by omega), hl, Nat.sub_self] at hb
     have : a = b := by simpa using hb
     subst this; exact ha
theorem opens_slice {α : Type} {P : Program} {t e : TypeId} {d : Kd α} {G : α → Prop} (ht : P.underlying t = some (.slice e)) (hc : P.cellsOf e = d.sz) (ho : Opens P e d G) :
   Opens P t (Kd.slice e d) (fun xs => xs.length ≤ 9223372036854775807 ∧ ∀ x ∈ xs, G x) := by
 intro H enc w base held fuel cs x h
 rcases open_slice ht h with ⟨rfl, _⟩ | ⟨a, len, cap, m, n, D, Pl, rfl, hb, hl, hm, hmm, _, hx⟩
 · exact ⟨[], ⟨none, 0, rfl, Nat.le_refl _, rfl, Nat.zero_le _, fun h => absurd h (Nat.lt_irrefl _)⟩, Nat.zero_le _, fun x hx => by cases hx⟩
 · simp only [if_true] at hmm
   subst hmm
   obtain ⟨xs, hxl, hxs⟩ := list_of (fun i p => G p ∧ ∃ c, c.length = d.sz ∧ d.K w p c ∧ ∀ j u, c[j]? = some u → w.cell? (a.add (i * d.sz + j)) = some u) len (fun i hi => by
     obtain ⟨cs', hcells, htr⟩ := hx i (by omega)
     obtain ⟨p, hp, hg⟩ := ho htr
     refine ⟨p, hg, cs', d.K_len hp, hp, fun j u hu => ?_⟩
     have hcs := hcells
     unfold World.cells? at hcs
     obtain ⟨_, h2, h3⟩ := World.cells?_some hcells
     have hj : j < P.cellsOf e := by
       have := (List.getElem?_eq_some_iff.1 hu).1
       omega
     have := h3 j hj
     rw [hu, Go.Deep.add_add, hc] at this
     exact this)
   refine ⟨xs, ⟨some a, m, by rw [hxl], by omega, rfl, ?_, fun _ => ⟨a, rfl, fun j p hp => ?_⟩⟩, ?_, fun p hp => ?_⟩
   · have : m ≤ 9223372036854775807 := hm
     omega
   · obtain ⟨_, c, h1, h2, h3⟩ := hxs j p hp
     exact ⟨c, h1, h2, h3⟩
   · have : m ≤ 9223372036854775807 := hm
     omega
   · obtain ⟨i, hi⟩ := List.getElem?_of_mem hp
     exact (hxs i p hi).1
def Part {α : Type} (d : Kd α) (G : α → Prop) (w : World) (cs : List Value) (off : Nat) (a : α) : Prop := d.K w a ((cs.drop off).take d.sz) ∧ G a
theorem part_all {α : Type} {d : Kd α} {G : α → Prop} {w : World} {cs : List Value} {a : α} (h : Part d G w cs 0 a) (hl : cs.length = d.sz) : d.K w a cs ∧ G a := by
 have h1 := h.1
 rw [List.drop_zero, List.take_of_length_le (by omega)] at h1
 exact ⟨h1, h.2⟩
end Go.Proofs.Ytlpginalgdbopaa.XOpen
namespace Go.Proofs.YtlpginalgdbopaaW.PrintWords
theorem Reps.one {α : Type} {R : α → List Value → Prop} {ps : List α} {cs : List Value} {p : α} {v : Value} (hp : R p [v]) (h : Reps R 1 ps cs) : Reps R 1 (p :: ps) (v :: cs) := by
 refine ⟨by simp [h.1], fun j q hq => ?_⟩
 cases j with
 | zero =>
   simp only [List.getElem?_cons_zero, Option.some.injEq] at hq
   subst hq
   simpa using hp
 | succ j =>
   simp only [List.getElem?_cons_succ] at hq
   have h1 := h.2 j q hq
   simpa [Nat.mul_one] using h1
theorem Reps.front {α : Type} {R : α → List Value → Prop} {size : Nat} {ps : List α} {cs c all : List Value} {p : α} (hp : R p c) (hc : c.length = size) (h : Reps R size ps cs) (ha : c ++ cs = all) : Reps R size (p :: ps) all := by
 subst ha
 refine ⟨by rw [List.length_append, hc, h.1, List.length_cons, Nat.succ_mul, Nat.add_comm], fun j q hq => ?_⟩
 cases j with
 | zero =>
   simp only [List.getElem?_cons_zero, Option.some.injEq] at hq
   subst hq
   rw [Nat.zero_mul, List.drop_zero, List.take_append_of_le_length (by omega), List.take_of_length_le (by omega)]
   exact hp
 | succ j =>
   simp only [List.getElem?_cons_succ] at hq
   have h1 := h.2 j q hq
   rw [Nat.succ_mul, List.drop_append, List.drop_of_length_le (by rw [hc]; exact Nat.le_add_left _ _), List.nil_append, hc, Nat.add_sub_cancel]
   exact h1
theorem Reps.c2 {α : Type} {R : α → List Value → Prop} {ps : List α} {cs : List Value} {p : α} {va vb : Value} (hp : R p [va, vb]) (h : Reps R 2 ps cs) : Reps R 2 (p :: ps) (va :: vb :: cs) := Reps.front hp rfl h rfl
theorem Reps.c3 {α : Type} {R : α → List Value → Prop} {ps : List α} {cs : List Value} {p : α} {va vb vc : Value} (hp : R p [va, vb, vc]) (h : Reps R 3 ps cs) : Reps R 3 (p :: ps) (va :: vb :: vc :: cs) := Reps.front hp rfl h rfl
theorem Reps.c4 {α : Type} {R : α → List Value → Prop} {ps : List α} {cs : List Value} {p : α} {va vb vc vd : Value} (hp : R p [va, vb, vc, vd]) (h : Reps R 4 ps cs) : Reps R 4 (p :: ps) (va :: vb :: vc :: vd :: cs) := Reps.front hp rfl h rfl
theorem Reps.c5 {α : Type} {R : α → List Value → Prop} {ps : List α} {cs : List Value} {p : α} {va vb vc vd ve : Value} (hp : R p [va, vb, vc, vd, ve]) (h : Reps R 5 ps cs) : Reps R 5 (p :: ps) (va :: vb :: vc :: vd :: ve :: cs) := Reps.front hp rfl h rfl
theorem Reps.c6 {α : Type} {R : α → List Value → Prop} {ps : List α} {cs : List Value} {p : α} {va vb vc vd ve vf : Value} (hp : R p [va, vb, vc, vd, ve, vf]) (h : Reps R 6 ps cs) : Reps R 6 (p :: ps) (va :: vb :: vc :: vd :: ve :: vf :: cs) := Reps.front hp rfl h rfl
theorem Reps.c7 {α : Type} {R : α → List Value → Prop} {ps : List α} {cs : List Value} {p : α} {va vb vc vd ve vf vg : Value} (hp : R p [va, vb, vc, vd, ve, vf, vg]) (h : Reps R 7 ps cs) : Reps R 7 (p :: ps) (va :: vb :: vc :: vd :: ve :: vf :: vg :: cs) := Reps.front hp rfl h rfl
theorem Reps.c8 {α : Type} {R : α → List Value → Prop} {ps : List α} {cs : List Value} {p : α} {va vb vc vd ve vf vg vh : Value} (hp : R p [va, vb, vc, vd, ve, vf, vg, vh]) (h : Reps R 8 ps cs) : Reps R 8 (p :: ps) (va :: vb :: vc :: vd :: ve :: vf :: vg :: vh :: cs) := Reps.front hp rfl h rfl
theorem Reps.c9 {α : Type} {R : α → List Value → Prop} {ps : List α} {cs : List Value} {p : α} {va vb vc vd ve vf vg vh vi : Value} (hp : R p [va, vb, vc, vd, ve, vf, vg, vh, vi]) (h : Reps R 9 ps cs) : Reps R 9 (p :: ps) (va :: vb :: vc :: vd :: ve :: vf :: vg :: vh :: vi :: cs) := Reps.front hp rfl h rfl
theorem Reps.c10 {α : Type} {R : α → List Value → Prop} {ps : List α} {cs : List Value} {p : α} {va vb vc vd ve vf vg vh vi vj : Value} (hp : R p [va, vb, vc, vd, ve, vf, vg, vh, vi, vj]) (h : Reps R 10 ps cs) : Reps R 10 (p :: ps) (va :: vb :: vc :: vd :: ve :: vf :: vg :: vh :: vi :: vj :: cs) := Reps.front hp rfl h rfl
end Go.Proofs.YtlpginalgdbopaaW.PrintWords
namespace Go.Proofs.YtlpginalgdbopaaW.PrintLast
def up (b : Nat → Bool) (i : Nat) : Nat → Bool := fun j => if j = i then true else b j
end Go.Proofs.YtlpginalgdbopaaW.PrintLast
namespace Go.Proofs.YtlpginalgdbopaaW.PrintLast
section
variable {ops : Array Oper} {a : Act} {o og : Oper} {g : Nat} {t : Tmp} {u : Bool}
theorem wanted_on (hg : o.guard = some (g, u)) (ho : ops[g]? = some og) (hd : og.dst = some t) (hv : a.tmps[t]? = some (.bool u)) : Region.wanted o (yielded ops a.tmps) = true := by
 simp [Region.wanted, hg, yielded, ho, hd, hv]
theorem wanted_off (hg : o.guard = some (g, u)) (ho : ops[g]? = some og) (hd : og.dst = some t) (hv : a.tmps[t]? = some (.bool (!u))) : Region.wanted o (yielded ops a.tmps) = false := by
 cases u <;> simp_all [Region.wanted, yielded]
end
end Go.Proofs.YtlpginalgdbopaaW.PrintLast
