-- written by a program of this session: the kit's print, with outer functions of the session's own (wip/ext)
import Derived.Test.YtmnnmddfmmaohaaGreatProg
import Derived.Test.YtmnnmddfmmaohaaGreatVFnHead
import Derived.Below
import Derived.Deep.Draws
import Derived.Deep.AppendLies
import Derived.Maps.AppendAt
import Derived.OwnWalk
import Derived.Laws.BytesArg
import Derived.Laws.MakeOwn
import Derived.Laws.OwnMore
import Derived.Deep.OwnRows
import Derived.Tactics
import Derived.Lib.ConvBytes
import Derived.Laws.Slices
import Derived.WalkKit
import Derived.KernelRfl
import Derived.RowKit3
import Derived.Deep.LoopGhost
import Derived.Deep.QuietTactic
import Derived.BigQuiet
import Derived.WideLaws
import Derived.Deep.DeepCutAuto
import Derived.Deep.CutBlock
import Derived.Deep.RegionHeld3
import Derived.Laws.Rows
import Derived.Lib.AppendStr
import Derived.ArgAppend
import Derived.Laws.IdiomCopy
import Derived.OrdersHeld
import Derived.Laws.BitsLemmas
import Derived.RowKit
import Derived.Laws.Externs
import Derived.Lib.Strings
import Derived.Lib.Slices
import Derived.Lib.Walk
import Derived.Lib.Bytealg
import Derived.Lib.SliceRun
import Derived.Test.YtmnnmddfmmaohaaGreatTFnHead
import Derived.Test.YtmnnmddfmmaohaaGreatLays
import Derived.Shelf.Slices.In.SortNone2
import Derived.Sort.OwnSortedInts
namespace Go.Proofs.YtmnnmddfmmaohaaGreat.PFnHead
open Go.RowKit Go.Proofs.YtmnnmddfmmaohaaGreatW.PrintWords Go.Proofs.YtmnnmddfmmaohaaGreatW.PrintLast Go.Proofs.YtmnnmddfmmaohaaGreatW.PrintMore
attribute [local go_sem] max2_int min2_int max_two min_two max_three min_three max_four min_four   -- for this text's walks alone
set_option linter.unusedVariables false
set_option linter.unusedSimpArgs false
-- done by squeeze.py
@[reducible] def M_ (a b : Nat) : Array Bool := ⟨List.replicate a true ++ List.replicate b false⟩
def N_ (n v : Nat) : Array Bool := ⟨(List.range n).map (fun i => v.testBit i)⟩
theorem ka_ {p : Prop} (h : p := by simp only [Act.put, List.setIfInBounds_toArray, List.set_cons_zero, List.set_cons_succ, i64_w, i32_w]; rfl) : p := h
theorem k1_ {a0 g : Prop} (x0 : a0) (h : Aside0 a0 → g) : g := h ⟨x0⟩
theorem k2_ {a0 a1 g : Prop} (x0 : a0) (x1 : a1) (h : Aside0 a0 → Aside0 a1 → g) : g := h ⟨x0⟩ ⟨x1⟩
theorem k3_ {a0 a1 a2 g : Prop} (x0 : a0) (x1 : a1) (x2 : a2) (h : Aside0 a0 → Aside0 a1 → Aside0 a2 → g) : g := h ⟨x0⟩ ⟨x1⟩ ⟨x2⟩
theorem k4_ {a0 a1 a2 a3 g : Prop} (x0 : a0) (x1 : a1) (x2 : a2) (x3 : a3) (h : Aside0 a0 → Aside0 a1 → Aside0 a2 → Aside0 a3 → g) : g := h ⟨x0⟩ ⟨x1⟩ ⟨x2⟩ ⟨x3⟩
theorem k5_ {a0 a1 a2 a3 a4 g : Prop} (x0 : a0) (x1 : a1) (x2 : a2) (x3 : a3) (x4 : a4) (h : Aside0 a0 → Aside0 a1 → Aside0 a2 → Aside0 a3 → Aside0 a4 → g) : g := h ⟨x0⟩ ⟨x1⟩ ⟨x2⟩ ⟨x3⟩ ⟨x4⟩
theorem k6_ {a0 a1 a2 a3 a4 a5 g : Prop} (x0 : a0) (x1 : a1) (x2 : a2) (x3 : a3) (x4 : a4) (x5 : a5) (h : Aside0 a0 → Aside0 a1 → Aside0 a2 → Aside0 a3 → Aside0 a4 → Aside0 a5 → g) : g := h ⟨x0⟩ ⟨x1⟩ ⟨x2⟩ ⟨x3⟩ ⟨x4⟩ ⟨x5⟩
theorem k7_ {a0 a1 a2 a3 a4 a5 a6 g : Prop} (x0 : a0) (x1 : a1) (x2 : a2) (x3 : a3) (x4 : a4) (x5 : a5) (x6 : a6) (h : Aside0 a0 → Aside0 a1 → Aside0 a2 → Aside0 a3 → Aside0 a4 → Aside0 a5 → Aside0 a6 → g) : g := h ⟨x0⟩ ⟨x1⟩ ⟨x2⟩ ⟨x3⟩ ⟨x4⟩ ⟨x5⟩ ⟨x6⟩
theorem k8_ {a0 a1 a2 a3 a4 a5 a6 a7 g : Prop} (x0 : a0) (x1 : a1) (x2 : a2) (x3 : a3) (x4 : a4) (x5 : a5) (x6 : a6) (x7 : a7) (h : Aside0 a0 → Aside0 a1 → Aside0 a2 → Aside0 a3 → Aside0 a4 → Aside0 a5 → Aside0 a6 → Aside0 a7 → g) : g := h ⟨x0⟩ ⟨x1⟩ ⟨x2⟩ ⟨x3⟩ ⟨x4⟩ ⟨x5⟩ ⟨x6⟩ ⟨x7⟩
theorem k10_ {a0 a1 a2 a3 a4 a5 a6 a7 a8 a9 g : Prop} (x0 : a0) (x1 : a1) (x2 : a2) (x3 : a3) (x4 : a4) (x5 : a5) (x6 : a6) (x7 : a7) (x8 : a8) (x9 : a9) (h : Aside0 a0 → Aside0 a1 → Aside0 a2 → Aside0 a3 → Aside0 a4 → Aside0 a5 → Aside0 a6 → Aside0 a7 → Aside0 a8 → Aside0 a9 → g) : g := h ⟨x0⟩ ⟨x1⟩ ⟨x2⟩ ⟨x3⟩ ⟨x4⟩ ⟨x5⟩ ⟨x6⟩ ⟨x7⟩ ⟨x8⟩ ⟨x9⟩
theorem k11_ {a0 a1 a2 a3 a4 a5 a6 a7 a8 a9 a10 g : Prop} (x0 : a0) (x1 : a1) (x2 : a2) (x3 : a3) (x4 : a4) (x5 : a5) (x6 : a6) (x7 : a7) (x8 : a8) (x9 : a9) (x10 : a10) (h : Aside0 a0 → Aside0 a1 → Aside0 a2 → Aside0 a3 → Aside0 a4 → Aside0 a5 → Aside0 a6 → Aside0 a7 → Aside0 a8 → Aside0 a9 → Aside0 a10 → g) : g := h ⟨x0⟩ ⟨x1⟩ ⟨x2⟩ ⟨x3⟩ ⟨x4⟩ ⟨x5⟩ ⟨x6⟩ ⟨x7⟩ ⟨x8⟩ ⟨x9⟩ ⟨x10⟩
theorem bx1_ {w : World} {g : Nat} {t : TypeId} {a0 : Value} (h : w.heap[g]? = some (.cells #[a0] t (0, 0))) : w.cell? ⟨g, 0, none⟩ = some a0 ∧ w.frozen? ⟨g, 0, none⟩ = false := ⟨(blk_cell h 0).trans rfl, blk_frozen h 0⟩
theorem bx2_ {w : World} {g : Nat} {t : TypeId} {a0 a1 : Value} (h : w.heap[g]? = some (.cells #[a0, a1] t (0, 0))) : w.cell? ⟨g, 0, none⟩ = some a0 ∧ w.cell? ⟨g, 1, none⟩ = some a1 ∧ w.frozen? ⟨g, 0, none⟩ = false ∧ w.frozen? ⟨g, 1, none⟩ = false := ⟨(blk_cell h 0).trans rfl, (blk_cell h 1).trans rfl, blk_frozen h 0, blk_frozen h 1⟩
theorem bx3_ {w : World} {g : Nat} {t : TypeId} {a0 a1 a2 : Value} (h : w.heap[g]? = some (.cells #[a0, a1, a2] t (0, 0))) : w.cell? ⟨g, 0, none⟩ = some a0 ∧ w.cell? ⟨g, 1, none⟩ = some a1 ∧ w.cell? ⟨g, 2, none⟩ = some a2 ∧ w.frozen? ⟨g, 0, none⟩ = false ∧ w.frozen? ⟨g, 1, none⟩ = false ∧ w.frozen? ⟨g, 2, none⟩ = false := ⟨(blk_cell h 0).trans rfl, (blk_cell h 1).trans rfl, (blk_cell h 2).trans rfl, blk_frozen h 0, blk_frozen h 1, blk_frozen h 2⟩
theorem gl_ {P : Program} {ops : Array Oper} {Q : Exit → Act → World → Prop} {rest : List Oper} {oi : Oper} {a : Act} {w : World} {f : FuncId} {fn : Func} {ops_ : Array Operand} {ts : Array TypeId} (n : Tmp) (hf : P.funcs[f]? = some fn) (args : Array Value) (h : Calls P f args w fun e w' => ∃ v, e = .returned v ∧ wpList P ops Q rest (a.put (some n) v) w')
    (hd : oi.dst = some n := by exact rfl) (hg : oi.guard = none := by exact rfl) (hname : (fn.name == "runtime.NumGoroutine") = false := by kernel_rfl) (hb : fn.body.isSome = true := by exact rfl) (hop : oi.op = .call { callee := .value (.func f), args := ops_, argTypes := ts } := by exact rfl)
    (hargs : ops_.map a.eval = args := by (try simp only [List.map_toArray, List.map_cons, List.map_nil]); first | done | rfl | (simp only [List.length_drop, List.length_take]; rfl)) : wpList P ops Q (oi :: rest) a w := goesL_ (some n) hd hg hf hname hb args hop hargs h
theorem bv_ {P : Program} {ops : Array Oper} {Q : Exit → Act → World → Prop} {rest : List Oper} {o : Oper} {a : Act} {W : World} (N : Tmp) (t : TypeId) (cs : Array Value) (h : ∀ g, g = W.heap.size → ∀ w1, w1.heap[g]? = some (.cells cs t (0, 0)) → Below W.heap.size W w1 → wpList P ops Q rest (a.put o.dst (.pointer (some ⟨g, 0, none⟩))) w1)
    (hd : o.dst = some N := by rfl) (hg : o.guard = none := by rfl) (hr : (execOp a.eval o).run P W = .ok (.value (.pointer (some ⟨W.heap.size, 0, none⟩))) (W.alloc (.cells cs t (0, 0))) := by first | (go_simp; done) | (go_simp; rfl)) : wpList P ops Q (o :: rest) a W := box_event hg (N := N) hd hr h
theorem pu_ {P : Program} {md : Region.Mode} {ops : Array Oper} {Q : Exit → Act → World → Prop} {S : World → Prop} {ds : List Nat} {oi : Oper} {v : Value} {fuel : Nat} {l : Array Bool} {a a' : Act} {w : World} (i : Nat) (n : Tmp) (l' : Array Bool) (h : wpAnyLast P md ops Q S ds fuel l' a' w) (hi : ops[i]? = some oi := by exact rfl) (hN : oi.dst = some n := by exact rfl)
    (hc : anyB md ops l l' i = true := by exact any_of HT_.out (by kernel_rfl)) (hQ : ∀ c a w, Q (.panic c) (a.put oi.dst v) w → Q (.panic c) a w := by exact (fun _ _ _ h => h)) (hy : Region.wanted oi (yielded ops a.tmps) = true := by rfl) (hv : ∀ w, (execOp a.eval oi).run P w = .ok (.value v) w := by intro w'; go_simp; with_reducible rfl) (ha : a.put (some n) v = a' := by exact ka_) : wpAnyLast P md ops Q S ds (fuel + 1) l a w := pure_ l' hi hN hc hQ (Or.inl ⟨hy, hv⟩) ha h
theorem pn_ {P : Program} {md : Region.Mode} {ops : Array Oper} {Q : Exit → Act → World → Prop} {S : World → Prop} {ds : List Nat} {oi : Oper} {fuel : Nat} {l : Array Bool} {a a' : Act} {w : World} (i : Nat) (n : Tmp) (l' : Array Bool) (h : wpAnyLast P md ops Q S ds fuel l' a' w) (hi : ops[i]? = some oi := by exact rfl) (hN : oi.dst = some n := by exact rfl)
    (hc : anyB md ops l l' i = true := by exact any_of HT_.out (by kernel_rfl)) (hQ : ∀ c a w, Q (.panic c) (a.put oi.dst undef) w → Q (.panic c) a w := by exact (fun _ _ _ h => h)) (hy : Region.wanted oi (yielded ops a.tmps) = false := by rfl) (ha : a.put (some n) undef = a' := by exact ka_) : wpAnyLast P md ops Q S ds (fuel + 1) l a w := pure_ l' hi hN hc hQ (Or.inr ⟨hy, rfl⟩) ha h
theorem tk2_ {P : Program} {md : Region.Mode} {ops : Array Oper} {Q : Exit → Act → World → Prop} {S : World → Prop} {ds : List Nat} {oi : Oper} {v : Value} {fuel : Nat} {l : Array Bool} {a a' : Act} {w : World} (i : Nat) (n : Tmp) (l' : Array Bool) (hS : S w) (h : wpAnyLast P md ops Q S ds fuel l' a' w) (hi : ops[i]? = some oi := by exact rfl) (hN : oi.dst = some n := by exact rfl)
    (hc : takeB md ops ds l l' i = true := by exact take_ofW HT_.out HW_.out (by kernel_rfl)) (hQ : ∀ c a w, Q (.panic c) (a.put oi.dst v) w → Q (.panic c) a w := by exact (fun _ _ _ h => h)) (hy : Region.wanted oi (yielded ops a.tmps) = true := by rfl) (hv : ∀ w, S w → (execOp a.eval oi).run P w = .ok (.value v) w := by rintro w' ⟨s0, s1⟩; go_simp; with_reducible rfl) (ha : a.put (some n) v = a' := by exact ka_) : wpAnyLast P md ops Q S ds (fuel + 1) l a w := take_ l' hi hN hc hQ (Or.inl ⟨hy, hv⟩) hS ha h
theorem tk3_ {P : Program} {md : Region.Mode} {ops : Array Oper} {Q : Exit → Act → World → Prop} {S : World → Prop} {ds : List Nat} {oi : Oper} {v : Value} {fuel : Nat} {l : Array Bool} {a a' : Act} {w : World} (i : Nat) (n : Tmp) (l' : Array Bool) (hS : S w) (h : wpAnyLast P md ops Q S ds fuel l' a' w) (hi : ops[i]? = some oi := by exact rfl) (hN : oi.dst = some n := by exact rfl)
    (hc : takeB md ops ds l l' i = true := by exact take_ofW HT_.out HW_.out (by kernel_rfl)) (hQ : ∀ c a w, Q (.panic c) (a.put oi.dst v) w → Q (.panic c) a w := by exact (fun _ _ _ h => h)) (hy : Region.wanted oi (yielded ops a.tmps) = true := by rfl) (hv : ∀ w, S w → (execOp a.eval oi).run P w = .ok (.value v) w := by rintro w' ⟨s0, s1, s2⟩; go_simp; with_reducible rfl) (ha : a.put (some n) v = a' := by exact ka_) : wpAnyLast P md ops Q S ds (fuel + 1) l a w := take_ l' hi hN hc hQ (Or.inl ⟨hy, hv⟩) hS ha h
theorem tk4_ {P : Program} {md : Region.Mode} {ops : Array Oper} {Q : Exit → Act → World → Prop} {S : World → Prop} {ds : List Nat} {oi : Oper} {v : Value} {fuel : Nat} {l : Array Bool} {a a' : Act} {w : World} (i : Nat) (n : Tmp) (l' : Array Bool) (hS : S w) (h : wpAnyLast P md ops Q S ds fuel l' a' w) (hi : ops[i]? = some oi := by exact rfl) (hN : oi.dst = some n := by exact rfl)
    (hc : takeB md ops ds l l' i = true := by exact take_ofW HT_.out HW_.out (by kernel_rfl)) (hQ : ∀ c a w, Q (.panic c) (a.put oi.dst v) w → Q (.panic c) a w := by exact (fun _ _ _ h => h)) (hy : Region.wanted oi (yielded ops a.tmps) = true := by rfl) (hv : ∀ w, S w → (execOp a.eval oi).run P w = .ok (.value v) w := by rintro w' ⟨s0, s1, s2, s3⟩; go_simp; with_reducible rfl) (ha : a.put (some n) v = a' := by exact ka_) : wpAnyLast P md ops Q S ds (fuel + 1) l a w := take_ l' hi hN hc hQ (Or.inl ⟨hy, hv⟩) hS ha h
theorem tk6_ {P : Program} {md : Region.Mode} {ops : Array Oper} {Q : Exit → Act → World → Prop} {S : World → Prop} {ds : List Nat} {oi : Oper} {v : Value} {fuel : Nat} {l : Array Bool} {a a' : Act} {w : World} (i : Nat) (n : Tmp) (l' : Array Bool) (hS : S w) (h : wpAnyLast P md ops Q S ds fuel l' a' w) (hi : ops[i]? = some oi := by exact rfl) (hN : oi.dst = some n := by exact rfl)
    (hc : takeB md ops ds l l' i = true := by exact take_ofW HT_.out HW_.out (by kernel_rfl)) (hQ : ∀ c a w, Q (.panic c) (a.put oi.dst v) w → Q (.panic c) a w := by exact (fun _ _ _ h => h)) (hy : Region.wanted oi (yielded ops a.tmps) = true := by rfl) (hv : ∀ w, S w → (execOp a.eval oi).run P w = .ok (.value v) w := by rintro w' ⟨s0, s1, s2, s3, s4, s5⟩; go_simp; with_reducible rfl) (ha : a.put (some n) v = a' := by exact ka_) : wpAnyLast P md ops Q S ds (fuel + 1) l a w := take_ l' hi hN hc hQ (Or.inl ⟨hy, hv⟩) hS ha h
theorem tk9_ {P : Program} {md : Region.Mode} {ops : Array Oper} {Q : Exit → Act → World → Prop} {S : World → Prop} {ds : List Nat} {oi : Oper} {v : Value} {fuel : Nat} {l : Array Bool} {a a' : Act} {w : World} (i : Nat) (n : Tmp) (l' : Array Bool) (hS : S w) (h : wpAnyLast P md ops Q S ds fuel l' a' w) (hi : ops[i]? = some oi := by exact rfl) (hN : oi.dst = some n := by exact rfl)
    (hc : takeB md ops ds l l' i = true := by exact take_ofW HT_.out HW_.out (by kernel_rfl)) (hQ : ∀ c a w, Q (.panic c) (a.put oi.dst v) w → Q (.panic c) a w := by exact (fun _ _ _ h => h)) (hy : Region.wanted oi (yielded ops a.tmps) = true := by rfl) (hv : ∀ w, S w → (execOp a.eval oi).run P w = .ok (.value v) w := by rintro w' ⟨s0, s1, s2, s3, s4, s5, s6, s7, s8⟩; go_simp; with_reducible rfl) (ha : a.put (some n) v = a' := by exact ka_) : wpAnyLast P md ops Q S ds (fuel + 1) l a w := take_ l' hi hN hc hQ (Or.inl ⟨hy, hv⟩) hS ha h
theorem Z165 {p : Prop} (h : p := by have := HK1.out; have := AA.out; have := HK3.out; omega) : p := h
theorem Z164 {p q : Prop} (x_ : Aside0 q) (h : q → p := by intro h_; (with_reducible repeat (first | apply Kd.R_alloc | apply Kd.R_drewN | apply Kd.R_drew)); exact Kd.R_mono h_ (fun _ hk => (by simp [Value.ownBlock]))) : p := h x_.out
theorem Z163 {p q : Prop} (x_ : Aside0 q) (h : q → p := by intro h_; (with_reducible repeat (first | apply Kd.R_alloc | apply Kd.R_drewN | apply Kd.R_drew)); exact Kd.R_mono h_ (fun _ hk => ⟨⟨hk.1.1.2, hk.1.2⟩, hk.2⟩)) : p := h x_.out
theorem Z162 {p q : Prop} (x_ : Aside0 q) (h : q → p := by intro h_; (with_reducible repeat (first | apply Kd.R_alloc | apply Kd.R_drewN | apply Kd.R_drew)); exact Kd.R_mono h_ (fun _ hk => ⟨⟨hk.1.1.2, hk.2⟩, hk.1.2⟩)) : p := h x_.out
theorem Z161 {p q : Prop} (x_ : Aside0 q) (h : q → p := by intro h_; (with_reducible repeat (first | apply Kd.R_alloc | apply Kd.R_drewN | apply Kd.R_drew)); exact Kd.R_mono h_ (fun _ hk => ⟨hk.1.1.2, ⟨hk.2, hk.1.2⟩⟩)) : p := h x_.out
theorem Z160 {p q : Prop} (x_ : Aside0 q) (h : q → p := by intro h_; (with_reducible repeat (first | apply Kd.R_alloc | apply Kd.R_drewN | apply Kd.R_drew)); exact Kd.R_mono h_ (fun _ hk => ⟨hk.1.2, ⟨hk.1.1.2, hk.2⟩⟩)) : p := h x_.out
theorem Z159 {p : Prop} (h : p := by have := HK1.out; have := sB.out; omega) : p := h
theorem Z158 {p q : Prop} (x_ : Aside0 q) (h : q → p := by intro h_; (with_reducible repeat (first | apply Kd.R_alloc | apply Kd.R_drewN | apply Kd.R_drew)); exact Kd.R_mono h_ (fun _ hk => ⟨⟨hk.2.1, ⟨hk.2.2.1, hk.2.2.2⟩⟩, hk.1⟩)) : p := h x_.out
theorem Z157 {p q : Prop} (x_ : Aside0 q) (h : q → p := by intro h_; (with_reducible repeat (first | apply Kd.R_alloc | apply Kd.R_drewN | apply Kd.R_drew)); exact Kd.R_mono h_ (fun _ hk => ⟨hk.2.1, ⟨hk.2.2.1, ⟨hk.1, hk.2.2.2⟩⟩⟩)) : p := h x_.out
theorem Z156 {p q : Prop} (x_ : Aside0 q) (h : q → p := by intro h_; (with_reducible repeat (first | apply Kd.R_alloc | apply Kd.R_drewN | apply Kd.R_drew)); exact Kd.R_mono h_ (fun _ hk => ⟨⟨hk.1.1.1.2, ⟨hk.1.1.2, hk.1.2⟩⟩, hk.2⟩)) : p := h x_.out
theorem Z155 {p q : Prop} (x_ : Aside0 q) (h : q → p := by intro h_; (with_reducible repeat (first | apply Kd.R_alloc | apply Kd.R_drewN | apply Kd.R_drew)); exact Kd.R_mono h_ (fun _ hk => ⟨hk.1.1.1.2, ⟨hk.1.1.2, ⟨hk.1.2, hk.2⟩⟩⟩)) : p := h x_.out
theorem Z154 {p q : Prop} (x_ : Aside0 q) (h : q → p := by intro h_; (with_reducible repeat (first | apply Kd.R_alloc | apply Kd.R_drewN | apply Kd.R_drew)); exact Kd.R_mono h_ (fun _ hk => ⟨⟨hk.1.1.1.2, ⟨hk.1.1.2, hk.2⟩⟩, hk.1.2⟩)) : p := h x_.out
theorem Z153 {p q : Prop} (x_ : Aside0 q) (h : q → p := by intro h_; (with_reducible repeat (first | apply Kd.R_alloc | apply Kd.R_drewN | apply Kd.R_drew)); exact Kd.R_mono h_ (fun _ hk => ⟨hk.1.1.1.2, ⟨hk.1.1.2, ⟨hk.2, hk.1.2⟩⟩⟩)) : p := h x_.out
theorem Z152 {p q : Prop} (x_ : Aside0 q) (h : q → p := by intro h_; (with_reducible repeat (first | apply Kd.R_alloc | apply Kd.R_drewN | apply Kd.R_drew)); exact Kd.R_mono h_ (fun _ hk => ⟨hk.1.2, ⟨hk.1.1.1.2, ⟨hk.1.1.2, hk.2⟩⟩⟩)) : p := h x_.out
theorem Z151 {p : Prop} (h : p := by have := rA.out; have := gy.out; have := lx.out; have := qE.out; have := sC.out; have := HK6.out; first | omega | exact Nat.le_refl _) : p := h
theorem Z150 {p : Prop} (h : p := by (with_reducible repeat (first | apply Kd.R_alloc | apply Kd.R_drewN | apply Kd.R_drew)); exact Kd.R_mono aj.out (fun _ hk => ⟨hk.1.2, ⟨hk.2, hk.1.1⟩⟩)) : p := h
theorem Z149 {p : Prop} (h : p := by rw [hg]; exact (below_size (Z54))) : p := h
theorem Z148 {p : Prop} (h : p := by rw [hg]; exact (below_size (Z22))) : p := h
theorem Z147 {p : Prop} (h : p := by rw [hg]; exact (below_size (Z52))) : p := h
theorem Z146 {p : Prop} (h : p := by have h_ : (19 : Int) < ((az.length : Int) : Int) := of_decide_eq_true (Z4); first | exact h_ | (have e_ := (Kd.R_reads' am.out).1; omega) | simpa using h_) : p := h
theorem Z145 {p : Prop} (h : p := by have h_ : (a2 : Int) < ((cZ.length : Int) : Int) := of_decide_eq_true (Z4); first | exact h_ | (have e_ := (Kd.R_reads' cP.out).1; omega) | simpa using h_) : p := h
theorem Z144 {p : Prop} (h : p := by have h_ : (a1 : Int) < ((cZ.length : Int) : Int) := of_decide_eq_true (Z4); first | exact h_ | (have e_ := (Kd.R_reads' cP.out).1; omega) | simpa using h_) : p := h
theorem Z143 {p : Prop} (h : p := by have h_ : (a2 : Int) < ((bD.length : Int) : Int) := of_decide_eq_true (Z4); first | exact h_ | (have e_ := (Kd.R_reads' cz.out).1; omega) | simpa using h_) : p := h
theorem Z142 {p : Prop} (h : p := by have h_ : (a1 : Int) < ((bD.length : Int) : Int) := of_decide_eq_true (Z4); first | exact h_ | (have e_ := (Kd.R_reads' cz.out).1; omega) | simpa using h_) : p := h
theorem Z141 {p : Prop} (h : p := by (with_reducible repeat (first | refine blk_drewN ?_ _ | refine blk_drew ?_ | refine blk_alloc ?_ _)); exact ((Below.heap_setCell _ _ _ _ NIR.out).trans BKI.out)) : p := h
theorem Z140 {p : Prop} (h : p := by have h_ : (aU : Int) < ((aY.length : Int) : Int) := of_decide_eq_true (Z4); first | exact h_ | (have e_ := (Kd.R_reads' aI.out).1; omega) | simpa using h_) : p := h
theorem Z139 {p : Prop} (h : p := by repeat (first | (with_reducible first | exact HB.out | apply below_alloc | apply pw_below_drewN | apply below_drew1 | refine below_set ?_ GEI.out) | exact HB.out)) : p := h
theorem Z138 {p : Prop} (h : p := by repeat (first | (with_reducible first | exact HB.out | apply below_alloc | apply pw_below_drewN | apply below_drew1 | refine below_set ?_ GE564.out) | exact HB.out)) : p := h
theorem Z137 {p : Prop} (h : p := by repeat (first | (with_reducible first | exact HB.out | apply below_alloc | apply pw_below_drewN | apply below_drew1 | refine below_set ?_ GE555.out) | exact HB.out)) : p := h
theorem Z136 {p : Prop} (h : p := by repeat (first | (with_reducible first | exact HB.out | apply below_alloc | apply pw_below_drewN | apply below_drew1 | refine below_set ?_ wC.out) | exact HB.out)) : p := h
theorem Z135 {p : Prop} (h : p := by (try simp only [List.map_toArray, List.map_cons, List.map_nil]); first | done | (simp only [hji4]; rfl) | rfl | (simp only [List.length_drop, List.length_take]; rfl)) : p := h
theorem Z134 {p : Prop} (h : p := by (try simp only [List.map_toArray, List.map_cons, List.map_nil]); first | done | (simp only [hji9]; rfl) | rfl | (simp only [List.length_drop, List.length_take]; rfl)) : p := h
theorem Z133 {p : Prop} (h : p := by first | rfl | (simp [errW_none, errW_some] <;> rfl) | (simp only [← hji9]; first | rfl | (simp [errW_none, errW_some] <;> rfl)) | (simp [*, errW_none, errW_some] <;> rfl)) : p := h
theorem Z132 {p : Prop} (h : p := by repeat (first | exact (Kd.C_below HR0.out (Z2)) | (with_reducible refine Kd.C_alloc ?_ _) | (with_reducible refine Kd.C_drewN ?_ _) | (with_reducible refine Kd.C_drew ?_))) : p := h
theorem Z131 {p : Prop} (h : p := by injection e681) : p := h
theorem Z130 {p : Prop} (h : p := by rw [hg]; exact Nat.ne_of_lt (blk_lt (g := gI) (o := .cells #[.int .i64 bx] 3 (0, 0)) (Z6 BKI))) : p := h
theorem Z129 {p : Prop} (h : p := by rw [hg]; exact (below_size (by repeat (first | (with_reducible first | exact HB.out | apply below_alloc | apply pw_below_drewN | apply below_drew1 | refine below_set ?_ GEI.out | refine below_set ?_ GER.out) | exact HB.out)))) : p := h
theorem Z128 {p : Prop} (h : p := by rw [hg]; exact Nat.ne_of_gt (blk_lt (g := d6) (o := .cells #[.int .i64 a0_0, .int .i64 a0_1] 30 (0, 0)) (Z6 d7))) : p := h
theorem Z127 {p : Prop} (h : p := by rw [hg]; exact Nat.ne_of_lt (blk_lt (g := d6) (o := .cells #[.int .i64 a0_0, .int .i64 a0_1] 30 (0, 0)) (Z6 d7))) : p := h
theorem Z126 {p : Prop} (h : p := by rw [hg]; exact Nat.ne_of_gt (IsS45.lt (show IsS45 w0 _ g s0_0 ly lz from Z27))) : p := h
theorem Z125 {p : Prop} (h : p := by rw [hg]; exact Nat.ne_of_lt (IsS45.lt (show IsS45 w0 _ g s0_0 ly lz from Z27))) : p := h
theorem Z124 {p : Prop} (h : p := by (try simp only [List.map_toArray, List.map_cons, List.map_nil]); first | done | rfl) : p := h
theorem Z123 {p : Prop} (h : p := by repeat (first | (with_reducible first | exact HB.out | apply below_alloc | apply pw_below_drewN | apply below_drew1 | refine below_set ?_ GB25.out | refine below_set ?_ GB25.out | refine below_set ?_ GB25.out | refine below_set ?_ GB25.out) | exact HB.out)) : p := h
theorem Z122 {p : Prop} (h : p := by rw [hg]; exact Nat.ne_of_gt (blk_lt (g := d8) (o := .cells #[.int .i64 a0_0, .int .i64 a0_1, .int .i64 a0_2] 76 (0, 0)) (Z6 d9))) : p := h
theorem Z121 {p : Prop} (h : p := by rw [hg]; exact Nat.ne_of_lt (blk_lt (g := d8) (o := .cells #[.int .i64 a0_0, .int .i64 a0_1, .int .i64 a0_2] 76 (0, 0)) (Z6 d9))) : p := h
theorem Z120 {p : Prop} (h : p := by have := rA.out; have := gy.out; first | omega | exact Nat.le_refl _) : p := h
theorem Z119 {p : Prop} (h : p := by repeat (first | exact (Z11 HR629) | (with_reducible refine Kd.C_alloc ?_ _) | (with_reducible refine Kd.C_drewN ?_ _) | (with_reducible refine Kd.C_drew ?_))) : p := h
theorem Z118 {p : Prop} (h : p := by repeat (first | exact (Z11 HR606) | (with_reducible refine Kd.C_alloc ?_ _) | (with_reducible refine Kd.C_drewN ?_ _) | (with_reducible refine Kd.C_drew ?_))) : p := h
theorem Z117 {p : Prop} (h : p := by repeat (first | exact (Z11 HR178) | (with_reducible refine Kd.C_alloc ?_ _) | (with_reducible refine Kd.C_drewN ?_ _) | (with_reducible refine Kd.C_drew ?_))) : p := h
theorem Z116 {p : Prop} (h : p := by repeat (first | exact (Z11 HR155) | (with_reducible refine Kd.C_alloc ?_ _) | (with_reducible refine Kd.C_drewN ?_ _) | (with_reducible refine Kd.C_drew ?_))) : p := h
theorem Z115 {p q : Prop} (x_ : Aside0 q) (h : q → p := by intro h_; have := h_; have := HK2.out; omega) : p := h x_.out
theorem Z114 {p q : Prop} (x_ : Aside0 q) (h : q → p := by intro h_; (with_reducible repeat (first | apply Kd.R_alloc | apply Kd.R_drewN | apply Kd.R_drew)); exact (Kd.R_far (p := ⟨gI, 0, none⟩) h_ (fun _ hk => hk.2) (.int .i64 bx))) : p := h x_.out
theorem Z113 {p : Prop} (h : p := by have := rA.out; have := gy.out; have := lx.out; have := HK4.out; first | omega | exact Nat.le_refl _) : p := h
theorem Z112 {p : Prop} (h : p := by have := rA.out; have := gy.out; have := lx.out; have := qE.out; first | omega | exact Nat.le_refl _) : p := h
theorem Z111 {p q : Prop} (x_ : Aside0 q) (h : q → p := by intro h_; (with_reducible repeat (first | apply Kd.R_alloc | apply Kd.R_drewN | apply Kd.R_drew)); exact Kd.R_mono (Kd.R_far (p := ⟨aq, 1, none⟩) (Kd.R_far (p := ⟨aq, 0, none⟩) (Kd.R_mono h_ (fun k_ hk => (⟨hk, hk.2⟩ : _ ∧ k_ ≠ aq))) (fun _ hk => hk.2) (.int .i64 ((rd_T30 l0 ah).f0))) (fun _ hk => hk.2) (.int .i64 ((rd_T30 l0 ah).f1))) (fun _ hk => hk.1.1)) : p := h x_.out
theorem Z110 {p : Prop} (h : p := by repeat (first | (with_reducible first | exact HB.out | apply below_alloc | apply pw_below_drewN | apply below_drew1 | refine below_set ?_ GE208.out) | exact HB.out)) : p := h
theorem Z109 {p : Prop} (h : p := by repeat (first | (with_reducible first | exact HB.out | apply below_alloc | apply pw_below_drewN | apply below_drew1 | refine below_set ?_ wD.out) | exact HB.out)) : p := h
theorem Z108 {p : Prop} (h : p := by repeat (first | (with_reducible first | exact HB.out | apply below_alloc | apply pw_below_drewN | apply below_drew1 | refine below_set ?_ sD.out) | exact HB.out)) : p := h
theorem Z107 {p : Prop} (h : p := by rw [hg]; exact Nat.ne_of_gt (IsS45.lt (show IsS45 w0 _ g s0_0 s0_1 s0_2 from Z3 HI0))) : p := h
theorem Z106 {p : Prop} (h : p := by rw [hg]; exact Nat.ne_of_lt (IsS45.lt (show IsS45 w0 _ g s0_0 s0_1 s0_2 from Z3 HI0))) : p := h
theorem Z105 {p q : Prop} (x_ : Aside0 q) (h : q → p := by intro h_; (with_reducible repeat (first | apply Kd.R_alloc | apply Kd.R_drewN | apply Kd.R_drew)); exact Kd.R_mono (Kd.R_far (p := ⟨aq, 1, none⟩) (Kd.R_far (p := ⟨aq, 0, none⟩) (Kd.R_mono h_ (fun k_ hk => (⟨hk, hk.2⟩ : _ ∧ k_ ≠ aq))) (fun _ hk => hk.2) (.int .i64 ((rd_T30 l0 ah).f0))) (fun _ hk => hk.2) (.int .i64 ((rd_T30 l0 ah).f1))) (fun _ hk => ⟨hk.1.1, hk.1.2⟩)) : p := h x_.out
theorem Z104 {p q : Prop} (x_ : Aside0 q) (h : q → p := by intro h_; (with_reducible repeat (first | apply Kd.R_alloc | apply Kd.R_drewN | apply Kd.R_drew)); exact Kd.R_mono h_ (fun _ hk => hk.1)) : p := h x_.out
theorem Z103 {p q : Prop} (x_ : Aside0 q) (h : q → p := by intro h_; (with_reducible repeat (first | apply Kd.R_alloc | apply Kd.R_drewN | apply Kd.R_drew)); exact Kd.R_mono h_ (fun _ hk => hk.1.1)) : p := h x_.out
theorem Z102 {p : Prop} (h : p := by repeat (first | (with_reducible first | exact HB.out | apply below_alloc | apply pw_below_drewN | apply below_drew1 | refine below_set ?_ (IsS45.ge HI581.out)) | exact HB.out)) : p := h
theorem Z101 {p q : Prop} (x_ : Aside0 q) (h : q → p := by intro h_; (with_reducible repeat (first | apply Kd.R_alloc | apply Kd.R_drewN | apply Kd.R_drew)); exact Kd.R_mono h_ (fun _ hk => ⟨hk.2, hk.1.2⟩)) : p := h x_.out
theorem Z100 {p : Prop} (h : p := by rw [hg]; exact Nat.ne_of_gt (blk_lt (g := bd) (o := .cells #[.int .i64 ((rd_T76 l0 aA).f0), .int .i64 ((rd_T76 l0 aA).f1), .int .i64 ((rd_T76 l0 aA).f2)] 76 (0, 0)) (Z6 aG))) : p := h
theorem Z99 {p : Prop} (h : p := by rw [hg]; exact Nat.ne_of_lt (blk_lt (g := bd) (o := .cells #[.int .i64 ((rd_T76 l0 aA).f0), .int .i64 ((rd_T76 l0 aA).f1), .int .i64 ((rd_T76 l0 aA).f2)] 76 (0, 0)) (Z6 aG))) : p := h
theorem Z98 {p : Prop} (h : p := by rw [hg]; exact Nat.ne_of_gt (blk_lt (g := bg) (o := .cells #[.int .i64 0, .int .i64 0, .int .i64 0] 76 (0, 0)) (Z6 aT))) : p := h
theorem Z97 {p : Prop} (h : p := by rw [hg]; exact Nat.ne_of_lt (blk_lt (g := bg) (o := .cells #[.int .i64 0, .int .i64 0, .int .i64 0] 76 (0, 0)) (Z6 aT))) : p := h
theorem Z96 {p q : Prop} (x_ : Aside0 q) (h : q → p := by intro h_; have := h_; first | omega | exact Nat.le_refl _) : p := h x_.out
theorem Z95 {p : Prop} (h : p := by repeat (first | (with_reducible first | exact HB.out | apply below_alloc | apply pw_below_drewN | apply below_drew1 | refine below_set ?_ qF.out | refine below_set ?_ GER.out) | exact HB.out)) : p := h
theorem Z94 {p : Prop} (h : p := by repeat (first | (with_reducible first | exact HB.out | apply below_alloc | apply pw_below_drewN | apply below_drew1 | refine below_set ?_ wD.out | refine below_set ?_ GE463.out) | exact HB.out)) : p := h
theorem Z93 {p : Prop} (h : p := by repeat (first | (with_reducible first | exact HB.out | apply below_alloc | apply pw_below_drewN | apply below_drew1 | refine below_set ?_ wE.out | refine below_set ?_ sE.out) | exact HB.out)) : p := h
theorem Z92 {p : Prop} (h : p := by repeat (first | (with_reducible first | exact HB.out | apply below_alloc | apply pw_below_drewN | apply below_drew1 | refine below_set ?_ qG.out | refine below_set ?_ sF.out) | exact HB.out)) : p := h
theorem Z91 {p q : Prop} (x_ : Aside0 q) (h : q → p := by intro h_; (with_reducible repeat (first | apply Kd.R_alloc | apply Kd.R_drewN | apply Kd.R_drew)); exact Kd.R_mono h_ (fun _ hk => ⟨hk.1.1.2, ⟨hk.1.2, hk.2⟩⟩)) : p := h x_.out
theorem Z90 {p : Prop} (h : p := by (with_reducible repeat (first | refine blk_drewN ?_ _ | refine blk_drew ?_ | refine blk_alloc ?_ _)); exact ((Below.heap_setCell _ _ _ _ NRX.out).trans ((Below.heap_setCell _ _ _ _ NRX.out).trans BKR.out))) : p := h
theorem Z89 {p : Prop} (h : p := by (with_reducible repeat (first | refine blk_drewN ?_ _ | refine blk_drew ?_ | refine blk_alloc ?_ _)); exact ((Below.heap_setCell _ _ _ _ NIX.out).trans ((Below.heap_setCell _ _ _ _ NIX.out).trans BKI.out))) : p := h
theorem Z88 {p q : Prop} (x_ : Aside0 q) (h : q → p := by intro h_; (with_reducible repeat (first | apply Kd.R_alloc | apply Kd.R_drewN | apply Kd.R_drew)); exact (Kd.R_mono (Kd.R_far (p := ⟨bp, 2, none⟩) (Kd.R_far (p := ⟨bp, 1, none⟩) (Kd.R_far (p := ⟨bp, 0, none⟩) (Kd.R_mono h_ (fun k_ hk => (⟨hk, hk.2⟩ : _ ∧ k_ ≠ bp))) (fun _ hk => hk.2) (.int .i64 ((rd_T76 aN ay).f0))) (fun _ hk => hk.2) (.int .i64 ((rd_T76 aN ay).f1))) (fun _ hk => hk.2) (.int .i64 ((rd_T76 aN ay).f2))) (fun _ h_ => h_.1))) : p := h x_.out
theorem Z87 {p q : Prop} (x_ : Aside0 q) (h : q → p := by intro h_; (with_reducible repeat (first | apply Kd.R_alloc | apply Kd.R_drewN | apply Kd.R_drew)); exact Kd.R_mono (Kd.R_far (p := ⟨bp, 2, none⟩) (Kd.R_far (p := ⟨bp, 1, none⟩) (Kd.R_far (p := ⟨bp, 0, none⟩) (Kd.R_mono h_ (fun k_ hk => (⟨hk, hk.2⟩ : _ ∧ k_ ≠ bp))) (fun _ hk => hk.2) (.int .i64 ((rd_T76 aN ay).f0))) (fun _ hk => hk.2) (.int .i64 ((rd_T76 aN ay).f1))) (fun _ hk => hk.2) (.int .i64 ((rd_T76 aN ay).f2))) (fun _ hk => ⟨hk.1.1, hk.1.2⟩)) : p := h x_.out
theorem Z86 {p : Prop} (h : p := by rw [hg]; exact (keep_size (w := w) (g := g) (row := none) (Z32))) : p := h
theorem Z85 {p q : Prop} (x_ : Aside0 q) (h : q → p := by intro h_; (with_reducible repeat (first | apply Kd.R_alloc | apply Kd.R_drewN | apply Kd.R_drew)); exact Kd.R_mono h_ (fun _ hk => ⟨hk.2.2.1, ⟨hk.1, ⟨hk.2.1, hk.2.2.2⟩⟩⟩)) : p := h x_.out
theorem Z84 {p q : Prop} (x_ : Aside0 q) (h : q → p := by intro h_; (with_reducible repeat (first | apply Kd.R_alloc | apply Kd.R_drewN | apply Kd.R_drew)); exact Kd.R_mono h_ (fun _ hk => ⟨hk.1.2, ⟨hk.2, ⟨hk.1.1.1, hk.1.1.2⟩⟩⟩)) : p := h x_.out
theorem Z83 {p : Prop} (h : p := by (with_reducible repeat (first | refine blk_drewN ?_ _ | refine blk_drew ?_ | refine blk_alloc ?_ _)); refine blk_put (cs := #[.int .i64 ((rd_T30 l0 bl).f0), .int .i64 0]) ?_ 1 _ rfl; (with_reducible repeat (first | refine blk_drewN ?_ _ | refine blk_drew ?_ | refine blk_alloc ?_ _)); refine blk_put (cs := #[.int .i64 0, .int .i64 0]) ?_ 0 _ rfl; (with_reducible repeat (first | refine blk_drewN ?_ _ | refine blk_drew ?_ | refine blk_alloc ?_ _)); exact iD.out) : p := h
theorem Z82 {p : Prop} (h : p := by have h_ : (bw : Int) < ((bf.length : Int) : Int) := of_decide_eq_true (Z4); first | exact h_ | (have e_ := (Kd.R_reads' am.out).1; omega) | simpa using h_) : p := h
theorem Z81 {p : Prop} (h : p := by have := HK1.out; have := HK2.out; have := HK3.out; omega) : p := h
theorem Z80 {p : Prop} (h : p := by repeat (first | (with_reducible first | exact HB.out | apply below_alloc | apply pw_below_drewN | apply below_drew1 | refine below_set ?_ GER.out) | exact HB.out)) : p := h
theorem Z79 {p : Prop} (h : p := by repeat (first | (with_reducible first | exact HB.out | apply below_alloc | apply pw_below_drewN | apply below_drew1 | refine below_set ?_ wF.out) | exact HB.out)) : p := h
theorem Z78 {p : Prop} (h : p := by repeat (first | (with_reducible first | exact HB.out | apply below_alloc | apply pw_below_drewN | apply below_drew1 | refine below_set ?_ qH.out) | exact HB.out)) : p := h
theorem Z77 {p q : Prop} (x_ : Aside0 q) (h : q → p := by intro h_; (with_reducible repeat (first | apply Kd.R_alloc | apply Kd.R_drewN | apply Kd.R_drew)); exact Kd.R_mono h_ (fun _ hk => ⟨hk.1.2, hk.2⟩)) : p := h x_.out
theorem Z76 {p q : Prop} (x_ : Aside0 q) (h : q → p := by intro h_; have := h_; omega) : p := h x_.out
theorem Z75 {p : Prop} (h : p := by repeat (first | (with_reducible first | exact HB.out | apply below_alloc | apply pw_below_drewN | apply below_drew1 | refine below_set ?_ (IsS45.ge HI569.out)) | exact HB.out)) : p := h
theorem Z74 {p : Prop} (h : p := by repeat (first | (with_reducible first | exact HB.out | apply below_alloc | apply pw_below_drewN | apply below_drew1 | refine below_set ?_ (IsS45.ge HI527.out)) | exact HB.out)) : p := h
theorem Z73 {p : Prop} (h : p := by (with_reducible repeat (first | refine blk_drewN ?_ _ | refine blk_drew ?_ | refine blk_alloc ?_ _)); refine blk_far ?_ cY.out _; (with_reducible repeat (first | refine blk_drewN ?_ _ | refine blk_drew ?_ | refine blk_alloc ?_ _)); refine blk_far ?_ cY.out _; (with_reducible repeat (first | refine blk_drewN ?_ _ | refine blk_drew ?_ | refine blk_alloc ?_ _)); refine blk_far ?_ cY.out _; (with_reducible repeat (first | refine blk_drewN ?_ _ | refine blk_drew ?_ | refine blk_alloc ?_ _)); exact aG.out) : p := h
theorem Z72 {p q : Prop} (x_ : Aside0 q) (h : q → p := by intro h_; (with_reducible repeat (first | apply Kd.R_alloc | apply Kd.R_drewN | apply Kd.R_drew)); exact Kd.R_mono (Kd.R_far (p := ⟨cM, 1, none⟩) (Kd.R_far (p := ⟨cM, 0, none⟩) h_ (fun _ hk => hk.2) (.int .i64 ((rd_T30 l0 bq).f0))) (fun _ hk => hk.2) (.int .i64 ((rd_T30 l0 bq).f1))) (fun _ hk => hk.1)) : p := h x_.out
theorem Z71 {p q : Prop} (x_ : Aside0 q) (h : q → p := by intro h_; (with_reducible repeat (first | apply Kd.R_alloc | apply Kd.R_drewN | apply Kd.R_drew)); exact Kd.R_mono h_ (fun _ hk => ⟨hk.2, hk.1⟩)) : p := h x_.out
theorem Z70 {p : Prop} (h : p := by rw [hg]; exact (keep_size (w := w) (g := g) (row := none) (Z7))) : p := h
theorem Z69 {p : Prop} (h : p := by first | (rw [add_block]; exact Kd.own_blk (IsS45.own_ne HI0.out am.out (by decide))) | (show (Addr.add _ _).block ≠ _; rw [add_block]; exact Kd.own_blk (IsS45.own_ne HI0.out am.out (by decide))) | exact Kd.own_blk (IsS45.own_ne HI0.out am.out (by decide)) | exact Kd.own_blk (ad := js) (IsS45.own_ne HI0.out am.out (by decide))) : p := h
theorem Z68 {p : Prop} (h : p := by first | omega | exact Nat.le_refl _) : p := h
theorem Z67 {p q : Prop} (x_ : Aside0 q) (h : q → p := by intro h_; (with_reducible repeat (first | apply Kd.R_alloc | apply Kd.R_drewN | apply Kd.R_drew)); exact Kd.R_mono h_ (fun _ hk => ⟨hk.2.1, ⟨hk.1, hk.2.2⟩⟩)) : p := h x_.out
theorem Z66 {p : Prop} (h : p := by (with_reducible repeat (first | refine blk_drewN ?_ _ | refine blk_drew ?_ | refine blk_alloc ?_ _)); refine blk_put (cs := #[.int .i64 ((rd_T76 aN ay).f0), .int .i64 ((rd_T76 aN ay).f1), .int .i64 0]) ?_ 2 _ rfl; (with_reducible repeat (first | refine blk_drewN ?_ _ | refine blk_drew ?_ | refine blk_alloc ?_ _)); refine blk_put (cs := #[.int .i64 ((rd_T76 aN ay).f0), .int .i64 0, .int .i64 0]) ?_ 1 _ rfl; (with_reducible repeat (first | refine blk_drewN ?_ _ | refine blk_drew ?_ | refine blk_alloc ?_ _)); refine blk_put (cs := #[.int .i64 0, .int .i64 0, .int .i64 0]) ?_ 0 _ rfl; (with_reducible repeat (first | refine blk_drewN ?_ _ | refine blk_drew ?_ | refine blk_alloc ?_ _)); exact aW.out) : p := h
theorem Z65 {p q : Prop} (x_ : Aside0 q) (h : q → p := by intro h_; (with_reducible repeat (first | apply Kd.R_alloc | apply Kd.R_drewN | apply Kd.R_drew)); exact Kd.R_mono h_ (fun _ hk => ⟨hk.2, ⟨hk.1.1, ⟨hk.1.2.1, hk.1.2.2⟩⟩⟩)) : p := h x_.out
theorem Z64 {p q : Prop} (x_ : Aside0 q) (h : q → p := by intro h_; (with_reducible repeat (first | apply Kd.R_alloc | apply Kd.R_drewN | apply Kd.R_drew)); exact (Kd.R_far (p := ⟨cM, 1, none⟩) (Kd.R_far (p := ⟨cM, 0, none⟩) h_ (fun _ hk => hk.2) (.int .i64 ((rd_T30 l0 bq).f0))) (fun _ hk => hk.2) (.int .i64 ((rd_T30 l0 bq).f1)))) : p := h x_.out
theorem Z63 {p q : Prop} (x_ : Aside0 q) (h : q → p := by intro h_; (with_reducible repeat (first | refine blk_drewN ?_ _ | refine blk_drew ?_ | refine blk_alloc ?_ _)); refine blk_put (cs := #[.int .i64 ((rd_T30 l0 ah).f0), .int .i64 0]) ?_ 1 _ rfl; (with_reducible repeat (first | refine blk_drewN ?_ _ | refine blk_drew ?_ | refine blk_alloc ?_ _)); refine blk_put (cs := #[.int .i64 0, .int .i64 0]) ?_ 0 _ rfl; (with_reducible repeat (first | refine blk_drewN ?_ _ | refine blk_drew ?_ | refine blk_alloc ?_ _)); exact h_) : p := h x_.out
theorem Z62 {p : Prop} (h : p := by (with_reducible repeat (first | apply Kd.R_alloc | apply Kd.R_drewN | apply Kd.R_drew)); exact Kd.R_mono aj.out (fun _ hk => ⟨⟨hk.1.2, hk.1.1⟩, hk.2⟩)) : p := h
theorem Z61 {p : Prop} (h : p := by (with_reducible repeat (first | apply Kd.R_alloc | apply Kd.R_drewN | apply Kd.R_drew)); exact Kd.R_mono aj.out (fun _ hk => ⟨⟨hk.2, hk.1.1⟩, hk.1.2⟩)) : p := h
theorem Z60 {p q : Prop} (x_ : Aside0 q) (h : q → p := by intro h_; (with_reducible repeat (first | apply Kd.R_alloc | apply Kd.R_drewN | apply Kd.R_drew)); exact Kd.R_mono h_ (fun _ hk => ⟨hk.2, ⟨hk.1.2.1, ⟨hk.1.1, hk.1.2.2⟩⟩⟩)) : p := h x_.out
theorem Z59 {p : Prop} (h : p := by (with_reducible repeat (first | refine blk_drewN ?_ _ | refine blk_drew ?_ | refine blk_alloc ?_ _)); refine blk_put (cs := #[.int .i64 ((rd_T76 aN ay).f0), .int .i64 ((rd_T76 aN ay).f1), .int .i64 ((rd_T76 aN ay).f2)]) ?_ 2 _ rfl; (with_reducible repeat (first | refine blk_drewN ?_ _ | refine blk_drew ?_ | refine blk_alloc ?_ _)); exact aW.out) : p := h
theorem Z58 {p : Prop} (h : p := by (try simp only [List.map_toArray, List.map_cons, List.map_nil]); first | done | rfl | (simp only [List.length_drop, List.length_take]; rfl)) : p := h
theorem Z57 {p : Prop} (h : p := by repeat (first | (with_reducible first | exact HB.out | apply below_alloc | apply pw_below_drewN | apply below_drew1 | refine below_set ?_ wG.out) | exact HB.out)) : p := h
theorem Z56 {p q : Prop} (x_ : Aside0 q) (h : q → p := by intro h_; (with_reducible repeat (first | apply Kd.R_alloc | apply Kd.R_drewN | apply Kd.R_drew)); exact Kd.R_mono h_ (fun _ hk => ⟨⟨hk.2.1, hk.2.2⟩, hk.1⟩)) : p := h x_.out
theorem Z55 {p q : Prop} (x_ : Aside0 q) (h : q → p := by intro h_; (with_reducible repeat (first | apply Kd.R_alloc | apply Kd.R_drewN | apply Kd.R_drew)); exact Kd.R_mono h_ (fun _ hk => ⟨hk.2, ⟨hk.1.1, hk.1.2⟩⟩)) : p := h x_.out
theorem Z54 {p : Prop} (h : p := by repeat (first | (with_reducible first | exact HB.out | apply below_alloc | apply pw_below_drewN | apply below_drew1 | refine below_set ?_ qI.out) | exact HB.out)) : p := h
theorem Z53 {p : Prop} (h : p := by simp only [putAll, Act.put, List.setIfInBounds_toArray, List.set_cons_zero, List.set_cons_succ]) : p := h
theorem Z52 {p : Prop} (h : p := by repeat (first | (with_reducible first | exact HB.out | apply below_alloc | apply pw_below_drewN | apply below_drew1 | refine below_set ?_ qG.out) | exact HB.out)) : p := h
theorem Z51 {p : Prop} (h : p := by (with_reducible repeat (first | apply Kd.R_alloc | apply Kd.R_drewN | apply Kd.R_drew)); exact (Kd.R_mono (Kd.R_far (p := ⟨fU, 2, none⟩) (Kd.R_far (p := ⟨fU, 1, none⟩) (Kd.R_far (p := ⟨fU, 0, none⟩) (Kd.R_types aj.out eB.out (by decide)) (fun _ hk => hk.2) (.int .i64 ((rd_T76 l0 ag).f0))) (fun _ hk => hk.2) (.int .i64 ((rd_T76 l0 ag).f1))) (fun _ hk => hk.2) (.int .i64 ((rd_T76 l0 ag).f2))) (fun _ h_ => h_.1))) : p := h
theorem Z50 {p q : Prop} (x_ : Aside0 q) (h : q → p := by intro h_; (with_reducible repeat (first | refine blk_drewN ?_ _ | refine blk_drew ?_ | refine blk_alloc ?_ _)); refine blk_put (cs := #[.int .i64 ((rd_T76 l0 ag).f0), .int .i64 ((rd_T76 l0 ag).f1), .int .i64 0]) ?_ 2 _ rfl; (with_reducible repeat (first | refine blk_drewN ?_ _ | refine blk_drew ?_ | refine blk_alloc ?_ _)); refine blk_put (cs := #[.int .i64 ((rd_T76 l0 ag).f0), .int .i64 0, .int .i64 0]) ?_ 1 _ rfl; (with_reducible repeat (first | refine blk_drewN ?_ _ | refine blk_drew ?_ | refine blk_alloc ?_ _)); refine blk_put (cs := #[.int .i64 0, .int .i64 0, .int .i64 0]) ?_ 0 _ rfl; (with_reducible repeat (first | refine blk_drewN ?_ _ | refine blk_drew ?_ | refine blk_alloc ?_ _)); exact h_) : p := h x_.out
theorem Z49 {p q : Prop} (x_ : Aside0 q) (h : q → p := by intro h_; (with_reducible repeat (first | apply Kd.R_alloc | apply Kd.R_drewN | apply Kd.R_drew)); exact Kd.R_mono h_ (fun _ hk => ⟨⟨hk.2.2.1, ⟨hk.2.1, hk.2.2.2⟩⟩, hk.1⟩)) : p := h x_.out
theorem Z48 {p q : Prop} (x_ : Aside0 q) (h : q → p := by intro h_; (with_reducible repeat (first | apply Kd.R_alloc | apply Kd.R_drewN | apply Kd.R_drew)); exact Kd.R_mono h_ (fun _ hk => ⟨⟨hk.1.1.1, ⟨hk.1.2, hk.1.1.2⟩⟩, hk.2⟩)) : p := h x_.out
theorem Z47 {p q : Prop} (x_ : Aside0 q) (h : q → p := by intro h_; (with_reducible repeat (first | apply Kd.R_alloc | apply Kd.R_drewN | apply Kd.R_drew)); exact Kd.R_mono h_ (fun _ hk => ⟨⟨hk.1.1.1, ⟨hk.2, hk.1.1.2⟩⟩, hk.1.2⟩)) : p := h x_.out
theorem Z46 {p : Prop} (h : p := by repeat (first | (with_reducible first | exact HB.out | apply below_alloc | apply pw_below_drewN | apply below_drew1 | refine below_set ?_ (IsS45.ge HI0.out) | refine below_set ?_ m5.out) | exact HB.out)) : p := h
theorem Z45 {p : Prop} (h : p := by (with_reducible repeat (first | refine blk_drewN ?_ _ | refine blk_drew ?_ | refine blk_alloc ?_ _)); refine blk_put (cs := #[.int .i64 ((rd_T76 l0 aA).f0), .int .i64 ((rd_T76 l0 aA).f1), .int .i64 0]) ?_ 2 _ rfl; (with_reducible repeat (first | refine blk_drewN ?_ _ | refine blk_drew ?_ | refine blk_alloc ?_ _)); refine blk_put (cs := #[.int .i64 ((rd_T76 l0 aA).f0), .int .i64 0, .int .i64 0]) ?_ 1 _ rfl; (with_reducible repeat (first | refine blk_drewN ?_ _ | refine blk_drew ?_ | refine blk_alloc ?_ _)); refine blk_put (cs := #[.int .i64 0, .int .i64 0, .int .i64 0]) ?_ 0 _ rfl; (with_reducible repeat (first | refine blk_drewN ?_ _ | refine blk_drew ?_ | refine blk_alloc ?_ _)); exact aG.out) : p := h
theorem Z44 {p : Prop} (h : p := by repeat (first | exact Drawn0.refl _ | apply Drawn0.step)) : p := h
theorem Z43 {p : Prop} (h : p := by repeat (first | (with_reducible first | exact HB.out | apply below_alloc | apply pw_below_drewN | apply below_drew1 | refine below_set ?_ (IsS45.ge HI432.out)) | exact HB.out)) : p := h
theorem Z42 {p : Prop} (h : p := by (with_reducible repeat (first | refine blk_drewN ?_ _ | refine blk_drew ?_ | refine blk_alloc ?_ _)); refine blk_far ?_ bL.out _; (with_reducible repeat (first | refine blk_drewN ?_ _ | refine blk_drew ?_ | refine blk_alloc ?_ _)); refine blk_far ?_ bL.out _; (with_reducible repeat (first | refine blk_drewN ?_ _ | refine blk_drew ?_ | refine blk_alloc ?_ _)); refine blk_far ?_ bL.out _; (with_reducible repeat (first | refine blk_drewN ?_ _ | refine blk_drew ?_ | refine blk_alloc ?_ _)); exact aT.out) : p := h
theorem Z41 {p : Prop} (h : p := by repeat (first | (with_reducible first | exact HB.out | apply below_alloc | apply pw_below_drewN | apply below_drew1 | refine below_set ?_ (IsS45.ge HI0.out) | refine below_set ?_ GE216.out) | exact HB.out)) : p := h
theorem Z40 {p : Prop} (h : p := by rw [hw]; exact below_set (below_set (HB.out) GB22.out) GB22.out) : p := h
theorem Z39 {p : Prop} (h : p := by repeat (first | (with_reducible first | exact HK.out | apply KeepBut.set_ | apply keep_drewN | apply keep_drew | apply keep_alloc | refine keep_far ?_ GW216.out _) | exact HK.out)) : p := h
theorem Z38 {p : Prop} (h : p := by rw [hg]; exact (below_size (Z2))) : p := h
theorem Z37 {p : Prop} (h : p := by first | exact Kd.R_nil _ _ _ _ _ | exact Kd.N_nil _ _ _ _ _ | exact Kd.V_nil _ _ _ _ _ | exact Kd.Q_nil _ _ _ _ _ | exact Kd.S_nil _ _ _ _ _) : p := h
theorem Z36 {p : Prop} (h : p := by repeat (first | (with_reducible first | exact HB.out | apply below_alloc | apply pw_below_drewN | apply below_drew1 | refine below_set ?_ (IsS45.ge HI0.out) | refine below_set ?_ GE340.out) | exact HB.out)) : p := h
theorem Z35 {p q : Prop} (x_ : Aside0 q) (h : q → p := by intro h_; (with_reducible repeat (first | apply Kd.R_alloc | apply Kd.R_drewN | apply Kd.R_drew)); exact Kd.R_mono h_ (fun _ hk => trivial)) : p := h x_.out
theorem Z34 {p q : Prop} (x_ : Aside0 q) (h : q → p := by intro h_; (with_reducible repeat (first | refine blk_drewN ?_ _ | refine blk_drew ?_ | refine blk_alloc ?_ _)); refine blk_put (cs := #[.int .i64 ew, .int .i64 ec, .int .i64 0]) ?_ 2 _ rfl; (with_reducible repeat (first | refine blk_drewN ?_ _ | refine blk_drew ?_ | refine blk_alloc ?_ _)); refine blk_put (cs := #[.int .i64 ew, .int .i64 0, .int .i64 0]) ?_ 1 _ rfl; (with_reducible repeat (first | refine blk_drewN ?_ _ | refine blk_drew ?_ | refine blk_alloc ?_ _)); refine blk_put (cs := #[.int .i64 0, .int .i64 0, .int .i64 0]) ?_ 0 _ rfl; (with_reducible repeat (first | refine blk_drewN ?_ _ | refine blk_drew ?_ | refine blk_alloc ?_ _)); exact h_) : p := h x_.out
theorem Z33 {p : Prop} (h : p := by repeat (first | (with_reducible first | exact HB.out | apply below_alloc | apply pw_below_drewN | apply below_drew1 | refine below_set ?_ sG.out) | exact HB.out)) : p := h
theorem Z32 {p : Prop} (h : p := by repeat (first | (with_reducible first | exact HK.out | apply KeepBut.set_ | apply keep_drewN | apply keep_drew | apply keep_alloc | refine keep_far ?_ m6.out _) | exact HK.out)) : p := h
theorem Z31 {p q : Prop} (x_ : Aside0 q) (h : q → p := by intro h_; (with_reducible repeat (first | apply Kd.R_alloc | apply Kd.R_drewN | apply Kd.R_drew)); exact (Kd.R_mono (Kd.R_far (p := ⟨bp, 2, none⟩) (Kd.R_mono h_ (fun k_ hk => (⟨hk, hk.2⟩ : _ ∧ k_ ≠ bp))) (fun _ hk => hk.2) (.int .i64 (wrap64 ((wrap64 (((rd_T76 aN ay).f1) + 4)) + ip)))) (fun _ h_ => h_.1))) : p := h x_.out
theorem Z30 {p : Prop} (h : p := by repeat (first | (with_reducible first | exact HK.out | apply KeepBut.set_ | apply keep_drewN | apply keep_drew | apply keep_alloc | refine keep_far ?_ GW340.out _) | exact HK.out)) : p := h
theorem Z29 {p : Prop} (h : p := by first | (go_simp; done) | (go_simp; rfl)) : p := h
theorem Z28 {p : Prop} (h : p := by repeat (first | (with_reducible first | exact HB.out | apply below_alloc | apply pw_below_drewN | apply below_drew1 | refine below_set ?_ (IsS45.ge HI0.out) | refine below_set ?_ m5.out | refine below_set ?_ qJ.out) | exact HB.out)) : p := h
theorem Z27 {p : Prop} (h : p := by repeat (first | (with_reducible first | exact HI0.out | apply IsS45.alloc | apply IsS45.drewN | apply IsS45.drew | apply IsS45.set_1 | apply IsS45.set_2 | refine IsS45.far ?_ ed.out _) | exact HI0.out)) : p := h
theorem Z26 {p q : Prop} (x_ : Aside0 q) (h : q → p := by intro h_; (with_reducible repeat (first | apply Kd.R_alloc | apply Kd.R_drewN | apply Kd.R_drew)); exact Kd.R_mono h_ (fun _ hk => hk.2)) : p := h x_.out
theorem Z25 {p : Prop} (h : p := by first | (rw [show aK.length = ak.length from (Kd.R_reads' aa.out).1.symm] <;> rfl) | rfl) : p := h
theorem Z24 {p : Prop} (h : p := by repeat (first | (with_reducible first | exact HI0.out | apply IsS45.alloc | apply IsS45.drewN | apply IsS45.drew | apply IsS45.set_1 | apply IsS45.set_2 | refine IsS45.far ?_ qK.out _) | exact HI0.out)) : p := h
theorem Z23 {p : Prop} (h : p := by repeat (first | (with_reducible first | exact HK.out | apply KeepBut.set_ | apply keep_drewN | apply keep_drew | apply keep_alloc | refine keep_far ?_ m6.out _ | refine keep_far ?_ qL.out _) | exact HK.out)) : p := h
theorem Z22 {p : Prop} (h : p := by repeat (first | (with_reducible first | exact HB.out | apply below_alloc | apply pw_below_drewN | apply below_drew1 | refine below_set ?_ wE.out) | exact HB.out)) : p := h
theorem Z21 {p : Prop} (h : p := by rw [show aK.length = ak.length from (Kd.R_reads' aa.out).1.symm]; exact (Kd.R_reads' aa.out).2.1) : p := h
theorem Z20 {p : Prop} (h : p := by repeat (first | (with_reducible first | exact HI0.out | apply IsS45.alloc | apply IsS45.drewN | apply IsS45.drew | apply IsS45.set_1 | apply IsS45.set_2 | refine IsS45.far ?_ eC.out _) | exact HI0.out)) : p := h
theorem Z19 {p : Prop} (h : p := by repeat (first | (with_reducible first | exact HB.out | apply below_alloc | apply pw_below_drewN | apply below_drew1 | refine below_set ?_ GE195.out) | exact HB.out)) : p := h
theorem Z18 {p q : Prop} (x_ : Aside0 q) (h : q → p := by intro h_; repeat (first | exact h_ | (with_reducible refine Kd.C_alloc ?_ _) | (with_reducible refine Kd.C_drewN ?_ _) | (with_reducible refine Kd.C_drew ?_))) : p := h x_.out
theorem Z17 {p : Prop} (h : p := by repeat (first | (with_reducible first | exact HI0.out | apply IsS45.alloc | apply IsS45.drewN | apply IsS45.drew | apply IsS45.set_1 | apply IsS45.set_2 | refine IsS45.far ?_ ed.out _ | refine IsS45.far ?_ eD.out _) | exact HI0.out)) : p := h
theorem Z16 {p : Prop} (h : p := by first | rfl | (simp; done) | (simp [*]; done)) : p := h
theorem Z15 {p q : Prop} (x_ : Aside0 q) (h : q → p := by intro h_; repeat (first | exact (Kd.C_below h_ HB.out) | (with_reducible refine Kd.C_alloc ?_ _) | (with_reducible refine Kd.C_drewN ?_ _) | (with_reducible refine Kd.C_drew ?_))) : p := h x_.out
theorem Z14 {p : Prop} (h : p := by repeat (first | (with_reducible first | exact HB.out | apply below_alloc | apply pw_below_drewN | apply below_drew1 | refine below_set ?_ wH.out) | exact HB.out)) : p := h
theorem Z13 {p : Prop} (h : p := by repeat (first | (with_reducible first | exact HB.out | apply below_alloc | apply pw_below_drewN | apply below_drew1 | refine below_set ?_ GE146.out) | exact HB.out)) : p := h
theorem Z12 {p : Prop} (h : p := by first | rfl | (simp [errW_none, errW_some] <;> rfl) | (simp [*, errW_none, errW_some] <;> rfl)) : p := h
theorem Z11 {p q : Prop} (x_ : Aside0 q) (h : q → p := by intro h_; repeat (first | (with_reducible exact h_) | (with_reducible refine Kd.C_alloc ?_ _) | (with_reducible refine Kd.C_drewN ?_ _) | (with_reducible refine Kd.C_drew ?_) | exact h_)) : p := h x_.out
theorem Z10 {p : Prop} (h : p := by have h_ : (ae : Int) < ((ak.length : Int) : Int) := of_decide_eq_true (Z4); first | exact h_ | (have e_ := (Kd.R_reads' aa.out).1; omega) | simpa using h_) : p := h
theorem Z9 {p : Prop} (h : p := by have h_ : (ac : Int) < ((ak.length : Int) : Int) := of_decide_eq_true (Z4); first | exact h_ | (have e_ := (Kd.R_reads' aa.out).1; omega) | simpa using h_) : p := h
theorem Z8 {p : Prop} (h : p := by repeat (first | (with_reducible first | exact HB.out | apply below_alloc | apply pw_below_drewN | apply below_drew1 | refine below_set ?_ (IsS45.ge HI0.out)) | exact HB.out)) : p := h
theorem Z7 {p : Prop} (h : p := by repeat (first | (with_reducible first | exact HK.out | apply KeepBut.set_ | apply keep_drewN | apply keep_drew | apply keep_alloc) | exact HK.out)) : p := h
theorem Z6 {p q : Prop} (x_ : Aside0 q) (h : q → p := by intro h_; (with_reducible repeat (first | refine blk_drewN ?_ _ | refine blk_drew ?_ | refine blk_alloc ?_ _)); exact h_) : p := h x_.out
theorem Z5 {p q : Prop} (x_ : Aside0 q) (h : q → p := by intro h_; repeat (first | exact (Kd.R_reads' h_).2.2 | (with_reducible refine Kd.C_alloc ?_ _) | (with_reducible refine Kd.C_drewN ?_ _) | (with_reducible refine Kd.C_drew ?_))) : p := h x_.out
theorem Z4 {p : Prop} (h : p := by first | (with_reducible assumption) | assumption) : p := h
theorem Z3 {p q : Prop} (x_ : Aside0 q) (h : q → p := by intro h_; repeat (first | (with_reducible first | exact h_ | apply IsS45.alloc | apply IsS45.drewN | apply IsS45.drew | apply IsS45.set_1 | apply IsS45.set_2) | exact h_)) : p := h x_.out
theorem Z2 {p : Prop} (h : p := by repeat (first | (with_reducible first | exact HB.out | apply below_alloc | apply pw_below_drewN | apply below_drew1) | exact HB.out)) : p := h
theorem Z1 {p q : Prop} (x_ : Aside0 q) (h : q → p := by intro h_; (with_reducible repeat (first | apply Kd.R_alloc | apply Kd.R_drewN | apply Kd.R_drew)); exact h_) : p := h x_.out
theorem Ya_ {p q : Prop} (x_ : Aside0 q) (h : q → p := by intro h_; exact Kd.R_below (Z1 ⟨h_⟩) hb) : p := h x_.out
theorem Yb_ {p q : Prop} (x_ : Aside0 q) (h : q → p := by intro h_; exact Kd.R_elder' (Z1 ⟨h_⟩) (Kd.R_base ho0) hb) : p := h x_.out
theorem Ye_ {p q : Prop} (x_ : Aside0 q) (h : q → p := by intro h_; exact blk_below (Z6 ⟨h_⟩) hb) : p := h x_.out
theorem Yd_ {p q : Prop} (x_ : Aside0 q) (h : q → p := by intro h_; exact Kd.R_lt (Z1 ⟨h_⟩)) : p := h x_.out



def errW : Option Int → Value
  | none => .nilIface
  | some c => .iface 0 (.int .i64 c)
theorem errW_none : errW none = .nilIface := rfl
theorem errW_some (c : Int) : errW (some c) = .iface 0 (.int .i64 c) := rfl

theorem info3 : (Tryz.prog.info? 3).map (fun i => (i.zero, i.size, i.bytes)) = some (some (.int .i64 0), 1, 8) := by kernel_rfl
theorem info30 : (Tryz.prog.info? 30).map (fun i => (i.zero, i.size, i.bytes)) = some (some (.agg #[(.int .i64 0), (.int .i64 0)]), 2, 16) := by kernel_rfl
theorem info76 : (Tryz.prog.info? 76).map (fun i => (i.zero, i.size, i.bytes)) = some (some (.agg #[(.int .i64 0), (.int .i64 0), (.int .i64 0)]), 3, 24) := by kernel_rfl
-- the values' own types
/-! #### struct type 30 -/
structure S30 where
  f0 : Int
  f1 : Int
def z30 : S30 := ⟨(0 : Int), (0 : Int)⟩
def k30 : Kd S30 := Kd.iso (Kd.pair (Kd.int .i64) (Kd.int .i64)) (fun x : S30 => (x.f0, x.f1))
theorem k30_open {w : World} {x : S30} {cs : List Value} (h : k30.K w x cs) : cs = [.int .i64 x.f0, .int .i64 x.f1] := by
  obtain ⟨_, _, rfl, rfl, rfl⟩ := h
  exact rfl
theorem k30_openM {w : World} {base : Nat} {ok : Nat → Prop} {x : S30} {cs : List Value} (h : k30.M w base ok x cs) : cs = [.int .i64 x.f0, .int .i64 x.f1] := by
  obtain ⟨_, _, rfl, rfl, rfl⟩ := h
  exact rfl
theorem k30_mk (w : World) (x : S30)  : k30.K w x [.int .i64 x.f0, .int .i64 x.f1] := ⟨[.int .i64 x.f0], [.int .i64 x.f1], rfl, rfl, rfl⟩
theorem k30_mkM (w : World) (base : Nat) (ok : Nat → Prop) (x : S30)  : k30.M w base ok x [.int .i64 x.f0, .int .i64 x.f1] := ⟨[.int .i64 x.f0], [.int .i64 x.f1], rfl, rfl, rfl⟩
def rd_T30 (xs : List S30) (i : Int) : S30 := xs.getD i.toNat z30
theorem at_T30 {w : World} {A : Option Addr} {n : Nat} {xs : List S30} (h : Kd.C k30 w A n xs) (i : Int) (h0 : 0 ≤ i) (h1 : i < n) : ∃ ad , A = some ad ∧ w.cell? (ad.add (i.toNat * 2)) = some (.int .i64 (rd_T30 xs i).f0) ∧ w.cell? ⟨(ad.add (i.toNat * 2)).block, (ad.add (i.toNat * 2)).off + 1, none⟩ = some (.int .i64 (rd_T30 xs i).f1) := by
  obtain ⟨ad, c, e, _, hK, hc0⟩ := Kd.C_get h z30 i h0 h1
  have hc : ∀ j u, c[j]? = some u → w.cell? (ad.add (i.toNat * 2 + j)) = some u := hc0
  obtain rfl := k30_open hK
  exact ⟨ad, e, hc 0 _ rfl, by rw [← add_field _ _ 1 (by omega)]; exact hc 1 _ rfl⟩

/-! #### struct type 76 -/
structure S76 where
  f0 : Int
  f1 : Int
  f2 : Int
def z76 : S76 := ⟨(0 : Int), (0 : Int), (0 : Int)⟩
def k76 : Kd S76 := Kd.iso (Kd.pair (Kd.int .i64) (Kd.pair (Kd.int .i64) (Kd.int .i64))) (fun x : S76 => (x.f0, x.f1, x.f2))
theorem k76_open {w : World} {x : S76} {cs : List Value} (h : k76.K w x cs) : cs = [.int .i64 x.f0, .int .i64 x.f1, .int .i64 x.f2] := by
  obtain ⟨_, _, rfl, rfl, ⟨_, _, rfl, rfl, rfl⟩⟩ := h
  exact rfl
theorem k76_openM {w : World} {base : Nat} {ok : Nat → Prop} {x : S76} {cs : List Value} (h : k76.M w base ok x cs) : cs = [.int .i64 x.f0, .int .i64 x.f1, .int .i64 x.f2] := by
  obtain ⟨_, _, rfl, rfl, ⟨_, _, rfl, rfl, rfl⟩⟩ := h
  exact rfl
theorem k76_mk (w : World) (x : S76)  : k76.K w x [.int .i64 x.f0, .int .i64 x.f1, .int .i64 x.f2] := ⟨[.int .i64 x.f0], [.int .i64 x.f1, .int .i64 x.f2], rfl, rfl, ⟨[.int .i64 x.f1], [.int .i64 x.f2], rfl, rfl, rfl⟩⟩
theorem k76_mkM (w : World) (base : Nat) (ok : Nat → Prop) (x : S76)  : k76.M w base ok x [.int .i64 x.f0, .int .i64 x.f1, .int .i64 x.f2] := ⟨[.int .i64 x.f0], [.int .i64 x.f1, .int .i64 x.f2], rfl, rfl, ⟨[.int .i64 x.f1], [.int .i64 x.f2], rfl, rfl, rfl⟩⟩
def rd_T76 (xs : List S76) (i : Int) : S76 := xs.getD i.toNat z76
theorem at_T76 {w : World} {A : Option Addr} {n : Nat} {xs : List S76} (h : Kd.C k76 w A n xs) (i : Int) (h0 : 0 ≤ i) (h1 : i < n) : ∃ ad , A = some ad ∧ w.cell? (ad.add (i.toNat * 3)) = some (.int .i64 (rd_T76 xs i).f0) ∧ w.cell? ⟨(ad.add (i.toNat * 3)).block, (ad.add (i.toNat * 3)).off + 1, none⟩ = some (.int .i64 (rd_T76 xs i).f1) ∧ w.cell? ⟨(ad.add (i.toNat * 3)).block, (ad.add (i.toNat * 3)).off + 2, none⟩ = some (.int .i64 (rd_T76 xs i).f2) := by
  obtain ⟨ad, c, e, _, hK, hc0⟩ := Kd.C_get h z76 i h0 h1
  have hc : ∀ j u, c[j]? = some u → w.cell? (ad.add (i.toNat * 3 + j)) = some u := hc0
  obtain rfl := k76_open hK
  exact ⟨ad, e, hc 0 _ rfl, by rw [← add_field _ _ 1 (by omega)]; exact hc 1 _ rfl, by rw [← add_field _ _ 2 (by omega)]; exact hc 2 _ rfl⟩

end Go.Proofs.YtmnnmddfmmaohaaGreat.PFnHead
