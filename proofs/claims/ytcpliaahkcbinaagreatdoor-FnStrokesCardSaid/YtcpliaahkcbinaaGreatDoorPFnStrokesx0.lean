import Derived.Test.YtcpliaahkcbinaaGreatDoorProg
import Derived.Test.YtcpliaahkcbinaaGreatDoorVFnStrokes
import Derived.Below
import Derived.Deep.Draws
import Derived.Deep.AppendLies
import Derived.Maps.AppendAt
import Derived.OwnWalk
import Derived.Laws.BytesArg
import Derived.Laws.MakeOwn
import Derived.Laws.OwnMore
import Derived.Deep.OwnRows
import Derived.Tactics
import Derived.Lib.ConvBytes
import Derived.Laws.Slices
import Derived.WalkKit
import Derived.KernelRfl
import Derived.RowKit3
import Derived.Deep.LoopGhost
import Derived.Deep.QuietTactic
import Derived.BigQuiet
import Derived.WideLaws
import Derived.Deep.DeepCutAuto
import Derived.Deep.CutBlock
import Derived.Deep.RegionHeld3
import Derived.Laws.Rows
import Derived.Lib.AppendStr
import Derived.ArgAppend
import Derived.Laws.IdiomCopy
import Derived.OrdersHeld
import Derived.Laws.BitsLemmas
import Derived.RowKit
import Derived.Laws.Externs
import Derived.Lib.Strings
import Derived.Lib.Slices
import Derived.Lib.Walk
import Derived.Lib.Bytealg
import Derived.Lib.SliceRun
import Derived.Test.YtcpliaahkcbinaaGreatDoorTFnStrokes
import Derived.Test.YtcpliaahkcbinaaGreatDoorLays
import Derived.Shelf.Slices.In.SortNone2
import Derived.Sort.OwnSortedInts
import Derived.Lib.AppendIntMem
namespace Go.Proofs.YtcpliaahkcbinaaGreatDoor.PFnStrokes
open Go.RowKit Go.Proofs.YtcpliaahkcbinaaGreatDoorW.PrintWords Go.Proofs.YtcpliaahkcbinaaGreatDoorW.PrintLast Go.Proofs.YtcpliaahkcbinaaGreatDoorW.PrintMore
attribute [local go_sem] dS_ dV_ eo_ em_ dw_ dx_ dX_ dU_
set_option linter.unusedVariables false
set_option linter.unusedSimpArgs false
@[reducible] def M_ (a b : Nat) : Array Bool := ⟨List.replicate a true ++ List.replicate b false⟩
def N_ (n v : Nat) : Array Bool := ⟨(List.range n).map (fun i => v.testBit i)⟩
theorem ka_ {p : Prop} (h : p := by simp only [Act.put, List.setIfInBounds_toArray, List.set_cons_zero, List.set_cons_succ, bA_, ch_]; rfl) : p := h
theorem k1_ {a0 g : Prop} (x0 : a0) (h : aa_ a0 → g) : g := h ⟨x0⟩
theorem k2_ {a0 a1 g : Prop} (x0 : a0) (x1 : a1) (h : aa_ a0 → aa_ a1 → g) : g := h ⟨x0⟩ ⟨x1⟩
theorem k3_ {a0 a1 a2 g : Prop} (x0 : a0) (x1 : a1) (x2 : a2) (h : aa_ a0 → aa_ a1 → aa_ a2 → g) : g := h ⟨x0⟩ ⟨x1⟩ ⟨x2⟩
theorem k4_ {a0 a1 a2 a3 g : Prop} (x0 : a0) (x1 : a1) (x2 : a2) (x3 : a3) (h : aa_ a0 → aa_ a1 → aa_ a2 → aa_ a3 → g) : g := h ⟨x0⟩ ⟨x1⟩ ⟨x2⟩ ⟨x3⟩
theorem k5_ {a0 a1 a2 a3 a4 g : Prop} (x0 : a0) (x1 : a1) (x2 : a2) (x3 : a3) (x4 : a4) (h : aa_ a0 → aa_ a1 → aa_ a2 → aa_ a3 → aa_ a4 → g) : g := h ⟨x0⟩ ⟨x1⟩ ⟨x2⟩ ⟨x3⟩ ⟨x4⟩
theorem k6_ {a0 a1 a2 a3 a4 a5 g : Prop} (x0 : a0) (x1 : a1) (x2 : a2) (x3 : a3) (x4 : a4) (x5 : a5) (h : aa_ a0 → aa_ a1 → aa_ a2 → aa_ a3 → aa_ a4 → aa_ a5 → g) : g := h ⟨x0⟩ ⟨x1⟩ ⟨x2⟩ ⟨x3⟩ ⟨x4⟩ ⟨x5⟩
theorem k7_ {a0 a1 a2 a3 a4 a5 a6 g : Prop} (x0 : a0) (x1 : a1) (x2 : a2) (x3 : a3) (x4 : a4) (x5 : a5) (x6 : a6) (h : aa_ a0 → aa_ a1 → aa_ a2 → aa_ a3 → aa_ a4 → aa_ a5 → aa_ a6 → g) : g := h ⟨x0⟩ ⟨x1⟩ ⟨x2⟩ ⟨x3⟩ ⟨x4⟩ ⟨x5⟩ ⟨x6⟩
theorem k8_ {a0 a1 a2 a3 a4 a5 a6 a7 g : Prop} (x0 : a0) (x1 : a1) (x2 : a2) (x3 : a3) (x4 : a4) (x5 : a5) (x6 : a6) (x7 : a7) (h : aa_ a0 → aa_ a1 → aa_ a2 → aa_ a3 → aa_ a4 → aa_ a5 → aa_ a6 → aa_ a7 → g) : g := h ⟨x0⟩ ⟨x1⟩ ⟨x2⟩ ⟨x3⟩ ⟨x4⟩ ⟨x5⟩ ⟨x6⟩ ⟨x7⟩
theorem pI_ {a0 a1 a2 a3 a4 a5 a6 a7 a8 a9 g : Prop} (x0 : a0) (x1 : a1) (x2 : a2) (x3 : a3) (x4 : a4) (x5 : a5) (x6 : a6) (x7 : a7) (x8 : a8) (x9 : a9) (h : aa_ a0 → aa_ a1 → aa_ a2 → aa_ a3 → aa_ a4 → aa_ a5 → aa_ a6 → aa_ a7 → aa_ a8 → aa_ a9 → g) : g := h ⟨x0⟩ ⟨x1⟩ ⟨x2⟩ ⟨x3⟩ ⟨x4⟩ ⟨x5⟩ ⟨x6⟩ ⟨x7⟩ ⟨x8⟩ ⟨x9⟩
theorem kF_ {a0 a1 a2 a3 a4 a5 a6 a7 a8 a9 a10 g : Prop} (x0 : a0) (x1 : a1) (x2 : a2) (x3 : a3) (x4 : a4) (x5 : a5) (x6 : a6) (x7 : a7) (x8 : a8) (x9 : a9) (x10 : a10) (h : aa_ a0 → aa_ a1 → aa_ a2 → aa_ a3 → aa_ a4 → aa_ a5 → aa_ a6 → aa_ a7 → aa_ a8 → aa_ a9 → aa_ a10 → g) : g := h ⟨x0⟩ ⟨x1⟩ ⟨x2⟩ ⟨x3⟩ ⟨x4⟩ ⟨x5⟩ ⟨x6⟩ ⟨x7⟩ ⟨x8⟩ ⟨x9⟩ ⟨x10⟩
theorem h6_ {w : World} {g : Nat} {t : TypeId} {a0 : Value} (h : w.heap[g]? = some (.cells #[a0] t (0, 0))) : w.cell? ⟨g, 0, none⟩ = some a0 ∧ w.frozen? ⟨g, 0, none⟩ = false := ⟨(aE_ h 0).trans rfl, a1_ h 0⟩
theorem cH_ {w : World} {g : Nat} {t : TypeId} {a0 a1 : Value} (h : w.heap[g]? = some (.cells #[a0, a1] t (0, 0))) : w.cell? ⟨g, 0, none⟩ = some a0 ∧ w.cell? ⟨g, 1, none⟩ = some a1 ∧ w.frozen? ⟨g, 0, none⟩ = false ∧ w.frozen? ⟨g, 1, none⟩ = false := ⟨(aE_ h 0).trans rfl, (aE_ h 1).trans rfl, a1_ h 0, a1_ h 1⟩
theorem bt_ {w : World} {g : Nat} {t : TypeId} {a0 a1 a2 : Value} (h : w.heap[g]? = some (.cells #[a0, a1, a2] t (0, 0))) : w.cell? ⟨g, 0, none⟩ = some a0 ∧ w.cell? ⟨g, 1, none⟩ = some a1 ∧ w.cell? ⟨g, 2, none⟩ = some a2 ∧ w.frozen? ⟨g, 0, none⟩ = false ∧ w.frozen? ⟨g, 1, none⟩ = false ∧ w.frozen? ⟨g, 2, none⟩ = false := ⟨(aE_ h 0).trans rfl, (aE_ h 1).trans rfl, (aE_ h 2).trans rfl, a1_ h 0, a1_ h 1, a1_ h 2⟩
theorem gl_ {P : Program} {ops : Array Oper} {Q : Exit → Act → World → Prop} {rest : List Oper} {oi : Oper} {a : Act} {w : World} {f : FuncId} {fn : Func} {ops_ : Array Operand} {ts : Array TypeId} (n : Tmp) (hf : P.funcs[f]? = some fn) (args : Array Value) (h : Calls P f args w fun e w' => ∃ v, e = .returned v ∧ wpList P ops Q rest (a.put (some n) v) w')
    (hd : oi.dst = some n := by exact rfl) (hg : oi.guard = none := by exact rfl) (hname : (fn.name == "runtime.NumGoroutine") = false := by kernel_rfl) (hb : fn.body.isSome = true := by exact rfl) (hop : oi.op = .call { callee := .value (.func f), args := ops_, argTypes := ts } := by exact rfl)
    (hargs : ops_.map a.eval = args := by (try simp only [List.map_toArray, List.map_cons, List.map_nil]); first | done | rfl | (simp only [List.length_drop, List.length_take]; rfl)) : wpList P ops Q (oi :: rest) a w := ey_ (some n) hd hg hf hname hb args hop hargs h
theorem bv_ {P : Program} {ops : Array Oper} {Q : Exit → Act → World → Prop} {rest : List Oper} {o : Oper} {a : Act} {W : World} (N : Tmp) (t : TypeId) (cs : Array Value) (h : ∀ g, g = W.heap.size → ∀ w1, w1.heap[g]? = some (.cells cs t (0, 0)) → Below W.heap.size W w1 → wpList P ops Q rest (a.put o.dst (.pointer (some ⟨g, 0, none⟩))) w1)
    (hd : o.dst = some N := by rfl) (hg : o.guard = none := by rfl) (hr : (execOp a.eval o).run P W = .ok (.value (.pointer (some ⟨W.heap.size, 0, none⟩))) (W.alloc (.cells cs t (0, 0))) := by first | (go_simp; done) | (go_simp; rfl)) : wpList P ops Q (o :: rest) a W := lH_ hg (N := N) hd hr h
theorem pu_ {P : Program} {md : Region.Mode} {ops : Array Oper} {Q : Exit → Act → World → Prop} {S : World → Prop} {ds : List Nat} {oi : Oper} {v : Value} {fuel : Nat} {l : Array Bool} {a a' : Act} {w : World} (i : Nat) (n : Tmp) (l' : Array Bool) (h : aR_ P md ops Q S ds fuel l' a' w) (hi : ops[i]? = some oi := by exact rfl) (hN : oi.dst = some n := by exact rfl)
    (hc : hU_ md ops l l' i = true := by exact lY_ HT_.out (by kernel_rfl)) (hQ : ∀ c a w, Q (.panic c) (a.put oi.dst v) w → Q (.panic c) a w := by exact (fun _ _ _ h => h)) (hy : Region.wanted oi (yielded ops a.tmps) = true := by rfl) (hv : ∀ w, (execOp a.eval oi).run P w = .ok (.value v) w := by intro w'; go_simp; with_reducible rfl) (ha : a.put (some n) v = a' := by exact ka_) : aR_ P md ops Q S ds (fuel + 1) l a w := nr_ l' hi hN hc hQ (Or.inl ⟨hy, hv⟩) ha h
theorem pn_ {P : Program} {md : Region.Mode} {ops : Array Oper} {Q : Exit → Act → World → Prop} {S : World → Prop} {ds : List Nat} {oi : Oper} {fuel : Nat} {l : Array Bool} {a a' : Act} {w : World} (i : Nat) (n : Tmp) (l' : Array Bool) (h : aR_ P md ops Q S ds fuel l' a' w) (hi : ops[i]? = some oi := by exact rfl) (hN : oi.dst = some n := by exact rfl)
    (hc : hU_ md ops l l' i = true := by exact lY_ HT_.out (by kernel_rfl)) (hQ : ∀ c a w, Q (.panic c) (a.put oi.dst undef) w → Q (.panic c) a w := by exact (fun _ _ _ h => h)) (hy : Region.wanted oi (yielded ops a.tmps) = false := by rfl) (ha : a.put (some n) undef = a' := by exact ka_) : aR_ P md ops Q S ds (fuel + 1) l a w := nr_ l' hi hN hc hQ (Or.inr ⟨hy, rfl⟩) ha h
theorem mB_ {P : Program} {md : Region.Mode} {ops : Array Oper} {Q : Exit → Act → World → Prop} {S : World → Prop} {ds : List Nat} {oi : Oper} {v : Value} {fuel : Nat} {l : Array Bool} {a a' : Act} {w : World} (i : Nat) (n : Tmp) (l' : Array Bool) (hS : S w) (h : aR_ P md ops Q S ds fuel l' a' w) (hi : ops[i]? = some oi := by exact rfl) (hN : oi.dst = some n := by exact rfl)
    (hc : ee_ md ops ds l l' i = true := by exact ei_ HT_.out HW_.out (by kernel_rfl)) (hQ : ∀ c a w, Q (.panic c) (a.put oi.dst v) w → Q (.panic c) a w := by exact (fun _ _ _ h => h)) (hy : Region.wanted oi (yielded ops a.tmps) = true := by rfl) (hv : ∀ w, S w → (execOp a.eval oi).run P w = .ok (.value v) w := by rintro w' ⟨s0, s1⟩; go_simp; with_reducible rfl) (ha : a.put (some n) v = a' := by exact ka_) : aR_ P md ops Q S ds (fuel + 1) l a w := take_ l' hi hN hc hQ (Or.inl ⟨hy, hv⟩) hS ha h
theorem fX_ {P : Program} {md : Region.Mode} {ops : Array Oper} {Q : Exit → Act → World → Prop} {S : World → Prop} {ds : List Nat} {oi : Oper} {v : Value} {fuel : Nat} {l : Array Bool} {a a' : Act} {w : World} (i : Nat) (n : Tmp) (l' : Array Bool) (hS : S w) (h : aR_ P md ops Q S ds fuel l' a' w) (hi : ops[i]? = some oi := by exact rfl) (hN : oi.dst = some n := by exact rfl)
    (hc : ee_ md ops ds l l' i = true := by exact ei_ HT_.out HW_.out (by kernel_rfl)) (hQ : ∀ c a w, Q (.panic c) (a.put oi.dst v) w → Q (.panic c) a w := by exact (fun _ _ _ h => h)) (hy : Region.wanted oi (yielded ops a.tmps) = true := by rfl) (hv : ∀ w, S w → (execOp a.eval oi).run P w = .ok (.value v) w := by rintro w' ⟨s0, s1, s2⟩; go_simp; with_reducible rfl) (ha : a.put (some n) v = a' := by exact ka_) : aR_ P md ops Q S ds (fuel + 1) l a w := take_ l' hi hN hc hQ (Or.inl ⟨hy, hv⟩) hS ha h
theorem eF_ {P : Program} {md : Region.Mode} {ops : Array Oper} {Q : Exit → Act → World → Prop} {S : World → Prop} {ds : List Nat} {oi : Oper} {v : Value} {fuel : Nat} {l : Array Bool} {a a' : Act} {w : World} (i : Nat) (n : Tmp) (l' : Array Bool) (hS : S w) (h : aR_ P md ops Q S ds fuel l' a' w) (hi : ops[i]? = some oi := by exact rfl) (hN : oi.dst = some n := by exact rfl)
    (hc : ee_ md ops ds l l' i = true := by exact ei_ HT_.out HW_.out (by kernel_rfl)) (hQ : ∀ c a w, Q (.panic c) (a.put oi.dst v) w → Q (.panic c) a w := by exact (fun _ _ _ h => h)) (hy : Region.wanted oi (yielded ops a.tmps) = true := by rfl) (hv : ∀ w, S w → (execOp a.eval oi).run P w = .ok (.value v) w := by rintro w' ⟨s0, s1, s2, s3⟩; go_simp; with_reducible rfl) (ha : a.put (some n) v = a' := by exact ka_) : aR_ P md ops Q S ds (fuel + 1) l a w := take_ l' hi hN hc hQ (Or.inl ⟨hy, hv⟩) hS ha h
theorem mz_ {P : Program} {md : Region.Mode} {ops : Array Oper} {Q : Exit → Act → World → Prop} {S : World → Prop} {ds : List Nat} {oi : Oper} {v : Value} {fuel : Nat} {l : Array Bool} {a a' : Act} {w : World} (i : Nat) (n : Tmp) (l' : Array Bool) (hS : S w) (h : aR_ P md ops Q S ds fuel l' a' w) (hi : ops[i]? = some oi := by exact rfl) (hN : oi.dst = some n := by exact rfl)
    (hc : ee_ md ops ds l l' i = true := by exact ei_ HT_.out HW_.out (by kernel_rfl)) (hQ : ∀ c a w, Q (.panic c) (a.put oi.dst v) w → Q (.panic c) a w := by exact (fun _ _ _ h => h)) (hy : Region.wanted oi (yielded ops a.tmps) = true := by rfl) (hv : ∀ w, S w → (execOp a.eval oi).run P w = .ok (.value v) w := by rintro w' ⟨s0, s1, s2, s3, s4⟩; go_simp; with_reducible rfl) (ha : a.put (some n) v = a' := by exact ka_) : aR_ P md ops Q S ds (fuel + 1) l a w := take_ l' hi hN hc hQ (Or.inl ⟨hy, hv⟩) hS ha h
theorem fH_ {P : Program} {md : Region.Mode} {ops : Array Oper} {Q : Exit → Act → World → Prop} {S : World → Prop} {ds : List Nat} {oi : Oper} {v : Value} {fuel : Nat} {l : Array Bool} {a a' : Act} {w : World} (i : Nat) (n : Tmp) (l' : Array Bool) (hS : S w) (h : aR_ P md ops Q S ds fuel l' a' w) (hi : ops[i]? = some oi := by exact rfl) (hN : oi.dst = some n := by exact rfl)
    (hc : ee_ md ops ds l l' i = true := by exact ei_ HT_.out HW_.out (by kernel_rfl)) (hQ : ∀ c a w, Q (.panic c) (a.put oi.dst v) w → Q (.panic c) a w := by exact (fun _ _ _ h => h)) (hy : Region.wanted oi (yielded ops a.tmps) = true := by rfl) (hv : ∀ w, S w → (execOp a.eval oi).run P w = .ok (.value v) w := by rintro w' ⟨s0, s1, s2, s3, s4, s5⟩; go_simp; with_reducible rfl) (ha : a.put (some n) v = a' := by exact ka_) : aR_ P md ops Q S ds (fuel + 1) l a w := take_ l' hi hN hc hQ (Or.inl ⟨hy, hv⟩) hS ha h
theorem la_ {P : Program} {md : Region.Mode} {ops : Array Oper} {Q : Exit → Act → World → Prop} {S : World → Prop} {ds : List Nat} {oi : Oper} {v : Value} {fuel : Nat} {l : Array Bool} {a a' : Act} {w : World} (i : Nat) (n : Tmp) (l' : Array Bool) (hS : S w) (h : aR_ P md ops Q S ds fuel l' a' w) (hi : ops[i]? = some oi := by exact rfl) (hN : oi.dst = some n := by exact rfl)
    (hc : ee_ md ops ds l l' i = true := by exact ei_ HT_.out HW_.out (by kernel_rfl)) (hQ : ∀ c a w, Q (.panic c) (a.put oi.dst v) w → Q (.panic c) a w := by exact (fun _ _ _ h => h)) (hy : Region.wanted oi (yielded ops a.tmps) = true := by rfl) (hv : ∀ w, S w → (execOp a.eval oi).run P w = .ok (.value v) w := by rintro w' ⟨s0, s1, s2, s3, s4, s5, s6⟩; go_simp; with_reducible rfl) (ha : a.put (some n) v = a' := by exact ka_) : aR_ P md ops Q S ds (fuel + 1) l a w := take_ l' hi hN hc hQ (Or.inl ⟨hy, hv⟩) hS ha h
theorem mQ_ {P : Program} {md : Region.Mode} {ops : Array Oper} {Q : Exit → Act → World → Prop} {S : World → Prop} {ds : List Nat} {oi : Oper} {v : Value} {fuel : Nat} {l : Array Bool} {a a' : Act} {w : World} (i : Nat) (n : Tmp) (l' : Array Bool) (hS : S w) (h : aR_ P md ops Q S ds fuel l' a' w) (hi : ops[i]? = some oi := by exact rfl) (hN : oi.dst = some n := by exact rfl)
    (hc : ee_ md ops ds l l' i = true := by exact ei_ HT_.out HW_.out (by kernel_rfl)) (hQ : ∀ c a w, Q (.panic c) (a.put oi.dst v) w → Q (.panic c) a w := by exact (fun _ _ _ h => h)) (hy : Region.wanted oi (yielded ops a.tmps) = true := by rfl) (hv : ∀ w, S w → (execOp a.eval oi).run P w = .ok (.value v) w := by rintro w' ⟨s0, s1, s2, s3, s4, s5, s6, s7, s8⟩; go_simp; with_reducible rfl) (ha : a.put (some n) v = a' := by exact ka_) : aR_ P md ops Q S ds (fuel + 1) l a w := take_ l' hi hN hc hQ (Or.inl ⟨hy, hv⟩) hS ha h
theorem m5_ {p : Prop} (h : p := by have := HK1.out; have := BJ.out; have := HK3.out; omega) : p := h
theorem m2_ {p : Prop} (h : p := by have := HK1.out; have := Nh.out; have := HK3.out; omega) : p := h
theorem og_ {p q : Prop} (x_ : aa_ q) (h : q → p := by intro h_; (with_reducible repeat (first | apply Kd.p1_ | apply Kd.p0_ | apply Kd.pZ_)); exact Kd.pX_ h_ (fun _ hk => (by simp [Value.ownBlock]))) : p := h x_.out
theorem pB_ {p q : Prop} (x_ : aa_ q) (h : q → p := by intro h_; (with_reducible repeat (first | apply Kd.p1_ | apply Kd.p0_ | apply Kd.pZ_)); exact Kd.pX_ h_ (fun _ hk => ⟨⟨hk.1.1.2, hk.1.2⟩, hk.2⟩)) : p := h x_.out
theorem pG_ {p q : Prop} (x_ : aa_ q) (h : q → p := by intro h_; (with_reducible repeat (first | apply Kd.p1_ | apply Kd.p0_ | apply Kd.pZ_)); exact Kd.pX_ h_ (fun _ hk => ⟨⟨hk.1.1.2, hk.2⟩, hk.1.2⟩)) : p := h x_.out
theorem pK_ {p q : Prop} (x_ : aa_ q) (h : q → p := by intro h_; (with_reducible repeat (first | apply Kd.p1_ | apply Kd.p0_ | apply Kd.pZ_)); exact Kd.pX_ h_ (fun _ hk => ⟨hk.1.1.2, ⟨hk.2, hk.1.2⟩⟩)) : p := h x_.out
theorem pr_ {p q : Prop} (x_ : aa_ q) (h : q → p := by intro h_; (with_reducible repeat (first | apply Kd.p1_ | apply Kd.p0_ | apply Kd.pZ_)); exact Kd.pX_ h_ (fun _ hk => ⟨hk.1.2, ⟨hk.1.1.2, hk.2⟩⟩)) : p := h x_.out
theorem oe_ {p : Prop} (h : p := by (with_reducible repeat (first | apply Kd.p1_ | apply Kd.p0_ | apply Kd.pZ_)); exact (Q_HO130 h0_ h5_)) : p := h
theorem oj_ {p : Prop} (h : p := by (with_reducible repeat (first | apply Kd.p1_ | apply Kd.p0_ | apply Kd.pZ_)); exact (Q_HO127 h0_ h5_).1) : p := h
theorem kU_ {p : Prop} (h : p := by have := HK1.out; have := yl.out; omega) : p := h
theorem pL_ {p q : Prop} (x_ : aa_ q) (h : q → p := by intro h_; (with_reducible repeat (first | apply Kd.p1_ | apply Kd.p0_ | apply Kd.pZ_)); exact Kd.pX_ h_ (fun _ hk => ⟨⟨hk.2.1, ⟨hk.2.2.1, hk.2.2.2⟩⟩, hk.1⟩)) : p := h x_.out
theorem pF_ {p q : Prop} (x_ : aa_ q) (h : q → p := by intro h_; (with_reducible repeat (first | apply Kd.p1_ | apply Kd.p0_ | apply Kd.pZ_)); exact Kd.pX_ h_ (fun _ hk => ⟨hk.2.1, ⟨hk.2.2.1, ⟨hk.1, hk.2.2.2⟩⟩⟩)) : p := h x_.out
theorem pp_ {p q : Prop} (x_ : aa_ q) (h : q → p := by intro h_; (with_reducible repeat (first | apply Kd.p1_ | apply Kd.p0_ | apply Kd.pZ_)); exact Kd.pX_ h_ (fun _ hk => ⟨⟨hk.1.1.1.2, ⟨hk.1.1.2, hk.1.2⟩⟩, hk.2⟩)) : p := h x_.out
theorem pJ_ {p q : Prop} (x_ : aa_ q) (h : q → p := by intro h_; (with_reducible repeat (first | apply Kd.p1_ | apply Kd.p0_ | apply Kd.pZ_)); exact Kd.pX_ h_ (fun _ hk => ⟨hk.1.1.1.2, ⟨hk.1.1.2, ⟨hk.1.2, hk.2⟩⟩⟩)) : p := h x_.out
theorem pH_ {p q : Prop} (x_ : aa_ q) (h : q → p := by intro h_; (with_reducible repeat (first | apply Kd.p1_ | apply Kd.p0_ | apply Kd.pZ_)); exact Kd.pX_ h_ (fun _ hk => ⟨⟨hk.1.1.1.2, ⟨hk.1.1.2, hk.2⟩⟩, hk.1.2⟩)) : p := h x_.out
theorem pq_ {p q : Prop} (x_ : aa_ q) (h : q → p := by intro h_; (with_reducible repeat (first | apply Kd.p1_ | apply Kd.p0_ | apply Kd.pZ_)); exact Kd.pX_ h_ (fun _ hk => ⟨hk.1.1.1.2, ⟨hk.1.1.2, ⟨hk.2, hk.1.2⟩⟩⟩)) : p := h x_.out
theorem pA_ {p q : Prop} (x_ : aa_ q) (h : q → p := by intro h_; (with_reducible repeat (first | apply Kd.p1_ | apply Kd.p0_ | apply Kd.pZ_)); exact Kd.pX_ h_ (fun _ hk => ⟨hk.1.2, ⟨hk.1.1.1.2, ⟨hk.1.1.2, hk.2⟩⟩⟩)) : p := h x_.out
theorem oK_ {p : Prop} (h : p := by rw [hg]; exact Nat.ne_of_gt (bV_ (g := gW) (o := .cells #[.int .i64 a0_0, .int .i64 a0_1, .int .i64 a0_2] 61 (0, 0)) (Z5 gX))) : p := h
theorem oB_ {p : Prop} (h : p := by rw [hg]; exact Nat.ne_of_lt (bV_ (g := gW) (o := .cells #[.int .i64 a0_0, .int .i64 a0_1, .int .i64 a0_2] 61 (0, 0)) (Z5 gX))) : p := h
theorem mJ_ {p : Prop} (h : p := by have := Gl.out; have := ym.out; first | omega | exact Nat.le_refl _) : p := h
theorem oW_ {p : Prop} (h : p := by rw [hgS]; exact ao_ (Z2)) : p := h
theorem je_ {p q : Prop} (x_ : aa_ q) (h : q → p := by intro h_; rw [h_, List.length_take]; omega) : p := h x_.out
theorem mR_ {p : Prop} (h : p := by have := HK1.out; have := HK2.out; have := HK3.out; have := BO.out; omega) : p := h
theorem mC_ {p : Prop} (h : p := by have := HK1.out; have := HK2.out; have := HK3.out; have := BP.out; omega) : p := h
theorem ps_ {p : Prop} (h : p := by (with_reducible repeat (first | apply Kd.p1_ | apply Kd.p0_ | apply Kd.pZ_)); exact Kd.pX_ ak.out (fun _ hk => ⟨hk.1.2, ⟨hk.2, hk.1.1⟩⟩)) : p := h
theorem oX_ {p : Prop} (h : p := by rw [hg]; exact (ao_ (Z72))) : p := h
theorem hF_ {p : Prop} (h : p := by rw [hg]; exact (ao_ (Z25))) : p := h
theorem hP_ {p : Prop} (h : p := by rw [hg]; exact (ao_ (Z24))) : p := h
theorem hD_ {p : Prop} (h : p := by rw [hg]; exact (ao_ (Z71))) : p := h
theorem o0_ {p : Prop} (h : p := by have h_ : (19 : Int) < ((aN.length : Int) : Int) := of_decide_eq_true (Z8); first | exact h_ | (have e_ := (Kd.pV_ aA.out).1; omega) | simpa using h_) : p := h
theorem ne_ {p : Prop} (h : p := by rw [hw]; exact aK_ (HB.out) GB21.out) : p := h
theorem ot_ {p : Prop} (h : p := by (with_reducible repeat (first | refine aG_ ?_ _ | refine ax_ ?_ | refine aF_ ?_ _)); exact ((Below.heap_setCell _ _ _ _ NIR.out).trans BKI.out)) : p := h
theorem oQ_ {p : Prop} (h : p := by have h_ : (bn : Int) < ((bz.length : Int) : Int) := of_decide_eq_true (Z8); first | exact h_ | (have e_ := (Kd.pV_ bd.out).1; omega) | simpa using h_) : p := h
theorem or_ {p : Prop} (h : p := by have h_ : ((dv) : Int) < ((bl.length : Int) : Int) := of_decide_eq_true (Z8); first | exact h_ | (have e_ := (Kd.pV_ ak.out).1; omega) | simpa using h_) : p := h
theorem of_ {p : Prop} (h : p := by repeat (first | (with_reducible first | exact HB.out | apply aC_ | apply aD_ | apply av_ | refine aK_ ?_ GEI.out) | exact HB.out)) : p := h
theorem o4_ {p : Prop} (h : p := by repeat (first | (with_reducible first | exact HB.out | apply aC_ | apply aD_ | apply av_ | refine aK_ ?_ GE645.out) | exact HB.out)) : p := h
theorem ow_ {p : Prop} (h : p := by repeat (first | (with_reducible first | exact HB.out | apply aC_ | apply aD_ | apply av_ | refine aK_ ?_ GE635.out) | exact HB.out)) : p := h
theorem oi_ {p : Prop} (h : p := by repeat (first | (with_reducible first | exact HB.out | apply aC_ | apply aD_ | apply av_ | refine aK_ ?_ Df.out) | exact HB.out)) : p := h
theorem ol_ {p : Prop} (h : p := by repeat (first | (with_reducible first | exact HB.out | apply aC_ | apply aD_ | apply av_ | refine aK_ ?_ GE429.out) | exact HB.out)) : p := h
theorem oE_ {p : Prop} (h : p := by (try simp only [List.map_toArray, List.map_cons, List.map_nil]); first | done | (simp only [hji9]; rfl) | rfl | (simp only [List.length_drop, List.length_take]; rfl)) : p := h
theorem op_ {p : Prop} (h : p := by first | rfl | (simp [cv_, cu_] <;> rfl) | (simp only [← hji9]; first | rfl | (simp [cv_, cu_] <;> rfl)) | (simp [*, cv_, cu_] <;> rfl)) : p := h
theorem oy_ {p : Prop} (h : p := by first | rfl | (simp [cv_, cu_] <;> rfl) | (simp only [← hji14]; first | rfl | (simp [cv_, cu_] <;> rfl)) | (simp [*, cv_, cu_] <;> rfl)) : p := h
theorem mu_ {p : Prop} (h : p := by first | exact ao_ (aK_ HB.out GES.out) | exact (aK_ HB.out GES.out).size) : p := h
theorem m6_ {p : Prop} (h : p := by rw [hg]; exact Nat.ne_of_lt (bV_ (g := gI) (o := .cells #[.int .i64 cd] 3 (0, 0)) (Z5 BKI))) : p := h
theorem oG_ {p : Prop} (h : p := by repeat (first | (with_reducible first | exact HB.out | apply aC_ | apply aD_ | apply av_ | refine aK_ ?_ yn.out | refine aK_ ?_ Dg.out) | exact HB.out)) : p := h
theorem oM_ {p : Prop} (h : p := by rw [hg]; exact (ao_ (by repeat (first | (with_reducible first | exact HB.out | apply aC_ | apply aD_ | apply av_ | refine aK_ ?_ GEI.out | refine aK_ ?_ GER.out) | exact HB.out)))) : p := h
theorem pD_ {p : Prop} (h : p := by rw [hg]; exact Nat.ne_of_gt (bV_ (g := er) (o := .cells #[.int .i64 a0_0, .int .i64 a0_1] 42 (0, 0)) (Z5 es))) : p := h
theorem pv_ {p : Prop} (h : p := by rw [hg]; exact Nat.ne_of_lt (bV_ (g := er) (o := .cells #[.int .i64 a0_0, .int .i64 a0_1] 42 (0, 0)) (Z5 es))) : p := h
theorem kW_ {p : Prop} (h : p := by rw [hg]; exact Nat.ne_of_gt (aj_.lt (show aj_ w0 _ g s0_0 oB oC from Z28))) : p := h
theorem kR_ {p : Prop} (h : p := by rw [hg]; exact Nat.ne_of_lt (aj_.lt (show aj_ w0 _ g s0_0 oB oC from Z28))) : p := h
theorem pt_ {p : Prop} (h : p := by repeat (first | (with_reducible first | exact HI.out | apply aV_.alloc | apply aV_.drewN | apply aV_.drew) | exact HI.out)) : p := h
theorem mv_ {p : Prop} (h : p := by rw [hg]; exact Nat.ne_of_gt (bV_ (g := et) (o := .cells #[.int .i64 a0_0, .int .i64 a0_1, .int .i64 a0_2] 61 (0, 0)) (Z5 eu))) : p := h
theorem mS_ {p : Prop} (h : p := by rw [hg]; exact Nat.ne_of_lt (bV_ (g := et) (o := .cells #[.int .i64 a0_0, .int .i64 a0_1, .int .i64 a0_2] 61 (0, 0)) (Z5 eu))) : p := h
theorem pU_ {p : Prop} (h : p := by repeat (first | exact (Z11 HR484) | (with_reducible refine Kd.qg_ ?_ _) | (with_reducible refine Kd.qn_ ?_ _) | (with_reducible refine Kd.qo_ ?_))) : p := h
theorem ms_ {p : Prop} (h : p := by repeat (first | exact (Z11 HR461) | (with_reducible refine Kd.qg_ ?_ _) | (with_reducible refine Kd.qn_ ?_ _) | (with_reducible refine Kd.qo_ ?_))) : p := h
theorem pT_ {p : Prop} (h : p := by repeat (first | exact (Z11 HR162) | (with_reducible refine Kd.qg_ ?_ _) | (with_reducible refine Kd.qn_ ?_ _) | (with_reducible refine Kd.qo_ ?_))) : p := h
theorem m4_ {p : Prop} (h : p := by repeat (first | exact (Z11 HR139) | (with_reducible refine Kd.qg_ ?_ _) | (with_reducible refine Kd.qn_ ?_ _) | (with_reducible refine Kd.qo_ ?_))) : p := h
theorem mM_ {p q : Prop} (x_ : aa_ q) (h : q → p := by intro h_; (with_reducible repeat (first | apply Kd.p1_ | apply Kd.p0_ | apply Kd.pZ_)); exact (Kd.p4_ (p := ⟨gI, 0, none⟩) h_ (fun _ hk => hk.2) (.int .i64 cd))) : p := h x_.out
theorem oo_ {p q : Prop} (x_ : aa_ q) (h : q → p := by intro h_; (with_reducible repeat (first | apply Kd.p1_ | apply Kd.p0_ | apply Kd.pZ_)); exact Kd.pX_ (Kd.p4_ (p := ⟨nx, 1, none⟩) (Kd.p4_ (p := ⟨nx, 0, none⟩) (Kd.qf_ h_ ev.out (by decide)) (fun _ hk => hk.2) (.int .i64 ((ac_ l0 bE).f0))) (fun _ hk => hk.2) (.int .i64 ((ac_ l0 bE).f1))) (fun _ hk => trivial)) : p := h x_.out
theorem fc_ {p q : Prop} (x_ : aa_ q) (h : q → p := by intro h_; have := h_; have := HK2.out; omega) : p := h x_.out
theorem nd_ {p : Prop} (h : p := by repeat (first | (with_reducible first | exact HV.out | apply aC_ | apply aD_ | apply av_ | refine aK_ ?_ GV.out) | exact HV.out)) : p := h
theorem nk_ {p : Prop} (h : p := by repeat (first | (with_reducible first | exact HB.out | apply aC_ | apply aD_ | apply av_ | refine aK_ ?_ Dh.out) | exact HB.out)) : p := h
theorem o7_ {p q : Prop} (x_ : aa_ q) (h : q → p := by intro h_; (with_reducible repeat (first | apply Kd.p1_ | apply Kd.p0_ | apply Kd.pZ_)); exact Kd.pX_ (Kd.p4_ (p := ⟨aG, 1, none⟩) (Kd.p4_ (p := ⟨aG, 0, none⟩) (Kd.pX_ h_ (fun k_ hk => (⟨hk, hk.2⟩ : _ ∧ k_ ≠ aG))) (fun _ hk => hk.2) (.int .i64 ((ac_ l0 al).f0))) (fun _ hk => hk.2) (.int .i64 ((ac_ l0 al).f1))) (fun _ hk => hk.1.1)) : p := h x_.out
theorem mx_ {p : Prop} (h : p := by repeat (first | (with_reducible first | exact HB.out | apply aC_ | apply aD_ | apply av_ | refine aK_ ?_ GE208.out) | exact HB.out)) : p := h
theorem mI_ {p : Prop} (h : p := by repeat (first | (with_reducible first | exact HB.out | apply aC_ | apply aD_ | apply av_ | refine aK_ ?_ yo.out) | exact HB.out)) : p := h
theorem o8_ {p : Prop} (h : p := by first | exact Nat.ne_of_lt (Nat.lt_of_lt_of_le hlt123_1 fO.out) | (rw [bo_]; exact Nat.ne_of_lt (Nat.lt_of_lt_of_le hlt123_1 fO.out)) | (show (Addr.add _ _).block ≠ _; rw [bo_]; exact Nat.ne_of_lt (Nat.lt_of_lt_of_le hlt123_1 fO.out)) | (dsimp only; exact Nat.ne_of_lt (Nat.lt_of_lt_of_le hlt123_1 fO.out))) : p := h
theorem os_ {p : Prop} (h : p := by first | exact Nat.ne_of_lt (Nat.lt_of_lt_of_le hlt123_0 fO.out) | (rw [bo_]; exact Nat.ne_of_lt (Nat.lt_of_lt_of_le hlt123_0 fO.out)) | (show (Addr.add _ _).block ≠ _; rw [bo_]; exact Nat.ne_of_lt (Nat.lt_of_lt_of_le hlt123_0 fO.out)) | (dsimp only; exact Nat.ne_of_lt (Nat.lt_of_lt_of_le hlt123_0 fO.out))) : p := h
theorem jl_ {p : Prop} (h : p := by rw [hg]; exact Nat.ne_of_gt (aj_.lt (show aj_ w0 _ g s0_0 s0_1 s0_2 from Z4 HI0))) : p := h
theorem i8_ {p : Prop} (h : p := by rw [hg]; exact Nat.ne_of_lt (aj_.lt (show aj_ w0 _ g s0_0 s0_1 s0_2 from Z4 HI0))) : p := h
theorem oY_ {p q : Prop} (x_ : aa_ q) (h : q → p := by intro h_; (with_reducible repeat (first | apply Kd.p1_ | apply Kd.p0_ | apply Kd.pZ_)); exact Kd.pX_ (Kd.p4_ (p := ⟨aG, 1, none⟩) (Kd.p4_ (p := ⟨aG, 0, none⟩) (Kd.pX_ h_ (fun k_ hk => (⟨hk, hk.2⟩ : _ ∧ k_ ≠ aG))) (fun _ hk => hk.2) (.int .i64 ((ac_ l0 al).f0))) (fun _ hk => hk.2) (.int .i64 ((ac_ l0 al).f1))) (fun _ hk => ⟨hk.1.1, hk.1.2⟩)) : p := h x_.out
theorem lk_ {p q : Prop} (x_ : aa_ q) (h : q → p := by intro h_; (with_reducible repeat (first | apply Kd.p1_ | apply Kd.p0_ | apply Kd.pZ_)); exact Kd.pX_ h_ (fun _ hk => hk.1.1)) : p := h x_.out
theorem m7_ {p : Prop} (h : p := by repeat (first | (with_reducible first | exact HB.out | apply aC_ | apply aD_ | apply av_ | refine aK_ ?_ (aj_.ge HI651.out)) | exact HB.out)) : p := h
theorem mE_ {p : Prop} (h : p := by repeat (first | (with_reducible first | exact HB.out | apply aC_ | apply aD_ | apply av_ | refine aK_ ?_ (aj_.ge HI347.out)) | exact HB.out)) : p := h
theorem oV_ {p q : Prop} (x_ : aa_ q) (h : q → p := by intro h_; repeat (first | (with_reducible first | exact h_ | apply aW_.alloc | apply aW_.drewN | apply aW_.drew) | exact h_)) : p := h x_.out
theorem ks_ {p q : Prop} (x_ : aa_ q) (h : q → p := by intro h_; (with_reducible repeat (first | apply Kd.p1_ | apply Kd.p0_ | apply Kd.pZ_)); exact Kd.pX_ h_ (fun _ hk => ⟨hk.2, hk.1.2⟩)) : p := h x_.out
theorem mZ_ {p : Prop} (h : p := by rw [hg]; exact Nat.ne_of_gt (bV_ (g := bF) (o := .cells #[.int .i64 ((ab_ l0 aK).f0), .int .i64 ((ab_ l0 aK).f1), .int .i64 ((ab_ l0 aK).f2)] 61 (0, 0)) (Z5 bb))) : p := h
theorem mL_ {p : Prop} (h : p := by rw [hg]; exact Nat.ne_of_lt (bV_ (g := bF) (o := .cells #[.int .i64 ((ab_ l0 aK).f0), .int .i64 ((ab_ l0 aK).f1), .int .i64 ((ab_ l0 aK).f2)] 61 (0, 0)) (Z5 bb))) : p := h
theorem lc_ {p : Prop} (h : p := by rw [hg]; exact Nat.ne_of_gt (bV_ (g := bK) (o := .cells #[.int .i64 0, .int .i64 0, .int .i64 0] 61 (0, 0)) (Z5 bm))) : p := h
theorem kr_ {p : Prop} (h : p := by rw [hg]; exact Nat.ne_of_lt (bV_ (g := bK) (o := .cells #[.int .i64 0, .int .i64 0, .int .i64 0] 61 (0, 0)) (Z5 bm))) : p := h
theorem m0_ {p : Prop} (h : p := by rw [hg]; exact Nat.ne_of_gt (bV_ (g := bG) (o := .cells #[.int .i64 ((ab_ l0 ap).f0), .int .i64 ((ab_ l0 ap).f1), .int .i64 ((ab_ l0 ap).f2)] 61 (0, 0)) (Z5 ba))) : p := h
theorem mP_ {p : Prop} (h : p := by rw [hg]; exact Nat.ne_of_lt (bV_ (g := bG) (o := .cells #[.int .i64 ((ab_ l0 ap).f0), .int .i64 ((ab_ l0 ap).f1), .int .i64 ((ab_ l0 ap).f2)] 61 (0, 0)) (Z5 ba))) : p := h
theorem ng_ {p : Prop} (h : p := by repeat (first | (with_reducible first | exact HB.out | apply aC_ | apply aD_ | apply av_ | refine aK_ ?_ vU.out | refine aK_ ?_ GER.out) | exact HB.out)) : p := h
theorem mD_ {p : Prop} (h : p := by repeat (first | (with_reducible first | exact HB.out | apply aC_ | apply aD_ | apply av_ | refine aK_ ?_ Dh.out | refine aK_ ?_ GE607.out) | exact HB.out)) : p := h
theorem mK_ {p : Prop} (h : p := by repeat (first | (with_reducible first | exact HB.out | apply aC_ | apply aD_ | apply av_ | refine aK_ ?_ Di.out | refine aK_ ?_ yp.out) | exact HB.out)) : p := h
theorem ni_ {p : Prop} (h : p := by repeat (first | (with_reducible first | exact HB.out | apply aC_ | apply aD_ | apply av_ | refine aK_ ?_ Dj.out | refine aK_ ?_ yq.out) | exact HB.out)) : p := h
theorem nj_ {p : Prop} (h : p := by repeat (first | (with_reducible first | exact HB.out | apply aC_ | apply aD_ | apply av_ | refine aK_ ?_ vV.out | refine aK_ ?_ yr.out) | exact HB.out)) : p := h
theorem oA_ {p q : Prop} (x_ : aa_ q) (h : q → p := by intro h_; (with_reducible repeat (first | apply Kd.p1_ | apply Kd.p0_ | apply Kd.pZ_)); exact Kd.pX_ h_ (fun _ hk => ⟨hk.1.1.2, ⟨hk.1.2, hk.2⟩⟩)) : p := h x_.out
theorem mT_ {p : Prop} (h : p := by (with_reducible repeat (first | refine aG_ ?_ _ | refine ax_ ?_ | refine aF_ ?_ _)); exact ((Below.heap_setCell _ _ _ _ NRX.out).trans ((Below.heap_setCell _ _ _ _ NRX.out).trans BKR.out))) : p := h
theorem my_ {p : Prop} (h : p := by (with_reducible repeat (first | refine aG_ ?_ _ | refine ax_ ?_ | refine aF_ ?_ _)); exact ((Below.heap_setCell _ _ _ _ NIX.out).trans ((Below.heap_setCell _ _ _ _ NIX.out).trans BKI.out))) : p := h
theorem hZ_ {p : Prop} (h : p := by have := HK1.out; have := HK2.out; have := HK3.out; first | omega | exact Nat.le_refl _) : p := h
theorem oT_ {p q : Prop} (x_ : aa_ q) (h : q → p := by intro h_; (with_reducible repeat (first | apply Kd.p1_ | apply Kd.p0_ | apply Kd.pZ_)); exact (Kd.pX_ (Kd.p4_ (p := ⟨bT, 2, none⟩) (Kd.p4_ (p := ⟨bT, 1, none⟩) (Kd.p4_ (p := ⟨bT, 0, none⟩) (Kd.pX_ h_ (fun k_ hk => (⟨hk, hk.2⟩ : _ ∧ k_ ≠ bT))) (fun _ hk => hk.2) (.int .i64 ((ab_ bg aX).f0))) (fun _ hk => hk.2) (.int .i64 ((ab_ bg aX).f1))) (fun _ hk => hk.2) (.int .i64 ((ab_ bg aX).f2))) (fun _ h_ => h_.1))) : p := h x_.out
theorem oP_ {p q : Prop} (x_ : aa_ q) (h : q → p := by intro h_; (with_reducible repeat (first | refine aG_ ?_ _ | refine ax_ ?_ | refine aF_ ?_ _)); refine bb_ (cs := #[.int .i64 ((ac_ l0 ap).f0), .int .i64 0]) ?_ 1 _ rfl; (with_reducible repeat (first | refine aG_ ?_ _ | refine ax_ ?_ | refine aF_ ?_ _)); refine bb_ (cs := #[.int .i64 0, .int .i64 0]) ?_ 0 _ rfl; (with_reducible repeat (first | refine aG_ ?_ _ | refine ax_ ?_ | refine aF_ ?_ _)); exact h_) : p := h x_.out
theorem o1_ {p q : Prop} (x_ : aa_ q) (h : q → p := by intro h_; (with_reducible repeat (first | apply Kd.p1_ | apply Kd.p0_ | apply Kd.pZ_)); exact Kd.pX_ (Kd.p4_ (p := ⟨bT, 2, none⟩) (Kd.p4_ (p := ⟨bT, 1, none⟩) (Kd.p4_ (p := ⟨bT, 0, none⟩) (Kd.pX_ h_ (fun k_ hk => (⟨hk, hk.2⟩ : _ ∧ k_ ≠ bT))) (fun _ hk => hk.2) (.int .i64 ((ab_ bg aX).f0))) (fun _ hk => hk.2) (.int .i64 ((ab_ bg aX).f1))) (fun _ hk => hk.2) (.int .i64 ((ab_ bg aX).f2))) (fun _ hk => ⟨hk.1.1, hk.1.2⟩)) : p := h x_.out
theorem gw_ {p : Prop} (h : p := by rw [hg]; exact (a9_ (w := w) (g := g) (row := none) (Z35))) : p := h
theorem o9_ {p q : Prop} (x_ : aa_ q) (h : q → p := by intro h_; (with_reducible repeat (first | apply Kd.p1_ | apply Kd.p0_ | apply Kd.pZ_)); exact Kd.pX_ h_ (fun _ hk => ⟨hk.2.2.1, ⟨hk.1, ⟨hk.2.1, hk.2.2.2⟩⟩⟩)) : p := h x_.out
theorem oH_ {p q : Prop} (x_ : aa_ q) (h : q → p := by intro h_; (with_reducible repeat (first | apply Kd.p1_ | apply Kd.p0_ | apply Kd.pZ_)); exact Kd.pX_ h_ (fun _ hk => ⟨hk.1.2, ⟨hk.2, ⟨hk.1.1.1, hk.1.1.2⟩⟩⟩)) : p := h x_.out
theorem pa_ {p : Prop} (h : p := by (with_reducible repeat (first | refine aG_ ?_ _ | refine ax_ ?_ | refine aF_ ?_ _)); refine bb_ (cs := #[.int .i64 ((ac_ l0 bM).f0), .int .i64 0]) ?_ 1 _ rfl; (with_reducible repeat (first | refine aG_ ?_ _ | refine ax_ ?_ | refine aF_ ?_ _)); refine bb_ (cs := #[.int .i64 0, .int .i64 0]) ?_ 0 _ rfl; (with_reducible repeat (first | refine aG_ ?_ _ | refine ax_ ?_ | refine aF_ ?_ _)); exact mf.out) : p := h
theorem kX_ {p : Prop} (h : p := by have h_ : (ca : Int) < ((bI.length : Int) : Int) := of_decide_eq_true (Z8); first | exact h_ | (have e_ := (Kd.pV_ aA.out).1; omega) | simpa using h_) : p := h
theorem kI_ {p : Prop} (h : p := by repeat (first | (with_reducible first | exact HB.out | apply aC_ | apply aD_ | apply av_ | refine aK_ ?_ GER.out) | exact HB.out)) : p := h
theorem d7_ {p : Prop} (h : p := by first | omega | exact Nat.le_refl _) : p := h
theorem ln_ {p : Prop} (h : p := by repeat (first | (with_reducible first | exact HB.out | apply aC_ | apply aD_ | apply av_ | refine aK_ ?_ GE699.out) | exact HB.out)) : p := h
theorem lh_ {p : Prop} (h : p := by repeat (first | (with_reducible first | exact HB.out | apply aC_ | apply aD_ | apply av_ | refine aK_ ?_ Dk.out) | exact HB.out)) : p := h
theorem ld_ {p : Prop} (h : p := by repeat (first | (with_reducible first | exact HB.out | apply aC_ | apply aD_ | apply av_ | refine aK_ ?_ vW.out) | exact HB.out)) : p := h
theorem ll_ {p : Prop} (h : p := by repeat (first | (with_reducible first | exact HB.out | apply aC_ | apply aD_ | apply av_ | refine aK_ ?_ vX.out) | exact HB.out)) : p := h
theorem eL_ {p q : Prop} (x_ : aa_ q) (h : q → p := by intro h_; have := h_; first | omega | exact Nat.le_refl _) : p := h x_.out
theorem oO_ {p : Prop} (h : p := by (with_reducible repeat (first | refine aG_ ?_ _ | refine ax_ ?_ | refine aF_ ?_ _)); refine c0_ ?_ dE.out _; (with_reducible repeat (first | refine aG_ ?_ _ | refine ax_ ?_ | refine aF_ ?_ _)); refine c0_ ?_ dE.out _; (with_reducible repeat (first | refine aG_ ?_ _ | refine ax_ ?_ | refine aF_ ?_ _)); refine c0_ ?_ dE.out _; (with_reducible repeat (first | refine aG_ ?_ _ | refine ax_ ?_ | refine aF_ ?_ _)); exact ba.out) : p := h
theorem o2_ {p : Prop} (h : p := by (with_reducible repeat (first | refine aG_ ?_ _ | refine ax_ ?_ | refine aF_ ?_ _)); refine c0_ ?_ dF.out _; (with_reducible repeat (first | refine aG_ ?_ _ | refine ax_ ?_ | refine aF_ ?_ _)); refine c0_ ?_ dF.out _; (with_reducible repeat (first | refine aG_ ?_ _ | refine ax_ ?_ | refine aF_ ?_ _)); refine c0_ ?_ dF.out _; (with_reducible repeat (first | refine aG_ ?_ _ | refine ax_ ?_ | refine aF_ ?_ _)); exact bb.out) : p := h
theorem fK_ {p : Prop} (h : p := by have := HK1.out; have := HK2.out; have := HK3.out; omega) : p := h
theorem Z99 {p : Prop} (h : p := by (try simp only [List.map_toArray, List.map_cons, List.map_nil]); first | done | rfl) : p := h
theorem Z98 {p q : Prop} (x_ : aa_ q) (h : q → p := by intro h_; (with_reducible repeat (first | apply Kd.p1_ | apply Kd.p0_ | apply Kd.pZ_)); exact Kd.pX_ (Kd.p4_ (p := ⟨dt, 1, none⟩) (Kd.p4_ (p := ⟨dt, 0, none⟩) h_ (fun _ hk => hk.2) (.int .i64 ((ac_ l0 bU).f0))) (fun _ hk => hk.2) (.int .i64 ((ac_ l0 bU).f1))) (fun _ hk => hk.1)) : p := h x_.out
theorem Z97 {p : Prop} (h : p := by have := Gl.out; have := ym.out; have := vY.out; first | omega | exact Nat.le_refl _) : p := h
theorem Z96 {p q : Prop} (x_ : aa_ q) (h : q → p := by intro h_; (with_reducible repeat (first | apply Kd.p1_ | apply Kd.p0_ | apply Kd.pZ_)); exact Kd.pX_ h_ (fun _ hk => ⟨hk.2, hk.1⟩)) : p := h x_.out
theorem Z95 {p : Prop} (h : p := by first | (rw [bo_]; exact Kd.own_blk (aj_.own_ne HI0.out aA.out (by decide))) | (show (Addr.add _ _).block ≠ _; rw [bo_]; exact Kd.own_blk (aj_.own_ne HI0.out aA.out (by decide))) | exact Kd.own_blk (aj_.own_ne HI0.out aA.out (by decide)) | exact Kd.own_blk (ad := ny) (aj_.own_ne HI0.out aA.out (by decide))) : p := h
theorem Z94 {p : Prop} (h : p := by first | exact Nat.ne_of_lt (Nat.lt_of_lt_of_le (by have := World.block_lt_of_cell? _ _ hw122_0; first | rwa [bo_] at this | exact this) fO.out) | (rw [bo_]; exact Nat.ne_of_lt (Nat.lt_of_lt_of_le (by have := World.block_lt_of_cell? _ _ hw122_0; first | rwa [bo_] at this | exact this) fO.out)) | (show (Addr.add _ _).block ≠ _; rw [bo_]; exact Nat.ne_of_lt (Nat.lt_of_lt_of_le (by have := World.block_lt_of_cell? _ _ hw122_0; first | rwa [bo_] at this | exact this) fO.out)) | (dsimp only; exact Nat.ne_of_lt (Nat.lt_of_lt_of_le (by have := World.block_lt_of_cell? _ _ hw122_0; first | rwa [bo_] at this | exact this) fO.out))) : p := h
theorem Z93 {p q : Prop} (x_ : aa_ q) (h : q → p := by intro h_; (with_reducible repeat (first | apply Kd.p1_ | apply Kd.p0_ | apply Kd.pZ_)); exact Kd.pX_ h_ (fun _ hk => ⟨hk.2.1, ⟨hk.1, hk.2.2⟩⟩)) : p := h x_.out
theorem Z92 {p : Prop} (h : p := by (with_reducible repeat (first | refine aG_ ?_ _ | refine ax_ ?_ | refine aF_ ?_ _)); refine bb_ (cs := #[.int .i64 ((ab_ bg aX).f0), .int .i64 ((ab_ bg aX).f1), .int .i64 0]) ?_ 2 _ rfl; (with_reducible repeat (first | refine aG_ ?_ _ | refine ax_ ?_ | refine aF_ ?_ _)); refine bb_ (cs := #[.int .i64 ((ab_ bg aX).f0), .int .i64 0, .int .i64 0]) ?_ 1 _ rfl; (with_reducible repeat (first | refine aG_ ?_ _ | refine ax_ ?_ | refine aF_ ?_ _)); refine bb_ (cs := #[.int .i64 0, .int .i64 0, .int .i64 0]) ?_ 0 _ rfl; (with_reducible repeat (first | refine aG_ ?_ _ | refine ax_ ?_ | refine aF_ ?_ _)); exact bv.out) : p := h
theorem Z91 {p q : Prop} (x_ : aa_ q) (h : q → p := by intro h_; have := h_; omega) : p := h x_.out
theorem Z90 {p q : Prop} (x_ : aa_ q) (h : q → p := by intro h_; (with_reducible repeat (first | apply Kd.p1_ | apply Kd.p0_ | apply Kd.pZ_)); exact Kd.pX_ h_ (fun _ hk => ⟨hk.2, ⟨hk.1.1, ⟨hk.1.2.1, hk.1.2.2⟩⟩⟩)) : p := h x_.out
theorem Z89 {p q : Prop} (x_ : aa_ q) (h : q → p := by intro h_; (with_reducible repeat (first | apply Kd.p1_ | apply Kd.p0_ | apply Kd.pZ_)); exact (Kd.p4_ (p := ⟨dt, 1, none⟩) (Kd.p4_ (p := ⟨dt, 0, none⟩) h_ (fun _ hk => hk.2) (.int .i64 ((ac_ l0 bU).f0))) (fun _ hk => hk.2) (.int .i64 ((ac_ l0 bU).f1)))) : p := h x_.out
theorem Z88 {p : Prop} (h : p := by rw [hg]; exact (a9_ (w := w) (g := g) (row := none) (Z6))) : p := h
theorem Z87 {p : Prop} (h : p := by rw [hw]; exact (by (with_reducible repeat (first | apply Kd.p1_ | apply Kd.p0_ | apply Kd.pZ_)); exact Kd.pX_ (Kd.p4_ (p := ⟨ar, 1, none⟩) (Kd.p4_ (p := ⟨ar, 0, none⟩) (Kd.pX_ aV.out (fun k_ hk => (⟨hk, hk.2⟩ : _ ∧ k_ ≠ ar))) (fun _ hk => hk.2) (.int .i64 ((ac_ au aj).f0))) (fun _ hk => hk.2) (.int .i64 ((ac_ au aj).f1))) (fun _ hk => hk.1.2))) : p := h
theorem Z86 {p : Prop} (h : p := by repeat (first | (with_reducible first | exact HB.out | apply aC_ | apply aD_ | apply av_ | refine aK_ ?_ GE144.out) | exact HB.out)) : p := h
theorem Z85 {p : Prop} (h : p := by repeat (first | (with_reducible first | exact HB.out | apply aC_ | apply aD_ | apply av_ | refine aK_ ?_ GE669.out) | exact HB.out)) : p := h
theorem Z84 {p : Prop} (h : p := by repeat (first | (with_reducible first | exact HB.out | apply aC_ | apply aD_ | apply av_ | refine aK_ ?_ yn.out) | exact HB.out)) : p := h
theorem Z83 {p q : Prop} (x_ : aa_ q) (h : q → p := by intro h_; (with_reducible repeat (first | refine aG_ ?_ _ | refine ax_ ?_ | refine aF_ ?_ _)); refine bb_ (cs := #[.int .i64 ((ac_ l0 al).f0), .int .i64 0]) ?_ 1 _ rfl; (with_reducible repeat (first | refine aG_ ?_ _ | refine ax_ ?_ | refine aF_ ?_ _)); refine bb_ (cs := #[.int .i64 0, .int .i64 0]) ?_ 0 _ rfl; (with_reducible repeat (first | refine aG_ ?_ _ | refine ax_ ?_ | refine aF_ ?_ _)); exact h_) : p := h x_.out
theorem Z82 {p : Prop} (h : p := by first | (rw [bo_]; exact hn250_1) | (show (Addr.add _ _).block ≠ _; rw [bo_]; exact hn250_1) | exact hn250_1) : p := h
theorem Z81 {p : Prop} (h : p := by first | (rw [bo_]; exact hn250_0) | (show (Addr.add _ _).block ≠ _; rw [bo_]; exact hn250_0) | exact hn250_0) : p := h
theorem Z80 {p : Prop} (h : p := by (with_reducible repeat (first | apply Kd.p1_ | apply Kd.p0_ | apply Kd.pZ_)); exact Kd.pX_ ak.out (fun _ hk => ⟨⟨hk.1.2, hk.1.1⟩, hk.2⟩)) : p := h
theorem Z79 {p : Prop} (h : p := by (with_reducible repeat (first | apply Kd.p1_ | apply Kd.p0_ | apply Kd.pZ_)); exact Kd.pX_ ak.out (fun _ hk => ⟨⟨hk.2, hk.1.1⟩, hk.1.2⟩)) : p := h
theorem Z78 {p q : Prop} (x_ : aa_ q) (h : q → p := by intro h_; (with_reducible repeat (first | apply Kd.p1_ | apply Kd.p0_ | apply Kd.pZ_)); exact Kd.pX_ h_ (fun _ hk => ⟨hk.2, ⟨hk.1.2.1, ⟨hk.1.1, hk.1.2.2⟩⟩⟩)) : p := h x_.out
theorem Z77 {p : Prop} (h : p := by (with_reducible repeat (first | refine aG_ ?_ _ | refine ax_ ?_ | refine aF_ ?_ _)); refine bb_ (cs := #[.int .i64 ((ab_ bg aX).f0), .int .i64 ((ab_ bg aX).f1), .int .i64 ((ab_ bg aX).f2)]) ?_ 2 _ rfl; (with_reducible repeat (first | refine aG_ ?_ _ | refine ax_ ?_ | refine aF_ ?_ _)); exact bv.out) : p := h
theorem Z76 {p : Prop} (h : p := by repeat (first | (with_reducible first | exact HB.out | apply aC_ | apply aD_ | apply av_ | refine aK_ ?_ Dl.out) | exact HB.out)) : p := h
theorem Z75 {p : Prop} (h : p := by repeat (first | (with_reducible first | exact HB.out | apply aC_ | apply aD_ | apply av_ | refine aK_ ?_ Dm.out) | exact HB.out)) : p := h
theorem Z74 {p q : Prop} (x_ : aa_ q) (h : q → p := by intro h_; (with_reducible repeat (first | apply Kd.p1_ | apply Kd.p0_ | apply Kd.pZ_)); exact Kd.pX_ h_ (fun _ hk => ⟨⟨hk.2.1, hk.2.2⟩, hk.1⟩)) : p := h x_.out
theorem Z73 {p q : Prop} (x_ : aa_ q) (h : q → p := by intro h_; (with_reducible repeat (first | apply Kd.p1_ | apply Kd.p0_ | apply Kd.pZ_)); exact Kd.pX_ h_ (fun _ hk => ⟨hk.2, ⟨hk.1.1, hk.1.2⟩⟩)) : p := h x_.out
theorem Z72 {p : Prop} (h : p := by repeat (first | (with_reducible first | exact HB.out | apply aC_ | apply aD_ | apply av_ | refine aK_ ?_ vZ.out) | exact HB.out)) : p := h
theorem Z71 {p : Prop} (h : p := by repeat (first | (with_reducible first | exact HB.out | apply aC_ | apply aD_ | apply av_ | refine aK_ ?_ vV.out) | exact HB.out)) : p := h
theorem Z70 {p : Prop} (h : p := by (with_reducible repeat (first | apply Kd.p1_ | apply Kd.p0_ | apply Kd.pZ_)); exact (Kd.pX_ (Kd.p4_ (p := ⟨gY, 2, none⟩) (Kd.p4_ (p := ⟨gY, 1, none⟩) (Kd.p4_ (p := ⟨gY, 0, none⟩) (Kd.qf_ ak.out fc.out (by decide)) (fun _ hk => hk.2) (.int .i64 ((ab_ l0 ag).f0))) (fun _ hk => hk.2) (.int .i64 ((ab_ l0 ag).f1))) (fun _ hk => hk.2) (.int .i64 ((ab_ l0 ag).f2))) (fun _ h_ => h_.1))) : p := h
theorem Z69 {p : Prop} (h : p := by (with_reducible repeat (first | apply Kd.p1_ | apply Kd.p0_ | apply Kd.pZ_)); exact (Kd.pX_ (Kd.p4_ (p := ⟨gZ, 2, none⟩) (Kd.p4_ (p := ⟨gZ, 1, none⟩) (Kd.p4_ (p := ⟨gZ, 0, none⟩) (Kd.qf_ ak.out fd.out (by decide)) (fun _ hk => hk.2) (.int .i64 ((ab_ l0 ap).f0))) (fun _ hk => hk.2) (.int .i64 ((ab_ l0 ap).f1))) (fun _ hk => hk.2) (.int .i64 ((ab_ l0 ap).f2))) (fun _ h_ => h_.1))) : p := h
theorem Z68 {p : Prop} (h : p := by repeat (first | (with_reducible first | exact HB.out | apply aC_ | apply aD_ | apply av_ | refine aK_ ?_ (aV_.ge HI0.out)) | exact HB.out)) : p := h
theorem Z67 {p q : Prop} (x_ : aa_ q) (h : q → p := by intro h_; (with_reducible repeat (first | refine aG_ ?_ _ | refine ax_ ?_ | refine aF_ ?_ _)); refine bb_ (cs := #[.int .i64 ((ab_ l0 ag).f0), .int .i64 ((ab_ l0 ag).f1), .int .i64 0]) ?_ 2 _ rfl; (with_reducible repeat (first | refine aG_ ?_ _ | refine ax_ ?_ | refine aF_ ?_ _)); refine bb_ (cs := #[.int .i64 ((ab_ l0 ag).f0), .int .i64 0, .int .i64 0]) ?_ 1 _ rfl; (with_reducible repeat (first | refine aG_ ?_ _ | refine ax_ ?_ | refine aF_ ?_ _)); refine bb_ (cs := #[.int .i64 0, .int .i64 0, .int .i64 0]) ?_ 0 _ rfl; (with_reducible repeat (first | refine aG_ ?_ _ | refine ax_ ?_ | refine aF_ ?_ _)); exact h_) : p := h x_.out
theorem Z66 {p q : Prop} (x_ : aa_ q) (h : q → p := by intro h_; (with_reducible repeat (first | apply Kd.p1_ | apply Kd.p0_ | apply Kd.pZ_)); exact Kd.pX_ h_ (fun _ hk => ⟨⟨hk.2.2.1, ⟨hk.2.1, hk.2.2.2⟩⟩, hk.1⟩)) : p := h x_.out
theorem Z65 {p q : Prop} (x_ : aa_ q) (h : q → p := by intro h_; (with_reducible repeat (first | apply Kd.p1_ | apply Kd.p0_ | apply Kd.pZ_)); exact Kd.pX_ h_ (fun _ hk => ⟨⟨hk.1.1.1, ⟨hk.1.2, hk.1.1.2⟩⟩, hk.2⟩)) : p := h x_.out
theorem Z64 {p q : Prop} (x_ : aa_ q) (h : q → p := by intro h_; (with_reducible repeat (first | apply Kd.p1_ | apply Kd.p0_ | apply Kd.pZ_)); exact Kd.pX_ h_ (fun _ hk => ⟨⟨hk.1.1.1, ⟨hk.2, hk.1.1.2⟩⟩, hk.1.2⟩)) : p := h x_.out
theorem Z63 {p : Prop} (h : p := by repeat (first | (with_reducible first | exact HB.out | apply aC_ | apply aD_ | apply av_ | refine aK_ ?_ (aj_.ge HI0.out) | refine aK_ ?_ qF.out) | exact HB.out)) : p := h
theorem Z62 {p : Prop} (h : p := by (with_reducible repeat (first | refine aG_ ?_ _ | refine ax_ ?_ | refine aF_ ?_ _)); refine bb_ (cs := #[.int .i64 ((ab_ l0 aK).f0), .int .i64 ((ab_ l0 aK).f1), .int .i64 0]) ?_ 2 _ rfl; (with_reducible repeat (first | refine aG_ ?_ _ | refine ax_ ?_ | refine aF_ ?_ _)); refine bb_ (cs := #[.int .i64 ((ab_ l0 aK).f0), .int .i64 0, .int .i64 0]) ?_ 1 _ rfl; (with_reducible repeat (first | refine aG_ ?_ _ | refine ax_ ?_ | refine aF_ ?_ _)); refine bb_ (cs := #[.int .i64 0, .int .i64 0, .int .i64 0]) ?_ 0 _ rfl; (with_reducible repeat (first | refine aG_ ?_ _ | refine ax_ ?_ | refine aF_ ?_ _)); exact bb.out) : p := h
theorem Z61 {p q : Prop} (x_ : aa_ q) (h : q → p := by intro h_; (with_reducible repeat (first | apply Kd.p1_ | apply Kd.p0_ | apply Kd.pZ_)); exact Kd.pX_ h_ (fun _ hk => hk.2)) : p := h x_.out
theorem Z60 {p : Prop} (h : p := by repeat (first | (with_reducible first | exact HI0.out | apply aV_.alloc | apply aV_.drewN | apply aV_.drew | apply aV_.set_0 | apply aV_.set_1) | exact HI0.out)) : p := h
theorem Z59 {p : Prop} (h : p := by repeat (first | (with_reducible first | exact HB.out | apply aC_ | apply aD_ | apply av_ | refine aK_ ?_ (aj_.ge HI586.out)) | exact HB.out)) : p := h
theorem Z58 {p : Prop} (h : p := by simp only [e0_, Act.put, List.setIfInBounds_toArray, List.set_cons_zero, List.set_cons_succ]) : p := h
theorem Z57 {p : Prop} (h : p := by (with_reducible repeat (first | refine aG_ ?_ _ | refine ax_ ?_ | refine aF_ ?_ _)); refine c0_ ?_ cl.out _; (with_reducible repeat (first | refine aG_ ?_ _ | refine ax_ ?_ | refine aF_ ?_ _)); refine c0_ ?_ cl.out _; (with_reducible repeat (first | refine aG_ ?_ _ | refine ax_ ?_ | refine aF_ ?_ _)); refine c0_ ?_ cl.out _; (with_reducible repeat (first | refine aG_ ?_ _ | refine ax_ ?_ | refine aF_ ?_ _)); exact bm.out) : p := h
theorem Z56 {p : Prop} (h : p := by repeat (first | (with_reducible first | exact HB.out | apply aC_ | apply aD_ | apply av_ | refine aK_ ?_ Dn.out) | exact HB.out)) : p := h
theorem Z55 {p q : Prop} (x_ : aa_ q) (h : q → p := by intro h_; (with_reducible repeat (first | apply Kd.p1_ | apply Kd.p0_ | apply Kd.pZ_)); exact Kd.pX_ h_ (fun _ hk => ⟨hk.1.2, hk.2⟩)) : p := h x_.out
theorem Z54 {p : Prop} (h : p := by have h_ : ((aU) : Int) < ((aE.length : Int) : Int) := of_decide_eq_true (Z8); first | exact h_ | (have e_ := (Kd.pV_ aa.out).1; omega) | simpa using h_) : p := h
theorem Z53 {p : Prop} (h : p := by repeat (first | (with_reducible first | exact HB.out | apply aC_ | apply aD_ | apply av_ | refine aK_ ?_ (aj_.ge HI0.out) | refine aK_ ?_ GE200.out) | exact HB.out)) : p := h
theorem Z52 {p q : Prop} (x_ : aa_ q) (h : q → p := by intro h_; first | (rw [bo_]; exact Kd.foot_ne h_ (by omega) (by decide)) | (show (Addr.add _ _).block ≠ _; rw [bo_]; exact Kd.foot_ne h_ (by omega) (by decide)) | exact Kd.foot_ne h_ (by omega) (by decide) | (dsimp only; exact Kd.foot_ne h_ (by omega) (by decide))) : p := h x_.out
theorem Z51 {p : Prop} (h : p := by first | (rw [bo_]; exact hn249_1) | (show (Addr.add _ _).block ≠ _; rw [bo_]; exact hn249_1) | exact hn249_1) : p := h
theorem Z50 {p : Prop} (h : p := by first | (rw [bo_]; exact hn249_0) | (show (Addr.add _ _).block ≠ _; rw [bo_]; exact hn249_0) | exact hn249_0) : p := h
theorem Z49 {p : Prop} (h : p := by repeat (first | (with_reducible first | exact HB.out | apply aC_ | apply aD_ | apply av_ | refine aK_ ?_ (aV_.ge HI0.out) | refine aK_ ?_ GE124.out) | exact HB.out)) : p := h
theorem Z48 {p : Prop} (h : p := by repeat (first | (with_reducible first | exact HI0.out | apply aV_.alloc | apply aV_.drewN | apply aV_.drew | apply aV_.set_0 | apply aV_.set_1 | refine aV_.far ?_ gi.out _) | exact HI0.out)) : p := h
theorem Z47 {p q : Prop} (x_ : aa_ q) (h : q → p := by intro h_; (with_reducible repeat (first | apply Kd.p1_ | apply Kd.p0_ | apply Kd.pZ_)); exact Kd.pX_ h_ (fun _ hk => hk.1)) : p := h x_.out
theorem Z46 {p : Prop} (h : p := by repeat (first | (with_reducible first | exact HK.out | apply ag_.set_ | apply c4_ | apply cb_ | apply dy_ | refine eg_ ?_ GW200.out _) | exact HK.out)) : p := h
theorem Z45 {p : Prop} (h : p := by repeat (first | (with_reducible first | exact HI4.out | apply aW_.alloc | apply aW_.drewN | apply aW_.drew | apply aW_.set_0 | apply aW_.set_1) | exact HI4.out)) : p := h
theorem Z44 {p : Prop} (h : p := by repeat (first | (with_reducible first | exact HB.out | apply aC_ | apply aD_ | apply av_ | refine aK_ ?_ (aW_.ge HI4.out)) | exact HB.out)) : p := h
theorem Z43 {p : Prop} (h : p := by (try simp only [List.map_toArray, List.map_cons, List.map_nil]); first | done | rfl | (simp only [List.length_drop, List.length_take]; rfl)) : p := h
theorem Z42 {p : Prop} (h : p := by repeat (first | (with_reducible first | exact HB.out | apply aC_ | apply aD_ | apply av_ | refine aK_ ?_ (aj_.ge HI0.out) | refine aK_ ?_ GE324.out) | exact HB.out)) : p := h
theorem Z41 {p : Prop} (h : p := by repeat (first | exact bH_.refl _ | apply bH_.step)) : p := h
theorem Z40 {p : Prop} (h : p := by repeat (first | (with_reducible first | exact HK.out | apply ag_.set_ | apply c4_ | apply cb_ | apply dy_ | refine eg_ ?_ fO.out _) | exact HK.out)) : p := h
theorem Z39 {p : Prop} (h : p := by first | (go_simp; done) | (go_simp; rfl)) : p := h
theorem Z38 {p q : Prop} (x_ : aa_ q) (h : q → p := by intro h_; (with_reducible repeat (first | apply Kd.p1_ | apply Kd.p0_ | apply Kd.pZ_)); exact Kd.pX_ h_ (fun _ hk => trivial)) : p := h x_.out
theorem Z37 {p q : Prop} (x_ : aa_ q) (h : q → p := by intro h_; (with_reducible repeat (first | refine aG_ ?_ _ | refine ax_ ?_ | refine aF_ ?_ _)); refine bb_ (cs := #[.int .i64 e5, .int .i64 eA, .int .i64 0]) ?_ 2 _ rfl; (with_reducible repeat (first | refine aG_ ?_ _ | refine ax_ ?_ | refine aF_ ?_ _)); refine bb_ (cs := #[.int .i64 e5, .int .i64 0, .int .i64 0]) ?_ 1 _ rfl; (with_reducible repeat (first | refine aG_ ?_ _ | refine ax_ ?_ | refine aF_ ?_ _)); refine bb_ (cs := #[.int .i64 0, .int .i64 0, .int .i64 0]) ?_ 0 _ rfl; (with_reducible repeat (first | refine aG_ ?_ _ | refine ax_ ?_ | refine aF_ ?_ _)); exact h_) : p := h x_.out
theorem Z36 {p : Prop} (h : p := by repeat (first | (with_reducible first | exact HB.out | apply aC_ | apply aD_ | apply av_ | refine aK_ ?_ yt.out) | exact HB.out)) : p := h
theorem Z35 {p : Prop} (h : p := by repeat (first | (with_reducible first | exact HK.out | apply ag_.set_ | apply c4_ | apply cb_ | apply dy_ | refine eg_ ?_ qG.out _) | exact HK.out)) : p := h
theorem Z34 {p q : Prop} (x_ : aa_ q) (h : q → p := by intro h_; (with_reducible repeat (first | apply Kd.p1_ | apply Kd.p0_ | apply Kd.pZ_)); exact (Kd.pX_ (Kd.p4_ (p := ⟨bT, 2, none⟩) (Kd.pX_ h_ (fun k_ hk => (⟨hk, hk.2⟩ : _ ∧ k_ ≠ bT))) (fun _ hk => hk.2) (.int .i64 (wrap64 ((wrap64 (((ab_ bg aX).f1) + 4)) + lP)))) (fun _ h_ => h_.1))) : p := h x_.out
theorem Z33 {p q : Prop} (x_ : aa_ q) (h : q → p := by intro h_; (with_reducible repeat (first | refine aG_ ?_ _ | refine ax_ ?_ | refine aF_ ?_ _)); refine bb_ (cs := #[.int .i64 ((ab_ l0 ap).f0), .int .i64 ((ab_ l0 ap).f1), .int .i64 0]) ?_ 2 _ rfl; (with_reducible repeat (first | refine aG_ ?_ _ | refine ax_ ?_ | refine aF_ ?_ _)); refine bb_ (cs := #[.int .i64 ((ab_ l0 ap).f0), .int .i64 0, .int .i64 0]) ?_ 1 _ rfl; (with_reducible repeat (first | refine aG_ ?_ _ | refine ax_ ?_ | refine aF_ ?_ _)); refine bb_ (cs := #[.int .i64 0, .int .i64 0, .int .i64 0]) ?_ 0 _ rfl; (with_reducible repeat (first | refine aG_ ?_ _ | refine ax_ ?_ | refine aF_ ?_ _)); exact h_) : p := h x_.out
theorem Z32 {p : Prop} (h : p := by (with_reducible repeat (first | apply Kd.p1_ | apply Kd.p0_ | apply Kd.pZ_)); exact (Kd.pX_ (Kd.p4_ (p := ⟨ar, 1, none⟩) (Kd.p4_ (p := ⟨ar, 0, none⟩) (Kd.qf_ aa.out aQ.out (by decide)) (fun _ hk => hk.2) (.int .i64 ((ac_ au aj).f0))) (fun _ hk => hk.2) (.int .i64 ((ac_ au aj).f1))) (fun _ h_ => h_.1))) : p := h
theorem Z31 {p : Prop} (h : p := by repeat (first | (with_reducible first | exact HK.out | apply ag_.set_ | apply c4_ | apply cb_ | apply dy_ | refine eg_ ?_ GW324.out _) | exact HK.out)) : p := h
theorem Z30 {p : Prop} (h : p := by (with_reducible repeat (first | apply Kd.p1_ | apply Kd.p0_ | apply Kd.pZ_)); exact (Kd.pX_ (Kd.p4_ (p := ⟨ar, 1, none⟩) (Kd.p4_ (p := ⟨ar, 0, none⟩) (Kd.pX_ aV.out (fun k_ hk => (⟨hk, hk.2⟩ : _ ∧ k_ ≠ ar))) (fun _ hk => hk.2) (.int .i64 ((ac_ au aj).f0))) (fun _ hk => hk.2) (.int .i64 ((ac_ au aj).f1))) (fun _ h_ => h_.1))) : p := h
theorem Z29 {p : Prop} (h : p := by repeat (first | (with_reducible first | exact HB.out | apply aC_ | apply aD_ | apply av_ | refine aK_ ?_ (aj_.ge HI0.out) | refine aK_ ?_ qF.out | refine aK_ ?_ v2.out) | exact HB.out)) : p := h
theorem Z28 {p : Prop} (h : p := by repeat (first | (with_reducible first | exact HI0.out | apply aj_.alloc | apply aj_.drewN | apply aj_.drew | apply aj_.set_1 | apply aj_.set_2 | refine aj_.far ?_ eB.out _) | exact HI0.out)) : p := h
theorem Z27 {p : Prop} (h : p := by repeat (first | (with_reducible first | exact HI0.out | apply aj_.alloc | apply aj_.drewN | apply aj_.drew | apply aj_.set_1 | apply aj_.set_2 | refine aj_.far ?_ wa.out _) | exact HI0.out)) : p := h
theorem Z26 {p : Prop} (h : p := by repeat (first | (with_reducible first | exact HK.out | apply ag_.set_ | apply c4_ | apply cb_ | apply dy_ | refine eg_ ?_ qG.out _ | refine eg_ ?_ wb.out _) | exact HK.out)) : p := h
theorem Z25 {p : Prop} (h : p := by repeat (first | (with_reducible first | exact HB.out | apply aC_ | apply aD_ | apply av_ | refine aK_ ?_ Di.out) | exact HB.out)) : p := h
theorem Z24 {p : Prop} (h : p := by repeat (first | (with_reducible first | exact HB.out | apply aC_ | apply aD_ | apply av_ | refine aK_ ?_ Dj.out) | exact HB.out)) : p := h
theorem Z23 {p : Prop} (h : p := by repeat (first | (with_reducible first | exact HI0.out | apply aj_.alloc | apply aj_.drewN | apply aj_.drew | apply aj_.set_1 | apply aj_.set_2 | refine aj_.far ?_ fe.out _) | exact HI0.out)) : p := h
theorem Z22 {p : Prop} (h : p := by repeat (first | (with_reducible first | exact HB.out | apply aC_ | apply aD_ | apply av_ | refine aK_ ?_ GE179.out) | exact HB.out)) : p := h
theorem Z21 {p : Prop} (h : p := by rw [hg]; exact (ao_ (Z2))) : p := h
theorem Z20 {p : Prop} (h : p := by repeat (first | (with_reducible first | exact HI0.out | apply aj_.alloc | apply aj_.drewN | apply aj_.drew | apply aj_.set_1 | apply aj_.set_2 | refine aj_.far ?_ eB.out _ | refine aj_.far ?_ ff.out _) | exact HI0.out)) : p := h
theorem Z19 {p : Prop} (h : p := by (with_reducible repeat (first | apply Kd.p1_ | apply Kd.p0_ | apply Kd.pZ_)); exact Kd.pX_ (Kd.p4_ (p := ⟨ar, 1, none⟩) (Kd.p4_ (p := ⟨ar, 0, none⟩) (Kd.qf_ aa.out aQ.out (by decide)) (fun _ hk => hk.2) (.int .i64 ((ac_ au aj).f0))) (fun _ hk => hk.2) (.int .i64 ((ac_ au aj).f1))) (fun _ hk => trivial)) : p := h
theorem Z18 {p : Prop} (h : p := by repeat (first | (with_reducible first | exact HB.out | apply aC_ | apply aD_ | apply av_ | refine aK_ ?_ gH.out) | exact HB.out)) : p := h
theorem Z17 {p : Prop} (h : p := by first | exact Kd.qt_ _ _ _ _ _ | exact Kd.N_nil _ _ _ _ _ | exact Kd.V_nil _ _ _ _ _ | exact Kd.Q_nil _ _ _ _ _ | exact Kd.S_nil _ _ _ _ _) : p := h
theorem Z16 {p : Prop} (h : p := by (with_reducible repeat (first | refine aG_ ?_ _ | refine ax_ ?_ | refine aF_ ?_ _)); refine bb_ (cs := #[.int .i64 ((ac_ au aj).f0), .int .i64 0]) ?_ 1 _ rfl; (with_reducible repeat (first | refine aG_ ?_ _ | refine ax_ ?_ | refine aF_ ?_ _)); refine bb_ (cs := #[.int .i64 0, .int .i64 0]) ?_ 0 _ rfl; (with_reducible repeat (first | refine aG_ ?_ _ | refine ax_ ?_ | refine aF_ ?_ _)); exact aQ.out) : p := h
theorem Z15 {p q : Prop} (x_ : aa_ q) (h : q → p := by intro h_; repeat (first | exact h_ | (with_reducible refine Kd.qg_ ?_ _) | (with_reducible refine Kd.qn_ ?_ _) | (with_reducible refine Kd.qo_ ?_))) : p := h x_.out
theorem Z14 {p : Prop} (h : p := by first | rfl | (simp; done) | (simp [*]; done)) : p := h
theorem Z13 {p : Prop} (h : p := by repeat (first | (with_reducible first | exact HB.out | apply aC_ | apply aD_ | apply av_ | refine aK_ ?_ Do.out) | exact HB.out)) : p := h
theorem Z12 {p : Prop} (h : p := by repeat (first | (with_reducible first | exact HB.out | apply aC_ | apply aD_ | apply av_ | refine aK_ ?_ GE130.out) | exact HB.out)) : p := h
theorem Z11 {p q : Prop} (x_ : aa_ q) (h : q → p := by intro h_; repeat (first | (with_reducible exact h_) | (with_reducible refine Kd.qg_ ?_ _) | (with_reducible refine Kd.qn_ ?_ _) | (with_reducible refine Kd.qo_ ?_) | exact h_)) : p := h x_.out
theorem Z10 {p q : Prop} (x_ : aa_ q) (h : q → p := by intro h_; repeat (first | exact (Kd.p7_ h_ HB.out) | (with_reducible refine Kd.qg_ ?_ _) | (with_reducible refine Kd.qn_ ?_ _) | (with_reducible refine Kd.qo_ ?_))) : p := h x_.out
theorem Z9 {p : Prop} (h : p := by first | rfl | (simp [cv_, cu_] <;> rfl) | (simp [*, cv_, cu_] <;> rfl)) : p := h
theorem Z8 {p : Prop} (h : p := by first | (with_reducible assumption) | assumption) : p := h
theorem Z7 {p : Prop} (h : p := by repeat (first | (with_reducible first | exact HB.out | apply aC_ | apply aD_ | apply av_ | refine aK_ ?_ (aj_.ge HI0.out)) | exact HB.out)) : p := h
theorem Z6 {p : Prop} (h : p := by repeat (first | (with_reducible first | exact HK.out | apply ag_.set_ | apply c4_ | apply cb_ | apply dy_) | exact HK.out)) : p := h
theorem Z5 {p q : Prop} (x_ : aa_ q) (h : q → p := by intro h_; (with_reducible repeat (first | refine aG_ ?_ _ | refine ax_ ?_ | refine aF_ ?_ _)); exact h_) : p := h x_.out
theorem Z4 {p q : Prop} (x_ : aa_ q) (h : q → p := by intro h_; repeat (first | (with_reducible first | exact h_ | apply aj_.alloc | apply aj_.drewN | apply aj_.drew | apply aj_.set_1 | apply aj_.set_2) | exact h_)) : p := h x_.out
theorem Z3 {p q : Prop} (x_ : aa_ q) (h : q → p := by intro h_; repeat (first | exact (Kd.pV_ h_).2.2 | (with_reducible refine Kd.qg_ ?_ _) | (with_reducible refine Kd.qn_ ?_ _) | (with_reducible refine Kd.qo_ ?_))) : p := h x_.out
theorem Z2 {p : Prop} (h : p := by repeat (first | (with_reducible first | exact HB.out | apply aC_ | apply aD_ | apply av_) | exact HB.out)) : p := h
theorem Z1 {p q : Prop} (x_ : aa_ q) (h : q → p := by intro h_; (with_reducible repeat (first | apply Kd.p1_ | apply Kd.p0_ | apply Kd.pZ_)); exact h_) : p := h x_.out
theorem Ya_ {p q : Prop} (x_ : aa_ q) (h : q → p := by intro h_; exact Kd.p5_ (Z1 ⟨h_⟩) hb) : p := h x_.out
theorem Yb_ {p q : Prop} (x_ : aa_ q) (h : q → p := by intro h_; exact Kd.qc_ (Z1 ⟨h_⟩) (Kd.p9_ ho0) hb) : p := h x_.out
theorem Ye_ {p q : Prop} (x_ : aa_ q) (h : q → p := by intro h_; exact cj_ (Z5 ⟨h_⟩) hb) : p := h x_.out
theorem Yd_ {p q : Prop} (x_ : aa_ q) (h : q → p := by intro h_; exact Kd.qr_ (Z1 ⟨h_⟩)) : p := h x_.out
def oR_ : Option Int → Value
  | none => .nilIface
  | some c => .iface 0 (.int .i64 c)
theorem cv_ : oR_ none = .nilIface := rfl
theorem cu_ (c : Int) : oR_ (some c) = .iface 0 (.int .i64 c) := rfl
theorem hc_ : (Tryz.prog.info? 3).map (fun i => (i.zero, i.size, i.bytes)) = some (some (.int .i64 0), 1, 8) := by kernel_rfl
theorem pd_ : (Tryz.prog.info? 4).map (fun i => (i.zero, i.size, i.bytes)) = some (some (.bool false), 1, 1) := by kernel_rfl
theorem pR_ : (Tryz.prog.info? 5).map (fun i => (i.zero, i.size, i.bytes)) = some (some (.int .u8 0), 1, 1) := by kernel_rfl
theorem pf_ : (Tryz.prog.info? 9).map (fun i => (i.zero, i.size, i.bytes)) = some (some (.string ⟨#[]⟩), 1, 16) := by kernel_rfl
theorem fQ_ : (Tryz.prog.info? 42).map (fun i => (i.zero, i.size, i.bytes)) = some (some (.agg #[(.int .i64 0), (.int .i64 0)]), 2, 16) := by kernel_rfl
theorem eY_ : (Tryz.prog.info? 61).map (fun i => (i.zero, i.size, i.bytes)) = some (some (.agg #[(.int .i64 0), (.int .i64 0), (.int .i64 0)]), 3, 24) := by kernel_rfl
structure S61 where
  f0 : Int
  f1 : Int
  f2 : Int
def z61 : S61 := ⟨(0 : Int), (0 : Int), (0 : Int)⟩
def k61 : Kd S61 := Kd.iso (Kd.pair (Kd.int .i64) (Kd.pair (Kd.int .i64) (Kd.int .i64))) (fun x : S61 => (x.f0, x.f1, x.f2))
theorem na_ {w : World} {x : S61} {cs : List Value} (h : k61.K w x cs) : cs = [.int .i64 x.f0, .int .i64 x.f1, .int .i64 x.f2] := by
  obtain ⟨_, _, rfl, rfl, ⟨_, _, rfl, rfl, rfl⟩⟩ := h
  exact rfl
theorem c6_ {w : World} {base : Nat} {ok : Nat → Prop} {x : S61} {cs : List Value} (h : k61.M w base ok x cs) : cs = [.int .i64 x.f0, .int .i64 x.f1, .int .i64 x.f2] := by
  obtain ⟨_, _, rfl, rfl, ⟨_, _, rfl, rfl, rfl⟩⟩ := h
  exact rfl
theorem pP_ (w : World) (x : S61)  : k61.K w x [.int .i64 x.f0, .int .i64 x.f1, .int .i64 x.f2] := ⟨[.int .i64 x.f0], [.int .i64 x.f1, .int .i64 x.f2], rfl, rfl, ⟨[.int .i64 x.f1], [.int .i64 x.f2], rfl, rfl, rfl⟩⟩
theorem b9_ (w : World) (base : Nat) (ok : Nat → Prop) (x : S61)  : k61.M w base ok x [.int .i64 x.f0, .int .i64 x.f1, .int .i64 x.f2] := ⟨[.int .i64 x.f0], [.int .i64 x.f1, .int .i64 x.f2], rfl, rfl, ⟨[.int .i64 x.f1], [.int .i64 x.f2], rfl, rfl, rfl⟩⟩
def ab_ (xs : List S61) (i : Int) : S61 := xs.getD i.toNat z61
theorem di_ {w : World} {A : Option Addr} {n : Nat} {xs : List S61} (h : Kd.C k61 w A n xs) (i : Int) (h0 : 0 ≤ i) (h1 : i < n) : ∃ ad , A = some ad ∧ w.cell? (ad.add (i.toNat * 3)) = some (.int .i64 (ab_ xs i).f0) ∧ w.cell? ⟨(ad.add (i.toNat * 3)).block, (ad.add (i.toNat * 3)).off + 1, none⟩ = some (.int .i64 (ab_ xs i).f1) ∧ w.cell? ⟨(ad.add (i.toNat * 3)).block, (ad.add (i.toNat * 3)).off + 2, none⟩ = some (.int .i64 (ab_ xs i).f2) := by
  obtain ⟨ad, c, e, _, hK, hc0⟩ := Kd.qK_ h z61 i h0 h1
  have hc : ∀ j u, c[j]? = some u → w.cell? (ad.add (i.toNat * 3 + j)) = some u := hc0
  obtain rfl := na_ hK
  exact ⟨ad, e, hc 0 _ rfl, by rw [← gv_ _ _ 1 (by omega)]; exact hc 1 _ rfl, by rw [← gv_ _ _ 2 (by omega)]; exact hc 2 _ rfl⟩
structure S42 where
  f0 : Int
  f1 : Int
def z42 : S42 := ⟨(0 : Int), (0 : Int)⟩
def k42 : Kd S42 := Kd.iso (Kd.pair (Kd.int .i64) (Kd.int .i64)) (fun x : S42 => (x.f0, x.f1))
theorem mr_ {w : World} {x : S42} {cs : List Value} (h : k42.K w x cs) : cs = [.int .i64 x.f0, .int .i64 x.f1] := by
  obtain ⟨_, _, rfl, rfl, rfl⟩ := h
  exact rfl
theorem ep_ {w : World} {base : Nat} {ok : Nat → Prop} {x : S42} {cs : List Value} (h : k42.M w base ok x cs) : cs = [.int .i64 x.f0, .int .i64 x.f1] := by
  obtain ⟨_, _, rfl, rfl, rfl⟩ := h
  exact rfl
theorem pO_ (w : World) (x : S42)  : k42.K w x [.int .i64 x.f0, .int .i64 x.f1] := ⟨[.int .i64 x.f0], [.int .i64 x.f1], rfl, rfl, rfl⟩
theorem cy_ (w : World) (base : Nat) (ok : Nat → Prop) (x : S42)  : k42.M w base ok x [.int .i64 x.f0, .int .i64 x.f1] := ⟨[.int .i64 x.f0], [.int .i64 x.f1], rfl, rfl, rfl⟩
def ac_ (xs : List S42) (i : Int) : S42 := xs.getD i.toNat z42
theorem cZ_ {w : World} {A : Option Addr} {n : Nat} {xs : List S42} (h : Kd.C k42 w A n xs) (i : Int) (h0 : 0 ≤ i) (h1 : i < n) : ∃ ad , A = some ad ∧ w.cell? (ad.add (i.toNat * 2)) = some (.int .i64 (ac_ xs i).f0) ∧ w.cell? ⟨(ad.add (i.toNat * 2)).block, (ad.add (i.toNat * 2)).off + 1, none⟩ = some (.int .i64 (ac_ xs i).f1) := by
  obtain ⟨ad, c, e, _, hK, hc0⟩ := Kd.qK_ h z42 i h0 h1
  have hc : ∀ j u, c[j]? = some u → w.cell? (ad.add (i.toNat * 2 + j)) = some u := hc0
  obtain rfl := mr_ hK
  exact ⟨ad, e, hc 0 _ rfl, by rw [← gv_ _ _ 1 (by omega)]; exact hc 1 _ rfl⟩
theorem lt_ {α β : Type} {x : α} {f : α → Option β} {r : β} (h : (some x).bind f = some r) : ∃ y, aa_ (y = x) ∧ f y = some r := ⟨x, ⟨rfl⟩, h⟩
theorem bd_ {α β : Type} {o : Option α} {f : α → Option β} {r : β} (h : o.bind f = some r) : ∃ x, aa_ (o = some x) ∧ f x = some r := by obtain ⟨x, h1, h2⟩ := Option.bind_eq_some_iff.mp h; exact ⟨x, ⟨h1⟩, h2⟩
theorem ig_ {α : Type} {p : Prop} [Decidable p] {a : Option α} {r : α} (h : (if p then a else none) = some r) : p ∧ a = some r := by by_cases c : p; (rw [if_pos c] at h; exact ⟨c, h⟩); (rw [if_neg c] at h; cases h)
theorem id_ {α : Type} {p : Prop} [Decidable p] {a : Option α} {r : α} (h : (if p then a else none) = some r) : decide p = true ∧ a = some r := ⟨decide_eq_true (ig_ h).1, (ig_ h).2⟩
theorem ie_ {α : Type} {p : Prop} [Decidable p] {a : Option α} {r : α} (h : (if p then a else none) = some r) : p = True ∧ decide p = true ∧ a = some r := ⟨eq_true (ig_ h).1, decide_eq_true (ig_ h).1, (ig_ h).2⟩
theorem ia_ {α : Type} {p : Prop} [Decidable p] {a : Option α} {r : α} (h : (if p then a else none) = some r) : aa_ p ∧ a = some r := ⟨⟨(ig_ h).1⟩, (ig_ h).2⟩
theorem iw_ {α : Type} {p : Prop} [Decidable p] {a b : Option α} {r : Option α} (h : (if p then a else b) = r) : (p ∧ a = r) ∨ (¬ p ∧ b = r) := by by_cases c : p; (rw [if_pos c] at h; exact .inl ⟨c, h⟩); (rw [if_neg c] at h; exact .inr ⟨c, h⟩)
theorem iv_ {α : Type} {p : Prop} [Decidable p] {a b : Option α} {r : Option α} (h : (if p then a else b) = r) : (decide p = true ∧ a = r) ∨ (decide p = false ∧ b = r) := by by_cases c : p; (rw [if_pos c] at h; exact .inl ⟨decide_eq_true c, h⟩); (rw [if_neg c] at h; exact .inr ⟨decide_eq_false c, h⟩)
theorem ib_ {α β : Type} [DecidableEq β] {x y : β} {i : Decidable (x = y)} {a b : Option α} {r : Option α} (h : (@ite _ (x = y) i a b) = r) : ((x == y) = true ∧ (x != y) = false ∧ a = r) ∨ ((x == y) = false ∧ (x != y) = true ∧ b = r) := by by_cases c : x = y; (rw [if_pos c] at h; exact .inl ⟨beq_iff_eq.mpr c, bne_eq_false_iff_eq.mpr c, h⟩); (rw [if_neg c] at h; exact .inr ⟨beq_eq_false_iff_ne.mpr c, bne_iff_ne.mpr c, h⟩)
theorem ic_ {α β : Type} [DecidableEq β] {x y : β} {i : Decidable (x = y)} {a b : Option α} {r : Option α} (h : (@ite _ (x = y) i a b) = r) : ((x == y) = true ∧ (x != y) = false ∧ a = r) ∨ ((x == y) = false ∧ (x != y) = true ∧ ¬ x = y ∧ b = r) := by by_cases c : x = y; (rw [if_pos c] at h; exact .inl ⟨beq_iff_eq.mpr c, bne_eq_false_iff_eq.mpr c, h⟩); (rw [if_neg c] at h; exact .inr ⟨beq_eq_false_iff_ne.mpr c, bne_iff_ne.mpr c, c, h⟩)
theorem it_ {α : Type} {c : Bool} {i : Decidable (c = true)} {a b : Option α} {r : Option α} (h : (@ite _ (c = true) i a b) = r) : (c = true ∧ a = r) ∨ (c = false ∧ b = r) := by cases c; (rw [if_neg Bool.false_ne_true] at h; exact .inr ⟨rfl, h⟩); (rw [if_pos rfl] at h; exact .inl ⟨rfl, h⟩)
theorem iu_ {α : Type} {c : Bool} {i : Decidable (c = true)} {a : Option α} {r : α} (h : (@ite _ (c = true) i a none) = some r) : c = true ∧ a = some r := by cases c; (rw [if_neg Bool.false_ne_true] at h; cases h); (rw [if_pos rfl] at h; exact ⟨rfl, h⟩)
theorem nm_ {P : Program} {ops : Array Oper} {Q : Exit → Act → World → Prop} {md : Region.Mode} {S : World → Prop} {ds : List Nat} {fuel : Nat} {l : Array Bool} {a a' b : Act} {v : Value} {w : World} (N : Tmp) (k : aR_ P md ops Q S ds fuel l a' w) (h0 : a = Act.put b (some N) v := by exact rfl) (h : Act.put b (some N) v = a' := by (simp only [Act.put, List.setIfInBounds_toArray, List.set_cons_zero, List.set_cons_succ, bA_, ch_]; rfl)) : aR_ P md ops Q S ds fuel l a w := dk_ (h0.trans h) k
theorem zo_ {w W : World} {g : Nat} {o : Obj} (x_ : aa_ (W.heap[g]? = some o)) (h : W.heap[g]? = some o → w.heap[g]? = some o := by intro h_; (with_reducible repeat (first | refine aG_ ?_ _ | refine ax_ ?_ | refine aF_ ?_ _)); exact h_) : w.heap[g]? = some o := h x_.out
theorem sp_ {α β : Type} {a c : α} {b d : β} (h : some (a, b) = some (c, d)) : a = c ∧ b = d := by cases h; exact ⟨rfl, rfl⟩
theorem sq_ {α β γ : Type} {a d : α} {b e : β} {c f : γ} (h : some (a, b, c) = some (d, e, f)) : a = d ∧ b = e ∧ c = f := by cases h; exact ⟨rfl, rfl, rfl⟩
theorem on_ {P : Program} {ops : Array Oper} {Q : Exit → Act → World → Prop} {md : Region.Mode} {S : World → Prop} {ds : List Nat} (i : Nat) (N : Option Tmp) {oi : Oper} {fuel : Nat} {l : Array Bool} {a : Act} {w : World} (l' : Array Bool) (h : ∀ (K : Act → World → Prop), Shut (∀ (a' : Act) (w' : World), S w' → (S w' → aR_ P md ops Q S ds fuel l' a' w') → K a' w') → if Region.wanted oi (yielded ops a.tmps) = true then Oper.wp P oi a w K Q else K (a.put N undef) w) (h1 : ops[i]? = some oi := by rfl) (h2 : oi.dst = N := by rfl) (h3 : fk_ md ops l l' i = true := by exact fP_ HT_.out (by kernel_rfl)) (h4 : ¬ i ∈ ds := by decide) : aR_ P md ops Q S ds (fuel + 1) l a w := pw_ l' h1 h2 h3 h4 h
theorem d0_ {W : World} {A : Option Addr} {n : Nat} {xs : List S61} (h : Kd.C k61 W A n xs) (i : Int) (h0 : decide (0 ≤ i) = true := by first | (with_reducible assumption) | assumption) (h1 : decide (i < (n : Int)) = true := by first | (with_reducible assumption) | assumption) : ∃ ad, A = some ad ∧ W.cell? (ad.add (i.toNat * 3)) = some (.int .i64 (ab_ xs i).f0) ∧ W.cell? ⟨(ad.add (i.toNat * 3)).block, (ad.add (i.toNat * 3)).off + 1, none⟩ = some (.int .i64 (ab_ xs i).f1) ∧ W.cell? ⟨(ad.add (i.toNat * 3)).block, (ad.add (i.toNat * 3)).off + 2, none⟩ = some (.int .i64 (ab_ xs i).f2) ∧ (0 ≤ i) = True ∧ (i < (n : Int)) = True := by
  obtain ⟨ad, e, c0, c1, c2⟩ := di_ h i (of_decide_eq_true h0) (of_decide_eq_true h1)
  exact ⟨ad, e, c0, c1, c2, eq_true (of_decide_eq_true h0), eq_true (of_decide_eq_true h1)⟩
theorem d6_ {w W : World} {A : Option Addr} {n : Nat} {xs : List S61} (h : Kd.C k61 w A n xs) (hB : Below w.heap.size w W) (i : Int) (h0 : decide (0 ≤ i) = true := by first | (with_reducible assumption) | assumption) (h1 : decide (i < (n : Int)) = true := by first | (with_reducible assumption) | assumption) : ∃ ad, A = some ad ∧ W.cell? (ad.add (i.toNat * 3)) = some (.int .i64 (ab_ xs i).f0) ∧ W.cell? ⟨(ad.add (i.toNat * 3)).block, (ad.add (i.toNat * 3)).off + 1, none⟩ = some (.int .i64 (ab_ xs i).f1) ∧ W.cell? ⟨(ad.add (i.toNat * 3)).block, (ad.add (i.toNat * 3)).off + 2, none⟩ = some (.int .i64 (ab_ xs i).f2) ∧ (0 ≤ i) = True ∧ (i < (n : Int)) = True := by
  obtain ⟨ad, e, c0, c1, c2⟩ := di_ h i (of_decide_eq_true h0) (of_decide_eq_true h1)
  exact ⟨ad, e, (hB.cell (World.block_lt_of_cell? w _ c0)).trans c0, (hB.cell (World.block_lt_of_cell? w _ c1)).trans c1, (hB.cell (World.block_lt_of_cell? w _ c2)).trans c2, eq_true (of_decide_eq_true h0), eq_true (of_decide_eq_true h1)⟩
theorem cg_ {W : World} {A : Option Addr} {n : Nat} {xs : List S42} (h : Kd.C k42 W A n xs) (i : Int) (h0 : decide (0 ≤ i) = true := by first | (with_reducible assumption) | assumption) (h1 : decide (i < (n : Int)) = true := by first | (with_reducible assumption) | assumption) : ∃ ad, A = some ad ∧ W.cell? (ad.add (i.toNat * 2)) = some (.int .i64 (ac_ xs i).f0) ∧ W.cell? ⟨(ad.add (i.toNat * 2)).block, (ad.add (i.toNat * 2)).off + 1, none⟩ = some (.int .i64 (ac_ xs i).f1) ∧ (0 ≤ i) = True ∧ (i < (n : Int)) = True := by
  obtain ⟨ad, e, c0, c1⟩ := cZ_ h i (of_decide_eq_true h0) (of_decide_eq_true h1)
  exact ⟨ad, e, c0, c1, eq_true (of_decide_eq_true h0), eq_true (of_decide_eq_true h1)⟩
theorem ds_ {w W : World} {A : Option Addr} {n : Nat} {xs : List S42} (h : Kd.C k42 w A n xs) (hB : Below w.heap.size w W) (i : Int) (h0 : decide (0 ≤ i) = true := by first | (with_reducible assumption) | assumption) (h1 : decide (i < (n : Int)) = true := by first | (with_reducible assumption) | assumption) : ∃ ad, A = some ad ∧ W.cell? (ad.add (i.toNat * 2)) = some (.int .i64 (ac_ xs i).f0) ∧ W.cell? ⟨(ad.add (i.toNat * 2)).block, (ad.add (i.toNat * 2)).off + 1, none⟩ = some (.int .i64 (ac_ xs i).f1) ∧ (0 ≤ i) = True ∧ (i < (n : Int)) = True := by
  obtain ⟨ad, e, c0, c1⟩ := cZ_ h i (of_decide_eq_true h0) (of_decide_eq_true h1)
  exact ⟨ad, e, (hB.cell (World.block_lt_of_cell? w _ c0)).trans c0, (hB.cell (World.block_lt_of_cell? w _ c1)).trans c1, eq_true (of_decide_eq_true h0), eq_true (of_decide_eq_true h1)⟩
theorem e6_ {ops : Array Oper} {o : Oper} {a : Act} {Q : Exit → Act → World → Prop} {w0 W : World} {Kc : Act → World → Prop} (base : Nat) (s x : Operand) (v : Value) (xs ys : List S61) {A_ : Option Addr} {m c : Nat} (ok : Nat → Prop) (h1 : a.eval s = v) (h2 : a.eval x = Value.slice A_ m c) (aO : Kd.R k61 61 W base ok v xs) (aR : bZ_ (Kd.M k61 W base (fun _ => False)) (Kd.sz k61) W A_ m ys) (aF : ∀ (k : Nat), W.heap.size ≤ k → ok k) (aB : Below base w0 W) (aS : base ≤ W.heap.size) (aL : (xs.length + m) * 24 ≤ 140737488355328) (k : (∀ (v1 : Value) (w1 : World), Kd.R k61 61 w1 base ok v1 (xs ++ ys) → Below base w0 w1 → W.grownBy w1 v.ownBlock → (v1.ownBlock = v.ownBlock ∨ ∃ b, v1.ownBlock = some b ∧ W.heap.size ≤ b) → Kc (a.put o.dst v1) w1)) (hg : Region.wanted o (yielded ops a.tmps) = true := by rfl) (hop : o.op = Op.call { callee := Callee.builtin Builtin.append, args := #[s, x], argTypes := #[24, 24] } := by rfl) : if Region.wanted o (yielded ops a.tmps) = true then Oper.wp Tryz.prog o a W Kc Q else Kc (a.put o.dst undef) W :=
  Kd.qp_ k61 (w0 := w0) base hg s x 24 61 (.agg #[(.int .i64 0), (.int .i64 0), (.int .i64 0)]) 24 hop Tryz.underlying24 eY_ rfl (by decide) (by omega) v xs ys _ _ _ ok (fun _ => False) h1 h2 aO aR (fun _ _ h => h) (fun _ h => h.elim) aF aB aS aL k
theorem pQ_ {ops : Array Oper} {o : Oper} {a : Act} {Q : Exit → Act → World → Prop} {w0 W : World} {rest : List Oper} (base : Nat) (s x : Operand) (v : Value) (xs ys : List S61) {A_ : Option Addr} {m c : Nat} (ok : Nat → Prop) (h1 : a.eval s = v) (h2 : a.eval x = Value.slice A_ m c) (aO : Kd.R k61 61 W base ok v xs) (aR : bZ_ (Kd.M k61 W base (fun _ => False)) (Kd.sz k61) W A_ m ys) (aF : ∀ (k : Nat), W.heap.size ≤ k → ok k) (aB : Below base w0 W) (aS : base ≤ W.heap.size) (aL : (xs.length + m) * 24 ≤ 140737488355328) (k : (∀ (v1 : Value) (w1 : World), Kd.R k61 61 w1 base ok v1 (xs ++ ys) → Below base w0 w1 → W.grownBy w1 v.ownBlock → (v1.ownBlock = v.ownBlock ∨ ∃ b, v1.ownBlock = some b ∧ W.heap.size ≤ b) → wpList Tryz.prog ops Q rest (a.put o.dst v1) w1)) (hg : o.guard = none := by rfl) (hop : o.op = Op.call { callee := Callee.builtin Builtin.append, args := #[s, x], argTypes := #[24, 24] } := by rfl) : wpList Tryz.prog ops Q (o :: rest) a W :=
  Kd.qj_ k61 (w0 := w0) base hg s x 24 61 (.agg #[(.int .i64 0), (.int .i64 0), (.int .i64 0)]) 24 hop Tryz.underlying24 eY_ rfl (by decide) (by omega) v xs ys _ _ _ ok (fun _ => False) h1 h2 aO aR (fun _ _ h => h) (fun _ h => h.elim) aF aB aS aL k
theorem fy_ {ops : Array Oper} {o : Oper} {a : Act} {Q : Exit → Act → World → Prop} {w0 W : World} {rest : List Oper} (base : Nat) (s x : Operand) (v : Value) (xs : List S61) (p : S61) (cs : List Value) (ok : Nat → Prop) (h1 : a.eval s = v) (h2 : a.eval x = Value.slice (some ⟨W.heap.size, 0, none⟩) 1 1) (aP : Kd.M k61 W base (fun _ => False) p cs) (aF : ∀ (k : Nat), W.heap.size ≤ k → ok k) (aO : Kd.R k61 61 W base ok v xs) (aB : Below base w0 W) (aS : base ≤ W.heap.size) (aL : (xs.length + 1) * 24 ≤ 140737488355328) (k : (∀ (v1 : Value) (w1 : World), Kd.R k61 61 w1 base ok v1 (xs ++ [p]) → Below base w0 w1 → W.grownBy w1 v.ownBlock → (v1.ownBlock = v.ownBlock ∨ ∃ b, v1.ownBlock = some b ∧ W.heap.size ≤ b) → wpList Tryz.prog ops Q rest (a.put o.dst v1) w1)) (hg : o.guard = none := by rfl) (hop : o.op = Op.call { callee := Callee.builtin Builtin.append, args := #[s, x], argTypes := #[24, 24] } := by rfl) : wpList Tryz.prog ops Q (o :: rest) a (W.alloc (Obj.cells cs.toArray 61)) :=
  Kd.qy_ k61 (w0 := w0) base hg s x 24 61 (.agg #[(.int .i64 0), (.int .i64 0), (.int .i64 0)]) 24 hop Tryz.underlying24 eY_ rfl (by decide) (by omega) v xs p cs ok (fun _ => False) h1 h2 aP (fun _ hk => hk.elim) aF aO aB aS aL k
theorem ht_ {ops : Array Oper} {o : Oper} {a : Act} {Q : Exit → Act → World → Prop} {w0 W : World} {Kc : Act → World → Prop} (base : Nat) (s x : Operand) (v : Value) (xs ys : List S42) {A_ : Option Addr} {m c : Nat} (ok : Nat → Prop) (h1 : a.eval s = v) (h2 : a.eval x = Value.slice A_ m c) (aO : Kd.R k42 42 W base ok v xs) (aR : bZ_ (Kd.M k42 W base (fun _ => False)) (Kd.sz k42) W A_ m ys) (aF : ∀ (k : Nat), W.heap.size ≤ k → ok k) (aB : Below base w0 W) (aS : base ≤ W.heap.size) (aL : (xs.length + m) * 16 ≤ 140737488355328) (k : (∀ (v1 : Value) (w1 : World), Kd.R k42 42 w1 base ok v1 (xs ++ ys) → Below base w0 w1 → W.grownBy w1 v.ownBlock → (v1.ownBlock = v.ownBlock ∨ ∃ b, v1.ownBlock = some b ∧ W.heap.size ≤ b) → Kc (a.put o.dst v1) w1)) (hg : Region.wanted o (yielded ops a.tmps) = true := by rfl) (hop : o.op = Op.call { callee := Callee.builtin Builtin.append, args := #[s, x], argTypes := #[26, 26] } := by rfl) : if Region.wanted o (yielded ops a.tmps) = true then Oper.wp Tryz.prog o a W Kc Q else Kc (a.put o.dst undef) W :=
  Kd.qp_ k42 (w0 := w0) base hg s x 26 42 (.agg #[(.int .i64 0), (.int .i64 0)]) 16 hop Tryz.underlying26 fQ_ rfl (by decide) (by omega) v xs ys _ _ _ ok (fun _ => False) h1 h2 aO aR (fun _ _ h => h) (fun _ h => h.elim) aF aB aS aL k
theorem hC_ {ops : Array Oper} {o : Oper} {a : Act} {Q : Exit → Act → World → Prop} {w0 W : World} {rest : List Oper} (base : Nat) (s x : Operand) (v : Value) (xs ys : List S42) {A_ : Option Addr} {m c : Nat} (ok : Nat → Prop) (h1 : a.eval s = v) (h2 : a.eval x = Value.slice A_ m c) (aO : Kd.R k42 42 W base ok v xs) (aR : bZ_ (Kd.M k42 W base (fun _ => False)) (Kd.sz k42) W A_ m ys) (aF : ∀ (k : Nat), W.heap.size ≤ k → ok k) (aB : Below base w0 W) (aS : base ≤ W.heap.size) (aL : (xs.length + m) * 16 ≤ 140737488355328) (k : (∀ (v1 : Value) (w1 : World), Kd.R k42 42 w1 base ok v1 (xs ++ ys) → Below base w0 w1 → W.grownBy w1 v.ownBlock → (v1.ownBlock = v.ownBlock ∨ ∃ b, v1.ownBlock = some b ∧ W.heap.size ≤ b) → wpList Tryz.prog ops Q rest (a.put o.dst v1) w1)) (hg : o.guard = none := by rfl) (hop : o.op = Op.call { callee := Callee.builtin Builtin.append, args := #[s, x], argTypes := #[26, 26] } := by rfl) : wpList Tryz.prog ops Q (o :: rest) a W :=
  Kd.qj_ k42 (w0 := w0) base hg s x 26 42 (.agg #[(.int .i64 0), (.int .i64 0)]) 16 hop Tryz.underlying26 fQ_ rfl (by decide) (by omega) v xs ys _ _ _ ok (fun _ => False) h1 h2 aO aR (fun _ _ h => h) (fun _ h => h.elim) aF aB aS aL k
theorem e4_ {ops : Array Oper} {o : Oper} {a : Act} {Q : Exit → Act → World → Prop} {w0 W : World} {rest : List Oper} (base : Nat) (s x : Operand) (v : Value) (xs : List S42) (p : S42) (cs : List Value) (ok : Nat → Prop) (h1 : a.eval s = v) (h2 : a.eval x = Value.slice (some ⟨W.heap.size, 0, none⟩) 1 1) (aP : Kd.M k42 W base (fun _ => False) p cs) (aF : ∀ (k : Nat), W.heap.size ≤ k → ok k) (aO : Kd.R k42 42 W base ok v xs) (aB : Below base w0 W) (aS : base ≤ W.heap.size) (aL : (xs.length + 1) * 16 ≤ 140737488355328) (k : (∀ (v1 : Value) (w1 : World), Kd.R k42 42 w1 base ok v1 (xs ++ [p]) → Below base w0 w1 → W.grownBy w1 v.ownBlock → (v1.ownBlock = v.ownBlock ∨ ∃ b, v1.ownBlock = some b ∧ W.heap.size ≤ b) → wpList Tryz.prog ops Q rest (a.put o.dst v1) w1)) (hg : o.guard = none := by rfl) (hop : o.op = Op.call { callee := Callee.builtin Builtin.append, args := #[s, x], argTypes := #[26, 26] } := by rfl) : wpList Tryz.prog ops Q (o :: rest) a (W.alloc (Obj.cells cs.toArray 42)) :=
  Kd.qy_ k42 (w0 := w0) base hg s x 26 42 (.agg #[(.int .i64 0), (.int .i64 0)]) 16 hop Tryz.underlying26 fQ_ rfl (by decide) (by omega) v xs p cs ok (fun _ => False) h1 h2 aP (fun _ hk => hk.elim) aF aO aB aS aL k
theorem pC_ {ops : Array Oper} {o : Oper} {a : Act} {Q : Exit → Act → World → Prop} {w0 W : World} {rest : List Oper} (base : Nat) (s x : Operand) (v : Value) (xs ys : List Int) {A_ : Option Addr} {m c : Nat} (ok : Nat → Prop) (h1 : a.eval s = v) (h2 : a.eval x = Value.slice A_ m c) (aO : Kd.R (Kd.int .i64) 3 W base ok v xs) (aR : bZ_ (Kd.M (Kd.int .i64) W base (fun _ => False)) (Kd.sz (Kd.int .i64)) W A_ m ys) (aF : ∀ (k : Nat), W.heap.size ≤ k → ok k) (aB : Below base w0 W) (aS : base ≤ W.heap.size) (aL : (xs.length + m) * 8 ≤ 140737488355328) (k : (∀ (v1 : Value) (w1 : World), Kd.R (Kd.int .i64) 3 w1 base ok v1 (xs ++ ys) → Below base w0 w1 → W.grownBy w1 v.ownBlock → (v1.ownBlock = v.ownBlock ∨ ∃ b, v1.ownBlock = some b ∧ W.heap.size ≤ b) → wpList Tryz.prog ops Q rest (a.put o.dst v1) w1)) (hg : o.guard = none := by rfl) (hop : o.op = Op.call { callee := Callee.builtin Builtin.append, args := #[s, x], argTypes := #[43, 43] } := by rfl) : wpList Tryz.prog ops Q (o :: rest) a W :=
  Kd.qj_ (Kd.int .i64) (w0 := w0) base hg s x 43 3 (.int .i64 0) 8 hop Tryz.underlying43 hc_ rfl (by decide) (by omega) v xs ys _ _ _ ok (fun _ => False) h1 h2 aO aR (fun _ _ h => h) (fun _ h => h.elim) aF aB aS aL k
theorem oS_ {ops : Array Oper} {o : Oper} {a : Act} {Q : Exit → Act → World → Prop} {w0 W : World} {rest : List Oper} (base : Nat) (s x : Operand) (v : Value) (xs : List Int) (p : Int) (cs : List Value) (ok : Nat → Prop) (h1 : a.eval s = v) (h2 : a.eval x = Value.slice (some ⟨W.heap.size, 0, none⟩) 1 1) (aP : Kd.M (Kd.int .i64) W base (fun _ => False) p cs) (aF : ∀ (k : Nat), W.heap.size ≤ k → ok k) (aO : Kd.R (Kd.int .i64) 3 W base ok v xs) (aB : Below base w0 W) (aS : base ≤ W.heap.size) (aL : (xs.length + 1) * 8 ≤ 140737488355328) (k : (∀ (v1 : Value) (w1 : World), Kd.R (Kd.int .i64) 3 w1 base ok v1 (xs ++ [p]) → Below base w0 w1 → W.grownBy w1 v.ownBlock → (v1.ownBlock = v.ownBlock ∨ ∃ b, v1.ownBlock = some b ∧ W.heap.size ≤ b) → wpList Tryz.prog ops Q rest (a.put o.dst v1) w1)) (hg : o.guard = none := by rfl) (hop : o.op = Op.call { callee := Callee.builtin Builtin.append, args := #[s, x], argTypes := #[43, 43] } := by rfl) : wpList Tryz.prog ops Q (o :: rest) a (W.alloc (Obj.cells cs.toArray 3)) :=
  Kd.qy_ (Kd.int .i64) (w0 := w0) base hg s x 43 3 (.int .i64 0) 8 hop Tryz.underlying43 hc_ rfl (by decide) (by omega) v xs p cs ok (fun _ => False) h1 h2 aP (fun _ hk => hk.elim) aF aO aB aS aL k
theorem ls_ {P : Program} {ops : Array Oper} {o : Oper} {a : Act} {Q : Exit → Act → World → Prop} {α : Type} {W : World} {Kc : Act → World → Prop} (d : Kd α) (e : Nat) (N : Tmp) (xs : List α) (inner : List Value) (hp : aH_ (d.M W W.heap.size (fun _ => True)) d.sz xs inner) (k : ∀ (v1 : Value) (w1 : World), d.R e w1 W.heap.size (fun _ => True) v1 xs → Below W.heap.size W w1 → W.grownBy w1 none → (∃ b, v1.ownBlock = some b ∧ W.heap.size ≤ b) → Kc (a.put o.dst v1) w1) (hd : o.dst = some N := by rfl) (hg : Region.wanted o (yielded ops a.tmps) = true := by rfl) (hr : Sem.run P (execOp a.eval o) W = Result.ok (Next.value (Value.slice (some ⟨W.heap.size, 0, none⟩) xs.length xs.length)) (W.alloc (Obj.cells inner.toArray e)) := by first | (go_simp; done) | (go_simp; rfl)) (hl : xs.length ≤ 9223372036854775807 := by simp) : if Region.wanted o (yielded ops a.tmps) = true then Oper.wp P o a W Kc Q else Kc (a.put o.dst undef) W := Kd.qH_ d _ e hg hd (ok := fun _ => True) (okp := fun _ => True) hr hp (fun _ hk => hk) trivial (Below.refl _ _) (Nat.le_refl _) hl k
theorem lu_ {P : Program} {ops : Array Oper} {o : Oper} {a : Act} {Q : Exit → Act → World → Prop} {α : Type} {W : World} {rest : List Oper} (d : Kd α) (e : Nat) (N : Tmp) (xs : List α) (inner : List Value) (hp : aH_ (d.M W W.heap.size (fun _ => True)) d.sz xs inner) (k : ∀ (v1 : Value) (w1 : World), d.R e w1 W.heap.size (fun _ => True) v1 xs → Below W.heap.size W w1 → W.grownBy w1 none → (∃ b, v1.ownBlock = some b ∧ W.heap.size ≤ b) → wpList P ops Q rest (a.put o.dst v1) w1) (hd : o.dst = some N := by rfl) (hg : o.guard = none := by rfl) (hr : Sem.run P (execOp a.eval o) W = Result.ok (Next.value (Value.slice (some ⟨W.heap.size, 0, none⟩) xs.length xs.length)) (W.alloc (Obj.cells inner.toArray e)) := by first | (go_simp; done) | (go_simp; rfl)) (hl : xs.length ≤ 9223372036854775807 := by simp) : wpList P ops Q (o :: rest) a W := Kd.qF_ d _ e hg hd (ok := fun _ => True) (okp := fun _ => True) hr hp (fun _ hk => hk) trivial (Below.refl _ _) (Nat.le_refl _) hl k
theorem et_ {w : World} {g : Nat} {t : TypeId} {a0 a1 : Value} (h : w.heap[g]? = some (.cells #[a0, a1] t (0, 0))) : w.cell? ⟨g, 0, none⟩ = some a0 ∧ w.cell? ⟨g, 1, none⟩ = some a1 := ⟨(aE_ h 0).trans rfl, (aE_ h 1).trans rfl⟩
theorem cp_ {w : World} {g : Nat} {t : TypeId} {a0 a1 a2 : Value} (h : w.heap[g]? = some (.cells #[a0, a1, a2] t (0, 0))) : w.cell? ⟨g, 0, none⟩ = some a0 ∧ w.cell? ⟨g, 1, none⟩ = some a1 ∧ w.cell? ⟨g, 2, none⟩ = some a2 := ⟨(aE_ h 0).trans rfl, (aE_ h 1).trans rfl, (aE_ h 2).trans rfl⟩
theorem Ws_ {p : Prop} (h : p := by exact aq_ (Z2) hb) : p := h
theorem Wo_ {p : Prop} (h : p := by exact Kd.pY_ ho0 (ao_ (Z2))) : p := h
theorem Wk_ {p : Prop} (h : p := by exact ag_.trans (Z6) hk (.inl rfl)) : p := h
theorem Wl_ {p : Prop} (h : p := by exact ag_.trans (Z6) (ag_.of_below hb g none) (.inl rfl)) : p := h
theorem Wa_ {p q0 : Prop} (x0 : aa_ q0) (h : q0 → p := by intro h0_; exact Kd.pY_ (Kd.p3_ ho0 (Yd_ ⟨h0_⟩)) (ao_ (Z2))) : p := h x0.out
theorem Wb_ {p q0 q1 : Prop} (x0 : aa_ q0) (x1 : aa_ q1) (h : q0 → q1 → p := by intro h0_ h1_; exact Kd.pY_ (Kd.p3_ (Kd.p3_ ho0 (Yd_ ⟨h0_⟩)) (Yd_ ⟨h1_⟩)) (ao_ (Z2))) : p := h x0.out x1.out
theorem Wc_ {p q0 q1 q2 : Prop} (x0 : aa_ q0) (x1 : aa_ q1) (x2 : aa_ q2) (h : q0 → q1 → q2 → p := by intro h0_ h1_ h2_; exact Kd.pY_ (Kd.p3_ (Kd.p3_ (Kd.p3_ ho0 (Yd_ ⟨h0_⟩)) (Yd_ ⟨h1_⟩)) (Yd_ ⟨h2_⟩)) (ao_ (Z2))) : p := h x0.out x1.out x2.out
theorem Wm_ {p q0 : Prop} (x0 : aa_ q0) (h : q0 → p := by intro h0_; exact Kd.pX_ (Kd.p8_ (aj_.apart (show aj_ w0 _ g s0_0 _ _ from Z4 HI0) (Z1 ⟨h0_⟩) (by decide)) hk (fun _ h => h.2)) (fun _ h => h.1)) : p := h x0.out
theorem We_ {p q r : Prop} (x_ : aa_ q) (y_ : r) (h : q → r → p := by intro h_ i_; exact Kd.qc_ (Z1 ⟨h_⟩) (Kd.p9_ i_) hb) : p := h x_.out y_
theorem Wg_ (w : World) (x : Nat) (h : w.heap.size ≤ x := by rw [hg]; exact (ao_ (Z2))) : w.heap.size ≤ x := h
theorem dA_ {w : World} {a b : Nat} : (w.drewN a).drewN b = w.drewN (a + b) := World.drewN_drewN _ _ _
theorem dB_ {w : World} {a b c : Nat} : (w.drewN (a + b)).drewN c = w.drewN (a + (b + c)) := Eq.trans (World.drewN_drewN _ _ _) (congrArg (World.drewN _) (Nat.add_assoc _ _ _))
theorem kE_ (d : Nat) (w : World) (x0 y0 : Int) (x1 y1 : Int) :
  (Op.equalIn (d + 2) 42 (.agg #[.int .i64 x0, .int .i64 x1]) (.agg #[.int .i64 y0, .int .i64 y1])).run Tryz.prog w = .ok (x0 == y0 && (x1 == y1)) w := by
 refine l3_ Tryz.underlying42 (by kernel_rfl) ?_
 refine gY_ (by rfl) (by go_simp; rfl) (by go_simp; rfl) (by go_simp) ?_
 exact jp_ (by rfl) (by go_simp; rfl) (by go_simp; rfl) (by go_simp)
theorem ph_ (d : Nat) (w : World) (x0 y0 : Int) (x1 y1 : Int) (x2 y2 : Int) :
  (Op.equalIn (d + 2) 61 (.agg #[.int .i64 x0, .int .i64 x1, .int .i64 x2]) (.agg #[.int .i64 y0, .int .i64 y1, .int .i64 y2])).run Tryz.prog w = .ok (x0 == y0 && (x1 == y1 && (x2 == y2))) w := by
 refine l3_ Tryz.underlying61 (by kernel_rfl) ?_
 refine gY_ (by rfl) (by go_simp; rfl) (by go_simp; rfl) (by go_simp) ?_
 refine gY_ (by rfl) (by go_simp; rfl) (by go_simp; rfl) (by go_simp) ?_
 exact jp_ (by rfl) (by go_simp; rfl) (by go_simp; rfl) (by go_simp)
def do_.f (l0 : List Int) (l1 : List Int) : Option (Bool) := if (l0.length : Int) > 1048576 then (some true) else (some (decide ((l1.length : Int) > (wrap64 (1048576 - (l0.length : Int))))))
set_option maxHeartbeats 8000000 in
set_option maxRecDepth 100000 in
theorem do_.calls (A0 : Option Addr) (c0 : Nat) (l0 : List Int) (A1 : Option Addr) (c1 : Nat) (l1 : List Int) (r : Bool) (w : World) (hr0 : Kd.C (Kd.int .u8) w A0 l0.length l0) (hc0 : l0.length ≤ c0) (hr1 : Kd.C (Kd.int .u8) w A1 l1.length l1) (hc1 : l1.length ≤ c1) (h : do_.f l0 l1 = some r) :
  Calls Tryz.prog 4 #[.slice A0 l0.length c0, .slice A1 l1.length c1] w fun e w' => e = .returned (.bool r) ∧ bH_ w w' := by
 have HR0 := aa_.mk hr0
 have HC0 := aa_.mk hc0
 clear hr0 hc0
 have HR1 := aa_.mk hr1
 have HC1 := aa_.mk hc1
 clear hr1 hc1
 have H := h; unfold do_.f at H
 clear h
 replace H := iw_ H; obtain ⟨c3, H⟩ | ⟨c3, H⟩ := H
 ·have cU : decide (1048576 < (l0.length : Int)) = true := decide_eq_true c3
  have je : decide (1048576 < l0.length) = true := decide_eq_true (by omega)
  clear c3
  obtain rfl := Option.some.inj H
  go_enter Tryz.func4, Tryz.ntmps4
  go_wp2
  go_ret
  exact ⟨Z14, Z41⟩
 have cU : decide (1048576 < (l0.length : Int)) = false := decide_eq_false c3
 have je : decide (1048576 < l0.length) = false := decide_eq_false (by omega)
 clear c3
 obtain rfl := Option.some.inj H
 go_enter Tryz.func4, Tryz.ntmps4
 go_wp2
 go_ret
 exact ⟨Z14, Z41⟩
def aj_ (w0 W : World) (g : Nat) (f0 : List Int) (f1 : Int) (f2 : Int) : Prop := ∃ A0 c0, W.heap[g]? = some (.cells #[.slice A0 f0.length c0, .int .i64 f1, .int .u64 f2] 54 (0, 0)) ∧ w0.heap.size ≤ g ∧ Kd.C (Kd.int .u8) w0 A0 f0.length f0
theorem aj_.grown {w0 W : World} {g : Nat} {f0 : List Int} {f1 : Int} {f2 : Int} {W1 : World} {row : Option Nat} (h : aj_ w0 W g f0 f1 f2) (hw : W.grownBy W1 row) (hne : some g ≠ row) : aj_ w0 W1 g f0 f1 f2 := by
 obtain ⟨A0, c0, hb, hg, hr0⟩ := h
 exact ⟨A0, c0, bg_ hb hw hne, hg, hr0⟩
theorem aj_.own_neN {w0 W : World} {g : Nat} {f0 : List Int} {f1 : Int} {f2 : Int} {α : Type} {d : Kd α} {e : Nat} {base : Nat} {ok : Nat → Prop} {v : Value} {xs : List α} (h : aj_ w0 W g f0 f1 f2) (ho : Kd.N d e W base ok v xs) (ht : e ≠ 54) : some g ≠ v.ownBlock := by
 obtain ⟨A0, c0, hb, hg, hr0⟩ := h
 exact Kd.N_ne ho hb ht
theorem aj_.fresh {w0 W : World} {g : Nat} {f0 : List Int} {f1 : Int} {f2 : Int} (h : aj_ w0 W g f0 f1 f2) : ∀ k, W.heap.size ≤ k → k ≠ g := by
 obtain ⟨A0, c0, hb, hg, hr0⟩ := h
 exact Kd.freshB hb
theorem aj_.kept {w0 W : World} {g : Nat} {f0 : List Int} {f1 : Int} {f2 : Int} {W1 : World} {S : Nat → Prop} (h : aj_ w0 W g f0 f1 f2) (hk : ce_ W W1 S) (hne : ¬ S g) : aj_ w0 W1 g f0 f1 f2 := by
 obtain ⟨A0, c0, hb, hg, hr0⟩ := h
 exact ⟨A0, c0, gX_ hb hk hne, hg, hr0⟩
theorem aj_.below {w0 W : World} {g : Nat} {f0 : List Int} {f1 : Int} {f2 : Int} {W1 : World} (h : aj_ w0 W g f0 f1 f2) (hw : Below W.heap.size W W1) : aj_ w0 W1 g f0 f1 f2 := h.grown (d3_ hw none) (by simp)
theorem aj_.alloc {w0 W : World} {g : Nat} {f0 : List Int} {f1 : Int} {f2 : Int} (h : aj_ w0 W g f0 f1 f2) (o : Obj) : aj_ w0 (W.alloc o) g f0 f1 f2 := h.below (aC_ (Below.refl _ _) o)
theorem aj_.drewN {w0 W : World} {g : Nat} {f0 : List Int} {f1 : Int} {f2 : Int} (h : aj_ w0 W g f0 f1 f2) (m : Nat) : aj_ w0 (W.drewN m) g f0 f1 f2 := h
theorem aj_.drew {w0 W : World} {g : Nat} {f0 : List Int} {f1 : Int} {f2 : Int} (h : aj_ w0 W g f0 f1 f2) : aj_ w0 W.drew g f0 f1 f2 := h
theorem aj_.at_ {w0 W : World} {g : Nat} {f0 : List Int} {f1 : Int} {f2 : Int} {w' : World} {m : Nat} (hq : W.drewN m = w') (h : aj_ w0 W g f0 f1 f2) : aj_ w0 w' g f0 f1 f2 := by subst hq; exact aj_.drewN h m
theorem aj_.apart {w0 W : World} {g : Nat} {f0 : List Int} {f1 : Int} {f2 : Int} {α : Type} {d : Kd α} {e : Nat} {base : Nat} {ok : Nat → Prop} {v : Value} {xs : List α} (h : aj_ w0 W g f0 f1 f2) (ho : d.R e W base ok v xs) (ht : ∀ q, q ∈ e :: d.E → q ≠ 54) : d.R e W base (fun k => ok k ∧ k ≠ g) v xs := by
 obtain ⟨A0, c0, hb, hg, hr0⟩ := h
 exact Kd.qf_ ho hb ht
theorem aj_.own_ne {w0 W : World} {g : Nat} {f0 : List Int} {f1 : Int} {f2 : Int} {α : Type} {d : Kd α} {e : Nat} {base : Nat} {ok : Nat → Prop} {v : Value} {xs : List α} (h : aj_ w0 W g f0 f1 f2) (ho : d.R e W base ok v xs) (ht : e ≠ 54) : some g ≠ v.ownBlock := by
 obtain ⟨A0, c0, hb, hg, hr0⟩ := h
 exact Kd.qb_ ho hb ht
theorem aj_.apartQ {w0 W : World} {g : Nat} {f0 : List Int} {f1 : Int} {f2 : Int} {α : Type} {d : Kd α} {e : Nat} {base : Nat} {ok : Nat → Prop} {v : Value} {xs : List α} (h : aj_ w0 W g f0 f1 f2) (ho : d.Q e W base ok v xs) (ht : ∀ q, q ∈ e :: d.E → q ≠ 54) : d.Q e W base (fun k => ok k ∧ k ≠ g) v xs := by
 obtain ⟨A0, c0, hb, hg, hr0⟩ := h
 exact Kd.Q_types ho hb ht
theorem aj_.own_neQ {w0 W : World} {g : Nat} {f0 : List Int} {f1 : Int} {f2 : Int} {α : Type} {d : Kd α} {e : Nat} {base : Nat} {ok : Nat → Prop} {v : Value} {xs : List α} (h : aj_ w0 W g f0 f1 f2) (ho : d.Q e W base ok v xs) (ht : e ≠ 54) : some g ≠ v.ownBlock := by
 obtain ⟨A0, c0, hb, hg, hr0⟩ := h
 exact Kd.Q_ne ho hb ht
theorem aj_.apartS {w0 W : World} {g : Nat} {f0 : List Int} {f1 : Int} {f2 : Int} {α : Type} {d : Kd α} {e : Nat} {base : Nat} {ok : Nat → Prop} {v : Value} {xs : List α} (h : aj_ w0 W g f0 f1 f2) (ho : d.S e W base ok v xs) (ht : ∀ q, q ∈ e :: d.E → q ≠ 54) : d.S e W base (fun k => ok k ∧ k ≠ g) v xs := by
 obtain ⟨A0, c0, hb, hg, hr0⟩ := h
 exact Kd.S_types ho hb ht
theorem aj_.own_neS {w0 W : World} {g : Nat} {f0 : List Int} {f1 : Int} {f2 : Int} {α : Type} {d : Kd α} {e : Nat} {base : Nat} {ok : Nat → Prop} {v : Value} {xs : List α} (h : aj_ w0 W g f0 f1 f2) (ho : d.S e W base ok v xs) (ht : e ≠ 54) : some g ≠ v.ownBlock := by
 obtain ⟨A0, c0, hb, hg, hr0⟩ := h
 exact Kd.S_ne ho hb ht
theorem aj_.lt {w0 W : World} {g : Nat} {f0 : List Int} {f1 : Int} {f2 : Int} (h : aj_ w0 W g f0 f1 f2) : g < W.heap.size := by
 obtain ⟨A0, c0, hb, hg, hr0⟩ := h
 exact bV_ hb
theorem aj_.ge {w0 W : World} {g : Nat} {f0 : List Int} {f1 : Int} {f2 : Int} (h : aj_ w0 W g f0 f1 f2) : w0.heap.size ≤ g := by
 obtain ⟨A0, c0, hb, hg, hr0⟩ := h
 exact hg
theorem aj_.ne_blk {w0 W : World} {g : Nat} {f0 : List Int} {f1 : Int} {f2 : Int} {a : Nat} {cs : Array Value} {t : TypeId} {fr : Nat × Nat} (h : aj_ w0 W g f0 f1 f2) (hb2 : W.heap[a]? = some (.cells cs t fr)) (ht : t ≠ 54) : g ≠ a := by
 obtain ⟨A0, c0, hb, hg, hr0⟩ := h
 rintro rfl
 rw [hb] at hb2
 injection hb2 with hb2
 injection hb2 with _ ht2
 exact ht ht2.symm
theorem aj_.far {w0 W : World} {g : Nat} {f0 : List Int} {f1 : Int} {f2 : Int} {p : Addr} (h : aj_ w0 W g f0 f1 f2) (hne : g ≠ p.block) (u : Value) : aj_ w0 (W.setCell p u) g f0 f1 f2 := by
 obtain ⟨A0, c0, hb, hg, hr0⟩ := h
 exact ⟨A0, c0, c0_ hb hne u, hg, hr0⟩
theorem fn_ {W : World} {g : Nat} {A0 : Option Addr} {c0 : Nat} {f0 : List Int} {f1 : Int} {f2 : Int} (h : W.heap[g]? = some (.cells #[.slice A0 f0.length c0, .int .i64 f1, .int .u64 f2] 54 (0, 0))) : W.cell? ⟨g, 0, none⟩ = some (.slice A0 f0.length c0) := (aE_ h 0).trans rfl
theorem ft_ {W : World} {g : Nat} {A0 : Option Addr} {c0 : Nat} {f0 : List Int} {f1 : Int} {f2 : Int} (h : W.heap[g]? = some (.cells #[.slice A0 f0.length c0, .int .i64 f1, .int .u64 f2] 54 (0, 0))) : W.cell? ⟨g, 1, none⟩ = some (.int .i64 f1) := (aE_ h 1).trans rfl
theorem aj_.set_1 {w0 W : World} {g : Nat} {f0 : List Int} {f1 : Int} {f2 : Int} (h : aj_ w0 W g f0 f1 f2) (x : Int) : aj_ w0 (W.setCell ⟨g, 1, none⟩ (.int .i64 x)) g f0 x f2 := by
 obtain ⟨A0, c0, hb, hg, hr0⟩ := h
 exact ⟨A0, c0, by simpa using d4_ hb 1 (.int .i64 x), hg, hr0⟩
theorem fA_ {W : World} {g : Nat} {A0 : Option Addr} {c0 : Nat} {f0 : List Int} {f1 : Int} {f2 : Int} (h : W.heap[g]? = some (.cells #[.slice A0 f0.length c0, .int .i64 f1, .int .u64 f2] 54 (0, 0))) : W.cell? ⟨g, 2, none⟩ = some (.int .u64 f2) := (aE_ h 2).trans rfl
theorem aj_.set_2 {w0 W : World} {g : Nat} {f0 : List Int} {f1 : Int} {f2 : Int} (h : aj_ w0 W g f0 f1 f2) (x : Int) : aj_ w0 (W.setCell ⟨g, 2, none⟩ (.int .u64 x)) g f0 f1 x := by
 obtain ⟨A0, c0, hb, hg, hr0⟩ := h
 exact ⟨A0, c0, by simpa using d4_ hb 2 (.int .u64 x), hg, hr0⟩
theorem aj_.new (w0 W : World) (A0 : Option Addr) (c0 : Nat) (f0 : List Int) (f1 : Int) (f2 : Int) (hB : Below w0.heap.size w0 W) (hr0 : Kd.C (Kd.int .u8) w0 A0 f0.length f0) : aj_ w0 (W.alloc (.cells #[.slice A0 f0.length c0, .int .i64 f1, .int .u64 f2] 54)) W.heap.size f0 f1 f2 := ⟨A0, c0, by simpa using heap_alloc_new W _, hB.size, hr0⟩
def b3_.f (s0_0 : List Int) (s0_1 : Int) (s0_2 : Int) : Option (Int × Int × Int) := if s0_1 < (s0_0.length : Int) then (if 0 ≤ s0_1 then (if (wrap64 (s0_1 + 1)) ≤ (s0_0.length : Int) then (some (wrap64 (rd s0_0 s0_1), wrap64 (s0_1 + 1), IntKind.u64.wrap ((IntKind.u64.wrap ((IntKind.u64.wrap (s0_2 * 6364136223846793005)) + (IntKind.u64.wrap (wrap64 (rd s0_0 s0_1))))) + 1442695040888963407))) else (some (wrap64 (Go.bits .and .u64 ((IntKind.u64.wrap ((IntKind.u64.wrap ((IntKind.u64.wrap (s0_2 * 6364136223846793005)) + (IntKind.u64.wrap (wrap64 (rd s0_0 s0_1))))) + 1442695040888963407)) / 1099511627776) 255), wrap64 (s0_1 + 1), IntKind.u64.wrap ((IntKind.u64.wrap ((IntKind.u64.wrap (s0_2 * 6364136223846793005)) + (IntKind.u64.wrap (wrap64 (rd s0_0 s0_1))))) + 1442695040888963407)))) else (none)) else (if (wrap64 (s0_1 + 1)) ≤ (s0_0.length : Int) then (some (0, wrap64 (s0_1 + 1), IntKind.u64.wrap ((IntKind.u64.wrap (IntKind.u64.wrap (s0_2 * 6364136223846793005))) + 1442695040888963407))) else (some (wrap64 (Go.bits .and .u64 ((IntKind.u64.wrap ((IntKind.u64.wrap (IntKind.u64.wrap (s0_2 * 6364136223846793005))) + 1442695040888963407)) / 1099511627776) 255), wrap64 (s0_1 + 1), IntKind.u64.wrap ((IntKind.u64.wrap (IntKind.u64.wrap (s0_2 * 6364136223846793005))) + 1442695040888963407))))
set_option maxHeartbeats 8000000 in
set_option maxRecDepth 100000 in
theorem b3_.calls (g : Nat) (s0_0 : List Int) (s0_1 : Int) (s0_2 : Int) (r1 : Int) (r2 : Int) (r3 : Int) (w0 w : World) (hI : aj_ w0 w g s0_0 s0_1 s0_2) (hB : Below w0.heap.size w0 w) (h : b3_.f s0_0 s0_1 s0_2 = some (r1, r2, r3)) :
  Calls Tryz.prog 76 #[.pointer (some ⟨g, 0, none⟩)] w fun e w' => e = .returned (.int .i64 r1) ∧ aj_ w0 w' g s0_0 r2 r3 ∧ Below w0.heap.size w0 w' ∧ ag_ w w' g none := by
 have HI0 := aa_.mk hI
 have HK := aa_.mk (ag_.refl w g none)
 have HL := aa_.mk hB.size
 clear hI
 have HW0 := aa_.mk hB.size
 have HB := aa_.mk hB
 clear hB
 have H := h; unfold b3_.f at H
 clear h
 replace H := iv_ H; obtain ⟨dB, H⟩ | ⟨dB, H⟩ := H
 ·replace H := id_ H; obtain ⟨cU, H⟩ := H
  replace H := iv_ H; obtain ⟨da, H⟩ | ⟨da, H⟩ := H
  ·obtain ⟨rfl, rfl, rfl⟩ := sq_ H; clear H
   obtain ⟨ASz5_0, cSz5_0, HGz5, hgz5, HSz5_0⟩ := HI0.out
   have hcz5_0 := fn_ HGz5
   have hcz5_1 := ft_ HGz5
   have hcz5_2 := fA_ HGz5
   have hfz5_1 := a1_ HGz5 1
   have hfz5_2 := a1_ HGz5 2
   clear HGz5 hgz5
   have vN : 0 ≤ (s0_1 : Int) := of_decide_eq_true (Z8)
   have vO : s0_1 < (s0_0.length : Int) := of_decide_eq_true (Z8)
   obtain ⟨ad101, e101, lF⟩ := Kd.at_int HSz5_0 s0_1 vN vO
   cases e101
   replace lF := dF_ HB.out lF
   replace vN := eq_true vN
   replace vO := eq_true vO
   go_enter Tryz.func76, Tryz.ntmps76
   go_wp2
   repeat (go_quiet (fail); try go_wp2)
   go_ret
   exact ⟨Z9, Z4 HI0, Z7, Z6⟩
  obtain ⟨rfl, rfl, rfl⟩ := sq_ H; clear H
  obtain ⟨ASz6_0, cSz6_0, HGz6, hgz6, HSz6_0⟩ := HI0.out
  have lS := fn_ HGz6
  have lT := ft_ HGz6
  have nB := fA_ HGz6
  have lU := a1_ HGz6 1
  have nD := a1_ HGz6 2
  clear HGz6 hgz6
  have vN : 0 ≤ (s0_1 : Int) := of_decide_eq_true (Z8)
  have vO : s0_1 < (s0_0.length : Int) := of_decide_eq_true (Z8)
  obtain ⟨ad101, e101, lF⟩ := Kd.at_int HSz6_0 s0_1 vN vO
  cases e101
  replace lF := dF_ HB.out lF
  replace vN := eq_true vN
  replace vO := eq_true vO
  go_enter Tryz.func76, Tryz.ntmps76
  go_wp2
  repeat (go_quiet (fail); try go_wp2)
  go_ret
  exact ⟨Z9, Z4 HI0, Z7, Z6⟩
 replace H := iv_ H; obtain ⟨dJ, H⟩ | ⟨dJ, H⟩ := H
 ·obtain ⟨rfl, rfl, rfl⟩ := sq_ H; clear H
  obtain ⟨ASz8_0, cSz8_0, HGz8, hgz8, HSz8_0⟩ := HI0.out
  have fF := fn_ HGz8
  have fG := ft_ HGz8
  have jb := fA_ HGz8
  have fH := a1_ HGz8 1
  have lQ := a1_ HGz8 2
  clear HGz8 hgz8
  go_enter Tryz.func76, Tryz.ntmps76
  go_wp2
  repeat (go_quiet (fail); try go_wp2)
  go_ret
  exact ⟨Z9, Z4 HI0, Z7, Z6⟩
 obtain ⟨rfl, rfl, rfl⟩ := sq_ H; clear H
 obtain ⟨ASz9_0, cSz9_0, HGz9, hgz9, HSz9_0⟩ := HI0.out
 have el := fn_ HGz9
 have eN := ft_ HGz9
 have ph := fA_ HGz9
 have eP := a1_ HGz9 1
 have uq := a1_ HGz9 2
 clear HGz9 hgz9
 go_enter Tryz.func76, Tryz.ntmps76
 go_wp2
 repeat (go_quiet (fail); try go_wp2)
 go_ret
 exact ⟨Z9, Z4 HI0, Z7, Z6⟩
def ar_.f (s0_0 : List Int) (s0_1 : Int) (s0_2 : Int) (a1 : Int) : Option (Int × Int × Int) := if a1 ≤ 1 then (some (0, s0_1, s0_2)) else ((b3_.f s0_0 s0_1 s0_2).bind fun f7 => (if a1 > 200 then ((b3_.f s0_0 f7.2.1 f7.2.2).bind fun oh => (if a1 = 0 then (none) else (some (Int.tmod (wrap64 ((wrap64 (f7.1 * 256)) + oh.1)) a1, oh.2.1, oh.2.2)))) else (if a1 = 0 then (none) else (some (Int.tmod f7.1 a1, f7.2.1, f7.2.2)))))
set_option maxHeartbeats 8000000 in
set_option maxRecDepth 100000 in
theorem ar_.calls (g : Nat) (s0_0 : List Int) (s0_1 : Int) (s0_2 : Int) (a1 : Int) (r1 : Int) (r2 : Int) (r3 : Int) (w0 w : World) (hI : aj_ w0 w g s0_0 s0_1 s0_2) (hB : Below w0.heap.size w0 w) (h : ar_.f s0_0 s0_1 s0_2 a1 = some (r1, r2, r3)) :
  Calls Tryz.prog 39 #[.pointer (some ⟨g, 0, none⟩), .int .i64 a1] w fun e w' => e = .returned (.int .i64 r1) ∧ aj_ w0 w' g s0_0 r2 r3 ∧ Below w0.heap.size w0 w' ∧ ag_ w w' g none := by
 have HI0 := aa_.mk hI
 have HK := aa_.mk (ag_.refl w g none)
 have HL := aa_.mk hB.size
 clear hI
 have HW0 := aa_.mk hB.size
 have HB := aa_.mk hB
 clear hB
 have H := h; unfold ar_.f at H
 clear h
 replace H := iv_ H; obtain ⟨cU, H⟩ | ⟨cU, H⟩ := H
 ·obtain ⟨rfl, rfl, rfl⟩ := sq_ H; clear H
  go_enter Tryz.func39, Tryz.ntmps39
  go_wp2
  go_ret
  exact ⟨Z9, Z4 HI0, Z7, Z6⟩
 replace H := bd_ H; obtain ⟨⟨MI, IO, IP⟩, A4, H⟩ := H
 (try dsimp only at H)
 replace H := iw_ H; obtain ⟨c5, H⟩ | ⟨c5, H⟩ := H
 ·have dp : decide (200 < a1) = true := decide_eq_true c5
  clear c5
  replace H := bd_ H; obtain ⟨⟨t105, t106, t107⟩, A6, H⟩ := H
  (try dsimp only at H)
  replace H := iw_ H; obtain ⟨c7, H⟩ | ⟨c7, H⟩ := H
  ·exact absurd H (by simp)
  have dJ : (a1 == 0) = false := beq_eq_false_iff_ne.mpr c7
  have Cs : (a1 != 0) = true := bne_iff_ne.mpr c7
  obtain ⟨rfl, rfl, rfl⟩ := sq_ H; clear H
  go_enter Tryz.func39, Tryz.ntmps39
  go_wp2_with (first | ((with_reducible refine ae_ (f := 76) rfl ?_); refine gl_ 9 Tryz.func76 #[.pointer (some ⟨g, 0, none⟩)] ?_; (with_reducible refine (b3_.calls g s0_0 s0_1 s0_2 MI IO IP w0 _ ?_ ?_ A4.out).mono ?_); exact (Z4 HI0); exact Z7; rintro e w8 ⟨rfl, hi, hb, hk⟩; refine ⟨_, rfl, ?_⟩; refine k3_ Wk_ (hb) (hi) ?_; clear HK HB HI0; intro HK HB HI0; (try clear hb hk hi)) | ((with_reducible refine ae_ (f := 76) rfl ?_); refine gl_ 15 Tryz.func76 #[.pointer (some ⟨g, 0, none⟩)] ?_; (with_reducible refine (b3_.calls g s0_0 IO IP t105 t106 t107 w0 _ ?_ ?_ A6.out).mono ?_); exact (Z4 HI0); exact Z7; rintro e w9 ⟨rfl, hi, hb, hk⟩; refine ⟨_, rfl, ?_⟩; refine k3_ Wk_ (hb) (hi) ?_; clear HK HB HI0; intro HK HB HI0; (try clear hb hk hi)))
  go_ret
  exact ⟨Z9, Z4 HI0, Z7, Z6⟩
 have dp : decide (200 < a1) = false := decide_eq_false c5
 clear c5
 replace H := iw_ H; obtain ⟨c10, H⟩ | ⟨c10, H⟩ := H
 ·exact absurd H (by simp)
 have de : (a1 == 0) = false := beq_eq_false_iff_ne.mpr c10
 have ss : (a1 != 0) = true := bne_iff_ne.mpr c10
 obtain ⟨rfl, rfl, rfl⟩ := sq_ H; clear H
 go_enter Tryz.func39, Tryz.ntmps39
 go_wp2_with (((with_reducible refine ae_ (f := 76) rfl ?_); refine gl_ 9 Tryz.func76 #[.pointer (some ⟨g, 0, none⟩)] ?_; (with_reducible refine (b3_.calls g s0_0 s0_1 s0_2 MI IO IP w0 _ ?_ ?_ A4.out).mono ?_); exact (Z4 HI0); exact Z7; rintro e nI ⟨rfl, hi, hb, hk⟩; refine ⟨_, rfl, ?_⟩; refine k3_ Wk_ (hb) (hi) ?_; clear HK HB HI0; intro HK HB HI0; (try clear hb hk hi)))
 go_ret
 exact ⟨Z9, Z4 HI0, Z7, Z6⟩
def bw_.f (s0_0 : List Int) (s0_1 : Int) (s0_2 : Int) (a1 : Int) : Option (Bool × Int × Int) := (ar_.f s0_0 s0_1 s0_2 a1).bind fun ol => (some ((ol.1 == 0), ol.2.1, ol.2.2))
set_option maxHeartbeats 8000000 in
set_option maxRecDepth 100000 in
theorem bw_.calls (g : Nat) (s0_0 : List Int) (s0_1 : Int) (s0_2 : Int) (a1 : Int) (r1 : Bool) (r2 : Int) (r3 : Int) (w0 w : World) (hI : aj_ w0 w g s0_0 s0_1 s0_2) (hB : Below w0.heap.size w0 w) (h : bw_.f s0_0 s0_1 s0_2 a1 = some (r1, r2, r3)) :
  Calls Tryz.prog 54 #[.pointer (some ⟨g, 0, none⟩), .int .i64 a1] w fun e w' => e = .returned (.bool r1) ∧ aj_ w0 w' g s0_0 r2 r3 ∧ Below w0.heap.size w0 w' ∧ ag_ w w' g none := by
 have HI0 := aa_.mk hI
 have HK := aa_.mk (ag_.refl w g none)
 have HL := aa_.mk hB.size
 clear hI
 have HW0 := aa_.mk hB.size
 have HB := aa_.mk hB
 clear hB
 have H := h; unfold bw_.f at H
 clear h
 replace H := bd_ H; obtain ⟨⟨t108, t109, t110⟩, A3, H⟩ := H
 (try dsimp only at H)
 obtain ⟨rfl, rfl, rfl⟩ := sq_ H; clear H
 go_enter Tryz.func54, Tryz.ntmps54
 go_wp2_with (((with_reducible refine ae_ (f := 39) rfl ?_); refine gl_ 7 Tryz.func39 #[.pointer (some ⟨g, 0, none⟩), .int .i64 a1] ?_; (with_reducible refine (ar_.calls g s0_0 s0_1 s0_2 a1 t108 t109 t110 w0 _ ?_ ?_ A3.out).mono ?_); exact (Z4 HI0); exact Z7; rintro e w4 ⟨rfl, hi, hb, hk⟩; refine ⟨_, rfl, ?_⟩; refine k3_ Wk_ (hb) (hi) ?_; clear HK HB HI0; intro HK HB HI0; (try clear hb hk hi)))
 go_ret
 exact ⟨Z9, Z4 HI0, Z7, Z6⟩
def bK_.f (a0 : Int) (a1 : Int) (a2 : Int) : Option (Bool) := if a0 ≥ a1 then (some (decide (a0 ≤ a2))) else (some false)
set_option maxHeartbeats 8000000 in
set_option maxRecDepth 100000 in
theorem bK_.calls (a0 : Int) (a1 : Int) (a2 : Int) (r : Bool) (w : World) (h : bK_.f a0 a1 a2 = some r) :
  Calls Tryz.prog 79 #[.int .i64 a0, .int .i64 a1, .int .i64 a2] w fun e w' => e = .returned (.bool r) ∧ bH_ w w' := by
 have H := h; unfold bK_.f at H
 clear h
 replace H := iw_ H; obtain ⟨c4, H⟩ | ⟨c4, H⟩ := H
 ·have da : decide (a1 ≤ a0) = true := decide_eq_true c4
  clear c4
  obtain rfl := Option.some.inj H
  go_enter Tryz.func79, Tryz.ntmps79
  go_wp2
  go_ret
  exact ⟨Z14, Z41⟩
 have da : decide (a1 ≤ a0) = false := decide_eq_false c4
 clear c4
 obtain rfl := Option.some.inj H
 go_enter Tryz.func79, Tryz.ntmps79
 go_wp2
 go_ret
 exact ⟨Z14, Z41⟩
def c2_.f (a0_0 : Int) (a0_1 : Int) (a0_2 : Int) : Option (Bool) := (bK_.f a0_0 0 19).bind fun Bh => (if Bh = true then ((bK_.f a0_1 0 1999).bind fun Bi => (if Bi = true then ((bK_.f a0_2 (wrap64 (a0_1 + 1)) 2000).bind fun xU => (some xU)) else (some false))) else (some false))
set_option maxHeartbeats 8000000 in
set_option maxRecDepth 100000 in
theorem c2_.calls (a0_0 : Int) (a0_1 : Int) (a0_2 : Int) (r : Bool) (w : World) (h : c2_.f a0_0 a0_1 a0_2 = some r) :
  Calls Tryz.prog 61 #[.agg #[.int .i64 a0_0, .int .i64 a0_1, .int .i64 a0_2]] w fun e w' => e = .returned (.bool r) ∧ Below w.heap.size w w' := by
 have hu61 := Tryz.underlying61
 have HB := aa_.mk (Below.refl w.heap.size w)
 have H := h; unfold c2_.f at H
 clear h
 replace H := bd_ H; obtain ⟨Bh, A2, H⟩ := H
 replace H := it_ H; obtain ⟨rfl, H⟩ | ⟨rfl, H⟩ := H
 ·replace H := bd_ H; obtain ⟨Bi, A4, H⟩ := H
  replace H := it_ H; obtain ⟨rfl, H⟩ | ⟨rfl, H⟩ := H
  ·replace H := bd_ H; obtain ⟨xU, A6, H⟩ := H
   replace H : (some xU) = some r := H
   obtain rfl := Option.some.inj H
   go_enter Tryz.func61, Tryz.ntmps61
   go_wp2_with (first | ((with_reducible refine au_ (N := 1) rfl ?_); refine bv_ 1 61 #[.int .i64 a0_0, .int .i64 a0_1, .int .i64 a0_2] ?_; intro mD hg w7 hbox hb; refine k4_ Ws_ (hbox) (Wg_ w mD) (Wg_ w mD) ?_; clear HB; intro HB tE F4 yo; clear hb hbox hg; obtain ⟨fF, fG, jb, gj, fH, lQ⟩ := bt_ (w := w7) tE.out) | ((with_reducible refine ae_ (f := 79) rfl ?_); refine gl_ 5 Tryz.func79 #[.int .i64 a0_0, .int .i64 0, .int .i64 19] ?_; (with_reducible refine (bK_.calls a0_0 0 19 true _ A2.out).mono ?_); rintro e w' ⟨rfl, ⟨nd, rfl⟩⟩; refine ⟨_, rfl, ?_⟩) | (go_at_call 79; (with_reducible refine (bK_.calls a0_1 0 1999 true _ A4.out).mono ?_); rintro e w' ⟨rfl, ⟨nd, rfl⟩⟩) | (go_at_call 79; (with_reducible refine (bK_.calls a0_2 (wrap64 (a0_1 + 1)) 2000 xU _ A6.out).mono ?_); rintro e w' ⟨rfl, ⟨nd, rfl⟩⟩))
   go_ret
   exact ⟨Z9, mI_⟩
  obtain rfl := Option.some.inj H
  go_enter Tryz.func61, Tryz.ntmps61
  go_wp2_with (first | ((with_reducible refine au_ (N := 1) rfl ?_); refine bv_ 1 61 #[.int .i64 a0_0, .int .i64 a0_1, .int .i64 a0_2] ?_; intro mD hg w9 hbox hb; refine k4_ Ws_ (hbox) (Wg_ w mD) (Wg_ w mD) ?_; clear HB; intro HB tE F4 yo; clear hb hbox hg; obtain ⟨m7, pS, hcz10_2, m8, pT, hfz10_2⟩ := bt_ (w := w9) tE.out) | ((with_reducible refine ae_ (f := 79) rfl ?_); refine gl_ 5 Tryz.func79 #[.int .i64 a0_0, .int .i64 0, .int .i64 19] ?_; (with_reducible refine (bK_.calls a0_0 0 19 true _ A2.out).mono ?_); rintro e w' ⟨rfl, ⟨nd, rfl⟩⟩; refine ⟨_, rfl, ?_⟩) | (go_at_call 79; (with_reducible refine (bK_.calls a0_1 0 1999 false _ A4.out).mono ?_); rintro e w' ⟨rfl, ⟨nd, rfl⟩⟩))
  go_ret
  exact ⟨Z9, mI_⟩
 obtain rfl := Option.some.inj H
 go_enter Tryz.func61, Tryz.ntmps61
 go_wp2_with (first | ((with_reducible refine au_ (N := 1) rfl ?_); refine bv_ 1 61 #[.int .i64 a0_0, .int .i64 a0_1, .int .i64 a0_2] ?_; intro mD hg nI hbox hb; refine k4_ Ws_ (hbox) (Wg_ w mD) (Wg_ w mD) ?_; clear HB; intro HB tE F4 yo; clear hb hbox hg; obtain ⟨eC, fh, pi, eD, fi, we⟩ := bt_ (w := nI) tE.out) | ((with_reducible refine ae_ (f := 79) rfl ?_); refine gl_ 5 Tryz.func79 #[.int .i64 a0_0, .int .i64 0, .int .i64 19] ?_; (with_reducible refine (bK_.calls a0_0 0 19 false _ A2.out).mono ?_); rintro e w' ⟨rfl, ⟨nd, rfl⟩⟩; refine ⟨_, rfl, ?_⟩))
 go_ret
 exact ⟨Z9, mI_⟩
def cm_.f (a0_0 : Int) (a0_1 : Int) (a0_2 : Int) (a1_0 : Int) (a1_1 : Int) (a1_2 : Int) : Option (Bool) := if a0_1 < a1_1 then (some true) else (if a0_1 = a1_1 then (some (decide (a0_0 < a1_0))) else (some false))
set_option maxHeartbeats 8000000 in
set_option maxRecDepth 100000 in
theorem cm_.calls (a0_0 : Int) (a0_1 : Int) (a0_2 : Int) (a1_0 : Int) (a1_1 : Int) (a1_2 : Int) (r : Bool) (w : World) (h : cm_.f a0_0 a0_1 a0_2 a1_0 a1_1 a1_2 = some r) :
  Calls Tryz.prog 62 #[.agg #[.int .i64 a0_0, .int .i64 a0_1, .int .i64 a0_2], .agg #[.int .i64 a1_0, .int .i64 a1_1, .int .i64 a1_2]] w fun e w' => e = .returned (.bool r) ∧ Below w.heap.size w w' := by
 have hu61 := Tryz.underlying61
 have HB := aa_.mk (Below.refl w.heap.size w)
 have H := h; unfold cm_.f at H
 clear h
 replace H := iv_ H; obtain ⟨cU, H⟩ | ⟨cU, H⟩ := H
 ·obtain rfl := Option.some.inj H
  go_enter Tryz.func62, Tryz.ntmps62
  go_wp2_with (first | ((with_reducible refine au_ (N := 2) rfl ?_); refine bv_ 2 61 #[.int .i64 a0_0, .int .i64 a0_1, .int .i64 a0_2] ?_; intro et hg w4 hbox hb; refine k4_ Ws_ (hbox) (Wg_ w et) (Wg_ w et) ?_; clear HB; intro HB eu F5 vV; clear hb hbox hg) | ((with_reducible refine au_ (N := 3) rfl ?_); refine bv_ 3 61 #[.int .i64 a1_0, .int .i64 a1_1, .int .i64 a1_2] ?_; intro fy hg w5 hbox hb; refine k7_ (Ye_ eu) (aq_ (Z71) hb) (hbox) ((hD_ : w.heap.size ≤ fy)) ((hD_ : w.heap.size ≤ fy)) ((mS_ : et ≠ fy)) ((mv_ : fy ≠ et)) ?_; clear eu HB; intro eu HB tF F6 yr f8 f9; clear hb hbox hg; have hnb6 := f8.out; have hnc6 := f9.out; obtain ⟨ql, qm, qn, qo, qp, qq⟩ := bt_ (w := w5) eu.out; obtain ⟨fF, fG, jb, gj, fH, lQ⟩ := bt_ (w := w5) tF.out))
  go_ret
  exact ⟨Z9, nj_⟩
 replace H := ic_ H; obtain ⟨gP, pF, H⟩ | ⟨gP, pF, c9, H⟩ := H
 ·obtain rfl := Option.some.inj H
  go_enter Tryz.func62, Tryz.ntmps62
  go_wp2_with (first | ((with_reducible refine au_ (N := 2) rfl ?_); refine bv_ 2 61 #[.int .i64 a0_0, .int .i64 a0_1, .int .i64 a0_2] ?_; intro et hg jc hbox hb; refine k4_ Ws_ (hbox) (Wg_ w et) (Wg_ w et) ?_; clear HB; intro HB eu F5 vV; clear hb hbox hg) | ((with_reducible refine au_ (N := 3) rfl ?_); refine bv_ 3 61 #[.int .i64 a1_0, .int .i64 a1_1, .int .i64 a1_2] ?_; intro fy hg nI hbox hb; refine k7_ (Ye_ eu) (aq_ (Z71) hb) (hbox) ((hD_ : w.heap.size ≤ fy)) ((hD_ : w.heap.size ≤ fy)) ((mS_ : et ≠ fy)) ((mv_ : fy ≠ et)) ?_; clear eu HB; intro eu HB tF F6 yr f8 f9; clear hb hbox hg; have hnb12 := f8.out; have hnc12 := f9.out; obtain ⟨iy, iz, pq, iA, iB, pr⟩ := bt_ (w := nI) eu.out; obtain ⟨m3, m4, hcz14_2, m5, m6, hfz14_2⟩ := bt_ (w := nI) tF.out))
  go_ret
  exact ⟨Z9, nj_⟩
 obtain rfl := Option.some.inj H
 go_enter Tryz.func62, Tryz.ntmps62
 go_wp2_with (first | ((with_reducible refine au_ (N := 2) rfl ?_); refine bv_ 2 61 #[.int .i64 a0_0, .int .i64 a0_1, .int .i64 a0_2] ?_; intro et hg jd hbox hb; refine k4_ Ws_ (hbox) (Wg_ w et) (Wg_ w et) ?_; clear HB; intro HB eu F5 vV; clear hb hbox hg) | ((with_reducible refine au_ (N := 3) rfl ?_); refine bv_ 3 61 #[.int .i64 a1_0, .int .i64 a1_1, .int .i64 a1_2] ?_; intro fy hg lR hbox hb; refine k7_ (Ye_ eu) (aq_ (Z71) hb) (hbox) ((hD_ : w.heap.size ≤ fy)) ((hD_ : w.heap.size ≤ fy)) ((mS_ : et ≠ fy)) ((mv_ : fy ≠ et)) ?_; clear eu HB; intro eu HB tF F6 yr f8 f9; clear hb hbox hg; have hnb17 := f8.out; have hnc17 := f9.out; obtain ⟨hcz18_0, hcz18_1, hcz18_2, hfz18_0, hfz18_1, hfz18_2⟩ := bt_ (w := lR) eu.out; obtain ⟨po, wj, wk, pp, wl, wm⟩ := bt_ (w := lR) tF.out))
 go_ret
 exact ⟨Z9, nj_⟩
theorem kv_ {p : Prop} (h : p := by repeat' first | (with_reducible first | apply ih0 | apply ih0 | apply ih1 | apply ih1 | apply ih2 | apply ih2 | exact LeO.refl _ | exact LeO.none _ | refine LeO.ite ?_ ?_ | refine LeO.bind ?_ (fun _ => ?_)) | exact LeO.none _ | refine LeO.ite ?_ ?_ | refine LeO.bind ?_ (fun _ => ?_)) : p := h
mutual
def aw_.l0 : Nat → List (S61) → List (S61) → Int → Int → Option (Bool)
 | 0, _, _, _, _ => none
 | k + 1, x0, x7, x8, x9 => if x9 < x8 then (if 0 ≤ x9 then (if x9 < (x7.length : Int) then ((c2_.f ((ab_ x7 x9).f0) ((ab_ x7 x9).f1) ((ab_ x7 x9).f2)).bind fun IQ => (if IQ = true then (if x9 > 0 then (if 0 ≤ (wrap64 (x9 - 1)) then (if (wrap64 (x9 - 1)) < (x0.length : Int) then ((cm_.f ((ab_ x0 (wrap64 (x9 - 1))).f0) ((ab_ x0 (wrap64 (x9 - 1))).f1) ((ab_ x0 (wrap64 (x9 - 1))).f2) ((ab_ x7 x9).f0) ((ab_ x7 x9).f1) ((ab_ x7 x9).f2)).bind fun oK => (aw_.j1 k x0 x9 x7 x8 x9 (!oK) ((ab_ x7 x9).f0) ((ab_ x7 x9).f1) ((ab_ x7 x9).f2))) else (none)) else (none)) else (aw_.j1 k x0 x9 x7 x8 x9 false ((ab_ x7 x9).f0) ((ab_ x7 x9).f1) ((ab_ x7 x9).f2))) else (aw_.j1 k x0 x9 x7 x8 x9 true ((ab_ x7 x9).f0) ((ab_ x7 x9).f1) ((ab_ x7 x9).f2)))) else (none)) else (none)) else (some (decide ((x0.length : Int) ≤ 60)))
def aw_.j1 : Nat → List (S61) → Int → List (S61) → Int → Int → Bool → Int → Int → Int → Option (Bool)
 | 0, _, _, _, _, _, _, _, _, _ => none
 | k + 1, x0, x3, x7, x8, x9, x30, lG, lH, nk => if x30 = true then (some false) else (if 0 ≤ x3 then (if x3 ≤ (x0.length : Int) then ((some (x0.take (x3 : Int).toNat : List (S61))).bind fun ep => (aw_.l1 k x0 x7 x8 x9 ep (ep.length : Int) 0 lG lH nk)) else (none)) else (none))
def aw_.l1 : Nat → List (S61) → List (S61) → Int → Int → List (S61) → Int → Int → Int → Int → Int → Option (Bool)
 | 0, _, _, _, _, _, _, _, _, _, _ => none
 | k + 1, x0, x7, x8, x9, x33, x34, x35, lG, lH, nk => if x35 < x34 then (if 0 ≤ x35 then (if x35 < (x33.length : Int) then (if lG = ((ab_ x33 x35).f0) then (if ((ab_ x33 x35).f2) ≥ lH then (some false) else (aw_.l1 k x0 x7 x8 x9 x33 x34 (wrap64 (x35 + 1)) lG lH nk)) else (aw_.l1 k x0 x7 x8 x9 x33 x34 (wrap64 (x35 + 1)) lG lH nk)) else (none)) else (none)) else (aw_.l0 k x0 x7 x8 (wrap64 (x9 + 1)))
end
def aw_.f (k : Nat) (l0 : List (S61)) : Option (Bool) := aw_.l0 k l0 l0 (l0.length : Int) 0
theorem aw_.mono_l : ∀ k, (∀ y0 y1 y2 y3, LeO (aw_.l0 k y0 y1 y2 y3) (aw_.l0 (k + 1) y0 y1 y2 y3)) ∧ (∀ y0 y1 y2 y3 y4 y5 y6 y7 y8, LeO (aw_.j1 k y0 y1 y2 y3 y4 y5 y6 y7 y8) (aw_.j1 (k + 1) y0 y1 y2 y3 y4 y5 y6 y7 y8)) ∧ (∀ y0 y1 y2 y3 y4 y5 y6 y7 y8 y9, LeO (aw_.l1 k y0 y1 y2 y3 y4 y5 y6 y7 y8 y9) (aw_.l1 (k + 1) y0 y1 y2 y3 y4 y5 y6 y7 y8 y9))
 | 0 => ⟨fun _ _ _ _ r h => by simp [aw_.l0] at h, fun _ _ _ _ _ _ _ _ _ r h => by simp [aw_.j1] at h, fun _ _ _ _ _ _ _ _ _ _ r h => by simp [aw_.l1] at h⟩
 | k + 1 => by
  obtain ⟨ih0, ih1, ih2⟩ := aw_.mono_l k
  refine ⟨?_, ?_, ?_⟩
  ·intro y0 y1 y2 y3
   unfold aw_.l0
   exact kv_
  ·intro y0 y1 y2 y3 y4 y5 y6 y7 y8
   unfold aw_.j1
   exact kv_
  intro y0 y1 y2 y3 y4 y5 y6 y7 y8 y9
  unfold aw_.l1
  exact kv_
theorem aw_.mono : ∀ a0 k, LeO (aw_.f k a0) (aw_.f (k + 1) a0) := by
 intro a0 k
 obtain ⟨ih0, ih1, ih2⟩ := aw_.mono_l k
 unfold aw_.f
 exact kv_
def aw_.T4 : Bool × List (List Nat × List Nat) := (true, [([], []), ([0], [0]), ([1], [1]), ([2, 1], [2]), ([3], [3]), ([4, 3], [3, 4]), ([5, 3, 3], [3, 5]), ([6], [6]), ([6], [6]), ([8, 6], [6, 8]), ([7, 9, 6], [6, 7, 9]), ([10, 6], [6, 10]), ([6], [6]), ([11, 12, 6, 6], [6, 11, 12]), ([13, 6], [6, 13]), ([6, 14, 3], [3, 6, 14]), ([3, 15], [3, 15])])
def aw_.B4 : List Nat := [0, 1, 3, 7, 15, 31, 63, 127, 127, 383, 1023, 2047, 127, 8191, 16383, 32767, 65535]
theorem aw_.tab4 : bI_ .any (dd_ Tryz.f30 4) = aw_.T4 := by kernel_rfl
theorem aw_.bits4 : bQ_ aw_.T4.2 aw_.B4 = true := by kernel_rfl
set_option maxHeartbeats 8000000 in
set_option maxRecDepth 100000 in
theorem aw_.calls (k : Nat) (A0 : Option Addr) (c0 : Nat) (l0 : List (S61)) (r : Bool) (w : World) (hr0 : Kd.C k61 w A0 l0.length l0) (hc0 : l0.length ≤ c0) (h : aw_.f k l0 = some r) :
  Calls Tryz.prog 30 #[.slice A0 l0.length c0] w fun e w' => e = .returned (.bool r) ∧ Below w.heap.size w w' := by
 have hu61 := Tryz.underlying61
 have HR0 := aa_.mk hr0
 have HC0 := aa_.mk hc0
 clear hr0 hc0
 have HB := aa_.mk (Below.refl w.heap.size w)
 have H := h; unfold aw_.f at H
 clear h
 have H' := aa_.mk H
 clear H
 go_enter Tryz.func30, Tryz.ntmps30
 go_wp2
 go_loopg [9] k (fun kq v9 w' => ∃ (aK : Int), v9 = .int .i64 aK ∧ aa_ (aw_.l0 kq l0 l0 (l0.length : Int) aK = some r) ∧ aa_ (kq ≤ k) ∧ aa_ (Below w.heap.size w w'))
 case atStart => exact ⟨(0), (Z14), H', ⟨Nat.le_refl _⟩, ⟨Z2⟩⟩
 case round =>
  clear H'
  obtain ⟨aK, rfl, HA, HK1, HB⟩ := hrel
  cases gk with
  | zero => exact absurd HA.out (by simp [aw_.l0])
  | succ k1 =>
   have H := HA.out
   clear HA
   simp only [aw_.l0] at H
   replace H := iv_ H; obtain ⟨dB, H⟩ | ⟨dB, H⟩ := H
   ·replace H := id_ H; obtain ⟨cU, H⟩ := H
    replace H := id_ H; obtain ⟨da, H⟩ := H
    have HC5 := aa_.mk H
    clear H
    obtain ⟨ib, e117, nl, nn, np, CM, CN⟩ := d6_ HR0.out HB.out aK
    cases e117
    go_upto_region 4 with (((with_reducible refine au_ (N := 4) rfl ?_); refine bv_ 4 61 #[.int .i64 0, .int .i64 0, .int .i64 0] ?_; intro bF hg w6 hbox hb; refine k4_ Ws_ (hbox) (Wg_ w bF) (Wg_ w bF) ?_; clear HB; intro HB bb GW118 Dj; clear hb hbox hg; obtain ⟨ql, qm, qn, qo, qp, qq⟩ := bt_ (w := w6) bb.out))
    (try simp only [Act.put, List.setIfInBounds_toArray, List.set_cons_zero, List.set_cons_succ])
    go_cut [30] (fun NV wc => ∃ (kq : Nat) (wV : Bool), NV = .bool wV ∧ aa_ (aw_.j1 kq l0 aK l0 (l0.length : Int) aK wV ((ab_ l0 aK).f0) ((ab_ l0 aK).f1) ((ab_ l0 aK).f2) = some r) ∧ aa_ (kq ≤ k1) ∧ aa_ (wc.heap[bF]? = some (.cells #[.int .i64 ((ab_ l0 aK).f0), .int .i64 ((ab_ l0 aK).f1), .int .i64 ((ab_ l0 aK).f2)] 61 (0, 0))) ∧ aa_ (Below w.heap.size w wc))
    case first =>
     have H := HC5.out
     clear HC5
     replace H := bd_ H; obtain ⟨IQ, A8, H⟩ := H
     replace H := it_ H; obtain ⟨rfl, H⟩ | ⟨rfl, H⟩ := H
     ·replace H := iw_ H; obtain ⟨c10, H⟩ | ⟨c10, H⟩ := H
      ·have de : decide (0 < aK) = true := decide_eq_true c10
       clear c10
       (first | rw [de] | (simp only [bA_, ch_]; rw [de]) | skip)
       obtain ⟨ed, hji11⟩ : ∃ j_ : Int, (wrap64 (aK - 1)) = j_ := ⟨_, rfl⟩
       (first | rw [hji11] at H | simp only [hji11] at H)
       (try rw [hji11] at A8)
       have hji11w : (IntKind.i64.wrap (aK - 1)) = ed := (bA_ _).trans hji11
       replace H := id_ H; obtain ⟨fm, H⟩ := H
       replace H := id_ H; obtain ⟨ew, H⟩ := H
       replace H := bd_ H; obtain ⟨oK, pD, H⟩ := H
       have H' := aa_.mk H
       clear H
       try go_wp2
       have n0_ : aa_ ((((w6.setCell ⟨bF, 0, none⟩ (.int .i64 ((ab_ l0 aK).f0))).setCell ⟨bF, 1, none⟩ (.int .i64 ((ab_ l0 aK).f1))).setCell ⟨bF, 2, none⟩ (.int .i64 ((ab_ l0 aK).f2))).heap[bF]? = some (.cells #[.int .i64 ((ab_ l0 aK).f0), .int .i64 ((ab_ l0 aK).f1), .int .i64 ((ab_ l0 aK).f2)] 61 (0, 0))) := ⟨Z62⟩
       have n1_ : aa_ (Below w.heap.size w (((w6.setCell ⟨bF, 0, none⟩ (.int .i64 ((ab_ l0 aK).f0))).setCell ⟨bF, 1, none⟩ (.int .i64 ((ab_ l0 aK).f1))).setCell ⟨bF, 2, none⟩ (.int .i64 ((ab_ l0 aK).f2)))) := ⟨Z24⟩
       (try clear bb)
       (try clear HB)
       generalize (((w6.setCell ⟨bF, 0, none⟩ (.int .i64 ((ab_ l0 aK).f0))).setCell ⟨bF, 1, none⟩ (.int .i64 ((ab_ l0 aK).f1))).setCell ⟨bF, 2, none⟩ (.int .i64 ((ab_ l0 aK).f2))) = jd at n0_ n1_ ⊢
       have bb := n0_
       have HB := n1_
       clear n0_ n1_
       refine k2_ (ax_ bb.out) (av_ HB.out) ?_
       clear bb HB
       intro bb HB
       have CO : 0 ≤ ((ed) : Int) := of_decide_eq_true (Z8)
       have CP : (ed) < (l0.length : Int) := of_decide_eq_true (Z8)
       obtain ⟨ad120, e120, iN, iO, iP⟩ := di_ HR0.out (ed) CO CP
       have hw120_2 := iP
       have hw120_1 := iO
       have hw120_0 := iN
       obtain rfl : ib = ad120 := (by injection e120)
       replace iN := (HB.out.cell (World.block_lt_of_cell? w _ iN)).trans iN
       replace iO := (HB.out.cell (World.block_lt_of_cell? w _ iO)).trans iO
       replace iP := (HB.out.cell (World.block_lt_of_cell? w _ iP)).trans iP
       replace CO := eq_true CO
       replace CP := eq_true CP
       refine b2_ (n := 17) (S := fun w' => w'.cell? ⟨bF, 0, none⟩ = some (.int .i64 ((ab_ l0 aK).f0)) ∧ w'.cell? ⟨bF, 1, none⟩ = some (.int .i64 ((ab_ l0 aK).f1)) ∧ w'.cell? ⟨bF, 2, none⟩ = some (.int .i64 ((ab_ l0 aK).f2)) ∧ w'.cell? (ib.add (((ed)).toNat * 3)) = some (.int .i64 ((ab_ l0 (ed)).f0)) ∧ w'.cell? ⟨(ib.add (((ed)).toNat * 3)).block, (ib.add (((ed)).toNat * 3)).off + 1, none⟩ = some (.int .i64 ((ab_ l0 (ed)).f1)) ∧ w'.cell? ⟨(ib.add (((ed)).toNat * 3)).block, (ib.add (((ed)).toNat * 3)).off + 2, none⟩ = some (.int .i64 ((ab_ l0 (ed)).f2))) (ds := []) (M_ 0 17) (by kernel_rfl) rfl rfl ⟨(aE_ bb.out 0).trans rfl, (aE_ bb.out 1).trans rfl, (aE_ bb.out 2).trans rfl, ((HB.out.cell (World.block_lt_of_cell? w _ hw120_0)).trans hw120_0), ((HB.out.cell (World.block_lt_of_cell? w _ hw120_1)).trans hw120_1), ((HB.out.cell (World.block_lt_of_cell? w _ hw120_2)).trans hw120_2)⟩ (fun hHeld => ?_); refine bz_ aw_.tab4 aw_.bits4 (fun HT_ HW_ => ?_)
       generalize jd.drew = lR at bb HB iN iO iP hHeld ⊢
       refine fH_ 0 14 (M_ 1 16) hHeld ?_
       refine on_ 1 (some 15) (M_ 2 15) (fun K hK => ?_)
       refine cs_ Tryz.func61 (by kernel_rfl) rfl #[.agg #[.int .i64 ((ab_ l0 aK).f0), .int .i64 ((ab_ l0 aK).f1), .int .i64 ((ab_ l0 aK).f2)]] (by rfl) rfl rfl (Z43) ?_
       with_reducible refine (c2_.calls ((ab_ l0 aK).f0) ((ab_ l0 aK).f1) ((ab_ l0 aK).f2) true _ A8.out).mono ?_
       rintro e oD ⟨rfl, hb⟩
       refine ⟨_, rfl, ?_⟩
       refine k2_ (Ye_ bb) (aq_ (Z24) hb) ?_
       clear bb HB
       intro bb HB
       (try clear hb)
       refine hK.out _ _ ⟨(aE_ bb.out 0).trans rfl, (aE_ bb.out 1).trans rfl, (aE_ bb.out 2).trans rfl, ((HB.out.cell (World.block_lt_of_cell? w _ hw120_0)).trans hw120_0), ((HB.out.cell (World.block_lt_of_cell? w _ hw120_1)).trans hw120_1), ((HB.out.cell (World.block_lt_of_cell? w _ hw120_2)).trans hw120_2)⟩ (fun hHeld => ?_)
       clear hK K
       refine nm_ 15 ?_
       refine pu_ 2 16 (M_ 3 14) ?_
       refine pu_ 3 17 (M_ 4 13) ?_
       refine pu_ 4 18 (M_ 5 12) ?_
       refine pu_ 5 19 (M_ 6 11) ?_
       refine pu_ 6 20 (M_ 7 10) ?_
       refine pu_ 7 21 (M_ 8 9) ?_
       refine pu_ 8 22 (M_ 9 8) ?_
       refine pu_ 9 23 (M_ 10 7) ?_
       refine pu_ 10 24 (M_ 11 6) ?_
       refine fH_ 11 25 (M_ 12 5) hHeld ?_
       refine fH_ 12 26 (M_ 13 4) hHeld ?_
       refine on_ 13 (some 27) (M_ 14 3) (fun K hK => ?_)
       refine cs_ Tryz.func62 (by kernel_rfl) rfl #[.agg #[.int .i64 ((ab_ l0 (ed)).f0), .int .i64 ((ab_ l0 (ed)).f1), .int .i64 ((ab_ l0 (ed)).f2)], .agg #[.int .i64 ((ab_ l0 aK).f0), .int .i64 ((ab_ l0 aK).f1), .int .i64 ((ab_ l0 aK).f2)]] (by rfl) rfl rfl (by (try simp only [List.map_toArray, List.map_cons, List.map_nil]); first | done | (simp only [hji11]; rfl) | rfl | (simp only [List.length_drop, List.length_take]; rfl)) ?_
       with_reducible refine (cm_.calls ((ab_ l0 (ed)).f0) ((ab_ l0 (ed)).f1) ((ab_ l0 (ed)).f2) ((ab_ l0 aK).f0) ((ab_ l0 aK).f1) ((ab_ l0 aK).f2) oK _ pD.out).mono ?_
       rintro e Jj ⟨rfl, hb⟩
       refine ⟨_, rfl, ?_⟩
       refine k2_ (Ye_ bb) (aq_ (Z24) hb) ?_
       clear bb HB
       intro bb HB
       refine hK.out _ _ ⟨(aE_ bb.out 0).trans rfl, (aE_ bb.out 1).trans rfl, (aE_ bb.out 2).trans rfl, ((HB.out.cell (World.block_lt_of_cell? w _ hw120_0)).trans hw120_0), ((HB.out.cell (World.block_lt_of_cell? w _ hw120_1)).trans hw120_1), ((HB.out.cell (World.block_lt_of_cell? w _ hw120_2)).trans hw120_2)⟩ (fun hHeld => ?_)
       clear hK K
       refine nm_ 27 ?_
       refine pu_ 14 28 (M_ 15 2) ?_
       refine pu_ 15 29 (M_ 16 1) ?_
       refine pu_ 16 30 (M_ 17 0) ?_
       refine cw_ (bS_ HT_.out (by kernel_rfl)) ?_
       try go_wp2
       go_meet
       case rel => exact ⟨_, (!oK), (Z14), H', ⟨eL_ HK1⟩, ⟨Z5 bb⟩, ⟨Z24⟩⟩
      have de : decide (0 < aK) = false := decide_eq_false c10
      clear c10
      (first | rw [de] | (simp only [bA_, ch_]; rw [de]) | skip)
      have H' := aa_.mk H
      clear H
      try go_wp2
      have n0_ : aa_ ((((w6.setCell ⟨bF, 0, none⟩ (.int .i64 ((ab_ l0 aK).f0))).setCell ⟨bF, 1, none⟩ (.int .i64 ((ab_ l0 aK).f1))).setCell ⟨bF, 2, none⟩ (.int .i64 ((ab_ l0 aK).f2))).heap[bF]? = some (.cells #[.int .i64 ((ab_ l0 aK).f0), .int .i64 ((ab_ l0 aK).f1), .int .i64 ((ab_ l0 aK).f2)] 61 (0, 0))) := ⟨Z62⟩
      have n1_ : aa_ (Below w.heap.size w (((w6.setCell ⟨bF, 0, none⟩ (.int .i64 ((ab_ l0 aK).f0))).setCell ⟨bF, 1, none⟩ (.int .i64 ((ab_ l0 aK).f1))).setCell ⟨bF, 2, none⟩ (.int .i64 ((ab_ l0 aK).f2)))) := ⟨Z24⟩
      (try clear bb)
      (try clear HB)
      generalize (((w6.setCell ⟨bF, 0, none⟩ (.int .i64 ((ab_ l0 aK).f0))).setCell ⟨bF, 1, none⟩ (.int .i64 ((ab_ l0 aK).f1))).setCell ⟨bF, 2, none⟩ (.int .i64 ((ab_ l0 aK).f2))) = Nk at n0_ n1_ ⊢
      have bb := n0_
      have HB := n1_
      clear n0_ n1_
      refine k2_ (ax_ bb.out) (av_ HB.out) ?_
      clear bb HB
      intro bb HB
      refine b2_ (n := 17) (S := fun w' => w'.cell? ⟨bF, 0, none⟩ = some (.int .i64 ((ab_ l0 aK).f0)) ∧ w'.cell? ⟨bF, 1, none⟩ = some (.int .i64 ((ab_ l0 aK).f1)) ∧ w'.cell? ⟨bF, 2, none⟩ = some (.int .i64 ((ab_ l0 aK).f2))) (ds := []) (M_ 0 17) (by kernel_rfl) rfl rfl (cp_ bb.out) (fun hHeld => ?_); refine bz_ aw_.tab4 aw_.bits4 (fun HT_ HW_ => ?_)
      generalize Nk.drew = Jd at bb HB hHeld ⊢
      refine fX_ 0 14 (M_ 1 16) hHeld ?_
      refine on_ 1 (some 15) (M_ 2 15) (fun K hK => ?_)
      refine cs_ Tryz.func61 (by kernel_rfl) rfl #[.agg #[.int .i64 ((ab_ l0 aK).f0), .int .i64 ((ab_ l0 aK).f1), .int .i64 ((ab_ l0 aK).f2)]] (by rfl) rfl rfl (Z43) ?_
      with_reducible refine (c2_.calls ((ab_ l0 aK).f0) ((ab_ l0 aK).f1) ((ab_ l0 aK).f2) true _ A8.out).mono ?_
      rintro e NB ⟨rfl, hb⟩
      refine ⟨_, rfl, ?_⟩
      refine k2_ (Ye_ bb) (aq_ (Z24) hb) ?_
      clear bb HB
      intro bb HB
      (try clear hb)
      refine hK.out _ _ (cp_ bb.out) (fun hHeld => ?_)
      clear hK K
      refine nm_ 15 ?_
      refine pu_ 2 16 (M_ 3 14) ?_
      refine pu_ 3 17 (M_ 4 13) ?_
      refine pu_ 4 18 (M_ 5 12) ?_
      refine pu_ 5 19 (M_ 6 11) ?_
      refine pu_ 6 20 (M_ 7 10) ?_
      refine pn_ 7 21 (M_ 8 9) ?_
      refine pn_ 8 22 (M_ 9 8) ?_
      refine pn_ 9 23 (M_ 10 7) ?_
      refine pn_ 10 24 (M_ 11 6) ?_
      refine pn_ 11 25 (M_ 12 5) ?_
      refine pn_ 12 26 (M_ 13 4) ?_
      refine pn_ 13 27 (M_ 14 3) ?_
      refine pn_ 14 28 (M_ 15 2) ?_
      refine pu_ 15 29 (M_ 16 1) ?_
      refine pu_ 16 30 (M_ 17 0) ?_
      refine cw_ (bS_ HT_.out (by kernel_rfl)) ?_
      try go_wp2
      go_meet
      case rel => exact ⟨_, (false), (Z14), H', ⟨eL_ HK1⟩, ⟨Z5 bb⟩, ⟨Z24⟩⟩
     have H' := aa_.mk H
     clear H
     try go_wp2
     have n0_ : aa_ ((((w6.setCell ⟨bF, 0, none⟩ (.int .i64 ((ab_ l0 aK).f0))).setCell ⟨bF, 1, none⟩ (.int .i64 ((ab_ l0 aK).f1))).setCell ⟨bF, 2, none⟩ (.int .i64 ((ab_ l0 aK).f2))).heap[bF]? = some (.cells #[.int .i64 ((ab_ l0 aK).f0), .int .i64 ((ab_ l0 aK).f1), .int .i64 ((ab_ l0 aK).f2)] 61 (0, 0))) := ⟨Z62⟩
     have n1_ : aa_ (Below w.heap.size w (((w6.setCell ⟨bF, 0, none⟩ (.int .i64 ((ab_ l0 aK).f0))).setCell ⟨bF, 1, none⟩ (.int .i64 ((ab_ l0 aK).f1))).setCell ⟨bF, 2, none⟩ (.int .i64 ((ab_ l0 aK).f2)))) := ⟨Z24⟩
     (try clear bb)
     (try clear HB)
     generalize (((w6.setCell ⟨bF, 0, none⟩ (.int .i64 ((ab_ l0 aK).f0))).setCell ⟨bF, 1, none⟩ (.int .i64 ((ab_ l0 aK).f1))).setCell ⟨bF, 2, none⟩ (.int .i64 ((ab_ l0 aK).f2))) = jE at n0_ n1_ ⊢
     have bb := n0_
     have HB := n1_
     clear n0_ n1_
     refine k2_ (ax_ bb.out) (av_ HB.out) ?_
     clear bb HB
     intro bb HB
     refine b2_ (n := 17) (S := fun w' => w'.cell? ⟨bF, 0, none⟩ = some (.int .i64 ((ab_ l0 aK).f0)) ∧ w'.cell? ⟨bF, 1, none⟩ = some (.int .i64 ((ab_ l0 aK).f1)) ∧ w'.cell? ⟨bF, 2, none⟩ = some (.int .i64 ((ab_ l0 aK).f2))) (ds := []) (M_ 0 17) (by kernel_rfl) rfl rfl (cp_ bb.out) (fun hHeld => ?_); refine bz_ aw_.tab4 aw_.bits4 (fun HT_ HW_ => ?_)
     generalize jE.drew = Dp at bb HB hHeld ⊢
     refine fX_ 0 14 (M_ 1 16) hHeld ?_
     refine on_ 1 (some 15) (M_ 2 15) (fun K hK => ?_)
     refine cs_ Tryz.func61 (by kernel_rfl) rfl #[.agg #[.int .i64 ((ab_ l0 aK).f0), .int .i64 ((ab_ l0 aK).f1), .int .i64 ((ab_ l0 aK).f2)]] (by rfl) rfl rfl (Z43) ?_
     with_reducible refine (c2_.calls ((ab_ l0 aK).f0) ((ab_ l0 aK).f1) ((ab_ l0 aK).f2) false _ A8.out).mono ?_
     rintro e cP ⟨rfl, hb⟩
     refine ⟨_, rfl, ?_⟩
     refine k2_ (Ye_ bb) (aq_ (Z24) hb) ?_
     clear bb HB
     intro bb HB
     (try clear hb)
     refine hK.out _ _ (cp_ bb.out) (fun hHeld => ?_)
     clear hK K
     refine nm_ 15 ?_
     refine pu_ 2 16 (M_ 3 14) ?_
     refine pu_ 3 17 (M_ 4 13) ?_
     refine pn_ 4 18 (M_ 5 12) ?_
     refine pn_ 5 19 (M_ 6 11) ?_
     refine pn_ 6 20 (M_ 7 10) ?_
     refine pn_ 7 21 (M_ 8 9) ?_
     refine pn_ 8 22 (M_ 9 8) ?_
     refine pn_ 9 23 (M_ 10 7) ?_
     refine pn_ 10 24 (M_ 11 6) ?_
     refine pn_ 11 25 (M_ 12 5) ?_
     refine pn_ 12 26 (M_ 13 4) ?_
     refine pn_ 13 27 (M_ 14 3) ?_
     refine pn_ 14 28 (M_ 15 2) ?_
     refine pn_ 15 29 (M_ 16 1) ?_
     refine pu_ 16 30 (M_ 17 0) ?_
     refine cw_ (bS_ HT_.out (by kernel_rfl)) ?_
     try go_wp2
     go_meet
     case rel => exact ⟨_, (true), (Z14), H', ⟨eL_ HK1⟩, ⟨Z5 bb⟩, ⟨Z24⟩⟩
    case rest =>
     clear HC5
     (try clear dB); (try clear cU); (try clear da); (try clear ql); (try clear qm); (try clear qn); (try clear qo); (try clear qp); (try clear qq); (try clear nl); (try clear nn); (try clear np); (try clear CM); (try clear CN)
     obtain ⟨kq, wV, rfl, HA, Nh, bb, HB⟩ := hcut
     cases kq with
     | zero => exact absurd HA.out (by simp [aw_.j1])
     | succ NW =>
      have H := HA.out
      clear HA
      simp only [aw_.j1] at H
      replace H := it_ H; obtain ⟨rfl, H⟩ | ⟨rfl, H⟩ := H
      ·obtain rfl := Option.some.inj H
       go_wp2
       go_ret
       exact ⟨Z9, Z24⟩
      replace H := ie_ H; obtain ⟨yY, c26b1, H⟩ := H
      replace H := ie_ H; obtain ⟨d5, jF, H⟩ := H
      with_reducible replace H := lt_ H; obtain ⟨ep, F7, H⟩ := H
      have H' := aa_.mk H
      clear H
      have DG : (aK : Int) ≤ ((l0.length : Int) : Int) := of_decide_eq_true (Z8)
      obtain ⟨i028, hi028, _, hsz28, _⟩ := info_parts eY_
      have hroom28 : l0.length ≤ c0 := HC0.out
      have hC28 : Kd.C k61 _ (some ib) l0.length l0 := HR0.out
      have hcut28 := go_ (P := Tryz.prog) 24 61 .i64 Tryz.underlying24 hi028 (some ib) l0.length c0 aK (of_decide_eq_true (Z8)) DG hroom28
      have hr28 := Kd.qi_ (m := (aK : Int).toNat) hC28 (by omega)
      have u0 : ep.length = (aK : Int).toNat := (je_ F7)
      rw [← F7.out] at hr28
      rw [← u0] at hcut28
      have HR125 := aa_.mk hr28
      have HC125 := aa_.mk (show ep.length ≤ c0 from by omega)
      clear hr28 hC28 hroom28 hi028 hsz28
      have KY28 := aa_.mk u0
      clear u0
      replace DG := eq_true DG
      go_wp2
      go_loopg [35] NW (fun kq v35 w' => ∃ (cz : Int), v35 = .int .i64 cz ∧ aa_ (aw_.l1 kq l0 l0 (l0.length : Int) aK ep (ep.length : Int) cz ((ab_ l0 aK).f0) ((ab_ l0 aK).f1) ((ab_ l0 aK).f2) = some r) ∧ aa_ (kq ≤ NW) ∧ aa_ (w'.heap[bF]? = some (.cells #[.int .i64 ((ab_ l0 aK).f0), .int .i64 ((ab_ l0 aK).f1), .int .i64 ((ab_ l0 aK).f2)] 61 (0, 0))) ∧ aa_ (Below w.heap.size w w'))
      case atStart => exact ⟨(0), (Z14), H', ⟨Nat.le_refl _⟩, ⟨Z5 bb⟩, ⟨Z24⟩⟩
      case round =>
       clear H'
       (try clear yY); (try clear c26b1); (try clear d5); (try clear jF); (try clear DG)
       obtain ⟨cz, rfl, HA, HK3, bb, HB⟩ := hrel
       cases gk with
       | zero => exact absurd HA.out (by simp [aw_.l1])
       | succ k3 =>
        have H := HA.out
        clear HA
        simp only [aw_.l1] at H
        replace H := iv_ H; obtain ⟨nZ, H⟩ | ⟨nZ, H⟩ := H
        ·replace H := id_ H; obtain ⟨oR, H⟩ := H
         replace H := id_ H; obtain ⟨mh, H⟩ := H
         replace H := ic_ H; obtain ⟨qJ, wy, H⟩ | ⟨qJ, wy, c32, H⟩ := H
         ·replace H := iw_ H; obtain ⟨c33, H⟩ | ⟨c33, H⟩ := H
          ·have yw : decide (((ab_ l0 aK).f1) ≤ ((ab_ ep cz).f2)) = true := decide_eq_true c33
           clear c33
           obtain rfl := Option.some.inj H
           obtain ⟨tH, e126, dZ, d0, d1, om, oo⟩ := d6_ HR125.out HB.out cz
           obtain rfl : ib = tH := (by injection e126)
           go_wp2_with (((with_reducible refine au_ (N := 6) rfl ?_); refine bv_ 6 61 #[.int .i64 0, .int .i64 0, .int .i64 0] ?_; intro fz hg ws hbox hb; refine k7_ (Ye_ bb) (aq_ (Z24) hb) (hbox) ((hP_ : w.heap.size ≤ fz)) ((hP_ : w.heap.size ≤ fz)) ((mL_ : bF ≠ fz)) ((mZ_ : fz ≠ bF)) ?_; clear bb HB; intro bb HB tI F8 yq dF ga; clear hb hbox hg; have hnb35 := ga.out; have hnc35 := dF.out; obtain ⟨na, nb, hcz36_2, nc, ne, hfz36_2⟩ := bt_ (w := ws) tI.out; obtain ⟨hcz37_0, hcz37_1, hcz37_2, hfz37_0, hfz37_1, hfz37_2⟩ := bt_ (w := ws) bb.out))
           go_ret
           exact ⟨Z9, ni_⟩
          have yw : decide (((ab_ l0 aK).f1) ≤ ((ab_ ep cz).f2)) = false := decide_eq_false c33
          clear c33
          have H' := aa_.mk H
          clear H
          obtain ⟨tH, e126, dZ, d0, d1, om, oo⟩ := d6_ HR125.out HB.out cz
          obtain rfl : ib = tH := (by injection e126)
          go_wp2_with (((with_reducible refine au_ (N := 6) rfl ?_); refine bv_ 6 61 #[.int .i64 0, .int .i64 0, .int .i64 0] ?_; intro fz hg uP hbox hb; refine k7_ (Ye_ bb) (aq_ (Z24) hb) (hbox) ((hP_ : w.heap.size ≤ fz)) ((hP_ : w.heap.size ≤ fz)) ((mL_ : bF ≠ fz)) ((mZ_ : fz ≠ bF)) ?_; clear bb HB; intro bb HB tI F8 yq dF ga; clear hb hbox hg; have hnb39 := ga.out; have hnc39 := dF.out; obtain ⟨hcz40_0, hcz40_1, hcz40_2, hfz40_0, hfz40_1, hfz40_2⟩ := bt_ (w := uP) tI.out; obtain ⟨mX, mY, hcz41_2, mZ, m0, hfz41_2⟩ := bt_ (w := uP) bb.out))
          go_roundg k3
          case measure => have := HK1.out; have := Nh.out; have := HK3.out; omega
          case rel => exact ⟨(wrap64 (cz + 1)), (Z14), H', ⟨m2_⟩, ⟨o2_⟩, ⟨ni_⟩⟩
         have H' := aa_.mk H
         clear H
         obtain ⟨tH, e126, dZ, d0, d1, om, oo⟩ := d6_ HR125.out HB.out cz
         obtain rfl : ib = tH := (by injection e126)
         go_wp2_with (((with_reducible refine au_ (N := 6) rfl ?_); refine bv_ 6 61 #[.int .i64 0, .int .i64 0, .int .i64 0] ?_; intro fz hg Oj hbox hb; refine k7_ (Ye_ bb) (aq_ (Z24) hb) (hbox) ((hP_ : w.heap.size ≤ fz)) ((hP_ : w.heap.size ≤ fz)) ((mL_ : bF ≠ fz)) ((mZ_ : fz ≠ bF)) ?_; clear bb HB; intro bb HB tI F8 yq dF ga; clear hb hbox hg; have hnb43 := ga.out; have hnc43 := dF.out; obtain ⟨hcz44_0, hcz44_1, hcz44_2, hfz44_0, hfz44_1, hfz44_2⟩ := bt_ (w := Oj) tI.out; obtain ⟨hcz45_0, hcz45_1, hcz45_2, hfz45_0, hfz45_1, hfz45_2⟩ := bt_ (w := Oj) bb.out))
         go_roundg k3
         case measure => have := HK1.out; have := Nh.out; have := HK3.out; omega
         case rel => exact ⟨(wrap64 (cz + 1)), (Z14), H', ⟨m2_⟩, ⟨o2_⟩, ⟨ni_⟩⟩
        have H' := aa_.mk H
        clear H
        go_wp2
        go_roundg k3
        case measure => have := HK1.out; have := Nh.out; have := HK3.out; omega
        case rel => exact ⟨(wrap64 (aK + 1)), (Z14), H', ⟨m2_⟩, ⟨Z24⟩⟩
   obtain rfl := Option.some.inj H
   go_wp2
   go_ret
   exact ⟨Z9, Z2⟩
end Go.Proofs.YtcpliaahkcbinaaGreatDoor.PFnStrokes
