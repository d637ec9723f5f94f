-- written by a program of this session: the kit's print, with outer functions of the session's own (wip/ext)
import Derived.Test.YthjannkegjflbaaPFnExactShortestOrderx0
import Derived.Test.YthjannkegjflbaaPFnExactShortestOrderx1
namespace Go.Proofs.Ythjannkegjflbaa.PFnExactShortestOrder
open Go.RowKit Go.Proofs.YthjannkegjflbaaW.PrintWords Go.Proofs.YthjannkegjflbaaW.PrintLast Go.Proofs.YthjannkegjflbaaW.PrintMore
attribute [local go_sem] max2_int min2_int max_two min_two max_three min_three max_four min_four   -- for this text's walks alone
set_option linter.unusedVariables false
set_option linter.unusedSimpArgs false

/-- A state of type 39 at block g of W; what its slices lead to came in by w0. -/
def IsS39 (w0 W : World) (g : Nat) (f0 : Int) (f1 : Int) : Prop := W.heap[g]? = some (.cells #[.int .i64 f0, .int .i64 f1] 39 (0, 0)) ∧ w0.heap.size ≤ g
theorem IsS39.grown {w0 W : World} {g : Nat} {f0 : Int} {f1 : Int} {W1 : World} {row : Option Nat} (h : IsS39 w0 W g f0 f1) (hw : W.grownBy W1 row) (hne : some g ≠ row) : IsS39 w0 W1 g f0 f1 := by
 obtain ⟨hb, hg⟩ := h
 exact ⟨blk_grown hb hw hne, hg⟩
theorem IsS39.own_neN {w0 W : World} {g : Nat} {f0 : Int} {f1 : Int} {α : Type} {d : Kd α} {e : Nat} {base : Nat} {ok : Nat → Prop} {v : Value} {xs : List α} (h : IsS39 w0 W g f0 f1) (ho : Kd.N d e W base ok v xs) (ht : e ≠ 39) : some g ≠ v.ownBlock := by
 obtain ⟨hb, hg⟩ := h
 exact Kd.N_ne ho hb ht
theorem IsS39.fresh {w0 W : World} {g : Nat} {f0 : Int} {f1 : Int} (h : IsS39 w0 W g f0 f1) : ∀ k, W.heap.size ≤ k → k ≠ g := by
 obtain ⟨hb, hg⟩ := h
 exact Kd.freshB hb
theorem IsS39.kept {w0 W : World} {g : Nat} {f0 : Int} {f1 : Int} {W1 : World} {S : Nat → Prop} (h : IsS39 w0 W g f0 f1) (hk : Kept W W1 S) (hne : ¬ S g) : IsS39 w0 W1 g f0 f1 := by
 obtain ⟨hb, hg⟩ := h
 exact ⟨blk_kept hb hk hne, hg⟩
theorem IsS39.below {w0 W : World} {g : Nat} {f0 : Int} {f1 : Int} {W1 : World} (h : IsS39 w0 W g f0 f1) (hw : Below W.heap.size W W1) : IsS39 w0 W1 g f0 f1 := h.grown (grown_of_below hw none) (by simp)
theorem IsS39.alloc {w0 W : World} {g : Nat} {f0 : Int} {f1 : Int} (h : IsS39 w0 W g f0 f1) (o : Obj) : IsS39 w0 (W.alloc o) g f0 f1 := h.below (below_alloc (Below.refl _ _) o)
theorem IsS39.drewN {w0 W : World} {g : Nat} {f0 : Int} {f1 : Int} (h : IsS39 w0 W g f0 f1) (m : Nat) : IsS39 w0 (W.drewN m) g f0 f1 := h
theorem IsS39.drew {w0 W : World} {g : Nat} {f0 : Int} {f1 : Int} (h : IsS39 w0 W g f0 f1) : IsS39 w0 W.drew g f0 f1 := h
theorem IsS39.at_ {w0 W : World} {g : Nat} {f0 : Int} {f1 : Int} {w' : World} {m : Nat} (hq : W.drewN m = w') (h : IsS39 w0 W g f0 f1) : IsS39 w0 w' g f0 f1 := by subst hq; exact IsS39.drewN h m
theorem IsS39.apart {w0 W : World} {g : Nat} {f0 : Int} {f1 : Int} {α : Type} {d : Kd α} {e : Nat} {base : Nat} {ok : Nat → Prop} {v : Value} {xs : List α} (h : IsS39 w0 W g f0 f1) (ho : d.R e W base ok v xs) (ht : ∀ q, q ∈ e :: d.E → q ≠ 39) : d.R e W base (fun k => ok k ∧ k ≠ g) v xs := by
 obtain ⟨hb, hg⟩ := h
 exact Kd.R_types ho hb ht
theorem IsS39.own_ne {w0 W : World} {g : Nat} {f0 : Int} {f1 : Int} {α : Type} {d : Kd α} {e : Nat} {base : Nat} {ok : Nat → Prop} {v : Value} {xs : List α} (h : IsS39 w0 W g f0 f1) (ho : d.R e W base ok v xs) (ht : e ≠ 39) : some g ≠ v.ownBlock := by
 obtain ⟨hb, hg⟩ := h
 exact Kd.R_ne ho hb ht
theorem IsS39.apartQ {w0 W : World} {g : Nat} {f0 : Int} {f1 : Int} {α : Type} {d : Kd α} {e : Nat} {base : Nat} {ok : Nat → Prop} {v : Value} {xs : List α} (h : IsS39 w0 W g f0 f1) (ho : d.Q e W base ok v xs) (ht : ∀ q, q ∈ e :: d.E → q ≠ 39) : d.Q e W base (fun k => ok k ∧ k ≠ g) v xs := by
 obtain ⟨hb, hg⟩ := h
 exact Kd.Q_types ho hb ht
theorem IsS39.own_neQ {w0 W : World} {g : Nat} {f0 : Int} {f1 : Int} {α : Type} {d : Kd α} {e : Nat} {base : Nat} {ok : Nat → Prop} {v : Value} {xs : List α} (h : IsS39 w0 W g f0 f1) (ho : d.Q e W base ok v xs) (ht : e ≠ 39) : some g ≠ v.ownBlock := by
 obtain ⟨hb, hg⟩ := h
 exact Kd.Q_ne ho hb ht
theorem IsS39.apartS {w0 W : World} {g : Nat} {f0 : Int} {f1 : Int} {α : Type} {d : Kd α} {e : Nat} {base : Nat} {ok : Nat → Prop} {v : Value} {xs : List α} (h : IsS39 w0 W g f0 f1) (ho : d.S e W base ok v xs) (ht : ∀ q, q ∈ e :: d.E → q ≠ 39) : d.S e W base (fun k => ok k ∧ k ≠ g) v xs := by
 obtain ⟨hb, hg⟩ := h
 exact Kd.S_types ho hb ht
theorem IsS39.own_neS {w0 W : World} {g : Nat} {f0 : Int} {f1 : Int} {α : Type} {d : Kd α} {e : Nat} {base : Nat} {ok : Nat → Prop} {v : Value} {xs : List α} (h : IsS39 w0 W g f0 f1) (ho : d.S e W base ok v xs) (ht : e ≠ 39) : some g ≠ v.ownBlock := by
 obtain ⟨hb, hg⟩ := h
 exact Kd.S_ne ho hb ht
theorem IsS39.lt {w0 W : World} {g : Nat} {f0 : Int} {f1 : Int} (h : IsS39 w0 W g f0 f1) : g < W.heap.size := by
 obtain ⟨hb, hg⟩ := h
 exact blk_lt hb
theorem IsS39.ge {w0 W : World} {g : Nat} {f0 : Int} {f1 : Int} (h : IsS39 w0 W g f0 f1) : w0.heap.size ≤ g := by
 obtain ⟨hb, hg⟩ := h
 exact hg
theorem IsS39.ne_blk {w0 W : World} {g : Nat} {f0 : Int} {f1 : Int} {a : Nat} {cs : Array Value} {t : TypeId} {fr : Nat × Nat} (h : IsS39 w0 W g f0 f1) (hb2 : W.heap[a]? = some (.cells cs t fr)) (ht : t ≠ 39) : g ≠ a := by
 obtain ⟨hb, hg⟩ := h
 rintro rfl
 rw [hb] at hb2
 injection hb2 with hb2
 injection hb2 with _ ht2
 exact ht ht2.symm
theorem IsS39.far {w0 W : World} {g : Nat} {f0 : Int} {f1 : Int} {p : Addr} (h : IsS39 w0 W g f0 f1) (hne : g ≠ p.block) (u : Value) : IsS39 w0 (W.setCell p u) g f0 f1 := by
 obtain ⟨hb, hg⟩ := h
 exact ⟨blk_far hb hne u, hg⟩
theorem cellS39_0 {W : World} {g : Nat} {f0 : Int} {f1 : Int} (h : W.heap[g]? = some (.cells #[.int .i64 f0, .int .i64 f1] 39 (0, 0))) : W.cell? ⟨g, 0, none⟩ = some (.int .i64 f0) := (blk_cell h 0).trans rfl
theorem IsS39.set_0 {w0 W : World} {g : Nat} {f0 : Int} {f1 : Int} (h : IsS39 w0 W g f0 f1) (x : Int) : IsS39 w0 (W.setCell ⟨g, 0, none⟩ (.int .i64 x)) g x f1 := by
 obtain ⟨hb, hg⟩ := h
 exact ⟨by simpa using blk_set hb 0 (.int .i64 x), hg⟩
theorem cellS39_1 {W : World} {g : Nat} {f0 : Int} {f1 : Int} (h : W.heap[g]? = some (.cells #[.int .i64 f0, .int .i64 f1] 39 (0, 0))) : W.cell? ⟨g, 1, none⟩ = some (.int .i64 f1) := (blk_cell h 1).trans rfl
theorem IsS39.set_1 {w0 W : World} {g : Nat} {f0 : Int} {f1 : Int} (h : IsS39 w0 W g f0 f1) (x : Int) : IsS39 w0 (W.setCell ⟨g, 1, none⟩ (.int .i64 x)) g f0 x := by
 obtain ⟨hb, hg⟩ := h
 exact ⟨by simpa using blk_set hb 1 (.int .i64 x), hg⟩
theorem IsS39.new (w0 W : World) (f0 : Int) (f1 : Int) (hB : Below w0.heap.size w0 W) : IsS39 w0 (W.alloc (.cells #[.int .i64 f0, .int .i64 f1] 39)) W.heap.size f0 f1 := ⟨by simpa using heap_alloc_new W _, hB.size⟩
/-! ### spec_puBest_try: function 13: by this session -/
/-- A state at block g of W: a slice of strokes, a number, a row of the call's own that reads f0, and a number. -/
def IsPub (A3 : Option Addr) (n3 c3 : Nat) (a4 : Int) (w0 W : World) (g : Nat) (f0 : List Int) (f1 : Int) : Prop := ∃ (A : Option Addr) (c : Nat), W.heap[g]? = some (.cells #[.slice A3 n3 c3, .int .i64 a4, .slice A f0.length c, .int .i64 f1] 36 (0, 0)) ∧ w0.heap.size ≤ g ∧ Kd.R (Kd.int .i64) 3 W w0.heap.size (fun _ => True) (.slice A f0.length c) f0
/-- The row in the state isn't the one that lies in a block. -/
def FarPu (W : World) (g : Nat) (row : Option Nat) : Prop := ∀ (x y v z : Value), W.heap[g]? = some (.cells #[x, y, v, z] 36 (0, 0)) → ∀ b, v.ownBlock = some b → row ≠ some b
section
variable {A3 : Option Addr} {n3 c3 : Nat} {a4 : Int} {w0 W : World} {g : Nat} {f0 : List Int} {f1 : Int}
theorem IsPub.move {W1 : World} (h : IsPub A3 n3 c3 a4 w0 W g f0 f1) (hb : W1.heap[g]? = W.heap[g]?) {q : Nat} (hk : KeepBut W W1 q none) (hq : ∀ (x y v z : Value), W.heap[g]? = some (.cells #[x, y, v, z] 36 (0, 0)) → ∀ b, v.ownBlock = some b → b ≠ q) : IsPub A3 n3 c3 a4 w0 W1 g f0 f1 := by
 obtain ⟨A, c, h1, h2, h3⟩ := h
 exact ⟨A, c, hb.trans h1, h2, Kd.R_mono (Kd.R_keep (Kd.R_tight rfl h3) hk (fun k hk_ e => hq _ _ _ _ h1 k hk_.symm e)) (fun _ _ => trivial)⟩
theorem IsPub.lt (h : IsPub A3 n3 c3 a4 w0 W g f0 f1) : g < W.heap.size := by
 obtain ⟨A, c, h1, _⟩ := h
 exact blk_lt h1
theorem IsPub.ge (h : IsPub A3 n3 c3 a4 w0 W g f0 f1) : w0.heap.size ≤ g := by
 obtain ⟨A, c, _, h2, _⟩ := h
 exact h2
theorem IsPub.row (h : IsPub A3 n3 c3 a4 w0 W g f0 f1) {x y v z : Value} (h' : W.heap[g]? = some (.cells #[x, y, v, z] 36 (0, 0))) : Kd.R (Kd.int .i64) 3 W w0.heap.size (fun _ => True) v f0 := by
 obtain ⟨A, c, h1, h2, h3⟩ := h
 rw [h1] at h'
 injection h' with h'
 injection h' with h' _ _
 simp only [Array.mk.injEq, List.cons.injEq] at h'
 obtain ⟨_, _, rfl, _⟩ := h'
 exact h3
theorem IsPub.self (h : IsPub A3 n3 c3 a4 w0 W g f0 f1) : ∀ (x y v z : Value), W.heap[g]? = some (.cells #[x, y, v, z] 36 (0, 0)) → ∀ b, v.ownBlock = some b → b ≠ g := by
 intro x y v z h' b e e2
 subst e2
 exact Kd.R_ne (h.row h') h' (by decide) e.symm
theorem IsPub.below {W1 : World} (h : IsPub A3 n3 c3 a4 w0 W g f0 f1) (hw : Below W.heap.size W W1) : IsPub A3 n3 c3 a4 w0 W1 g f0 f1 := h.move (hw.block g h.lt) (KeepBut.of_below hw g none) h.self
theorem IsPub.alloc (h : IsPub A3 n3 c3 a4 w0 W g f0 f1) (o : Obj) : IsPub A3 n3 c3 a4 w0 (W.alloc o) g f0 f1 := h.below (below_alloc (Below.refl _ _) o)
theorem IsPub.drewN (h : IsPub A3 n3 c3 a4 w0 W g f0 f1) (m : Nat) : IsPub A3 n3 c3 a4 w0 (W.drewN m) g f0 f1 := h.move rfl (keep_drewN (KeepBut.refl _ g none) m) h.self
theorem IsPub.drew (h : IsPub A3 n3 c3 a4 w0 W g f0 f1) : IsPub A3 n3 c3 a4 w0 W.drew g f0 f1 := h.move rfl (keep_drew (KeepBut.refl _ g none)) h.self
theorem IsPub.at_ {w' : World} {m : Nat} (hq : W.drewN m = w') (h : IsPub A3 n3 c3 a4 w0 W g f0 f1) : IsPub A3 n3 c3 a4 w0 w' g f0 f1 := by subst hq; exact IsPub.drewN h m
theorem IsPub.grown {W1 : World} {row : Option Nat} (h : IsPub A3 n3 c3 a4 w0 W g f0 f1) (hw : W.grownBy W1 row) (hne : some g ≠ row) (hf : FarPu W g row) : IsPub A3 n3 c3 a4 w0 W1 g f0 f1 := by
 have hb := hw.block g h.lt hne
 cases row with
 | none => exact h.move hb ⟨hw.size, fun i hi _ _ => hw.block i hi (by simp)⟩ h.self
 | some b => exact h.move hb (q := b) ⟨hw.size, fun i hi hq _ => hw.block i hi (by simpa using hq)⟩ (fun x y v z h1 k e e2 => hf x y v z h1 k e (congrArg some e2.symm))
theorem IsPub.apart {α : Type} {d : Kd α} {e : Nat} {base : Nat} {ok : Nat → Prop} {v : Value} {xs : List α} (h : IsPub A3 n3 c3 a4 w0 W g f0 f1) (ho : d.R e W base ok v xs) (ht : ∀ q, q ∈ e :: d.E → q ≠ 36) : d.R e W base (fun k => ok k ∧ k ≠ g) v xs := by
 obtain ⟨A, c, hb, _⟩ := h
 exact Kd.R_types ho hb ht
theorem IsPub.own_ne {α : Type} {d : Kd α} {e : Nat} {base : Nat} {ok : Nat → Prop} {v : Value} {xs : List α} (h : IsPub A3 n3 c3 a4 w0 W g f0 f1) (ho : d.R e W base ok v xs) (ht : e ≠ 36) : some g ≠ v.ownBlock := by
 obtain ⟨A, c, hb, _⟩ := h
 exact Kd.R_ne ho hb ht
theorem IsPub.farN {W1 : World} {α : Type} {d : Kd α} {e : Nat} {ok : Nat → Prop} {v : Value} {xs : List α} (h : IsPub A3 n3 c3 a4 w0 W g f0 f1) (ho : d.R e W1 W.heap.size ok v xs) (hb : Below W.heap.size W W1) : FarPu W1 g v.ownBlock := by
 intro x y u z h1 b e e2
 rw [hb.block g h.lt] at h1
 have := Kd.R_lt (h.row h1) b e
 have := Kd.R_base ho b e2
 omega
theorem IsPub.farA {W1 : World} {b : Nat} (h : IsPub A3 n3 c3 a4 w0 W g f0 f1) (hg : b = W.heap.size) (hb : Below W.heap.size W W1) : FarPu W1 g (some b) := by
 intro x y v z h1 k e e2
 rw [hb.block g h.lt] at h1
 have := Kd.R_lt (h.row h1) k e
 have := Option.some.inj e2
 omega
theorem FarPu.drewN {row : Option Nat} (h : FarPu W g row) (m : Nat) : FarPu (W.drewN m) g row := h
theorem FarPu.drew {row : Option Nat} (h : FarPu W g row) : FarPu W.drew g row := h
theorem FarPu.below {W1 : World} {row : Option Nat} (hlt : g < W.heap.size) (h : FarPu W g row) (hb : Below W.heap.size W W1) : FarPu W1 g row := by
 intro x y v z h1
 rw [hb.block g hlt] at h1
 exact h x y v z h1
theorem FarPu.alloc {row : Option Nat} (hlt : g < W.heap.size) (h : FarPu W g row) (o : Obj) : FarPu (W.alloc o) g row := FarPu.below hlt h (below_alloc (Below.refl _ _) o)
theorem FarPu.far {row : Option Nat} {p : Addr} (hne : g ≠ p.block) (h : FarPu W g row) (u : Value) : FarPu (W.setCell p u) g row := by
 intro x y v z h1
 rw [Below.heap_setCell W p u g hne] at h1
 exact h x y v z h1
theorem IsPub.far {p : Addr} (h : IsPub A3 n3 c3 a4 w0 W g f0 f1) (hne : g ≠ p.block) (hf : FarPu W g (some p.block)) (u : Value) : IsPub A3 n3 c3 a4 w0 (W.setCell p u) g f0 f1 :=
 h.move (Below.heap_setCell W p u g hne) (q := p.block) ⟨by simp [World.setCell], fun i _ hq _ => Below.heap_setCell W p u i hq⟩ (fun x y v z h1 k e e2 => hf x y v z h1 k e (congrArg some e2.symm))
theorem cellPub_0 {x y v z : Value} (h : W.heap[g]? = some (.cells #[x, y, v, z] 36 (0, 0))) : W.cell? ⟨g, 2, none⟩ = some v := (blk_cell h 2).trans rfl
theorem cellPub_1 {x y v z : Value} (h : W.heap[g]? = some (.cells #[x, y, v, z] 36 (0, 0))) : W.cell? ⟨g, 3, none⟩ = some z := (blk_cell h 3).trans rfl
theorem IsPub.store {base : Nat} {ok : Nat → Prop} {A1 : Option Addr} {c1 : Nat} {l1 : List Int} (h : IsPub A3 n3 c3 a4 w0 W g f0 f1) (ho : Kd.R (Kd.int .i64) 3 W base ok (.slice A1 l1.length c1) l1) (hle : w0.heap.size ≤ base) (x : Int) : IsPub A3 n3 c3 a4 w0 ((W.setCell ⟨g, 2, none⟩ (.slice A1 l1.length c1)).setCell ⟨g, 3, none⟩ (.int .i64 x)) g l1 x := by
 have hr := Kd.R_mono (Kd.R_lower (h.apart ho (by decide)) hle) (ok' := fun k => k ≠ g) (fun _ hk => hk.2)
 obtain ⟨A0, c0, h1, h2, _⟩ := h
 exact ⟨A1, c1, blk_put (blk_put h1 2 _ rfl) 3 _ rfl, h2, Kd.R_mono (Kd.R_keep hr (KeepBut.set_ (KeepBut.set_ (KeepBut.refl _ g none) 2 _) 3 _) (fun _ hk => hk)) (fun _ _ => trivial)⟩
theorem cellPub_2 {x y z u : Value} (h : W.heap[g]? = some (.cells #[x, y, z, u] 36 (0, 0))) : W.cell? ⟨g, 0, none⟩ = some x := (blk_cell h 0).trans rfl
theorem cellPub_3 {x y z u : Value} (h : W.heap[g]? = some (.cells #[x, y, z, u] 36 (0, 0))) : W.cell? ⟨g, 1, none⟩ = some y := (blk_cell h 1).trans rfl
theorem IsPub.cellL (h : IsPub A3 n3 c3 a4 w0 W g f0 f1) : W.cell? ⟨g, 0, none⟩ = some (.slice A3 n3 c3) := by
 obtain ⟨A, c, h1, _⟩ := h
 exact cellPub_2 h1
theorem IsPub.cellA (h : IsPub A3 n3 c3 a4 w0 W g f0 f1) : W.cell? ⟨g, 1, none⟩ = some (.int .i64 a4) := by
 obtain ⟨A, c, h1, _⟩ := h
 exact cellPub_3 h1
end
def spec_ownPut.f (l : List Int) (x : Int) : Option (List Int) := if l.length < 17592186044416 then some (l ++ [x]) else none
theorem spec_ownPut.eqs {l t u : List Int} {x : Int} (h : spec_l1Own.f l = some t) (g : spec_ownPut.f l x = some u) : t = l ∧ t ++ [x] = u ∧ t.length < 17592186044416 := by
 unfold spec_l1Own.f at h
 simp only [Option.bind_some, List.nil_append] at h
 unfold spec_ownPut.f at g
 split at g
 ·split at h
  ·obtain rfl := Option.some.inj h
   exact ⟨rfl, Option.some.inj g, by assumption⟩
  ·cases h
 ·cases g
mutual
def spec_puBest_try.j0 : Nat → List Int → Int → List (S39) → Int → Bool → List Int → Int → Option (List Int × Int)
 | 0, _, _, _, _, _, _, _ => none
 | k + 1, x1, x2, x3, x4, x21, x1000, x1001 => if x21 = true then (some (x1000, x1001)) else (if (x1.length : Int) = (x3.length : Int) then (some (x1, x2)) else (spec_puBest_try.l0 k x1 x2 x3 x4 (x3.length : Int) 0 x1000 x1001))
def spec_puBest_try.l0 : Nat → List Int → Int → List (S39) → Int → Int → Int → List Int → Int → Option (List Int × Int)
 | 0, _, _, _, _, _, _, _, _ => none
 | k + 1, x1, x2, x3, x4, x42, x43, x1000, x1001 => if x43 < x42 then ((spec_l1Has.f k x1 x43).bind fun t121 => (if t121 = true then (spec_puBest_try.l0 k x1 x2 x3 x4 x42 (wrap64 (x43 + 1)) x1000 x1001) else (if 0 ≤ (wrap64 ((x1.length : Int) - 1)) then (if (wrap64 ((x1.length : Int) - 1)) < (x1.length : Int) then (if 0 ≤ (rd x1 (wrap64 ((x1.length : Int) - 1))) then (if (rd x1 (wrap64 ((x1.length : Int) - 1))) < (x3.length : Int) then ((spec_l1Own.f x1).bind fun t125 => ((spec_ownPut.f x1 x43).bind fun t131 => (if 0 ≤ x43 then (if x43 < (x3.length : Int) then ((spec_puWay.f ((rd_T39 x3 (rd x1 (wrap64 ((x1.length : Int) - 1)))).f0) ((rd_T39 x3 (rd x1 (wrap64 ((x1.length : Int) - 1)))).f1) ((rd_T39 x3 x43).f0) ((rd_T39 x3 x43).f1) x4).bind fun t135 => ((spec_puBest_try.f k x1000 x1001 t131 (wrap64 (x2 + t135)) x3 x4).bind fun bt136 => (spec_puBest_try.l0 k x1 x2 x3 x4 x42 (wrap64 (x43 + 1)) bt136.1 bt136.2))) else (none)) else (none)))) else (none)) else (none)) else (none)) else (none)))) else (some (x1000, x1001))
def spec_puBest_try.f : Nat → List Int → Int → List Int → Int → List (S39) → Int → Option (List Int × Int)
 | 0, _, _, _, _, _, _ => none
 | k + 1, s0_0, s0_1, l1, a2, l3, a4 => if (s0_0.length : Int) > 0 then (spec_puBest_try.j0 k l1 a2 l3 a4 (decide (a2 ≥ s0_1)) s0_0 s0_1) else (spec_puBest_try.j0 k l1 a2 l3 a4 false s0_0 s0_1)
end
theorem spec_puBest_try.mono_l : ∀ k, (∀ y0 y1 y2 y3 y4 y5, LeO (spec_puBest_try.f k y0 y1 y2 y3 y4 y5) (spec_puBest_try.f (k + 1) y0 y1 y2 y3 y4 y5)) ∧ (∀ y0 y1 y2 y3 y4 y5 y6, LeO (spec_puBest_try.j0 k y0 y1 y2 y3 y4 y5 y6) (spec_puBest_try.j0 (k + 1) y0 y1 y2 y3 y4 y5 y6)) ∧ (∀ y0 y1 y2 y3 y4 y5 y6 y7, LeO (spec_puBest_try.l0 k y0 y1 y2 y3 y4 y5 y6 y7) (spec_puBest_try.l0 (k + 1) y0 y1 y2 y3 y4 y5 y6 y7))
 | 0 => ⟨fun _ _ _ _ _ _ r h => by simp [spec_puBest_try.f] at h, fun _ _ _ _ _ _ _ r h => by simp [spec_puBest_try.j0] at h, fun _ _ _ _ _ _ _ _ r h => by simp [spec_puBest_try.l0] at h⟩
 | k + 1 => by
  obtain ⟨ih0, ih1, ih2⟩ := spec_puBest_try.mono_l k
  refine ⟨?_, ?_, ?_⟩
  ·intro y0 y1 y2 y3 y4 y5
   unfold spec_puBest_try.f
   repeat' first
   | (with_reducible exact ih0 _ _ _ _ _ _)
   | (with_reducible exact ih1 _ _ _ _ _ _ _)
   | (with_reducible exact ih2 _ _ _ _ _ _ _ _)
   | (with_reducible exact spec_l1Has.mono _ _ _)
   | (with_reducible exact LeO.refl _)
   | (with_reducible exact LeO.none _)
   | (with_reducible refine LeO.ite ?_ ?_)
   | (with_reducible refine LeO.bind ?_ (fun _ => ?_))
   | exact ih0 _ _ _ _ _ _
   | exact ih1 _ _ _ _ _ _ _
   | exact ih2 _ _ _ _ _ _ _ _
   | exact spec_l1Has.mono _ _ _
   | exact LeO.none _
   | refine LeO.ite ?_ ?_
   | refine LeO.bind ?_ (fun _ => ?_)
  ·intro y0 y1 y2 y3 y4 y5 y6
   unfold spec_puBest_try.j0
   repeat' first
   | (with_reducible exact ih0 _ _ _ _ _ _)
   | (with_reducible exact ih1 _ _ _ _ _ _ _)
   | (with_reducible exact ih2 _ _ _ _ _ _ _ _)
   | (with_reducible exact spec_l1Has.mono _ _ _)
   | (with_reducible exact LeO.refl _)
   | (with_reducible exact LeO.none _)
   | (with_reducible refine LeO.ite ?_ ?_)
   | (with_reducible refine LeO.bind ?_ (fun _ => ?_))
   | exact ih0 _ _ _ _ _ _
   | exact ih1 _ _ _ _ _ _ _
   | exact ih2 _ _ _ _ _ _ _ _
   | exact spec_l1Has.mono _ _ _
   | exact LeO.none _
   | refine LeO.ite ?_ ?_
   | refine LeO.bind ?_ (fun _ => ?_)
  ·intro y0 y1 y2 y3 y4 y5 y6 y7
   unfold spec_puBest_try.l0
   repeat' first
   | (with_reducible exact ih0 _ _ _ _ _ _)
   | (with_reducible exact ih1 _ _ _ _ _ _ _)
   | (with_reducible exact ih2 _ _ _ _ _ _ _ _)
   | (with_reducible exact spec_l1Has.mono _ _ _)
   | (with_reducible exact LeO.refl _)
   | (with_reducible exact LeO.none _)
   | (with_reducible refine LeO.ite ?_ ?_)
   | (with_reducible refine LeO.bind ?_ (fun _ => ?_))
   | exact ih0 _ _ _ _ _ _
   | exact ih1 _ _ _ _ _ _ _
   | exact ih2 _ _ _ _ _ _ _ _
   | exact spec_l1Has.mono _ _ _
   | exact LeO.none _
   | refine LeO.ite ?_ ?_
   | refine LeO.bind ?_ (fun _ => ?_)
theorem spec_puBest_try.mono : ∀ a0 a1 a2 a3 a4 a5 k, LeO (spec_puBest_try.f k a0 a1 a2 a3 a4 a5) (spec_puBest_try.f (k + 1) a0 a1 a2 a3 a4 a5) := by
 intro a0 a1 a2 a3 a4 a5 k
 obtain ⟨ih0, ih1, ih2⟩ := spec_puBest_try.mono_l k
 exact ih0 a0 a1 a2 a3 a4 a5
def spec_puBest_try.T8 : Bool × List (List Nat × List Nat) := (true, [([], []), ([0], [0]), ([1], [1]), ([2], [2]), ([], []), ([], []), ([5], [5]), ([6], [6]), ([4, 7], [4, 7]), ([8], [8]), ([3, 9], [3, 9]), ([10], [10]), ([], []), ([12, 11, 0, 1, 2, 3, 4, 5, 6, 7, 8, 9, 10, 11, 12], [11, 12])])
def spec_puBest_try.B8 : List Nat := [0, 1, 3, 7, 0, 0, 32, 96, 240, 496, 1023, 2047, 0, 8191]
theorem spec_puBest_try.tab8 : rtab .any (opsOf Try.f13 8) = spec_puBest_try.T8 := by kernel_rfl
theorem spec_puBest_try.bits8 : waitsOk spec_puBest_try.T8.2 spec_puBest_try.B8 = true := by kernel_rfl
def spec_puBest_try.T9 : Bool × List (List Nat × List Nat) := (true, [([], []), ([], []), ([1], [1]), ([], []), ([3], [3]), ([2, 4, 2], [2, 4]), ([], []), ([], []), ([], []), ([8], [8]), ([9], [9]), ([10], [10]), ([], []), ([11, 12], [11, 12]), ([13], [13]), ([], []), ([15], [15]), ([16], [16]), ([17], [17]), ([7, 14, 18, 5], [7, 14, 18]), ([6, 19], [6, 19]), ([0, 5, 20, 19], [0, 5, 20])])
def spec_puBest_try.B9 : List Nat := [0, 0, 2, 0, 8, 30, 0, 0, 0, 256, 768, 1792, 0, 7936, 16128, 0, 32768, 98304, 229376, 524222, 1048574, 2097151]
theorem spec_puBest_try.tab9 : rtab .any (opsOf Try.f13 9) = spec_puBest_try.T9 := by kernel_rfl
theorem spec_puBest_try.bits9 : waitsOk spec_puBest_try.T9.2 spec_puBest_try.B9 = true := by kernel_rfl
set_option maxHeartbeats 8000000 in
set_option maxRecDepth 100000 in
theorem spec_puBest_try.calls (k : Nat) : ∀ (g : Nat) (s0_0 : List Int) (s0_1 : Int) (A1 : Option Addr) (c1 : Nat) (l1 : List Int) (a2 : Int) (A3 : Option Addr) (c3 : Nat) (l3 : List (S39)) (a4 : Int) (r1 : List Int) (r2 : Int) (w0 w : World) (hI : IsPub A3 l3.length c3 a4 w0 w g s0_0 s0_1) (hB : Below w0.heap.size w0 w) (hr1 : Kd.C (Kd.int .i64) w A1 l1.length l1) (hc1 : l1.length ≤ c1) (hf1 : ∀ ad, A1 = some ad → 0 < l1.length → ad.block ≠ g) (hr3 : ∀ W_, KeepBut w W_ g none → Kd.C k39 W_ A3 l3.length l3) (hc3 : l3.length ≤ c3) (ho1 : Kd.R (Kd.int .i64) 3 w w0.heap.size (fun _ => True) (.slice A1 l1.length c1) l1) (h : spec_puBest_try.f k s0_0 s0_1 l1 a2 l3 a4 = some (r1, r2)),
  Calls Try.prog 13 #[.pointer (some ⟨g, 0, none⟩), .slice A1 l1.length c1, .int .i64 a2] w fun e w' => e = .returned (.tuple #[]) ∧ IsPub A3 l3.length c3 a4 w0 w' g r1 r2 ∧ Below w0.heap.size w0 w' ∧ KeepBut w w' g none := by
 induction k using Nat.strongRecOn with
 | _ k ih =>
 intro g s0_0 s0_1 A1 c1 l1 a2 A3 c3 l3 a4 r1 r2 w0 w hI hB hr1 hc1 hf1 hr3 hc3 ho1 h
 cases k with
 | zero => exact absurd h (by simp [spec_puBest_try.f])
 | succ k =>
 simp only [spec_puBest_try.f] at h
 have hu39 := Try.underlying39
 have HR1 := Aside0.mk hr1
 have HC1 := Aside0.mk hc1
 clear hr1 hc1
 have HR3 := Aside0.mk hr3
 have HC3 := Aside0.mk hc3
 clear hr3 hc3
 have HI0 := Aside0.mk hI
 have HK := Aside0.mk (KeepBut.refl w g none)
 have HL := Aside0.mk hB.size
 have HOW := Aside0.mk (IsPub.apart hI ho1 (by decide))
 clear ho1
 clear hI
 have HW0 := Aside0.mk hB.size
 have HB := Aside0.mk hB
 clear hB
 have H : (if (s0_0.length : Int) > 0 then (spec_puBest_try.j0 k l1 a2 l3 a4 (decide (a2 ≥ s0_1)) s0_0 s0_1) else (spec_puBest_try.j0 k l1 a2 l3 a4 false s0_0 s0_1)) = some (r1, r2) := h
 clear h
 have HC6 := Aside0.mk H
 clear H
 go_enter Try.func13, Try.ntmps13
 go_upto_region 0 with (fail)
 go_cut [21] (fun v21 wc => ∃ (kq : Nat) (x21_5 : Bool), v21 = .bool x21_5 ∧ Aside0 (spec_puBest_try.j0 kq l1 a2 l3 a4 x21_5 s0_0 s0_1 = some (r1, r2)) ∧ Aside0 (kq ≤ k) ∧ Aside0 (IsPub A3 l3.length c3 a4 w0 wc g s0_0 s0_1) ∧ Aside0 (KeepBut w wc g none) ∧ Aside0 (Below w0.heap.size w0 wc))
 case first =>
  have H := HC6.out
  clear HC6
  by_cases c7 : (s0_0.length : Int) > 0
  ·rw [if_pos c7] at H
   have c7b0 : decide (0 < (s0_0.length : Int)) = true := decide_eq_true c7
   have c7b1 : decide (0 < s0_0.length) = true := decide_eq_true (by omega)
   have c7b2 : (0 < s0_0.length) = True := eq_true (by omega)
   clear c7
   (first | rw [c7b0] | (simp only [i64_w, i32_w]; rw [c7b0]) | skip)
   have H' := Aside0.mk H
   clear H
   obtain ⟨Az_, cz_, HGz8, hgz8, _⟩ := HI0.out
   have hcz8_0 := cellPub_0 HGz8
   have hcz8_1 := cellPub_1 HGz8
   have hcz8_2 := cellPub_2 HGz8
   have hcz8_3 := cellPub_3 HGz8
   have hfz8_0 := blk_frozen HGz8 2
   have hfz8_1 := blk_frozen HGz8 3
   clear HGz8 hgz8
   go_wp2
   go_meet
   case rel => exact ⟨_, (decide (a2 ≥ s0_1)), (by first | rfl | (simp; done) | (simp [*]; done)), H', ⟨by first | omega | exact Nat.le_refl _⟩, ⟨by repeat (first | (with_reducible first | exact HI0.out | apply IsPub.alloc | apply IsPub.drewN | apply IsPub.drew | apply IsPub.set_0 | apply IsPub.set_1) | exact HI0.out)⟩, ⟨by repeat (first | (with_reducible first | exact HK.out | apply KeepBut.set_ | apply keep_drewN | apply keep_drew | apply keep_alloc) | exact HK.out)⟩, ⟨by repeat (first | (with_reducible first | exact HB.out | apply below_alloc | apply pw_below_drewN | apply below_drew1 | refine below_set ?_ (IsPub.ge HI0.out)) | exact HB.out)⟩⟩
  ·rw [if_neg c7] at H
   have c7b0 : decide (0 < (s0_0.length : Int)) = false := decide_eq_false c7
   have c7b1 : decide (0 < s0_0.length) = false := decide_eq_false (by omega)
   have c7b2 : (0 < s0_0.length) = False := eq_false (by omega)
   clear c7
   (first | rw [c7b0] | (simp only [i64_w, i32_w]; rw [c7b0]) | skip)
   have H' := Aside0.mk H
   clear H
   obtain ⟨Az_, cz_, HGz9, hgz9, _⟩ := HI0.out
   have hcz9_0 := cellPub_0 HGz9
   have hcz9_1 := cellPub_1 HGz9
   have hcz9_2 := cellPub_2 HGz9
   have hcz9_3 := cellPub_3 HGz9
   have hfz9_0 := blk_frozen HGz9 2
   have hfz9_1 := blk_frozen HGz9 3
   clear HGz9 hgz9
   go_wp2
   go_meet
   case rel => exact ⟨_, (false), (by first | rfl | (simp; done) | (simp [*]; done)), H', ⟨by first | omega | exact Nat.le_refl _⟩, ⟨by repeat (first | (with_reducible first | exact HI0.out | apply IsPub.alloc | apply IsPub.drewN | apply IsPub.drew | apply IsPub.set_0 | apply IsPub.set_1) | exact HI0.out)⟩, ⟨by repeat (first | (with_reducible first | exact HK.out | apply KeepBut.set_ | apply keep_drewN | apply keep_drew | apply keep_alloc) | exact HK.out)⟩, ⟨by repeat (first | (with_reducible first | exact HB.out | apply below_alloc | apply pw_below_drewN | apply below_drew1 | refine below_set ?_ (IsPub.ge HI0.out)) | exact HB.out)⟩⟩
 case rest =>
  clear HC6
  (try clear c1); (try clear p2); (try clear c3); (try clear c7); (try clear c7b0); (try clear hcz8_0); (try clear hcz8_1); (try clear hcz9_0); (try clear hcz9_1); (try clear hfz8_0); (try clear hfz8_1); (try clear hfz9_0); (try clear hfz9_1)
  obtain ⟨kq, x21_5, rfl, HA, HJ5, HI0, HK, HB⟩ := hcut
  cases kq with
  | zero => exact absurd HA.out (by simp [spec_puBest_try.j0])
  | succ kj5 =>
   have H := HA.out
   clear HA
   simp only [spec_puBest_try.j0] at H
   by_cases c10 : x21_5 = true
   ·subst c10
    have H1 : (some (s0_0, s0_1)) = some (r1, r2) := by rw [if_pos rfl] at H; exact H
    clear H
    have H := H1
    clear H1
    simp only [Option.some.injEq, Prod.mk.injEq] at H
    obtain ⟨rfl, rfl⟩ := H
    go_wp2
    first | go_end0 | ((try simp only [Exit.inBlock, Exit.then]); refine bodyPost_ret (results_none rfl _ _ _) rfl ?_)
    exact ⟨by first | rfl | (simp [errW_none, errW_some] <;> rfl) | (simp [*, errW_none, errW_some] <;> rfl), by repeat (first | (with_reducible first | exact HI0.out | apply IsPub.alloc | apply IsPub.drewN | apply IsPub.drew | apply IsPub.set_0 | apply IsPub.set_1) | exact HI0.out), by repeat (first | (with_reducible first | exact HB.out | apply below_alloc | apply pw_below_drewN | apply below_drew1 | refine below_set ?_ (IsPub.ge HI0.out)) | exact HB.out), by repeat (first | (with_reducible first | exact HK.out | apply KeepBut.set_ | apply keep_drewN | apply keep_drew | apply keep_alloc) | exact HK.out)⟩
   ·replace c10 := Bool.eq_false_iff.mpr c10
    subst c10
    have H1 : (if (l1.length : Int) = (l3.length : Int) then (some (l1, a2)) else (spec_puBest_try.l0 kj5 l1 a2 l3 a4 (l3.length : Int) 0 s0_0 s0_1)) = some (r1, r2) := by rw [if_neg (show ¬ (false = true) by decide)] at H; exact H
    clear H
    have H := H1
    clear H1
    by_cases c11 : (l1.length : Int) = (l3.length : Int)
    ·rw [if_pos c11] at H
     have c11b0 : ((l1.length : Int) == (l3.length : Int)) = true := beq_iff_eq.mpr c11
     have c11b1 : ((l1.length : Int) != (l3.length : Int)) = false := bne_eq_false_iff_eq.mpr c11
     have c11b2 : (l1.length == l3.length) = true := by first | simpa using c11 | (simp at c11 ⊢; omega)
     clear c11
     simp only [Option.some.injEq, Prod.mk.injEq] at H
     obtain ⟨rfl, rfl⟩ := H
     obtain ⟨Az_, cz_, HGz12, hgz12, _⟩ := HI0.out
     have hcz12_0 := cellPub_0 HGz12
     have hcz12_1 := cellPub_1 HGz12
     have hcz12_2 := cellPub_2 HGz12
     have hcz12_3 := cellPub_3 HGz12
     have hfz12_0 := blk_frozen HGz12 2
     have hfz12_1 := blk_frozen HGz12 3
     clear HGz12 hgz12
     go_wp2
     first | go_end0 | ((try simp only [Exit.inBlock, Exit.then]); refine bodyPost_ret (results_none rfl _ _ _) rfl ?_)
     exact ⟨by first | rfl | (simp [errW_none, errW_some] <;> rfl) | (simp [*, errW_none, errW_some] <;> rfl), IsPub.store HI0.out (Kd.R_keep HOW.out HK.out (fun _ hk => hk.2)) (Nat.le_refl _) a2, by repeat (first | (with_reducible first | exact HB.out | apply below_alloc | apply pw_below_drewN | apply below_drew1 | refine below_set ?_ (IsPub.ge HI0.out)) | exact HB.out), by repeat (first | (with_reducible first | exact HK.out | apply KeepBut.set_ | apply keep_drewN | apply keep_drew | apply keep_alloc) | exact HK.out)⟩
    ·rw [if_neg c11] at H
     have c11b0 : ((l1.length : Int) == (l3.length : Int)) = false := beq_eq_false_iff_ne.mpr c11
     have c11b1 : ((l1.length : Int) != (l3.length : Int)) = true := bne_iff_ne.mpr c11
     have c11b2 : (l1.length == l3.length) = false := by first | simpa using c11 | (simp at c11 ⊢; omega)
     have H' := Aside0.mk H
     clear H
     obtain ⟨Az_, cz_, HGzA, hgzA, _⟩ := HI0.out
     have hczA_2 := cellPub_2 HGzA
     clear HGzA hgzA
     go_wp2
     go_loopg [43] kj5 (fun kq v43 w' => ∃ (x43_2 : Int) (x1000_2 : List Int) (x1001_2 : Int), v43 = .int .i64 x43_2 ∧ Aside0 (spec_puBest_try.l0 kq l1 a2 l3 a4 (l3.length : Int) x43_2 x1000_2 x1001_2 = some (r1, r2)) ∧ Aside0 (kq ≤ kj5) ∧ Aside0 (IsPub A3 l3.length c3 a4 w0 w' g x1000_2 x1001_2) ∧ Aside0 (KeepBut w w' g none) ∧ Aside0 (Below w0.heap.size w0 w'))
     case atStart => exact ⟨(0), (s0_0), (s0_1), (by first | rfl | (simp; done) | (simp [*]; done)), H', ⟨Nat.le_refl _⟩, ⟨by repeat (first | (with_reducible first | exact HI0.out | apply IsPub.alloc | apply IsPub.drewN | apply IsPub.drew | apply IsPub.set_0 | apply IsPub.set_1) | exact HI0.out)⟩, ⟨by repeat (first | (with_reducible first | exact HK.out | apply KeepBut.set_ | apply keep_drewN | apply keep_drew | apply keep_alloc) | exact HK.out)⟩, ⟨by repeat (first | (with_reducible first | exact HB.out | apply below_alloc | apply pw_below_drewN | apply below_drew1 | refine below_set ?_ (IsPub.ge HI0.out)) | exact HB.out)⟩⟩
     case round =>
      (try clear hczA_2)
      clear H'
      (try clear c10); (try clear c11); (try clear c11b0); (try clear c11b1); (try clear c11b2); (try clear hcz12_0); (try clear hcz12_1); (try clear hfz12_0); (try clear hfz12_1)
      obtain ⟨x43_2, x1000_2, x1001_2, rfl, HA, HK2, HI0, HK, HB⟩ := hrel
      cases gk with
      | zero => exact absurd HA.out (by simp [spec_puBest_try.l0])
      | succ k2 =>
       have H := HA.out
       clear HA
       simp only [spec_puBest_try.l0] at H
       by_cases c13 : x43_2 < (l3.length : Int)
       ·rw [if_pos c13] at H
        have c13b0 : decide (x43_2 < (l3.length : Int)) = true := decide_eq_true c13
        clear c13
        replace H := Option.bind_eq_some_iff.mp H
        obtain ⟨t121, A140, H⟩ := H
        (try dsimp only at H)
        have A14 := Aside0.mk A140
        clear A140
        by_cases c15 : t121 = true
        ·subst c15
         have H1 : (spec_puBest_try.l0 k2 l1 a2 l3 a4 (l3.length : Int) (wrap64 (x43_2 + 1)) x1000_2 x1001_2) = some (r1, r2) := by rw [if_pos rfl] at H; exact H
         clear H
         have H := H1
         clear H1
         have H' := Aside0.mk H
         clear H
         go_wp2_with (first | ((with_reducible refine gate_callee (f := 21) rfl ?_); refine goesL_ (some 48) rfl rfl Try.func21 (by kernel_rfl) rfl #[.slice A1 l1.length c1, .int .i64 x43_2] rfl (by (try simp only [List.map_toArray, List.map_cons, List.map_nil]); first | done | rfl | (simp only [List.length_drop, List.length_take]; rfl)) ?_; (with_reducible refine (spec_l1Has.calls k2 _ _ l1 x43_2 true _ ?side1 ?side2 A14.out).mono ?_); (case side1 => exact Kd.C_keep 0 HR1.out (by repeat (first | (with_reducible first | exact HK.out | apply KeepBut.set_ | apply keep_drewN | apply keep_drew | apply keep_alloc) | exact HK.out)) hf1); (case side2 => exact HC1.out); rintro e w' ⟨rfl, ⟨nd, rfl⟩⟩; refine ⟨_, rfl, ?_⟩))
         go_roundg k2
         case measure => have := HJ5.out; have := HK2.out; omega
         case rel => exact ⟨(wrap64 (x43_2 + 1)), (x1000_2), (x1001_2), (by first | rfl | (simp; done) | (simp [*]; done)), H', ⟨by have := HJ5.out; have := HK2.out; omega⟩, ⟨by repeat (first | (with_reducible first | exact HI0.out | apply IsPub.alloc | apply IsPub.drewN | apply IsPub.drew | apply IsPub.set_0 | apply IsPub.set_1) | exact HI0.out)⟩, ⟨by repeat (first | (with_reducible first | exact HK.out | apply KeepBut.set_ | apply keep_drewN | apply keep_drew | apply keep_alloc) | exact HK.out)⟩, ⟨by repeat (first | (with_reducible first | exact HB.out | apply below_alloc | apply pw_below_drewN | apply below_drew1 | refine below_set ?_ (IsPub.ge HI0.out)) | exact HB.out)⟩⟩
        ·replace c15 := Bool.eq_false_iff.mpr c15
         subst c15
         have H1 : (if 0 ≤ (wrap64 ((l1.length : Int) - 1)) then (if (wrap64 ((l1.length : Int) - 1)) < (l1.length : Int) then (if 0 ≤ (rd l1 (wrap64 ((l1.length : Int) - 1))) then (if (rd l1 (wrap64 ((l1.length : Int) - 1))) < (l3.length : Int) then ((spec_l1Own.f l1).bind fun t125 => ((spec_ownPut.f l1 x43_2).bind fun t131 => (if 0 ≤ x43_2 then (if x43_2 < (l3.length : Int) then ((spec_puWay.f ((rd_T39 l3 (rd l1 (wrap64 ((l1.length : Int) - 1)))).f0) ((rd_T39 l3 (rd l1 (wrap64 ((l1.length : Int) - 1)))).f1) ((rd_T39 l3 x43_2).f0) ((rd_T39 l3 x43_2).f1) a4).bind fun t135 => ((spec_puBest_try.f k2 x1000_2 x1001_2 t131 (wrap64 (a2 + t135)) l3 a4).bind fun bt136 => (spec_puBest_try.l0 k2 l1 a2 l3 a4 (l3.length : Int) (wrap64 (x43_2 + 1)) bt136.1 bt136.2))) else (none)) else (none)))) else (none)) else (none)) else (none)) else (none)) = some (r1, r2) := by rw [if_neg (show ¬ (false = true) by decide)] at H; exact H
         clear H
         have H := H1
         clear H1
         obtain ⟨ji16, hji16⟩ : ∃ j_ : Int, (wrap64 ((l1.length : Int) - 1)) = j_ := ⟨_, rfl⟩
         replace H : (if 0 ≤ (ji16) then (if (ji16) < (l1.length : Int) then (if 0 ≤ (rd l1 (ji16)) then (if (rd l1 (ji16)) < (l3.length : Int) then ((spec_l1Own.f l1).bind fun t125 => ((spec_ownPut.f l1 x43_2).bind fun t131 => (if 0 ≤ x43_2 then (if x43_2 < (l3.length : Int) then ((spec_puWay.f ((rd_T39 l3 (rd l1 (ji16))).f0) ((rd_T39 l3 (rd l1 (ji16))).f1) ((rd_T39 l3 x43_2).f0) ((rd_T39 l3 x43_2).f1) a4).bind fun t135 => ((spec_puBest_try.f k2 x1000_2 x1001_2 t131 (wrap64 (a2 + t135)) l3 a4).bind fun bt136 => (spec_puBest_try.l0 k2 l1 a2 l3 a4 (l3.length : Int) (wrap64 (x43_2 + 1)) bt136.1 bt136.2))) else (none)) else (none)))) else (none)) else (none)) else (none)) else (none)) = some (r1, r2) := by first | (rw [hji16] at H; exact H) | (simp only [hji16] at H ⊢; exact H)
         (try rw [hji16] at A14)
         have hji16w : (IntKind.i64.wrap ((l1.length : Int) - 1)) = ji16 := (i64_w _).trans hji16
         by_cases c17 : 0 ≤ (ji16)
         ·rw [if_pos c17] at H
          have c17b0 : decide (0 ≤ (ji16)) = true := decide_eq_true c17
          clear c17
          by_cases c18 : (ji16) < (l1.length : Int)
          ·rw [if_pos c18] at H
           have c18b0 : decide ((ji16) < (l1.length : Int)) = true := decide_eq_true c18
           clear c18
           by_cases c19 : 0 ≤ (rd l1 (ji16))
           ·rw [if_pos c19] at H
            have c19b0 : decide (0 ≤ (rd l1 (ji16))) = true := decide_eq_true c19
            clear c19
            by_cases c20 : (rd l1 (ji16)) < (l3.length : Int)
            ·rw [if_pos c20] at H
             have c20b0 : decide ((rd l1 (ji16)) < (l3.length : Int)) = true := decide_eq_true c20
             clear c20
             replace H := Option.bind_eq_some_iff.mp H
             obtain ⟨t125, A210, H⟩ := H
             (try dsimp only at H)
             have A21 := Aside0.mk A210
             clear A210
             obtain ⟨y128, hy128⟩ : ∃ y_ : List Int, y_ = (([x43_2] : List Int)) := ⟨_, rfl⟩
             replace H : ((spec_ownPut.f l1 x43_2).bind fun t131 => (if 0 ≤ x43_2 then (if x43_2 < (l3.length : Int) then ((spec_puWay.f ((rd_T39 l3 (rd l1 (ji16))).f0) ((rd_T39 l3 (rd l1 (ji16))).f1) ((rd_T39 l3 x43_2).f0) ((rd_T39 l3 x43_2).f1) a4).bind fun t135 => ((spec_puBest_try.f k2 x1000_2 x1001_2 t131 (wrap64 (a2 + t135)) l3 a4).bind fun bt136 => (spec_puBest_try.l0 k2 l1 a2 l3 a4 (l3.length : Int) (wrap64 (x43_2 + 1)) bt136.1 bt136.2))) else (none)) else (none))) = some (r1, r2) := by first | (rw [hy128]; with_reducible exact H) | (have H2_ := (Option.bind_some _ _).symm.trans H; rw [hy128]; with_reducible exact H2_) | (have H2_ := (Option.bind_some _ _).symm.trans H; with_reducible exact H2_) | with_reducible exact H | (rw [hy128]; exact H) | exact H
             have Ny128 := Aside0.mk hy128
             clear hy128
             replace H := Option.bind_eq_some_iff.mp H
             obtain ⟨t131, A220, H⟩ := H
             (try dsimp only at H)
             have A22 := Aside0.mk A220
             clear A220
             by_cases c23 : 0 ≤ x43_2
             ·rw [if_pos c23] at H
              have c23b0 : decide (0 ≤ x43_2) = true := decide_eq_true c23
              clear c23
              by_cases c24 : x43_2 < (l3.length : Int)
              ·rw [if_pos c24] at H
               have c24b0 : decide (x43_2 < (l3.length : Int)) = true := decide_eq_true c24
               clear c24
               replace H := Option.bind_eq_some_iff.mp H
               obtain ⟨t135, A250, H⟩ := H
               (try dsimp only at H)
               have A25 := Aside0.mk A250
               clear A250
               replace H := Option.bind_eq_some_iff.mp H
               obtain ⟨⟨t136, t137⟩, A260, H⟩ := H
               (try dsimp only at H)
               have A26 := Aside0.mk A260
               clear A260
               have H' := Aside0.mk H
               clear H
               try go_wp2_with (first | ((with_reducible refine gate_callee (f := 21) rfl ?_); refine goesL_ (some 48) rfl rfl Try.func21 (by kernel_rfl) rfl #[.slice A1 l1.length c1, .int .i64 x43_2] rfl (by (try simp only [List.map_toArray, List.map_cons, List.map_nil]); first | done | rfl | (simp only [List.length_drop, List.length_take]; rfl)) ?_; (with_reducible refine (spec_l1Has.calls k2 _ _ l1 x43_2 false _ ?side1 ?side2 A14.out).mono ?_); (case side1 => exact Kd.C_keep 0 HR1.out (by repeat (first | (with_reducible first | exact HK.out | apply KeepBut.set_ | apply keep_drewN | apply keep_drew | apply keep_alloc) | exact HK.out)) hf1); (case side2 => exact HC1.out); rintro e w' ⟨rfl, ⟨nd, rfl⟩⟩; refine ⟨_, rfl, ?_⟩; (try (rw [drewN_self wr]; generalize hq_ : World.drewN wr _ = wr; have n0_ : Aside0 (IsPub A3 l3.length c3 a4 w0 wr g x1000_2 x1001_2) := ⟨by rw [← hq_]; exact (by repeat (first | (with_reducible first | exact HI0.out | apply IsPub.alloc | apply IsPub.drewN | apply IsPub.drew | apply IsPub.set_0 | apply IsPub.set_1) | exact HI0.out))⟩; have n1_ : Aside0 (KeepBut w wr g none) := ⟨by rw [← hq_]; exact (by repeat (first | (with_reducible first | exact HK.out | apply KeepBut.set_ | apply keep_drewN | apply keep_drew | apply keep_alloc) | exact HK.out))⟩; have n2_ : Aside0 (Below w0.heap.size w0 wr) := ⟨by rw [← hq_]; exact (by repeat (first | (with_reducible first | exact HB.out | apply below_alloc | apply pw_below_drewN | apply below_drew1 | refine below_set ?_ (IsPub.ge HI0.out)) | exact HB.out))⟩; clear HI0 HK HB hq_; have HI0 := n0_; have HK := n1_; have HB := n2_; clear n0_ n1_ n2_))))
               have n0_ := Aside0.mk (IsPub.drew HI0.out)
               have n1_ := Aside0.mk (keep_drew HK.out)
               have n2_ := Aside0.mk (below_drew1 HB.out)
               clear HI0
               clear HK
               clear HB
               have HI0 := n0_
               have HK := n1_
               have HB := n2_
               clear n0_ n1_ n2_
               have p122 : 0 ≤ ((ji16) : Int) := of_decide_eq_true (by first | (with_reducible assumption) | assumption)
               have q122 : (ji16) < (l1.length : Int) := of_decide_eq_true (by first | (with_reducible assumption) | assumption)
               obtain ⟨ad122, e122, hx122_0⟩ := Kd.at_int HR1.out (ji16) p122 q122
               have hw122_0 := hx122_0
               cases e122
               have hne122_0 := (show ((ad122.add ((ji16)).toNat) : Addr).block ≠ g from by first | (rw [add_block]; exact hf1 ad122 rfl (by omega)) | (show (Addr.add _ _).block ≠ _; rw [add_block]; exact hf1 ad122 rfl (by omega)) | exact hf1 ad122 rfl (by omega))
               replace hx122_0 := keep_cell HK.out hx122_0 (by first | (rw [add_block]; exact hf1 _ rfl (by omega)) | exact hf1 _ rfl (by omega) | exact hf1 ad122 rfl (by omega))
               replace p122 := eq_true p122
               replace q122 := eq_true q122
               have p123 : 0 ≤ ((rd l1 (ji16)) : Int) := of_decide_eq_true (by first | (with_reducible assumption) | assumption)
               have q123 : (rd l1 (ji16)) < (l3.length : Int) := of_decide_eq_true (by first | (with_reducible assumption) | assumption)
               obtain ⟨ad123, e123, hx123_0, hx123_1⟩ := at_T39 (Kd.C_foot_now HR3.out HK.out) (rd l1 (ji16)) p123 q123
               have hw123_1 := hx123_1
               have hw123_0 := hx123_0
               cases e123
               have hne123_1 := (show (⟨(ad123.add (((rd l1 (ji16))).toNat * 2)).block, (ad123.add (((rd l1 (ji16))).toNat * 2)).off + 1, none⟩ : Addr).block ≠ g from by first | (rw [add_block]; exact Kd.foot_ne HR3.out (by omega) (by decide)) | (show (Addr.add _ _).block ≠ _; rw [add_block]; exact Kd.foot_ne HR3.out (by omega) (by decide)) | exact Kd.foot_ne HR3.out (by omega) (by decide) | (dsimp only; exact Kd.foot_ne HR3.out (by omega) (by decide)))
               have hlt123_1 := (Kd.foot_lt HR3.out (by omega) (by decide))
               have hne123_0 := (show ((ad123.add (((rd l1 (ji16))).toNat * 2)) : Addr).block ≠ g from by first | (rw [add_block]; exact Kd.foot_ne HR3.out (by omega) (by decide)) | (show (Addr.add _ _).block ≠ _; rw [add_block]; exact Kd.foot_ne HR3.out (by omega) (by decide)) | exact Kd.foot_ne HR3.out (by omega) (by decide) | (dsimp only; exact Kd.foot_ne HR3.out (by omega) (by decide)))
               have hlt123_0 := (Kd.foot_lt HR3.out (by omega) (by decide))
               replace p123 := eq_true p123
               replace q123 := eq_true q123
               refine start_ (n := 14) (S := fun w' => w'.cell? (ad122.add ((ji16)).toNat) = some (.int .i64 (rd l1 (ji16))) ∧ w'.cell? (ad123.add (((rd l1 (ji16))).toNat * 2)) = some (.int .i64 ((rd_T39 l3 (rd l1 (ji16))).f0)) ∧ w'.cell? ⟨(ad123.add (((rd l1 (ji16))).toNat * 2)).block, (ad123.add (((rd l1 (ji16))).toNat * 2)).off + 1, none⟩ = some (.int .i64 ((rd_T39 l3 (rd l1 (ji16))).f1)) ∧ w'.cell? ⟨g, 0, none⟩ = some (.slice (some ad123) l3.length c3)) (ds := []) #[false, false, false, false, false, false, false, false, false, false, false, false, false, false] (by kernel_rfl) rfl rfl ⟨(keep_cell HK.out hw122_0 hne122_0), hx123_0, hx123_1, IsPub.cellL HI0.out⟩ (fun hHeld => ?_); refine with_tabW spec_puBest_try.tab8 spec_puBest_try.bits8 (fun HT_ HW_ => ?_)
               generalize wr.drew = w27 at HI0 HK HB hx122_0 hx123_0 hx123_1 hHeld ⊢
               refine pure_ (i := 0) (N := some 50) (v := ?_) (a' := ?_) #[true, false, false, false, false, false, false, false, false, false, false, false, false, false] rfl rfl (any_of HT_.out (by kernel_rfl)) (fun _ _ _ h => h) (Or.inl ⟨by rfl, ?_⟩) ?_ ?_
               rotate_left
               ·intro w'
                go_simp
                with_reducible rfl
               rotate_left
               ·simp only [Act.put, List.setIfInBounds_toArray, List.set_cons_zero, List.set_cons_succ, i64_w, i32_w]
                rfl
               refine pure_ (i := 1) (N := some 51) (v := ?_) (a' := ?_) #[true, true, false, false, false, false, false, false, false, false, false, false, false, false] rfl rfl (any_of HT_.out (by kernel_rfl)) (fun _ _ _ h => h) (Or.inl ⟨by rfl, ?_⟩) ?_ ?_
               rotate_left
               ·intro w'
                go_simp
                with_reducible rfl
               rotate_left
               ·simp only [Act.put, List.setIfInBounds_toArray, List.set_cons_zero, List.set_cons_succ, i64_w, i32_w]
                rfl
               refine pure_ (i := 2) (N := some 52) (v := ?_) (a' := ?_) #[true, true, true, false, false, false, false, false, false, false, false, false, false, false] rfl rfl (any_of HT_.out (by kernel_rfl)) (fun _ _ _ h => h) (Or.inl ⟨by rfl, ?_⟩) ?_ ?_
               rotate_left
               ·intro w'
                go_simp
                with_reducible rfl
               rotate_left
               ·simp only [Act.put, List.setIfInBounds_toArray, List.set_cons_zero, List.set_cons_succ, i64_w, i32_w]
                rfl
               refine take_ (i := 3) (N := some 53) (v := ?_) (a' := ?_) #[true, true, true, true, false, false, false, false, false, false, false, false, false, false] rfl rfl (take_ofW HT_.out HW_.out (by kernel_rfl)) (fun _ _ _ h => h) (Or.inl ⟨by rfl, ?_⟩) hHeld ?_ ?_
               rotate_left
               ·rintro w' ⟨s0, s1, s2, s3⟩
                go_simp
                with_reducible rfl
               rotate_left
               ·simp only [Act.put, List.setIfInBounds_toArray, List.set_cons_zero, List.set_cons_succ, i64_w, i32_w]
                rfl
               refine pure_ (i := 4) (N := some 54) (v := ?_) (a' := ?_) #[true, true, true, true, true, false, false, false, false, false, false, false, false, false] rfl rfl (any_of HT_.out (by kernel_rfl)) (fun _ _ _ h => h) (Or.inl ⟨by rfl, ?_⟩) ?_ ?_
               rotate_left
               ·intro w'
                go_simp
                with_reducible rfl
               rotate_left
               ·simp only [Act.put, List.setIfInBounds_toArray, List.set_cons_zero, List.set_cons_succ, i64_w, i32_w]
                rfl
               refine pure_ (i := 5) (N := some 55) (v := ?_) (a' := ?_) #[true, true, true, true, true, true, false, false, false, false, false, false, false, false] rfl rfl (any_of HT_.out (by kernel_rfl)) (fun _ _ _ h => h) (Or.inl ⟨by rfl, ?_⟩) ?_ ?_
               rotate_left
               ·intro w'
                go_simp
                with_reducible rfl
               rotate_left
               ·simp only [Act.put, List.setIfInBounds_toArray, List.set_cons_zero, List.set_cons_succ, i64_w, i32_w]
                rfl
               refine pure_ (i := 6) (N := some 56) (v := ?_) (a' := ?_) #[true, true, true, true, true, true, true, false, false, false, false, false, false, false] rfl rfl (any_of HT_.out (by kernel_rfl)) (fun _ _ _ h => h) (Or.inl ⟨by rfl, ?_⟩) ?_ ?_
               rotate_left
               ·intro w'
                go_simp
                with_reducible rfl
               rotate_left
               ·simp only [Act.put, List.setIfInBounds_toArray, List.set_cons_zero, List.set_cons_succ, i64_w, i32_w]
                rfl
               refine pure_ (i := 7) (N := some 57) (v := ?_) (a' := ?_) #[true, true, true, true, true, true, true, true, false, false, false, false, false, false] rfl rfl (any_of HT_.out (by kernel_rfl)) (fun _ _ _ h => h) (Or.inl ⟨by rfl, ?_⟩) ?_ ?_
               rotate_left
               ·intro w'
                go_simp
                with_reducible rfl
               rotate_left
               ·simp only [Act.put, List.setIfInBounds_toArray, List.set_cons_zero, List.set_cons_succ, i64_w, i32_w]
                rfl
               refine pure_ (i := 8) (N := some 58) (v := ?_) (a' := ?_) #[true, true, true, true, true, true, true, true, true, false, false, false, false, false] rfl rfl (any_of HT_.out (by kernel_rfl)) (fun _ _ _ h => h) (Or.inl ⟨by rfl, ?_⟩) ?_ ?_
               rotate_left
               ·intro w'
                go_simp
                with_reducible rfl
               rotate_left
               ·simp only [Act.put, List.setIfInBounds_toArray, List.set_cons_zero, List.set_cons_succ, i64_w, i32_w]
                rfl
               refine take_ (i := 9) (N := some 59) (v := ?_) (a' := ?_) #[true, true, true, true, true, true, true, true, true, true, false, false, false, false] rfl rfl (take_ofW HT_.out HW_.out (by kernel_rfl)) (fun _ _ _ h => h) (Or.inl ⟨by rfl, ?_⟩) hHeld ?_ ?_
               rotate_left
               ·rintro w' ⟨s0, s1, s2, s3⟩
                go_simp
                with_reducible rfl
               rotate_left
               ·simp only [Act.put, List.setIfInBounds_toArray, List.set_cons_zero, List.set_cons_succ, i64_w, i32_w]
                rfl
               refine pure_ (i := 10) (N := some 60) (v := ?_) (a' := ?_) #[true, true, true, true, true, true, true, true, true, true, true, false, false, false] rfl rfl (any_of HT_.out (by kernel_rfl)) (fun _ _ _ h => h) (Or.inl ⟨by rfl, ?_⟩) ?_ ?_
               rotate_left
               ·intro w'
                go_simp
                with_reducible rfl
               rotate_left
               ·simp only [Act.put, List.setIfInBounds_toArray, List.set_cons_zero, List.set_cons_succ, i64_w, i32_w]
                rfl
               refine take_ (i := 11) (N := some 61) (v := ?_) (a' := ?_) #[true, true, true, true, true, true, true, true, true, true, true, true, false, false] rfl rfl (take_ofW HT_.out HW_.out (by kernel_rfl)) (fun _ _ _ h => h) (Or.inl ⟨by rfl, ?_⟩) hHeld ?_ ?_
               rotate_left
               ·rintro w' ⟨s0, s1, s2, s3⟩
                go_simp
                with_reducible rfl
               rotate_left
               ·simp only [Act.put, List.setIfInBounds_toArray, List.set_cons_zero, List.set_cons_succ, i64_w, i32_w]
                rfl
               refine one_ (i := 12) (N := some 7) #[true, true, true, true, true, true, true, true, true, true, true, true, true, false] rfl rfl (one_of HT_.out (by kernel_rfl)) (by decide) (fun K hK => ?_)
               refine box_step ?hg (N := 7) ?hd (cs := #[.int .i64 0, .int .i64 0]) (t := 39) ?hr ?_; (case hd => rfl); (case hg => rfl); (case hr => first | (go_simp; done) | (go_simp; rfl))
               intro gb124 hg w28 hbox hb
               have HS1_ := (hb.cell (World.block_lt_of_cell? _ _ (hHeld.2.1))).trans (hHeld.2.1)
               have HS2_ := (hb.cell (World.block_lt_of_cell? _ _ (hHeld.2.2.1))).trans (hHeld.2.2.1)
               have nA_ := Aside0.mk (IsPub.farA HI0.out hg hb); have n0_ := Aside0.mk (IsPub.below (by repeat (first | (with_reducible first | exact HI0.out | apply IsPub.alloc | apply IsPub.drewN | apply IsPub.drew | apply IsPub.set_0 | apply IsPub.set_1) | exact HI0.out)) hb)
               have n1_ := Aside0.mk (KeepBut.trans (by repeat (first | (with_reducible first | exact HK.out | apply KeepBut.set_ | apply keep_drewN | apply keep_drew | apply keep_alloc) | exact HK.out)) (KeepBut.of_below hb g none) (.inl rfl))
               have n2_ := Aside0.mk (below_step (by repeat (first | (with_reducible first | exact HB.out | apply below_alloc | apply pw_below_drewN | apply below_drew1 | refine below_set ?_ (IsPub.ge HI0.out)) | exact HB.out)) hb)
               have n3_ := Aside0.mk (hbox)
               have n4_ := Aside0.mk ((by rw [hg]; exact (keep_size (w := w) (g := g) (row := none) (by repeat (first | (with_reducible first | exact HK.out | apply KeepBut.set_ | apply keep_drewN | apply keep_drew | apply keep_alloc) | exact HK.out))) : w.heap.size ≤ gb124))
               have n5_ := Aside0.mk ((Nat.le_trans HW0.out (by rw [hg]; exact (keep_size (w := w) (g := g) (row := none) (by repeat (first | (with_reducible first | exact HK.out | apply KeepBut.set_ | apply keep_drewN | apply keep_drew | apply keep_alloc) | exact HK.out))) : w.heap.size ≤ gb124) : w0.heap.size ≤ gb124))
               have n6_ := Aside0.mk ((by rw [hg]; exact Nat.ne_of_lt (IsPub.lt (show IsPub (some ad123) l3.length c3 a4 w0 _ g x1000_2 x1001_2 from by repeat (first | (with_reducible first | exact HI0.out | apply IsPub.alloc | apply IsPub.drewN | apply IsPub.drew | apply IsPub.set_0 | apply IsPub.set_1) | exact HI0.out))) : g ≠ gb124))
               have n7_ := Aside0.mk ((by rw [hg]; exact Nat.ne_of_gt (IsPub.lt (show IsPub (some ad123) l3.length c3 a4 w0 _ g x1000_2 x1001_2 from by repeat (first | (with_reducible first | exact HI0.out | apply IsPub.alloc | apply IsPub.drewN | apply IsPub.drew | apply IsPub.set_0 | apply IsPub.set_1) | exact HI0.out))) : gb124 ≠ g))
               clear HI0
               clear HK
               clear HB
               have HI0 := n0_
               have HK := n1_
               have HB := n2_
               have BK124 := n3_
               have GW124 := n4_
               have GE124 := n5_
               have NB0_124 := n6_
               have NB124_0 := n7_; have NA := nA_
               clear n0_ n1_ n2_ n3_ n4_ n5_ n6_ n7_
               clear hb hbox hg
               refine hK.out _ _ ⟨(keep_cell HK.out hw122_0 hne122_0), HS1_, HS2_, IsPub.cellL HI0.out⟩ (fun hHeld => ?_)
               clear hK K
               refine norm_ (a' := ?_) ?_ ?_
               rotate_left
               ·show Act.put _ (some 7) _ = _
                simp only [Act.put, List.setIfInBounds_toArray, List.set_cons_zero, List.set_cons_succ, i64_w, i32_w]
                rfl
               refine one_ (i := 13) (N := none) #[true, true, true, true, true, true, true, true, true, true, true, true, true, true] rfl rfl (one_of HT_.out (by kernel_rfl)) (by decide) (fun K hK => ?_)
               have hs29 : w28.cell? ⟨gb124, 0, none⟩ = some (.int .i64 0) := (blk_cell BK124.out 0).trans rfl
               have hfs29 := blk_frozen BK124.out 0
               have hs30 : w28.cell? ⟨gb124, 1, none⟩ = some (.int .i64 0) := (blk_cell BK124.out 1).trans rfl
               have hfs30 := blk_frozen BK124.out 1
               refine skip_ (w1 := ?_) (by rfl) rfl ?_ ?_
               rotate_left
               ·go_simp
                rfl
               refine hK.out _ _ ⟨((cell_far (p := ⟨gb124, _, none⟩) (by first | exact Nat.ne_of_lt (Nat.lt_of_lt_of_le (by have := World.block_lt_of_cell? _ _ hw122_0; first | rwa [add_block] at this | exact this) GW124.out) | (rw [add_block]; exact Nat.ne_of_lt (Nat.lt_of_lt_of_le (by have := World.block_lt_of_cell? _ _ hw122_0; first | rwa [add_block] at this | exact this) GW124.out)) | (show (Addr.add _ _).block ≠ _; rw [add_block]; exact Nat.ne_of_lt (Nat.lt_of_lt_of_le (by have := World.block_lt_of_cell? _ _ hw122_0; first | rwa [add_block] at this | exact this) GW124.out)) | (dsimp only; exact Nat.ne_of_lt (Nat.lt_of_lt_of_le (by have := World.block_lt_of_cell? _ _ hw122_0; first | rwa [add_block] at this | exact this) GW124.out))) _).trans (((cell_far (p := ⟨gb124, _, none⟩) (by first | exact Nat.ne_of_lt (Nat.lt_of_lt_of_le (by have := World.block_lt_of_cell? _ _ hw122_0; first | rwa [add_block] at this | exact this) GW124.out) | (rw [add_block]; exact Nat.ne_of_lt (Nat.lt_of_lt_of_le (by have := World.block_lt_of_cell? _ _ hw122_0; first | rwa [add_block] at this | exact this) GW124.out)) | (show (Addr.add _ _).block ≠ _; rw [add_block]; exact Nat.ne_of_lt (Nat.lt_of_lt_of_le (by have := World.block_lt_of_cell? _ _ hw122_0; first | rwa [add_block] at this | exact this) GW124.out)) | (dsimp only; exact Nat.ne_of_lt (Nat.lt_of_lt_of_le (by have := World.block_lt_of_cell? _ _ hw122_0; first | rwa [add_block] at this | exact this) GW124.out))) _).trans (hHeld.1)))), ((cell_far (p := ⟨gb124, _, none⟩) (by first | exact Nat.ne_of_lt (Nat.lt_of_lt_of_le hlt123_0 GW124.out) | (rw [add_block]; exact Nat.ne_of_lt (Nat.lt_of_lt_of_le hlt123_0 GW124.out)) | (show (Addr.add _ _).block ≠ _; rw [add_block]; exact Nat.ne_of_lt (Nat.lt_of_lt_of_le hlt123_0 GW124.out)) | (dsimp only; exact Nat.ne_of_lt (Nat.lt_of_lt_of_le hlt123_0 GW124.out))) _).trans (((cell_far (p := ⟨gb124, _, none⟩) (by first | exact Nat.ne_of_lt (Nat.lt_of_lt_of_le hlt123_0 GW124.out) | (rw [add_block]; exact Nat.ne_of_lt (Nat.lt_of_lt_of_le hlt123_0 GW124.out)) | (show (Addr.add _ _).block ≠ _; rw [add_block]; exact Nat.ne_of_lt (Nat.lt_of_lt_of_le hlt123_0 GW124.out)) | (dsimp only; exact Nat.ne_of_lt (Nat.lt_of_lt_of_le hlt123_0 GW124.out))) _).trans (hHeld.2.1)))), ((cell_far (p := ⟨gb124, _, none⟩) (by first | exact Nat.ne_of_lt (Nat.lt_of_lt_of_le hlt123_1 GW124.out) | (rw [add_block]; exact Nat.ne_of_lt (Nat.lt_of_lt_of_le hlt123_1 GW124.out)) | (show (Addr.add _ _).block ≠ _; rw [add_block]; exact Nat.ne_of_lt (Nat.lt_of_lt_of_le hlt123_1 GW124.out)) | (dsimp only; exact Nat.ne_of_lt (Nat.lt_of_lt_of_le hlt123_1 GW124.out))) _).trans (((cell_far (p := ⟨gb124, _, none⟩) (by first | exact Nat.ne_of_lt (Nat.lt_of_lt_of_le hlt123_1 GW124.out) | (rw [add_block]; exact Nat.ne_of_lt (Nat.lt_of_lt_of_le hlt123_1 GW124.out)) | (show (Addr.add _ _).block ≠ _; rw [add_block]; exact Nat.ne_of_lt (Nat.lt_of_lt_of_le hlt123_1 GW124.out)) | (dsimp only; exact Nat.ne_of_lt (Nat.lt_of_lt_of_le hlt123_1 GW124.out))) _).trans hHeld.2.2.1))), IsPub.cellL (IsPub.far (IsPub.far HI0.out NB0_124.out NA.out _) NB0_124.out (FarPu.far NB0_124.out NA.out _) _)⟩ (fun hHeld => ?_)
               clear hK K
               refine done_ (done_of HT_.out (by kernel_rfl)) ?_
               try go_wp2
               have n0_ : Aside0 (((w28.setCell ⟨gb124, 0, none⟩ (.int .i64 ((rd_T39 l3 (rd l1 (ji16))).f0))).setCell ⟨gb124, 1, none⟩ (.int .i64 ((rd_T39 l3 (rd l1 (ji16))).f1))).heap[gb124]? = some (.cells #[.int .i64 ((rd_T39 l3 (rd l1 (ji16))).f0), .int .i64 ((rd_T39 l3 (rd l1 (ji16))).f1)] 39 (0, 0))) := ⟨by (with_reducible repeat (first | refine blk_drewN ?_ _ | refine blk_drew ?_ | refine blk_alloc ?_ _)); refine blk_put (cs := #[.int .i64 ((rd_T39 l3 (rd l1 (ji16))).f0), .int .i64 0]) ?_ 1 _ rfl; (with_reducible repeat (first | refine blk_drewN ?_ _ | refine blk_drew ?_ | refine blk_alloc ?_ _)); refine blk_put (cs := #[.int .i64 0, .int .i64 0]) ?_ 0 _ rfl; (with_reducible repeat (first | refine blk_drewN ?_ _ | refine blk_drew ?_ | refine blk_alloc ?_ _)); exact BK124.out⟩
               have n1_ : Aside0 (IsPub (some ad123) l3.length c3 a4 w0 ((w28.setCell ⟨gb124, 0, none⟩ (.int .i64 ((rd_T39 l3 (rd l1 (ji16))).f0))).setCell ⟨gb124, 1, none⟩ (.int .i64 ((rd_T39 l3 (rd l1 (ji16))).f1))) g x1000_2 x1001_2) := ⟨IsPub.far (IsPub.far HI0.out NB0_124.out NA.out _) NB0_124.out (FarPu.far NB0_124.out NA.out _) _⟩
               have n2_ : Aside0 (KeepBut w ((w28.setCell ⟨gb124, 0, none⟩ (.int .i64 ((rd_T39 l3 (rd l1 (ji16))).f0))).setCell ⟨gb124, 1, none⟩ (.int .i64 ((rd_T39 l3 (rd l1 (ji16))).f1))) g none) := ⟨by repeat (first | (with_reducible first | exact HK.out | apply KeepBut.set_ | apply keep_drewN | apply keep_drew | apply keep_alloc | refine keep_far ?_ GW124.out _) | exact HK.out)⟩
               have n3_ : Aside0 (Below w0.heap.size w0 ((w28.setCell ⟨gb124, 0, none⟩ (.int .i64 ((rd_T39 l3 (rd l1 (ji16))).f0))).setCell ⟨gb124, 1, none⟩ (.int .i64 ((rd_T39 l3 (rd l1 (ji16))).f1)))) := ⟨by repeat (first | (with_reducible first | exact HB.out | apply below_alloc | apply pw_below_drewN | apply below_drew1 | refine below_set ?_ (IsPub.ge HI0.out) | refine below_set ?_ GE124.out) | exact HB.out)⟩
               (try clear BK124)
               (try clear HI0)
               (try clear HK)
               (try clear HB)
               generalize ((w28.setCell ⟨gb124, 0, none⟩ (.int .i64 ((rd_T39 l3 (rd l1 (ji16))).f0))).setCell ⟨gb124, 1, none⟩ (.int .i64 ((rd_T39 l3 (rd l1 (ji16))).f1))) = w31 at n0_ n1_ n2_ n3_ ⊢
               have BK124 := n0_
               have HI0 := n1_
               have HK := n2_
               have HB := n3_
               clear n0_ n1_ n2_ n3_
               have n0_ := Aside0.mk (blk_drew BK124.out)
               have n1_ := Aside0.mk (IsPub.drew HI0.out)
               have n2_ := Aside0.mk (keep_drew HK.out)
               have n3_ := Aside0.mk (below_drew1 HB.out)
               clear BK124
               clear HI0
               clear HK
               clear HB
               have BK124 := n0_
               have HI0 := n1_
               have HK := n2_
               have HB := n3_
               clear n0_ n1_ n2_ n3_
               have p134 : 0 ≤ (x43_2 : Int) := of_decide_eq_true (by first | (with_reducible assumption) | assumption)
               have q134 : x43_2 < (l3.length : Int) := of_decide_eq_true (by first | (with_reducible assumption) | assumption)
               obtain ⟨ad134, e134, hx134_0, hx134_1⟩ := at_T39 (Kd.C_foot_now HR3.out HK.out) x43_2 p134 q134
               have hw134_1 := hx134_1
               have hw134_0 := hx134_0
               obtain rfl : ad123 = ad134 := (by injection e134)
               have hne134_1 := (show (⟨(ad123.add ((x43_2).toNat * 2)).block, (ad123.add ((x43_2).toNat * 2)).off + 1, none⟩ : Addr).block ≠ g from by first | (rw [add_block]; exact Kd.foot_ne HR3.out (by omega) (by decide)) | (show (Addr.add _ _).block ≠ _; rw [add_block]; exact Kd.foot_ne HR3.out (by omega) (by decide)) | exact Kd.foot_ne HR3.out (by omega) (by decide) | (dsimp only; exact Kd.foot_ne HR3.out (by omega) (by decide)))
               have hlt134_1 := (Kd.foot_lt HR3.out (by omega) (by decide))
               have hne134_0 := (show ((ad123.add ((x43_2).toNat * 2)) : Addr).block ≠ g from by first | (rw [add_block]; exact Kd.foot_ne HR3.out (by omega) (by decide)) | (show (Addr.add _ _).block ≠ _; rw [add_block]; exact Kd.foot_ne HR3.out (by omega) (by decide)) | exact Kd.foot_ne HR3.out (by omega) (by decide) | (dsimp only; exact Kd.foot_ne HR3.out (by omega) (by decide)))
               have hlt134_0 := (Kd.foot_lt HR3.out (by omega) (by decide))
               replace p134 := eq_true p134
               replace q134 := eq_true q134
               refine start_ (n := 22) (S := fun w' => True) (ds := []) #[false, false, false, false, false, false, false, false, false, false, false, false, false, false, false, false, false, false, false, false, false, false] (by kernel_rfl) rfl rfl trivial (fun hHeld => ?_); refine with_tabW spec_puBest_try.tab9 spec_puBest_try.bits9 (fun HT_ HW_ => ?_)
               generalize w31.drew = w32 at BK124 HI0 HK HB hx134_0 hx134_1 hHeld ⊢
               refine pure_ (i := 0) (N := some 62) (v := ?_) (a' := ?_) #[true, false, false, false, false, false, false, false, false, false, false, false, false, false, false, false, false, false, false, false, false, false] rfl rfl (any_of HT_.out (by kernel_rfl)) (fun _ _ _ h => h) (Or.inl ⟨by rfl, ?_⟩) ?_ ?_
               rotate_left
               ·intro w'
                go_simp
                with_reducible rfl
               rotate_left
               ·simp only [Act.put, List.setIfInBounds_toArray, List.set_cons_zero, List.set_cons_succ, i64_w, i32_w]
                rfl
               refine pure_ (i := 1) (N := some 63) (v := ?_) (a' := ?_) #[true, true, false, false, false, false, false, false, false, false, false, false, false, false, false, false, false, false, false, false, false, false] rfl rfl (any_of HT_.out (by kernel_rfl)) (fun _ _ _ h => h) (Or.inl ⟨by rfl, ?_⟩) ?_ ?_
               rotate_left
               ·intro w'
                go_simp
                with_reducible rfl
               rotate_left
               ·simp only [Act.put, List.setIfInBounds_toArray, List.set_cons_zero, List.set_cons_succ, i64_w, i32_w]
                rfl
               refine pure_ (i := 3) (N := some 65) (v := ?_) (a' := ?_) #[true, true, false, true, false, false, false, false, false, false, false, false, false, false, false, false, false, false, false, false, false, false] rfl rfl (any_of HT_.out (by kernel_rfl)) (fun _ _ _ h => h) (Or.inl ⟨by rfl, ?_⟩) ?_ ?_
               rotate_left
               ·intro w'
                go_simp
                with_reducible rfl
               rotate_left
               ·simp only [Act.put, List.setIfInBounds_toArray, List.set_cons_zero, List.set_cons_succ, i64_w, i32_w]
                rfl
               refine pure_ (i := 6) (N := some 68) (v := ?_) (a' := ?_) #[true, true, false, true, false, false, true, false, false, false, false, false, false, false, false, false, false, false, false, false, false, false] rfl rfl (any_of HT_.out (by kernel_rfl)) (fun _ _ _ h => h) (Or.inl ⟨by rfl, ?_⟩) ?_ ?_
               rotate_left
               ·intro w'
                go_simp
                with_reducible rfl
               rotate_left
               ·simp only [Act.put, List.setIfInBounds_toArray, List.set_cons_zero, List.set_cons_succ, i64_w, i32_w]
                rfl
               refine pure_ (i := 8) (N := some 70) (v := ?_) (a' := ?_) #[true, true, false, true, false, false, true, false, true, false, false, false, false, false, false, false, false, false, false, false, false, false] rfl rfl (any_of HT_.out (by kernel_rfl)) (fun _ _ _ h => h) (Or.inl ⟨by rfl, ?_⟩) ?_ ?_
               rotate_left
               ·intro w'
                go_simp
                with_reducible rfl
               rotate_left
               ·simp only [Act.put, List.setIfInBounds_toArray, List.set_cons_zero, List.set_cons_succ, i64_w, i32_w]
                rfl
               refine pure_ (i := 9) (N := some 71) (v := ?_) (a' := ?_) #[true, true, false, true, false, false, true, false, true, true, false, false, false, false, false, false, false, false, false, false, false, false] rfl rfl (any_of HT_.out (by kernel_rfl)) (fun _ _ _ h => h) (Or.inl ⟨by rfl, ?_⟩) ?_ ?_
               rotate_left
               ·intro w'
                go_simp
                with_reducible rfl
               rotate_left
               ·simp only [Act.put, List.setIfInBounds_toArray, List.set_cons_zero, List.set_cons_succ, i64_w, i32_w]
                rfl
               refine pure_ (i := 10) (N := some 72) (v := ?_) (a' := ?_) #[true, true, false, true, false, false, true, false, true, true, true, false, false, false, false, false, false, false, false, false, false, false] rfl rfl (any_of HT_.out (by kernel_rfl)) (fun _ _ _ h => h) (Or.inl ⟨by rfl, ?_⟩) ?_ ?_
               rotate_left
               ·intro w'
                go_simp
                with_reducible rfl
               rotate_left
               ·simp only [Act.put, List.setIfInBounds_toArray, List.set_cons_zero, List.set_cons_succ, i64_w, i32_w]
                rfl
               refine pure_ (i := 12) (N := some 74) (v := ?_) (a' := ?_) #[true, true, false, true, false, false, true, false, true, true, true, false, true, false, false, false, false, false, false, false, false, false] rfl rfl (any_of HT_.out (by kernel_rfl)) (fun _ _ _ h => h) (Or.inl ⟨by rfl, ?_⟩) ?_ ?_
               rotate_left
               ·intro w'
                go_simp
                with_reducible rfl
               rotate_left
               ·simp only [Act.put, List.setIfInBounds_toArray, List.set_cons_zero, List.set_cons_succ, i64_w, i32_w]
                rfl
               refine pure_ (i := 15) (N := some 77) (v := ?_) (a' := ?_) #[true, true, false, true, false, false, true, false, true, true, true, false, true, false, false, true, false, false, false, false, false, false] rfl rfl (any_of HT_.out (by kernel_rfl)) (fun _ _ _ h => h) (Or.inl ⟨by rfl, ?_⟩) ?_ ?_
               rotate_left
               ·intro w'
                go_simp
                with_reducible rfl
               rotate_left
               ·simp only [Act.put, List.setIfInBounds_toArray, List.set_cons_zero, List.set_cons_succ, i64_w, i32_w]
                rfl
               refine pure_ (i := 16) (N := some 78) (v := ?_) (a' := ?_) #[true, true, false, true, false, false, true, false, true, true, true, false, true, false, false, true, true, false, false, false, false, false] rfl rfl (any_of HT_.out (by kernel_rfl)) (fun _ _ _ h => h) (Or.inl ⟨by rfl, ?_⟩) ?_ ?_
               rotate_left
               ·intro w'
                go_simp
                with_reducible rfl
               rotate_left
               ·simp only [Act.put, List.setIfInBounds_toArray, List.set_cons_zero, List.set_cons_succ, i64_w, i32_w]
                rfl
               refine pure_ (i := 17) (N := some 79) (v := ?_) (a' := ?_) #[true, true, false, true, false, false, true, false, true, true, true, false, true, false, false, true, true, true, false, false, false, false] rfl rfl (any_of HT_.out (by kernel_rfl)) (fun _ _ _ h => h) (Or.inl ⟨by rfl, ?_⟩) ?_ ?_
               rotate_left
               ·intro w'
                go_simp
                with_reducible rfl
               rotate_left
               ·simp only [Act.put, List.setIfInBounds_toArray, List.set_cons_zero, List.set_cons_succ, i64_w, i32_w]
                rfl
               refine inv_at [2, 4, 5, 7, 11, 13, 14, 18, 19, 20, 21] (fun a0_ b a w' => ∃ (v126 : Value) (v129 : Value) (v132 : Value), a = putSel a0_ b [(2, 64, v126), (4, 66, v129), (5, 67, v132), (7, 69, .agg #[.int .i64 ((rd_T39 l3 (rd l1 (ji16))).f0), .int .i64 ((rd_T39 l3 (rd l1 (ji16))).f1)]), (11, 73, .slice (some ad123) l3.length c3), (13, 75, .pointer (some (ad123.add ((x43_2).toNat * 2)))), (14, 76, .agg #[.int .i64 ((rd_T39 l3 x43_2).f0), .int .i64 ((rd_T39 l3 x43_2).f1)]), (18, 80, .int .i64 a4), (19, 81, .int .i64 t135), (20, 82, .int .i64 (wrap64 (a2 + t135))), (21, 83, .tuple #[])] ∧ (w'.heap[gb124]? = some (.cells #[.int .i64 ((rd_T39 l3 (rd l1 (ji16))).f0), .int .i64 ((rd_T39 l3 (rd l1 (ji16))).f1)] 39 (0, 0))) ∧ (b 21 = false → IsPub (some ad123) l3.length c3 a4 w0 w' g x1000_2 x1001_2) ∧ (KeepBut w w' g none) ∧ (Below w0.heap.size w0 w') ∧ (b 2 = true → b 5 = false → Kd.R (Kd.int .i64) 3 w' w.heap.size (fun _ => True) v126 t125 ∧ FarPu w' g v126.ownBlock) ∧ (b 4 = true → b 5 = false → Kd.R (Kd.int .i64) 3 w' w.heap.size (fun _ => True) v129 y128) ∧ (b 5 = true → Kd.R (Kd.int .i64) 3 w' w.heap.size (fun _ => True) v132 t131) ∧ (b 21 = true → IsPub (some ad123) l3.length c3 a4 w0 w' g t136 t137)) HT_.out HW_.out (by kernel_rfl) (by kernel_rfl) ?_ ?_ ?_
               ·exact ⟨.bool false, .bool false, .bool false, by simp only [putSel, Bool.false_eq_true, if_false], BK124.out, fun _ => HI0.out, HK.out, HB.out, fun h_ _ => absurd h_ (by decide), fun h_ _ => absurd h_ (by decide), fun h_ => absurd h_ (by decide), fun h_ => absurd h_ (by decide)⟩
               ·skip
                clear BK124 HB HI0 HK
                refine steps_cons ?_ ?_
                ·rintro b a w' ⟨v126, v129, v132, ha, Q_BK124, Q_HI0, Q_HK, Q_HB, Q_HO127, Q_HO130, Q_HO133, Q_HI0_e21⟩ hb_ hon hoff
                 refine ⟨_, rfl, fun K hK => ?_⟩
                 have e63 : a.tmps[63]? = some (.slice (some ad122) l1.length c1) := by rw [ha]; exact (putSel_off rfl).trans rfl
                 replace ha := Aside0.mk ha
                 have BK124 := Aside0.mk Q_BK124
                 have HI0 := Aside0.mk (Q_HI0 (hoff 21 (by kernel_rfl)))
                 have HK := Aside0.mk Q_HK
                 have HB := Aside0.mk Q_HB
                 refine goes_ Try.func22 (by kernel_rfl) rfl #[.slice (some ad122) l1.length c1] (by rfl) rfl rfl (by first | (simp only [List.map_toArray, List.map_cons, List.map_nil, Act.eval, Array.getD_eq_getD_getElem?, Option.getD_some, e63]; done) | (simp only [List.map_toArray, List.map_cons, List.map_nil, Act.eval, Array.getD_eq_getD_getElem?, Option.getD_some, e63]; rfl)) ?_
                 with_reducible refine (spec_l1Own.calls _ _ l1 t125 _ ?side1 ?side2 A21.out).mono ?_
                 (case side1 => exact Kd.C_keep 0 HR1.out (by repeat (first | (with_reducible first | exact HK.out | apply KeepBut.set_ | apply keep_drewN | apply keep_drew | apply keep_alloc | refine keep_far ?_ GW124.out _) | exact HK.out)) hf1)
                 (case side2 => exact HC1.out)
                 rintro e w33 ⟨v126, rfl, ho0, hb⟩
                 refine ⟨_, rfl, ?_⟩
                 have nf_ := Aside0.mk (IsPub.farN (by repeat (first | (with_reducible first | exact HI0.out | apply IsPub.drewN | apply IsPub.drew) | exact HI0.out)) ho0 hb)
                 have n0_ := Aside0.mk (Kd.R_lower ho0 (keep_size (w := w) (g := g) (row := none) (by repeat (first | (with_reducible first | exact HK.out | apply KeepBut.set_ | apply keep_drewN | apply keep_drew | apply keep_alloc | refine keep_far ?_ GW124.out _) | exact HK.out))))
                 have n1_ := Aside0.mk (IsPub.below (by repeat (first | (with_reducible first | exact HI0.out | apply IsPub.alloc | apply IsPub.drewN | apply IsPub.drew | apply IsPub.set_0 | apply IsPub.set_1 | refine IsPub.far ?_ NB0_124.out _) | exact HI0.out)) hb)
                 have n2_ := Aside0.mk (blk_below (g := gb124) (o := .cells #[.int .i64 ((rd_T39 l3 (rd l1 (ji16))).f0), .int .i64 ((rd_T39 l3 (rd l1 (ji16))).f1)] 39 (0, 0)) (by (with_reducible repeat (first | refine blk_drewN ?_ _ | refine blk_drew ?_ | refine blk_alloc ?_ _)); exact BK124.out) hb)
                 have n3_ := Aside0.mk (KeepBut.trans (by repeat (first | (with_reducible first | exact HK.out | apply KeepBut.set_ | apply keep_drewN | apply keep_drew | apply keep_alloc | refine keep_far ?_ GW124.out _) | exact HK.out)) (KeepBut.of_below hb g none) (.inl rfl))
                 have n4_ := Aside0.mk (below_step (by repeat (first | (with_reducible first | exact HB.out | apply below_alloc | apply pw_below_drewN | apply below_drew1 | refine below_set ?_ (IsPub.ge HI0.out) | refine below_set ?_ GE124.out) | exact HB.out)) hb)
                 have z_HO130 := fun (h0_ : b 4 = true) (h5_ : b 5 = false) => (show Kd.R (Kd.int .i64) 3 w33 w.heap.size (fun _ => True) v129 y128 from by first | exact (Kd.R_elder' (by (with_reducible repeat (first | apply Kd.R_alloc | apply Kd.R_drewN | apply Kd.R_drew)); exact (Q_HO130 h0_ h5_)) (Kd.R_base ho0) hb) | exact Kd.R_mono (Kd.R_elder' (by (with_reducible repeat (first | apply Kd.R_alloc | apply Kd.R_drewN | apply Kd.R_drew)); exact (Q_HO130 h0_ h5_)) (Kd.R_base ho0) hb) (fun _ h_ => by first | trivial | exact h_ | exact h_.1))
                 clear HI0
                 clear BK124
                 clear HK
                 clear HB
                 have HO127 := n0_
                 have HI0 := n1_
                 have BK124 := n2_
                 have HK := n3_
                 have HB := n4_
                 clear n0_ n1_ n2_ n3_ n4_
                 (try clear hb)
                 (try clear hb2)
                 (try clear hk)
                 (try clear hi)
                 (try clear ho0)
                 refine hK.out _ _ ⟨v126, v129, v132, (by rw [ha.out]; exact putSel_upk 0 hb_ rfl rfl rfl), (by (with_reducible repeat (first | refine blk_drewN ?_ _ | refine blk_drew ?_ | refine blk_alloc ?_ _)); exact BK124.out), fun _ => (by repeat (first | (with_reducible first | exact HI0.out | apply IsPub.alloc | apply IsPub.drewN | apply IsPub.drew | apply IsPub.set_0 | apply IsPub.set_1 | refine IsPub.far ?_ NB0_124.out _) | exact HI0.out)), (by repeat (first | (with_reducible first | exact HK.out | apply KeepBut.set_ | apply keep_drewN | apply keep_drew | apply keep_alloc | refine keep_far ?_ GW124.out _) | exact HK.out)), (by repeat (first | (with_reducible first | exact HB.out | apply below_alloc | apply pw_below_drewN | apply below_drew1 | refine below_set ?_ (IsPub.ge HI0.out) | refine below_set ?_ GE124.out) | exact HB.out)), fun _ _ => ⟨HO127.out, nf_.out⟩, z_HO130, fun h0_ => absurd ((hoff 5 (by kernel_rfl)).symm.trans h0_) (by decide), fun h0_ => absurd ((hoff 21 (by kernel_rfl)).symm.trans h0_) (by decide)⟩
                refine steps_cons ?_ ?_
                ·rintro b a w' ⟨v126, v129, v132, ha, Q_BK124, Q_HI0, Q_HK, Q_HB, Q_HO127, Q_HO130, Q_HO133, Q_HI0_e21⟩ hb_ hon hoff
                 refine ⟨_, rfl, fun K hK => ?_⟩
                 have e65 : a.tmps[65]? = some (.int .i64 x43_2) := by rw [ha]; exact (putSel_off rfl).trans rfl
                 replace ha := Aside0.mk ha
                 have BK124 := Aside0.mk Q_BK124
                 have HI0 := Aside0.mk (Q_HI0 (hoff 21 (by kernel_rfl)))
                 have HK := Aside0.mk Q_HK
                 have HB := Aside0.mk Q_HB
                 refine Kd.R_lit_step (Kd.int .i64) _ 3 ?hg (N := 66) ?hd (xs := ([x43_2] : List Int)) (inner := [.int .i64 x43_2]) (ok := fun _ => True) (okp := fun _ => True) ?hr ?hp (fun _ hk => hk) trivial (Below.refl _ _) (Nat.le_refl _) (by simp) ?_; (case hd => rfl); (case hg => rfl); (case hr => first | (go_simp; done) | (go_simp; rfl)); (case hp => exact (Reps.one (show Kd.M (Kd.int .i64) _ _ _ x43_2 [.int .i64 x43_2] from rfl) (Reps.none _ _)))
                 intro v129 w33 ho34 hb hg_ hnew_
                 clear hg_ hnew_
                 (first | rw [← Ny128.out] at ho34 | (simp only [Int.reduceToNat] at ho34; rw [← Ny128.out] at ho34))
                 have n0_ := Aside0.mk (Kd.R_lower ho34 (keep_size (w := w) (g := g) (row := none) (by repeat (first | (with_reducible first | exact HK.out | apply KeepBut.set_ | apply keep_drewN | apply keep_drew | apply keep_alloc | refine keep_far ?_ GW124.out _) | exact HK.out))))
                 have n1_ := Aside0.mk (IsPub.below (by repeat (first | (with_reducible first | exact HI0.out | apply IsPub.alloc | apply IsPub.drewN | apply IsPub.drew | apply IsPub.set_0 | apply IsPub.set_1 | refine IsPub.far ?_ NB0_124.out _) | exact HI0.out)) hb)
                 have n2_ := Aside0.mk (blk_below (g := gb124) (o := .cells #[.int .i64 ((rd_T39 l3 (rd l1 (ji16))).f0), .int .i64 ((rd_T39 l3 (rd l1 (ji16))).f1)] 39 (0, 0)) (by (with_reducible repeat (first | refine blk_drewN ?_ _ | refine blk_drew ?_ | refine blk_alloc ?_ _)); exact BK124.out) hb)
                 have n3_ := Aside0.mk (KeepBut.trans (by repeat (first | (with_reducible first | exact HK.out | apply KeepBut.set_ | apply keep_drewN | apply keep_drew | apply keep_alloc | refine keep_far ?_ GW124.out _) | exact HK.out)) (KeepBut.of_below hb g none) (.inl rfl))
                 have n4_ := Aside0.mk (below_step (by repeat (first | (with_reducible first | exact HB.out | apply below_alloc | apply pw_below_drewN | apply below_drew1 | refine below_set ?_ (IsPub.ge HI0.out) | refine below_set ?_ GE124.out) | exact HB.out)) hb)
                 have z_HO127 := fun (h0_ : b 2 = true) (h5_ : b 5 = false) => And.intro (show Kd.R (Kd.int .i64) 3 w33 w.heap.size (fun _ => True) v126 t125 from by first | exact (Kd.R_elder' (by (with_reducible repeat (first | apply Kd.R_alloc | apply Kd.R_drewN | apply Kd.R_drew)); exact (Q_HO127 h0_ h5_).1) (Kd.R_base ho34) hb) | exact Kd.R_mono (Kd.R_elder' (by (with_reducible repeat (first | apply Kd.R_alloc | apply Kd.R_drewN | apply Kd.R_drew)); exact (Q_HO127 h0_ h5_).1) (Kd.R_base ho34) hb) (fun _ h_ => by first | trivial | exact h_ | exact h_.1)) (FarPu.below (IsPub.lt HI0.out) (Q_HO127 h0_ h5_).2 hb)
                 clear HI0
                 clear BK124
                 clear HK
                 clear HB
                 have HO130 := n0_
                 have HI0 := n1_
                 have BK124 := n2_
                 have HK := n3_
                 have HB := n4_
                 clear n0_ n1_ n2_ n3_ n4_
                 clear hb ho34
                 refine hK.out _ _ ⟨v126, v129, v132, (by rw [ha.out]; exact putSel_upk 1 hb_ rfl rfl rfl), (by (with_reducible repeat (first | refine blk_drewN ?_ _ | refine blk_drew ?_ | refine blk_alloc ?_ _)); exact BK124.out), fun _ => (by repeat (first | (with_reducible first | exact HI0.out | apply IsPub.alloc | apply IsPub.drewN | apply IsPub.drew | apply IsPub.set_0 | apply IsPub.set_1 | refine IsPub.far ?_ NB0_124.out _) | exact HI0.out)), (by repeat (first | (with_reducible first | exact HK.out | apply KeepBut.set_ | apply keep_drewN | apply keep_drew | apply keep_alloc | refine keep_far ?_ GW124.out _) | exact HK.out)), (by repeat (first | (with_reducible first | exact HB.out | apply below_alloc | apply pw_below_drewN | apply below_drew1 | refine below_set ?_ (IsPub.ge HI0.out) | refine below_set ?_ GE124.out) | exact HB.out)), z_HO127, fun _ _ => (by (with_reducible repeat (first | apply Kd.R_alloc | apply Kd.R_drewN | apply Kd.R_drew)); exact HO130.out), fun h0_ => absurd ((hoff 5 (by kernel_rfl)).symm.trans h0_) (by decide), fun h0_ => absurd ((hoff 21 (by kernel_rfl)).symm.trans h0_) (by decide)⟩
                refine steps_cons ?_ ?_
                ·rintro b a w' ⟨v126, v129, v132, ha, Q_BK124, Q_HI0, Q_HK, Q_HB, Q_HO127, Q_HO130, Q_HO133, Q_HI0_e21⟩ hb_ hon hoff
                 refine ⟨_, rfl, fun K hK => ?_⟩
                 have e64 : a.tmps[64]? = some v126 := by rw [ha]; exact putSel_on (e := (2, 64, v126)) 0 rfl rfl (hon 2 (by kernel_rfl)) rfl
                 have e66 : a.tmps[66]? = some v129 := by rw [ha]; exact putSel_on (e := (4, 66, v129)) 1 rfl rfl (hon 4 (by kernel_rfl)) rfl
                 replace ha := Aside0.mk ha
                 have BK124 := Aside0.mk Q_BK124
                 have HI0 := Aside0.mk (Q_HI0 (hoff 21 (by kernel_rfl)))
                 have HK := Aside0.mk Q_HK
                 have HB := Aside0.mk Q_HB
                 have HO127 := Aside0.mk (Q_HO127 (hon 2 (by kernel_rfl)) hb_).1
                 have NF := Aside0.mk (Q_HO127 (hon 2 (by kernel_rfl)) hb_).2
                 have HO130 := Aside0.mk (Q_HO130 (hon 4 (by kernel_rfl)) hb_)
                 obtain ⟨Aq_, cq_, eq_⟩ := Kd.R_slice HO130.out
                 obtain ⟨hq1_, hq2_, hq3_⟩ := spec_ownPut.eqs A21.out A22.out
                 refine Kd.R_append_rows_step (Kd.int .i64) (w0 := w') w.heap.size (by rfl) (.tmp 64) (.tmp 66) 34 3 (.int .i64 0) 8 rfl Try.underlying34 info3 rfl (by decide) (by omega) v126 t125 y128 Aq_ y128.length cq_ (fun _ => True) (fun _ => False) (by simp only [Act.eval, Array.getD_eq_getD_getElem?, e64, Option.getD_some]) (by simp only [Act.eval, Array.getD_eq_getD_getElem?, e66, Option.getD_some]; exact eq_) HO127.out ?aR (fun _ _ h => h) (fun _ h => h.elim) (fun _ _ => trivial) (Below.refl _ _) ?aS ?aL ?_
                 (case aR => exact (Kd.R_reads' (eq_ ▸ HO130.out)).2.2)
                 (case aS => exact keep_size (w := w) (g := g) (row := none) HK.out)
                 (case aL => rw [Ny128.out]; simp only [List.length_cons, List.length_nil]; omega)
                 intro v132 w37 ho hb hg hat
                 rw [show t125 ++ y128 = t131 from by rw [Ny128.out]; exact hq2_] at ho
                 have n3_ := Aside0.mk (IsPub.grown HI0.out hg (IsPub.own_ne HI0.out HO127.out (by decide)) NF.out)
                 have n4_ := Aside0.mk (blk_grown BK124.out hg (Kd.R_ne HO127.out BK124.out (by decide)))
                 have n5_ := Aside0.mk (KeepBut.trans HK.out (KeepBut.of_grown hg g) (Kd.R_base2 HO127.out))
                 have n6_ := Aside0.mk (below_weaken HB.out HL.out hb)
                 clear HI0 BK124 HK HB
                 have HI0 := n3_
                 have BK124 := n4_
                 have HK := n5_
                 have HB := n6_
                 clear n3_ n4_ n5_ n6_
                 refine hK.out _ _ ⟨v126, v129, v132, (by rw [ha.out]; exact putSel_upk 2 hb_ rfl rfl rfl), (by (with_reducible repeat (first | refine blk_drewN ?_ _ | refine blk_drew ?_ | refine blk_alloc ?_ _)); exact BK124.out), fun _ => (by repeat (first | (with_reducible first | exact HI0.out | apply IsPub.alloc | apply IsPub.drewN | apply IsPub.drew | apply IsPub.set_0 | apply IsPub.set_1 | refine IsPub.far ?_ NB0_124.out _) | exact HI0.out)), (by repeat (first | (with_reducible first | exact HK.out | apply KeepBut.set_ | apply keep_drewN | apply keep_drew | apply keep_alloc | refine keep_far ?_ GW124.out _) | exact HK.out)), (by repeat (first | (with_reducible first | exact HB.out | apply below_alloc | apply pw_below_drewN | apply below_drew1 | refine below_set ?_ (IsPub.ge HI0.out) | refine below_set ?_ GE124.out) | exact HB.out)), fun _ h5_ => absurd ((up_self b 5).symm.trans h5_) (by decide), fun _ h5_ => absurd ((up_self b 5).symm.trans h5_) (by decide), fun _ => ho, fun h0_ => absurd ((hoff 21 (by kernel_rfl)).symm.trans h0_) (by decide)⟩
                refine steps_cons ?_ ?_
                ·rintro b a w' ⟨v126, v129, v132, ha, Q_BK124, Q_HI0, Q_HK, Q_HB, Q_HO127, Q_HO130, Q_HO133, Q_HI0_e21⟩ hb_ hon hoff
                 refine ⟨_, rfl, fun K hK => ?_⟩
                 have e7 : a.tmps[7]? = some (.pointer (some ⟨gb124, 0, none⟩)) := by rw [ha]; exact (putSel_off rfl).trans rfl
                 replace ha := Aside0.mk ha
                 have BK124 := Aside0.mk Q_BK124
                 have HI0 := Aside0.mk (Q_HI0 (hoff 21 (by kernel_rfl)))
                 have HK := Aside0.mk Q_HK
                 have HB := Aside0.mk Q_HB
                 have hc0_ : w'.cell? ⟨gb124, 0, none⟩ = some (.int .i64 ((rd_T39 l3 (rd l1 (ji16))).f0)) := (blk_cell BK124.out 0).trans rfl
                 have hc1_ : w'.cell? ⟨gb124, 1, none⟩ = some (.int .i64 ((rd_T39 l3 (rd l1 (ji16))).f1)) := (blk_cell BK124.out 1).trans rfl
                 refine value_ (w1 := w') (v := .agg #[.int .i64 ((rd_T39 l3 (rd l1 (ji16))).f0), .int .i64 ((rd_T39 l3 (rd l1 (ji16))).f1)]) (by rfl) rfl ?_ ?_
                 ·go_simp
                  (try simp only [i64_w])
                  try rfl
                 refine hK.out _ _ ⟨v126, v129, v132, (by rw [ha.out]; exact putSel_upk 3 hb_ rfl rfl rfl), Q_BK124, Q_HI0, Q_HK, Q_HB, Q_HO127, Q_HO130, Q_HO133, fun h0_ => absurd ((hoff 21 (by kernel_rfl)).symm.trans h0_) (by decide)⟩
                refine steps_cons ?_ ?_
                ·rintro b a w' ⟨v126, v129, v132, ha, Q_BK124, Q_HI0, Q_HK, Q_HB, Q_HO127, Q_HO130, Q_HO133, Q_HI0_e21⟩ hb_ hon hoff
                 refine ⟨_, rfl, fun K hK => ?_⟩
                 have e72 : a.tmps[72]? = some (.pointer (some ⟨g, 0, none⟩)) := by rw [ha]; exact (putSel_off rfl).trans rfl
                 replace ha := Aside0.mk ha
                 have HI0 := Aside0.mk (Q_HI0 (hoff 21 (by kernel_rfl)))
                 have hc0_ := IsPub.cellL HI0.out
                 refine value_ (w1 := w') (v := .slice (some ad123) l3.length c3) (by rfl) rfl ?_ ?_
                 ·go_simp
                  (try simp only [i64_w])
                  try rfl
                 refine hK.out _ _ ⟨v126, v129, v132, (by rw [ha.out]; exact putSel_upk 4 hb_ rfl rfl rfl), Q_BK124, Q_HI0, Q_HK, Q_HB, Q_HO127, Q_HO130, Q_HO133, fun h0_ => absurd ((hoff 21 (by kernel_rfl)).symm.trans h0_) (by decide)⟩
                refine steps_cons ?_ ?_
                ·rintro b a w' ⟨v126, v129, v132, ha, Q_BK124, Q_HI0, Q_HK, Q_HB, Q_HO127, Q_HO130, Q_HO133, Q_HI0_e21⟩ hb_ hon hoff
                 refine ⟨_, rfl, fun K hK => ?_⟩
                 have e73 : a.tmps[73]? = some (.slice (some ad123) l3.length c3) := by rw [ha]; exact putSel_on (e := (11, 73, .slice (some ad123) l3.length c3)) 4 rfl rfl (hon 11 (by kernel_rfl)) rfl
                 have e74 : a.tmps[74]? = some (.int .i64 x43_2) := by rw [ha]; exact (putSel_off rfl).trans rfl
                 replace ha := Aside0.mk ha
                 have BK124 := Aside0.mk Q_BK124
                 have HI0 := Aside0.mk (Q_HI0 (hoff 21 (by kernel_rfl)))
                 have HK := Aside0.mk Q_HK
                 have HB := Aside0.mk Q_HB
                 obtain ⟨adq_, eq_, hs0_, hs1_⟩ := at_T39 (Kd.C_foot_now HR3.out HK.out) x43_2 (of_eq_true p134) (of_eq_true q134)
                 obtain rfl : ad123 = adq_ := (by injection eq_)
                 refine value_ (w1 := w') (v := .pointer (some (ad123.add ((x43_2).toNat * 2)))) (by rfl) rfl ?_ ?_
                 ·go_simp
                  (try simp only [i64_w])
                  try rfl
                 refine hK.out _ _ ⟨v126, v129, v132, (by rw [ha.out]; exact putSel_upk 5 hb_ rfl rfl rfl), Q_BK124, Q_HI0, Q_HK, Q_HB, Q_HO127, Q_HO130, Q_HO133, fun h0_ => absurd ((hoff 21 (by kernel_rfl)).symm.trans h0_) (by decide)⟩
                refine steps_cons ?_ ?_
                ·rintro b a w' ⟨v126, v129, v132, ha, Q_BK124, Q_HI0, Q_HK, Q_HB, Q_HO127, Q_HO130, Q_HO133, Q_HI0_e21⟩ hb_ hon hoff
                 refine ⟨_, rfl, fun K hK => ?_⟩
                 have e75 : a.tmps[75]? = some (.pointer (some (ad123.add ((x43_2).toNat * 2)))) := by rw [ha]; exact putSel_on (e := (13, 75, .pointer (some (ad123.add ((x43_2).toNat * 2))))) 5 rfl rfl (hon 13 (by kernel_rfl)) rfl
                 replace ha := Aside0.mk ha
                 have BK124 := Aside0.mk Q_BK124
                 have HI0 := Aside0.mk (Q_HI0 (hoff 21 (by kernel_rfl)))
                 have HK := Aside0.mk Q_HK
                 have HB := Aside0.mk Q_HB
                 obtain ⟨adq_, eq_, hs0_, hs1_⟩ := at_T39 (Kd.C_foot_now HR3.out HK.out) x43_2 (of_eq_true p134) (of_eq_true q134)
                 obtain rfl : ad123 = adq_ := (by injection eq_)
                 refine value_ (w1 := w') (v := .agg #[.int .i64 ((rd_T39 l3 x43_2).f0), .int .i64 ((rd_T39 l3 x43_2).f1)]) (by rfl) rfl ?_ ?_
                 ·go_simp
                  (try simp only [i64_w])
                  try rfl
                 refine hK.out _ _ ⟨v126, v129, v132, (by rw [ha.out]; exact putSel_upk 6 hb_ rfl rfl rfl), Q_BK124, Q_HI0, Q_HK, Q_HB, Q_HO127, Q_HO130, Q_HO133, fun h0_ => absurd ((hoff 21 (by kernel_rfl)).symm.trans h0_) (by decide)⟩
                refine steps_cons ?_ ?_
                ·rintro b a w' ⟨v126, v129, v132, ha, Q_BK124, Q_HI0, Q_HK, Q_HB, Q_HO127, Q_HO130, Q_HO133, Q_HI0_e21⟩ hb_ hon hoff
                 refine ⟨_, rfl, fun K hK => ?_⟩
                 have e79 : a.tmps[79]? = some (.pointer (some ⟨g, 1, none⟩)) := by rw [ha]; exact (putSel_off rfl).trans rfl
                 replace ha := Aside0.mk ha
                 have HI0 := Aside0.mk (Q_HI0 (hoff 21 (by kernel_rfl)))
                 have hc0_ := IsPub.cellA HI0.out
                 refine value_ (w1 := w') (v := .int .i64 a4) (by rfl) rfl ?_ ?_
                 ·go_simp
                  (try simp only [i64_w])
                  try rfl
                 refine hK.out _ _ ⟨v126, v129, v132, (by rw [ha.out]; exact putSel_upk 7 hb_ rfl rfl rfl), Q_BK124, Q_HI0, Q_HK, Q_HB, Q_HO127, Q_HO130, Q_HO133, fun h0_ => absurd ((hoff 21 (by kernel_rfl)).symm.trans h0_) (by decide)⟩
                refine steps_cons ?_ ?_
                ·rintro b a w' ⟨v126, v129, v132, ha, Q_BK124, Q_HI0, Q_HK, Q_HB, Q_HO127, Q_HO130, Q_HO133, Q_HI0_e21⟩ hb_ hon hoff
                 refine ⟨_, rfl, fun K hK => ?_⟩
                 have e69 : a.tmps[69]? = some (.agg #[.int .i64 ((rd_T39 l3 (rd l1 (ji16))).f0), .int .i64 ((rd_T39 l3 (rd l1 (ji16))).f1)]) := by rw [ha]; exact putSel_on (e := (7, 69, .agg #[.int .i64 ((rd_T39 l3 (rd l1 (ji16))).f0), .int .i64 ((rd_T39 l3 (rd l1 (ji16))).f1)])) 3 rfl rfl (hon 7 (by kernel_rfl)) rfl
                 have e76 : a.tmps[76]? = some (.agg #[.int .i64 ((rd_T39 l3 x43_2).f0), .int .i64 ((rd_T39 l3 x43_2).f1)]) := by rw [ha]; exact putSel_on (e := (14, 76, .agg #[.int .i64 ((rd_T39 l3 x43_2).f0), .int .i64 ((rd_T39 l3 x43_2).f1)])) 6 rfl rfl (hon 14 (by kernel_rfl)) rfl
                 have e80 : a.tmps[80]? = some (.int .i64 a4) := by rw [ha]; exact putSel_on (e := (18, 80, .int .i64 a4)) 7 rfl rfl (hon 18 (by kernel_rfl)) rfl
                 replace ha := Aside0.mk ha
                 have BK124 := Aside0.mk Q_BK124
                 have HI0 := Aside0.mk (Q_HI0 (hoff 21 (by kernel_rfl)))
                 have HK := Aside0.mk Q_HK
                 have HB := Aside0.mk Q_HB
                 have HO133 := Aside0.mk (Q_HO133 (hon 5 (by kernel_rfl)))
                 refine goes_ Try.func23 (by kernel_rfl) rfl #[.agg #[.int .i64 ((rd_T39 l3 (rd l1 (ji16))).f0), .int .i64 ((rd_T39 l3 (rd l1 (ji16))).f1)], .agg #[.int .i64 ((rd_T39 l3 x43_2).f0), .int .i64 ((rd_T39 l3 x43_2).f1)], .int .i64 a4] (by rfl) rfl rfl (by (try simp only [List.map_toArray, List.map_cons, List.map_nil]); first | done | (simp only [Act.eval, Array.getD_eq_getD_getElem?, e69, e76, e80, Option.getD_some]) | (simp only [hji16]; rfl) | rfl | (simp only [List.length_drop, List.length_take]; rfl)) ?_
                 with_reducible refine (spec_puWay.calls ((rd_T39 l3 (rd l1 (ji16))).f0) ((rd_T39 l3 (rd l1 (ji16))).f1) ((rd_T39 l3 x43_2).f0) ((rd_T39 l3 x43_2).f1) a4 t135 _ A25.out).mono ?_
                 rintro e w38 ⟨rfl, hb⟩
                 refine ⟨_, rfl, ?_⟩
                 have n2_ := Aside0.mk (Kd.R_below (by (with_reducible repeat (first | apply Kd.R_alloc | apply Kd.R_drewN | apply Kd.R_drew)); exact HO133.out) hb)
                 have n3_ := Aside0.mk (IsPub.below (by repeat (first | (with_reducible first | exact HI0.out | apply IsPub.alloc | apply IsPub.drewN | apply IsPub.drew | apply IsPub.set_0 | apply IsPub.set_1 | refine IsPub.far ?_ NB0_124.out _) | exact HI0.out)) hb)
                 have n4_ := Aside0.mk (blk_below (g := gb124) (o := .cells #[.int .i64 ((rd_T39 l3 (rd l1 (ji16))).f0), .int .i64 ((rd_T39 l3 (rd l1 (ji16))).f1)] 39 (0, 0)) (by (with_reducible repeat (first | refine blk_drewN ?_ _ | refine blk_drew ?_ | refine blk_alloc ?_ _)); exact BK124.out) hb)
                 have n5_ := Aside0.mk (KeepBut.trans (by repeat (first | (with_reducible first | exact HK.out | apply KeepBut.set_ | apply keep_drewN | apply keep_drew | apply keep_alloc | refine keep_far ?_ GW124.out _) | exact HK.out)) (KeepBut.of_below hb g none) (.inl rfl))
                 have n6_ := Aside0.mk (below_step (by repeat (first | (with_reducible first | exact HB.out | apply below_alloc | apply pw_below_drewN | apply below_drew1 | refine below_set ?_ (IsPub.ge HI0.out) | refine below_set ?_ GE124.out) | exact HB.out)) hb)
                 clear HO133
                 clear HI0
                 clear BK124
                 clear HK
                 clear HB
                 have HO133 := n2_
                 have HI0 := n3_
                 have BK124 := n4_
                 have HK := n5_
                 have HB := n6_
                 clear n2_ n3_ n4_ n5_ n6_
                 (try clear hb)
                 (try clear hb2)
                 (try clear hk)
                 (try clear hi)
                 refine hK.out _ _ ⟨v126, v129, v132, (by rw [ha.out]; exact putSel_upk 8 hb_ rfl rfl rfl), (by (with_reducible repeat (first | refine blk_drewN ?_ _ | refine blk_drew ?_ | refine blk_alloc ?_ _)); exact BK124.out), fun _ => (by repeat (first | (with_reducible first | exact HI0.out | apply IsPub.alloc | apply IsPub.drewN | apply IsPub.drew | apply IsPub.set_0 | apply IsPub.set_1 | refine IsPub.far ?_ NB0_124.out _) | exact HI0.out)), (by repeat (first | (with_reducible first | exact HK.out | apply KeepBut.set_ | apply keep_drewN | apply keep_drew | apply keep_alloc | refine keep_far ?_ GW124.out _) | exact HK.out)), (by repeat (first | (with_reducible first | exact HB.out | apply below_alloc | apply pw_below_drewN | apply below_drew1 | refine below_set ?_ (IsPub.ge HI0.out) | refine below_set ?_ GE124.out) | exact HB.out)), fun _ h5_ => absurd ((hon 5 (by kernel_rfl)).symm.trans h5_) (by decide), fun _ h5_ => absurd ((hon 5 (by kernel_rfl)).symm.trans h5_) (by decide), fun _ => (by (with_reducible repeat (first | apply Kd.R_alloc | apply Kd.R_drewN | apply Kd.R_drew)); exact HO133.out), fun h0_ => absurd ((hoff 21 (by kernel_rfl)).symm.trans h0_) (by decide)⟩
                refine steps_cons ?_ ?_
                ·rintro b a w' ⟨v126, v129, v132, ha, Q_BK124, Q_HI0, Q_HK, Q_HB, Q_HO127, Q_HO130, Q_HO133, Q_HI0_e21⟩ hb_ hon hoff
                 refine ⟨_, rfl, fun K hK => ?_⟩
                 have e68 : a.tmps[68]? = some (.int .i64 a2) := by rw [ha]; exact (putSel_off rfl).trans rfl
                 have e81 : a.tmps[81]? = some (.int .i64 t135) := by rw [ha]; exact putSel_on (e := (19, 81, .int .i64 t135)) 8 rfl rfl (hon 19 (by kernel_rfl)) rfl
                 replace ha := Aside0.mk ha
                 have BK124 := Aside0.mk Q_BK124
                 have HI0 := Aside0.mk (Q_HI0 (hoff 21 (by kernel_rfl)))
                 have HK := Aside0.mk Q_HK
                 have HB := Aside0.mk Q_HB
                 have HO133 := Aside0.mk (Q_HO133 (hon 5 (by kernel_rfl)))
                 refine value_ (w1 := w') (v := .int .i64 (wrap64 (a2 + t135))) (by rfl) rfl ?_ ?_
                 ·go_simp
                  (try simp only [i64_w])
                  try rfl
                 refine hK.out _ _ ⟨v126, v129, v132, (by rw [ha.out]; exact putSel_upk 9 hb_ rfl rfl rfl), Q_BK124, Q_HI0, Q_HK, Q_HB, Q_HO127, Q_HO130, Q_HO133, fun h0_ => absurd ((hoff 21 (by kernel_rfl)).symm.trans h0_) (by decide)⟩
                refine steps_cons ?_ ?_
                ·rintro b a w' ⟨v126, v129, v132, ha, Q_BK124, Q_HI0, Q_HK, Q_HB, Q_HO127, Q_HO130, Q_HO133, Q_HI0_e21⟩ hb_ hon hoff
                 refine ⟨_, rfl, fun K hK => ?_⟩
                 have e62 : a.tmps[62]? = some (.pointer (some ⟨g, 0, none⟩)) := by rw [ha]; exact (putSel_off rfl).trans rfl
                 have e67 : a.tmps[67]? = some (v132) := by rw [ha]; exact putSel_on (e := (5, 67, v132)) 2 rfl rfl (hon 5 (by kernel_rfl)) rfl
                 have e82 : a.tmps[82]? = some (.int .i64 (wrap64 (a2 + t135))) := by rw [ha]; exact putSel_on (e := (20, 82, .int .i64 (wrap64 (a2 + t135)))) 9 rfl rfl (hon 20 (by kernel_rfl)) rfl
                 replace ha := Aside0.mk ha
                 have BK124 := Aside0.mk Q_BK124
                 have HI0 := Aside0.mk (Q_HI0 hb_)
                 have HK := Aside0.mk Q_HK
                 have HB := Aside0.mk Q_HB
                 have HO133 := Aside0.mk (Q_HO133 (hon 5 (by kernel_rfl)))
                 obtain ⟨Ao39, co39, eo39⟩ := Kd.R_slice HO133.out
                 (first | subst eo39 | (injection eo39 with f1_ f2_ f3_; have f4_ := f1_.symm; have f5_ := f3_.symm; clear f1_ f2_ f3_; subst f4_; subst f5_))
                 refine goes_ Try.func13 (by kernel_rfl) rfl #[.pointer (some ⟨g, 0, none⟩), .slice Ao39 t131.length co39, .int .i64 (wrap64 (a2 + t135))] (by rfl) rfl rfl (by first | (simp only [List.map_toArray, List.map_cons, List.map_nil, Act.eval, Array.getD_eq_getD_getElem?, Option.getD_some, e62, e67, e82]; done) | (simp only [List.map_toArray, List.map_cons, List.map_nil, Act.eval, Array.getD_eq_getD_getElem?, Option.getD_some, e62, e67, e82]; rfl)) ?_
                 with_reducible refine (ih k2 (by have := HJ5.out; have := HK2.out; omega) g x1000_2 x1001_2 _ _ t131 (wrap64 (a2 + t135)) (some ad123) c3 l3 a4 t136 t137 w0 _ ?side1 ?side2 ?side3 ?side4 ?side5 ?side6 ?side7 ?side8 A26.out).mono ?_
                 (case side1 => repeat (first | (with_reducible first | exact HI0.out | apply IsPub.alloc | apply IsPub.drewN | apply IsPub.drew | apply IsPub.set_0 | apply IsPub.set_1 | refine IsPub.far ?_ NB0_124.out _) | exact HI0.out))
                 (case side2 => repeat (first | (with_reducible first | exact HB.out | apply below_alloc | apply pw_below_drewN | apply below_drew1 | refine below_set ?_ (IsPub.ge HI0.out) | refine below_set ?_ GE124.out) | exact HB.out))
                 (case side3 => repeat (first | exact (Kd.R_reads' HO133.out).2.2 | (with_reducible refine Kd.C_alloc ?_ _) | (with_reducible refine Kd.C_drewN ?_ _) | (with_reducible refine Kd.C_drew ?_)))
                 (case side4 => exact (Kd.R_reads' HO133.out).2.1)
                 (case side5 => exact far_slice (IsPub.own_ne HI0.out HO133.out (by decide)))
                 (case side6 => exact Kd.C_foot_step HR3.out (by repeat (first | (with_reducible first | exact HK.out | apply KeepBut.set_ | apply keep_drewN | apply keep_drew | apply keep_alloc | refine keep_far ?_ GW124.out _) | exact HK.out)))
                 (case side7 => exact HC3.out)
                 (case side8 => exact Kd.R_lower HO133.out HL.out)
                 rintro e w40 ⟨rfl, hi, hb, hk⟩
                 refine ⟨_, rfl, ?_⟩
                 have n0_ := Aside0.mk (KeepBut.blk hk (g' := gb124) (o := .cells #[.int .i64 ((rd_T39 l3 (rd l1 (ji16))).f0), .int .i64 ((rd_T39 l3 (rd l1 (ji16))).f1)] 39 (0, 0)) (by (with_reducible repeat (first | refine blk_drewN ?_ _ | refine blk_drew ?_ | refine blk_alloc ?_ _)); exact BK124.out) NB124_0.out (by simp))
                 have n3_ := Aside0.mk (Kd.R_mono (Kd.R_keep (IsPub.apart (show IsPub (some ad123) l3.length c3 a4 w0 _ g x1000_2 x1001_2 from by repeat (first | (with_reducible first | exact HI0.out | apply IsPub.alloc | apply IsPub.drewN | apply IsPub.drew | apply IsPub.set_0 | apply IsPub.set_1 | refine IsPub.far ?_ NB0_124.out _) | exact HI0.out)) (by (with_reducible repeat (first | apply Kd.R_alloc | apply Kd.R_drewN | apply Kd.R_drew)); exact HO133.out) (by decide)) hk (fun _ h => h.2)) (fun _ h => h.1))
                 have n4_ := Aside0.mk (KeepBut.trans (by repeat (first | (with_reducible first | exact HK.out | apply KeepBut.set_ | apply keep_drewN | apply keep_drew | apply keep_alloc | refine keep_far ?_ GW124.out _) | exact HK.out)) hk (.inl rfl))
                 have n5_ := Aside0.mk (hb)
                 have n6_ := Aside0.mk (hi)
                 clear BK124
                 clear HO133
                 clear HK
                 clear HB
                 clear HI0
                 have BK124 := n0_
                 have HO133 := n3_
                 have HK := n4_
                 have HB := n5_
                 have HI0 := n6_
                 clear n0_ n3_ n4_ n5_ n6_
                 (try clear hb)
                 (try clear hb2)
                 (try clear hk)
                 (try clear hi)
                 refine hK.out _ _ ⟨v126, v129, .slice Ao39 t131.length co39, (by rw [ha.out]; exact putSel_upk 10 hb_ rfl rfl rfl), (by (with_reducible repeat (first | refine blk_drewN ?_ _ | refine blk_drew ?_ | refine blk_alloc ?_ _)); exact BK124.out), fun h0_ => absurd ((up_self b 21).symm.trans h0_) (by decide), (by repeat (first | (with_reducible first | exact HK.out | apply KeepBut.set_ | apply keep_drewN | apply keep_drew | apply keep_alloc | refine keep_far ?_ GW124.out _) | exact HK.out)), (by repeat (first | (with_reducible first | exact HB.out | apply below_alloc | apply pw_below_drewN | apply below_drew1 | refine below_set ?_ (IsPub.ge HI0.out) | refine below_set ?_ GE124.out) | exact HB.out)), fun _ h5_ => absurd ((hon 5 (by kernel_rfl)).symm.trans h5_) (by decide), fun _ h5_ => absurd ((hon 5 (by kernel_rfl)).symm.trans h5_) (by decide), fun _ => (by (with_reducible repeat (first | apply Kd.R_alloc | apply Kd.R_drewN | apply Kd.R_drew)); exact HO133.out), fun _ => (by repeat (first | (with_reducible first | exact HI0.out | apply IsPub.alloc | apply IsPub.drewN | apply IsPub.drew | apply IsPub.set_0 | apply IsPub.set_1 | refine IsPub.far ?_ NB0_124.out _) | exact HI0.out))⟩
                exact steps_nil
               rintro b a w40 hall ⟨v126, v129, v132, ha, Q_BK124, Q_HI0, Q_HK, Q_HB, Q_HO127, Q_HO130, Q_HO133, Q_HI0_e21⟩
               clear BK124 HB HI0 HK
               have hb2_ := hall 2 (by kernel_rfl)
               have hb4_ := hall 4 (by kernel_rfl)
               have hb5_ := hall 5 (by kernel_rfl)
               have hb7_ := hall 7 (by kernel_rfl)
               have hb11_ := hall 11 (by kernel_rfl)
               have hb18_ := hall 18 (by kernel_rfl)
               have hb13_ := hall 13 (by kernel_rfl)
               have hb14_ := hall 14 (by kernel_rfl)
               have hb19_ := hall 19 (by kernel_rfl)
               have hb20_ := hall 20 (by kernel_rfl)
               have hb21_ := hall 21 (by kernel_rfl)
               subst ha
               simp only [putSel, hb2_, hb4_, hb5_, hb7_, hb11_, hb13_, hb14_, hb18_, hb19_, hb20_, hb21_, if_true, Act.put, List.setIfInBounds_toArray, List.set_cons_zero, List.set_cons_succ]
               have BK124 := Aside0.mk Q_BK124
               clear Q_BK124
               clear Q_HI0
               have HK := Aside0.mk Q_HK
               clear Q_HK
               have HB := Aside0.mk Q_HB
               clear Q_HB
               clear Q_HO127
               clear Q_HO130
               have HO133 := Aside0.mk (Q_HO133 hb5_)
               clear Q_HO133
               have HI0 := Aside0.mk (Q_HI0_e21 hb21_)
               clear Q_HI0_e21
               clear hall hb2_ hb4_ hb5_ hb7_ hb11_ hb13_ hb14_ hb18_ hb19_ hb20_ hb21_
               try go_wp2
               go_roundg k2
               case measure => have := HJ5.out; have := HK2.out; omega
               case rel => exact ⟨(wrap64 (x43_2 + 1)), (t136), (t137), (by first | rfl | (simp; done) | (simp [*]; done)), H', ⟨by have := HJ5.out; have := HK2.out; omega⟩, ⟨by repeat (first | (with_reducible first | exact HI0.out | apply IsPub.alloc | apply IsPub.drewN | apply IsPub.drew | apply IsPub.set_0 | apply IsPub.set_1 | refine IsPub.far ?_ NB0_124.out _) | exact HI0.out)⟩, ⟨by repeat (first | (with_reducible first | exact HK.out | apply KeepBut.set_ | apply keep_drewN | apply keep_drew | apply keep_alloc | refine keep_far ?_ GW124.out _) | exact HK.out)⟩, ⟨by repeat (first | (with_reducible first | exact HB.out | apply below_alloc | apply pw_below_drewN | apply below_drew1 | refine below_set ?_ (IsPub.ge HI0.out) | refine below_set ?_ GE124.out) | exact HB.out)⟩⟩
              ·rw [if_neg c24] at H
               exact absurd H (by simp)
             ·rw [if_neg c23] at H
              exact absurd H (by simp)
            ·rw [if_neg c20] at H
             exact absurd H (by simp)
           ·rw [if_neg c19] at H
            exact absurd H (by simp)
          ·rw [if_neg c18] at H
           exact absurd H (by simp)
         ·rw [if_neg c17] at H
          exact absurd H (by simp)
       ·rw [if_neg c13] at H
        have c13b0 : decide (x43_2 < (l3.length : Int)) = false := decide_eq_false c13
        clear c13
        simp only [Option.some.injEq, Prod.mk.injEq] at H
        obtain ⟨rfl, rfl⟩ := H
        go_wp2
        first | go_end0 | ((try simp only [Exit.inBlock, Exit.then]); refine bodyPost_ret (results_none rfl _ _ _) rfl ?_)
        exact ⟨by first | rfl | (simp [errW_none, errW_some] <;> rfl) | (simp [*, errW_none, errW_some] <;> rfl), by repeat (first | (with_reducible first | exact HI0.out | apply IsPub.alloc | apply IsPub.drewN | apply IsPub.drew | apply IsPub.set_0 | apply IsPub.set_1) | exact HI0.out), by repeat (first | (with_reducible first | exact HB.out | apply below_alloc | apply pw_below_drewN | apply below_drew1 | refine below_set ?_ (IsPub.ge HI0.out)) | exact HB.out), by repeat (first | (with_reducible first | exact HK.out | apply KeepBut.set_ | apply keep_drewN | apply keep_drew | apply keep_alloc) | exact HK.out)⟩

end Go.Proofs.Ythjannkegjflbaa.PFnExactShortestOrder
