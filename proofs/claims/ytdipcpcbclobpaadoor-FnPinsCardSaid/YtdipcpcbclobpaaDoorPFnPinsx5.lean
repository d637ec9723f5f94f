-- written by a program of this session: the kit's print, with outer functions of the session's own (wip/ext)
import Derived.Test.YtdipcpcbclobpaaDoorPFnPinsx0
namespace Go.Proofs.YtdipcpcbclobpaaDoor.PFnPins
open Go.RowKit Go.Proofs.YtdipcpcbclobpaaDoorW.PrintWords Go.Proofs.YtdipcpcbclobpaaDoorW.PrintLast Go.Proofs.YtdipcpcbclobpaaDoorW.PrintMore
attribute [local go_sem] max2_int min2_int max_two min_two max_three min_three max_four min_four   -- for this text's walks alone
set_option linter.unusedVariables false
set_option linter.unusedSimpArgs false

/-- A state of type 47 at block g of W; what its slices lead to came in by w0. -/
def IsS47 (w0 W : World) (g : Nat) (f0 : List Int) (f1 : Int) (f2 : Int) : Prop := ∃ A0 c0, W.heap[g]? = some (.cells #[.slice A0 f0.length c0, .int .i64 f1, .int .u64 f2] 47 (0, 0)) ∧ w0.heap.size ≤ g ∧ Kd.C (Kd.int .u8) w0 A0 f0.length f0
theorem IsS47.grown {w0 W : World} {g : Nat} {f0 : List Int} {f1 : Int} {f2 : Int} {W1 : World} {row : Option Nat} (h : IsS47 w0 W g f0 f1 f2) (hw : W.grownBy W1 row) (hne : some g ≠ row) : IsS47 w0 W1 g f0 f1 f2 := by
 obtain ⟨A0, c0, hb, hg, hr0⟩ := h
 exact ⟨A0, c0, blk_grown hb hw hne, hg, hr0⟩
theorem IsS47.own_neN {w0 W : World} {g : Nat} {f0 : List Int} {f1 : Int} {f2 : Int} {α : Type} {d : Kd α} {e : Nat} {base : Nat} {ok : Nat → Prop} {v : Value} {xs : List α} (h : IsS47 w0 W g f0 f1 f2) (ho : Kd.N d e W base ok v xs) (ht : e ≠ 47) : some g ≠ v.ownBlock := by
 obtain ⟨A0, c0, hb, hg, hr0⟩ := h
 exact Kd.N_ne ho hb ht
theorem IsS47.fresh {w0 W : World} {g : Nat} {f0 : List Int} {f1 : Int} {f2 : Int} (h : IsS47 w0 W g f0 f1 f2) : ∀ k, W.heap.size ≤ k → k ≠ g := by
 obtain ⟨A0, c0, hb, hg, hr0⟩ := h
 exact Kd.freshB hb
theorem IsS47.kept {w0 W : World} {g : Nat} {f0 : List Int} {f1 : Int} {f2 : Int} {W1 : World} {S : Nat → Prop} (h : IsS47 w0 W g f0 f1 f2) (hk : Kept W W1 S) (hne : ¬ S g) : IsS47 w0 W1 g f0 f1 f2 := by
 obtain ⟨A0, c0, hb, hg, hr0⟩ := h
 exact ⟨A0, c0, blk_kept hb hk hne, hg, hr0⟩
theorem IsS47.below {w0 W : World} {g : Nat} {f0 : List Int} {f1 : Int} {f2 : Int} {W1 : World} (h : IsS47 w0 W g f0 f1 f2) (hw : Below W.heap.size W W1) : IsS47 w0 W1 g f0 f1 f2 := h.grown (grown_of_below hw none) (by simp)
theorem IsS47.alloc {w0 W : World} {g : Nat} {f0 : List Int} {f1 : Int} {f2 : Int} (h : IsS47 w0 W g f0 f1 f2) (o : Obj) : IsS47 w0 (W.alloc o) g f0 f1 f2 := h.below (below_alloc (Below.refl _ _) o)
theorem IsS47.drewN {w0 W : World} {g : Nat} {f0 : List Int} {f1 : Int} {f2 : Int} (h : IsS47 w0 W g f0 f1 f2) (m : Nat) : IsS47 w0 (W.drewN m) g f0 f1 f2 := h
theorem IsS47.drew {w0 W : World} {g : Nat} {f0 : List Int} {f1 : Int} {f2 : Int} (h : IsS47 w0 W g f0 f1 f2) : IsS47 w0 W.drew g f0 f1 f2 := h
theorem IsS47.at_ {w0 W : World} {g : Nat} {f0 : List Int} {f1 : Int} {f2 : Int} {w' : World} {m : Nat} (hq : W.drewN m = w') (h : IsS47 w0 W g f0 f1 f2) : IsS47 w0 w' g f0 f1 f2 := by subst hq; exact IsS47.drewN h m
theorem IsS47.apart {w0 W : World} {g : Nat} {f0 : List Int} {f1 : Int} {f2 : Int} {α : Type} {d : Kd α} {e : Nat} {base : Nat} {ok : Nat → Prop} {v : Value} {xs : List α} (h : IsS47 w0 W g f0 f1 f2) (ho : d.R e W base ok v xs) (ht : ∀ q, q ∈ e :: d.E → q ≠ 47) : d.R e W base (fun k => ok k ∧ k ≠ g) v xs := by
 obtain ⟨A0, c0, hb, hg, hr0⟩ := h
 exact Kd.R_types ho hb ht
theorem IsS47.own_ne {w0 W : World} {g : Nat} {f0 : List Int} {f1 : Int} {f2 : Int} {α : Type} {d : Kd α} {e : Nat} {base : Nat} {ok : Nat → Prop} {v : Value} {xs : List α} (h : IsS47 w0 W g f0 f1 f2) (ho : d.R e W base ok v xs) (ht : e ≠ 47) : some g ≠ v.ownBlock := by
 obtain ⟨A0, c0, hb, hg, hr0⟩ := h
 exact Kd.R_ne ho hb ht
theorem IsS47.apartQ {w0 W : World} {g : Nat} {f0 : List Int} {f1 : Int} {f2 : Int} {α : Type} {d : Kd α} {e : Nat} {base : Nat} {ok : Nat → Prop} {v : Value} {xs : List α} (h : IsS47 w0 W g f0 f1 f2) (ho : d.Q e W base ok v xs) (ht : ∀ q, q ∈ e :: d.E → q ≠ 47) : d.Q e W base (fun k => ok k ∧ k ≠ g) v xs := by
 obtain ⟨A0, c0, hb, hg, hr0⟩ := h
 exact Kd.Q_types ho hb ht
theorem IsS47.own_neQ {w0 W : World} {g : Nat} {f0 : List Int} {f1 : Int} {f2 : Int} {α : Type} {d : Kd α} {e : Nat} {base : Nat} {ok : Nat → Prop} {v : Value} {xs : List α} (h : IsS47 w0 W g f0 f1 f2) (ho : d.Q e W base ok v xs) (ht : e ≠ 47) : some g ≠ v.ownBlock := by
 obtain ⟨A0, c0, hb, hg, hr0⟩ := h
 exact Kd.Q_ne ho hb ht
theorem IsS47.apartS {w0 W : World} {g : Nat} {f0 : List Int} {f1 : Int} {f2 : Int} {α : Type} {d : Kd α} {e : Nat} {base : Nat} {ok : Nat → Prop} {v : Value} {xs : List α} (h : IsS47 w0 W g f0 f1 f2) (ho : d.S e W base ok v xs) (ht : ∀ q, q ∈ e :: d.E → q ≠ 47) : d.S e W base (fun k => ok k ∧ k ≠ g) v xs := by
 obtain ⟨A0, c0, hb, hg, hr0⟩ := h
 exact Kd.S_types ho hb ht
theorem IsS47.own_neS {w0 W : World} {g : Nat} {f0 : List Int} {f1 : Int} {f2 : Int} {α : Type} {d : Kd α} {e : Nat} {base : Nat} {ok : Nat → Prop} {v : Value} {xs : List α} (h : IsS47 w0 W g f0 f1 f2) (ho : d.S e W base ok v xs) (ht : e ≠ 47) : some g ≠ v.ownBlock := by
 obtain ⟨A0, c0, hb, hg, hr0⟩ := h
 exact Kd.S_ne ho hb ht
theorem IsS47.lt {w0 W : World} {g : Nat} {f0 : List Int} {f1 : Int} {f2 : Int} (h : IsS47 w0 W g f0 f1 f2) : g < W.heap.size := by
 obtain ⟨A0, c0, hb, hg, hr0⟩ := h
 exact blk_lt hb
theorem IsS47.ge {w0 W : World} {g : Nat} {f0 : List Int} {f1 : Int} {f2 : Int} (h : IsS47 w0 W g f0 f1 f2) : w0.heap.size ≤ g := by
 obtain ⟨A0, c0, hb, hg, hr0⟩ := h
 exact hg
theorem IsS47.ne_blk {w0 W : World} {g : Nat} {f0 : List Int} {f1 : Int} {f2 : Int} {a : Nat} {cs : Array Value} {t : TypeId} {fr : Nat × Nat} (h : IsS47 w0 W g f0 f1 f2) (hb2 : W.heap[a]? = some (.cells cs t fr)) (ht : t ≠ 47) : g ≠ a := by
 obtain ⟨A0, c0, hb, hg, hr0⟩ := h
 rintro rfl
 rw [hb] at hb2
 injection hb2 with hb2
 injection hb2 with _ ht2
 exact ht ht2.symm
theorem IsS47.far {w0 W : World} {g : Nat} {f0 : List Int} {f1 : Int} {f2 : Int} {p : Addr} (h : IsS47 w0 W g f0 f1 f2) (hne : g ≠ p.block) (u : Value) : IsS47 w0 (W.setCell p u) g f0 f1 f2 := by
 obtain ⟨A0, c0, hb, hg, hr0⟩ := h
 exact ⟨A0, c0, blk_far hb hne u, hg, hr0⟩
theorem cellS47_0 {W : World} {g : Nat} {A0 : Option Addr} {c0 : Nat} {f0 : List Int} {f1 : Int} {f2 : Int} (h : W.heap[g]? = some (.cells #[.slice A0 f0.length c0, .int .i64 f1, .int .u64 f2] 47 (0, 0))) : W.cell? ⟨g, 0, none⟩ = some (.slice A0 f0.length c0) := (blk_cell h 0).trans rfl
theorem cellS47_1 {W : World} {g : Nat} {A0 : Option Addr} {c0 : Nat} {f0 : List Int} {f1 : Int} {f2 : Int} (h : W.heap[g]? = some (.cells #[.slice A0 f0.length c0, .int .i64 f1, .int .u64 f2] 47 (0, 0))) : W.cell? ⟨g, 1, none⟩ = some (.int .i64 f1) := (blk_cell h 1).trans rfl
theorem IsS47.set_1 {w0 W : World} {g : Nat} {f0 : List Int} {f1 : Int} {f2 : Int} (h : IsS47 w0 W g f0 f1 f2) (x : Int) : IsS47 w0 (W.setCell ⟨g, 1, none⟩ (.int .i64 x)) g f0 x f2 := by
 obtain ⟨A0, c0, hb, hg, hr0⟩ := h
 exact ⟨A0, c0, by simpa using blk_set hb 1 (.int .i64 x), hg, hr0⟩
theorem cellS47_2 {W : World} {g : Nat} {A0 : Option Addr} {c0 : Nat} {f0 : List Int} {f1 : Int} {f2 : Int} (h : W.heap[g]? = some (.cells #[.slice A0 f0.length c0, .int .i64 f1, .int .u64 f2] 47 (0, 0))) : W.cell? ⟨g, 2, none⟩ = some (.int .u64 f2) := (blk_cell h 2).trans rfl
theorem IsS47.set_2 {w0 W : World} {g : Nat} {f0 : List Int} {f1 : Int} {f2 : Int} (h : IsS47 w0 W g f0 f1 f2) (x : Int) : IsS47 w0 (W.setCell ⟨g, 2, none⟩ (.int .u64 x)) g f0 f1 x := by
 obtain ⟨A0, c0, hb, hg, hr0⟩ := h
 exact ⟨A0, c0, by simpa using blk_set hb 2 (.int .u64 x), hg, hr0⟩
theorem IsS47.new (w0 W : World) (A0 : Option Addr) (c0 : Nat) (f0 : List Int) (f1 : Int) (f2 : Int) (hB : Below w0.heap.size w0 W) (hr0 : Kd.C (Kd.int .u8) w0 A0 f0.length f0) : IsS47 w0 (W.alloc (.cells #[.slice A0 f0.length c0, .int .i64 f1, .int .u64 f2] 47)) W.heap.size f0 f1 f2 := ⟨A0, c0, by simpa using heap_alloc_new W _, hB.size, hr0⟩

/-! ### spec_l1Cur_next: function 60 -/
def spec_l1Cur_next.f (s0_0 : List Int) (s0_1 : Int) (s0_2 : Int) : Option (Int × Int × Int) := if s0_1 < (s0_0.length : Int) then (if 0 ≤ s0_1 then (if (wrap64 (s0_1 + 1)) ≤ (s0_0.length : Int) then (some (wrap64 (rd s0_0 s0_1), wrap64 (s0_1 + 1), IntKind.u64.wrap ((IntKind.u64.wrap ((IntKind.u64.wrap (s0_2 * 6364136223846793005)) + (IntKind.u64.wrap (wrap64 (rd s0_0 s0_1))))) + 1442695040888963407))) else (some (wrap64 (Go.bits .and .u64 ((IntKind.u64.wrap ((IntKind.u64.wrap ((IntKind.u64.wrap (s0_2 * 6364136223846793005)) + (IntKind.u64.wrap (wrap64 (rd s0_0 s0_1))))) + 1442695040888963407)) / 1099511627776) 255), wrap64 (s0_1 + 1), IntKind.u64.wrap ((IntKind.u64.wrap ((IntKind.u64.wrap (s0_2 * 6364136223846793005)) + (IntKind.u64.wrap (wrap64 (rd s0_0 s0_1))))) + 1442695040888963407)))) else (none)) else (if (wrap64 (s0_1 + 1)) ≤ (s0_0.length : Int) then (some (0, wrap64 (s0_1 + 1), IntKind.u64.wrap ((IntKind.u64.wrap (IntKind.u64.wrap (s0_2 * 6364136223846793005))) + 1442695040888963407))) else (some (wrap64 (Go.bits .and .u64 ((IntKind.u64.wrap ((IntKind.u64.wrap (IntKind.u64.wrap (s0_2 * 6364136223846793005))) + 1442695040888963407)) / 1099511627776) 255), wrap64 (s0_1 + 1), IntKind.u64.wrap ((IntKind.u64.wrap (IntKind.u64.wrap (s0_2 * 6364136223846793005))) + 1442695040888963407))))
set_option maxHeartbeats 8000000 in
set_option maxRecDepth 100000 in
theorem spec_l1Cur_next.calls (g : Nat) (s0_0 : List Int) (s0_1 : Int) (s0_2 : Int) (r1 : Int) (r2 : Int) (r3 : Int) (w0 w : World) (hI : IsS47 w0 w g s0_0 s0_1 s0_2) (hB : Below w0.heap.size w0 w) (h : spec_l1Cur_next.f s0_0 s0_1 s0_2 = some (r1, r2, r3)) :
  Calls Tryd.prog 60 #[.pointer (some ⟨g, 0, none⟩)] w fun e w' => e = .returned (.int .i64 r1) ∧ IsS47 w0 w' g s0_0 r2 r3 ∧ Below w0.heap.size w0 w' ∧ KeepBut w w' g none := by
 have HI0 := Aside0.mk hI
 have HK := Aside0.mk (KeepBut.refl w g none)
 have HL := Aside0.mk hB.size
 clear hI
 have HW0 := Aside0.mk hB.size
 have HB := Aside0.mk hB
 clear hB
 have H : (if s0_1 < (s0_0.length : Int) then (if 0 ≤ s0_1 then (if (wrap64 (s0_1 + 1)) ≤ (s0_0.length : Int) then (some (wrap64 (rd s0_0 s0_1), wrap64 (s0_1 + 1), IntKind.u64.wrap ((IntKind.u64.wrap ((IntKind.u64.wrap (s0_2 * 6364136223846793005)) + (IntKind.u64.wrap (wrap64 (rd s0_0 s0_1))))) + 1442695040888963407))) else (some (wrap64 (Go.bits .and .u64 ((IntKind.u64.wrap ((IntKind.u64.wrap ((IntKind.u64.wrap (s0_2 * 6364136223846793005)) + (IntKind.u64.wrap (wrap64 (rd s0_0 s0_1))))) + 1442695040888963407)) / 1099511627776) 255), wrap64 (s0_1 + 1), IntKind.u64.wrap ((IntKind.u64.wrap ((IntKind.u64.wrap (s0_2 * 6364136223846793005)) + (IntKind.u64.wrap (wrap64 (rd s0_0 s0_1))))) + 1442695040888963407)))) else (none)) else (if (wrap64 (s0_1 + 1)) ≤ (s0_0.length : Int) then (some (0, wrap64 (s0_1 + 1), IntKind.u64.wrap ((IntKind.u64.wrap (IntKind.u64.wrap (s0_2 * 6364136223846793005))) + 1442695040888963407))) else (some (wrap64 (Go.bits .and .u64 ((IntKind.u64.wrap ((IntKind.u64.wrap (IntKind.u64.wrap (s0_2 * 6364136223846793005))) + 1442695040888963407)) / 1099511627776) 255), wrap64 (s0_1 + 1), IntKind.u64.wrap ((IntKind.u64.wrap (IntKind.u64.wrap (s0_2 * 6364136223846793005))) + 1442695040888963407))))) = some (r1, r2, r3) := h
 clear h
 by_cases c2 : s0_1 < (s0_0.length : Int)
 ·rw [if_pos c2] at H
  have eN : decide (s0_1 < (s0_0.length : Int)) = true := decide_eq_true c2
  clear c2
  by_cases c3 : 0 ≤ s0_1
  ·rw [if_pos c3] at H
   have dE : decide (0 ≤ s0_1) = true := decide_eq_true c3
   clear c3
   by_cases c4 : (wrap64 (s0_1 + 1)) ≤ (s0_0.length : Int)
   ·rw [if_pos c4] at H
    have cy : decide ((wrap64 (s0_1 + 1)) ≤ (s0_0.length : Int)) = true := decide_eq_true c4
    clear c4
    simp only [Option.some.injEq, Prod.mk.injEq] at H
    obtain ⟨rfl, rfl, rfl⟩ := H
    obtain ⟨ASz5_0, cSz5_0, HGz5, hgz5, HSz5_0⟩ := HI0.out
    have hcz5_0 := cellS47_0 HGz5
    have hcz5_1 := cellS47_1 HGz5
    have hcz5_2 := cellS47_2 HGz5
    have hfz5_1 := blk_frozen HGz5 1
    have hfz5_2 := blk_frozen HGz5 2
    clear HGz5 hgz5
    have mC : 0 ≤ (s0_1 : Int) := of_decide_eq_true (Z12)
    have mD : s0_1 < (s0_0.length : Int) := of_decide_eq_true (Z12)
    obtain ⟨ad164, e164, fE⟩ := Kd.at_int HSz5_0 s0_1 mC mD
    cases e164
    replace fE := pw_cell_below HB.out fE
    replace mC := eq_true mC
    replace mD := eq_true mD
    go_enter Tryd.func60, Tryd.ntmps60
    go_wp2
    repeat (go_quiet (fail); try go_wp2)
    go_ret
    exact ⟨Z11, Z3 HI0, Z8, Z7⟩
   rw [if_neg c4] at H
   have cy : decide ((wrap64 (s0_1 + 1)) ≤ (s0_0.length : Int)) = false := decide_eq_false c4
   clear c4
   simp only [Option.some.injEq, Prod.mk.injEq] at H
   obtain ⟨rfl, rfl, rfl⟩ := H
   obtain ⟨ASz6_0, cSz6_0, HGz6, hgz6, HSz6_0⟩ := HI0.out
   have qk := cellS47_0 HGz6
   have ql := cellS47_1 HGz6
   have qm := cellS47_2 HGz6
   have qn := blk_frozen HGz6 1
   have qo := blk_frozen HGz6 2
   clear HGz6 hgz6
   have mC : 0 ≤ (s0_1 : Int) := of_decide_eq_true (Z12)
   have mD : s0_1 < (s0_0.length : Int) := of_decide_eq_true (Z12)
   obtain ⟨ad164, e164, fE⟩ := Kd.at_int HSz6_0 s0_1 mC mD
   cases e164
   replace fE := pw_cell_below HB.out fE
   replace mC := eq_true mC
   replace mD := eq_true mD
   go_enter Tryd.func60, Tryd.ntmps60
   go_wp2
   repeat (go_quiet (fail); try go_wp2)
   go_ret
   exact ⟨Z11, Z3 HI0, Z8, Z7⟩
  rw [if_neg c3] at H
  exact absurd H (by simp)
 rw [if_neg c2] at H
 have eN : decide (s0_1 < (s0_0.length : Int)) = false := decide_eq_false c2
 clear c2
 by_cases c7 : (wrap64 (s0_1 + 1)) ≤ (s0_0.length : Int)
 ·rw [if_pos c7] at H
  have dz : decide ((wrap64 (s0_1 + 1)) ≤ (s0_0.length : Int)) = true := decide_eq_true c7
  clear c7
  simp only [Option.some.injEq, Prod.mk.injEq] at H
  obtain ⟨rfl, rfl, rfl⟩ := H
  obtain ⟨ASz8_0, cSz8_0, HGz8, hgz8, HSz8_0⟩ := HI0.out
  have jt := cellS47_0 HGz8
  have ju := cellS47_1 HGz8
  have jv := cellS47_2 HGz8
  have jw := blk_frozen HGz8 1
  have jx := blk_frozen HGz8 2
  clear HGz8 hgz8
  go_enter Tryd.func60, Tryd.ntmps60
  go_wp2
  repeat (go_quiet (fail); try go_wp2)
  go_ret
  exact ⟨Z11, Z3 HI0, Z8, Z7⟩
 rw [if_neg c7] at H
 have dz : decide ((wrap64 (s0_1 + 1)) ≤ (s0_0.length : Int)) = false := decide_eq_false c7
 clear c7
 simp only [Option.some.injEq, Prod.mk.injEq] at H
 obtain ⟨rfl, rfl, rfl⟩ := H
 obtain ⟨ASz9_0, cSz9_0, HGz9, hgz9, HSz9_0⟩ := HI0.out
 have qb := cellS47_0 HGz9
 have qc := cellS47_1 HGz9
 have qd := cellS47_2 HGz9
 have qe := blk_frozen HGz9 1
 have qf := blk_frozen HGz9 2
 clear HGz9 hgz9
 go_enter Tryd.func60, Tryd.ntmps60
 go_wp2
 repeat (go_quiet (fail); try go_wp2)
 go_ret
 exact ⟨Z11, Z3 HI0, Z8, Z7⟩

/-! ### spec_l1Cur_pick: function 46 -/
def spec_l1Cur_pick.f (s0_0 : List Int) (s0_1 : Int) (s0_2 : Int) (a1 : Int) : Option (Int × Int × Int) := if a1 ≤ 1 then (some (0, s0_1, s0_2)) else ((spec_l1Cur_next.f s0_0 s0_1 s0_2).bind fun dT => (if a1 > 200 then ((spec_l1Cur_next.f s0_0 dT.2.1 dT.2.2).bind fun ij => (if a1 = 0 then (none) else (some (Int.tmod (wrap64 ((wrap64 (dT.1 * 256)) + ij.1)) a1, ij.2.1, ij.2.2)))) else (if a1 = 0 then (none) else (some (Int.tmod dT.1 a1, dT.2.1, dT.2.2)))))
set_option maxHeartbeats 8000000 in
set_option maxRecDepth 100000 in
theorem spec_l1Cur_pick.calls (g : Nat) (s0_0 : List Int) (s0_1 : Int) (s0_2 : Int) (a1 : Int) (r1 : Int) (r2 : Int) (r3 : Int) (w0 w : World) (hI : IsS47 w0 w g s0_0 s0_1 s0_2) (hB : Below w0.heap.size w0 w) (h : spec_l1Cur_pick.f s0_0 s0_1 s0_2 a1 = some (r1, r2, r3)) :
  Calls Tryd.prog 46 #[.pointer (some ⟨g, 0, none⟩), .int .i64 a1] w fun e w' => e = .returned (.int .i64 r1) ∧ IsS47 w0 w' g s0_0 r2 r3 ∧ Below w0.heap.size w0 w' ∧ KeepBut w w' g none := by
 have HI0 := Aside0.mk hI
 have HK := Aside0.mk (KeepBut.refl w g none)
 have HL := Aside0.mk hB.size
 clear hI
 have HW0 := Aside0.mk hB.size
 have HB := Aside0.mk hB
 clear hB
 have H : (if a1 ≤ 1 then (some (0, s0_1, s0_2)) else ((spec_l1Cur_next.f s0_0 s0_1 s0_2).bind fun dT => (if a1 > 200 then ((spec_l1Cur_next.f s0_0 dT.2.1 dT.2.2).bind fun ij => (if a1 = 0 then (none) else (some (Int.tmod (wrap64 ((wrap64 (dT.1 * 256)) + ij.1)) a1, ij.2.1, ij.2.2)))) else (if a1 = 0 then (none) else (some (Int.tmod dT.1 a1, dT.2.1, dT.2.2)))))) = some (r1, r2, r3) := h
 clear h
 by_cases c3 : a1 ≤ 1
 ·rw [if_pos c3] at H
  have dE : decide (a1 ≤ 1) = true := decide_eq_true c3
  clear c3
  simp only [Option.some.injEq, Prod.mk.injEq] at H
  obtain ⟨rfl, rfl, rfl⟩ := H
  go_enter Tryd.func46, Tryd.ntmps46
  go_wp2
  go_ret
  exact ⟨Z11, Z3 HI0, Z8, Z7⟩
 rw [if_neg c3] at H
 have dE : decide (a1 ≤ 1) = false := decide_eq_false c3
 clear c3
 replace H := Option.bind_eq_some_iff.mp H
 obtain ⟨⟨xu, u2, u4⟩, ff, H⟩ := H
 (try dsimp only at H)
 have A4 := Aside0.mk ff
 clear ff
 by_cases c5 : a1 > 200
 ·rw [if_pos c5] at H
  have e3 : decide (200 < a1) = true := decide_eq_true c5
  clear c5
  replace H := Option.bind_eq_some_iff.mp H
  obtain ⟨⟨t168, t169, t170⟩, gW, H⟩ := H
  (try dsimp only at H)
  have A6 := Aside0.mk gW
  clear gW
  by_cases c7 : a1 = 0
  ·rw [if_pos c7] at H
   exact absurd H (by simp)
  rw [if_neg c7] at H
  have dz : (a1 == 0) = false := beq_eq_false_iff_ne.mpr c7
  have oY : (a1 != 0) = true := bne_iff_ne.mpr c7
  simp only [Option.some.injEq, Prod.mk.injEq] at H
  obtain ⟨rfl, rfl, rfl⟩ := H
  go_enter Tryd.func46, Tryd.ntmps46
  go_wp2_with (first | ((with_reducible refine gate_callee (f := 60) rfl ?_); refine gl_ 9 Tryd.func60 #[.pointer (some ⟨g, 0, none⟩)] ?_; (with_reducible refine (spec_l1Cur_next.calls g s0_0 s0_1 s0_2 xu u2 u4 w0 _ ?_ ?_ A4.out).mono ?_); exact (Z3 HI0); exact Z8; rintro e w8 ⟨rfl, hi, hb, hk⟩; refine ⟨_, rfl, ?_⟩; refine k3_ (KeepBut.trans (Z7) hk (.inl rfl)) (hb) (hi) ?_; clear HK HB HI0; intro HK HB HI0; (try clear hb hk hi)) | ((with_reducible refine gate_callee (f := 60) rfl ?_); refine gl_ 15 Tryd.func60 #[.pointer (some ⟨g, 0, none⟩)] ?_; (with_reducible refine (spec_l1Cur_next.calls g s0_0 u2 u4 t168 t169 t170 w0 _ ?_ ?_ A6.out).mono ?_); exact (Z3 HI0); exact Z8; rintro e w9 ⟨rfl, hi, hb, hk⟩; refine ⟨_, rfl, ?_⟩; refine k3_ (KeepBut.trans (Z7) hk (.inl rfl)) (hb) (hi) ?_; clear HK HB HI0; intro HK HB HI0; (try clear hb hk hi)))
  go_ret
  exact ⟨Z11, Z3 HI0, Z8, Z7⟩
 rw [if_neg c5] at H
 have e3 : decide (200 < a1) = false := decide_eq_false c5
 clear c5
 by_cases c10 : a1 = 0
 ·rw [if_pos c10] at H
  exact absurd H (by simp)
 rw [if_neg c10] at H
 have fZ : (a1 == 0) = false := beq_eq_false_iff_ne.mpr c10
 have pC : (a1 != 0) = true := bne_iff_ne.mpr c10
 simp only [Option.some.injEq, Prod.mk.injEq] at H
 obtain ⟨rfl, rfl, rfl⟩ := H
 go_enter Tryd.func46, Tryd.ntmps46
 go_wp2_with (first | ((with_reducible refine gate_callee (f := 60) rfl ?_); refine gl_ 9 Tryd.func60 #[.pointer (some ⟨g, 0, none⟩)] ?_; (with_reducible refine (spec_l1Cur_next.calls g s0_0 s0_1 s0_2 xu u2 u4 w0 _ ?_ ?_ A4.out).mono ?_); exact (Z3 HI0); exact Z8; rintro e eV ⟨rfl, hi, hb, hk⟩; refine ⟨_, rfl, ?_⟩; refine k3_ (KeepBut.trans (Z7) hk (.inl rfl)) (hb) (hi) ?_; clear HK HB HI0; intro HK HB HI0; (try clear hb hk hi)))
 go_ret
 exact ⟨Z11, Z3 HI0, Z8, Z7⟩

/-! ### spec_l1Cur_one: function 45 -/
def spec_l1Cur_one.f (s0_0 : List Int) (s0_1 : Int) (s0_2 : Int) (a1 : Int) : Option (Bool × Int × Int) := (spec_l1Cur_pick.f s0_0 s0_1 s0_2 a1).bind fun ik => (some ((ik.1 == 0), ik.2.1, ik.2.2))
set_option maxHeartbeats 8000000 in
set_option maxRecDepth 100000 in
theorem spec_l1Cur_one.calls (g : Nat) (s0_0 : List Int) (s0_1 : Int) (s0_2 : Int) (a1 : Int) (r1 : Bool) (r2 : Int) (r3 : Int) (w0 w : World) (hI : IsS47 w0 w g s0_0 s0_1 s0_2) (hB : Below w0.heap.size w0 w) (h : spec_l1Cur_one.f s0_0 s0_1 s0_2 a1 = some (r1, r2, r3)) :
  Calls Tryd.prog 45 #[.pointer (some ⟨g, 0, none⟩), .int .i64 a1] w fun e w' => e = .returned (.bool r1) ∧ IsS47 w0 w' g s0_0 r2 r3 ∧ Below w0.heap.size w0 w' ∧ KeepBut w w' g none := by
 have HI0 := Aside0.mk hI
 have HK := Aside0.mk (KeepBut.refl w g none)
 have HL := Aside0.mk hB.size
 clear hI
 have HW0 := Aside0.mk hB.size
 have HB := Aside0.mk hB
 clear hB
 have H : ((spec_l1Cur_pick.f s0_0 s0_1 s0_2 a1).bind fun ik => (some ((ik.1 == 0), ik.2.1, ik.2.2))) = some (r1, r2, r3) := h
 clear h
 replace H := Option.bind_eq_some_iff.mp H
 obtain ⟨⟨t171, t172, t173⟩, dF, H⟩ := H
 (try dsimp only at H)
 have A3 := Aside0.mk dF
 clear dF
 simp only [Option.some.injEq, Prod.mk.injEq] at H
 obtain ⟨rfl, rfl, rfl⟩ := H
 go_enter Tryd.func45, Tryd.ntmps45
 go_wp2_with (first | ((with_reducible refine gate_callee (f := 46) rfl ?_); refine gl_ 7 Tryd.func46 #[.pointer (some ⟨g, 0, none⟩), .int .i64 a1] ?_; (with_reducible refine (spec_l1Cur_pick.calls g s0_0 s0_1 s0_2 a1 t171 t172 t173 w0 _ ?_ ?_ A3.out).mono ?_); exact (Z3 HI0); exact Z8; rintro e w4 ⟨rfl, hi, hb, hk⟩; refine ⟨_, rfl, ?_⟩; refine k3_ (KeepBut.trans (Z7) hk (.inl rfl)) (hb) (hi) ?_; clear HK HB HI0; intro HK HB HI0; (try clear hb hk hi)))
 go_ret
 exact ⟨Z11, Z3 HI0, Z8, Z7⟩

/-! ### spec_l1Cur_among: function 53 -/
def spec_l1Cur_among.f (s0_0 : List Int) (s0_1 : Int) (s0_2 : Int) (l1 : List Int) : Option (Int × Int × Int) := (spec_l1Cur_pick.f s0_0 s0_1 s0_2 (l1.length : Int)).bind fun ez => (if 0 ≤ ez.1 then (if ez.1 < (l1.length : Int) then (some (rd l1 ez.1, ez.2.1, ez.2.2)) else (none)) else (none))
set_option maxHeartbeats 8000000 in
set_option maxRecDepth 100000 in
theorem spec_l1Cur_among.calls (g : Nat) (s0_0 : List Int) (s0_1 : Int) (s0_2 : Int) (A1 : Option Addr) (c1 : Nat) (l1 : List Int) (r1 : Int) (r2 : Int) (r3 : Int) (w0 w : World) (hI : IsS47 w0 w g s0_0 s0_1 s0_2) (hB : Below w0.heap.size w0 w) (hr1 : Kd.C (Kd.int .i64) w A1 l1.length l1) (hc1 : l1.length ≤ c1) (hf1 : ∀ ad, A1 = some ad → 0 < l1.length → ad.block ≠ g) (h : spec_l1Cur_among.f s0_0 s0_1 s0_2 l1 = some (r1, r2, r3)) :
  Calls Tryd.prog 53 #[.pointer (some ⟨g, 0, none⟩), .slice A1 l1.length c1] w fun e w' => e = .returned (.int .i64 r1) ∧ IsS47 w0 w' g s0_0 r2 r3 ∧ Below w0.heap.size w0 w' ∧ KeepBut w w' g none := by
 have HR1 := Aside0.mk hr1
 have HC1 := Aside0.mk hc1
 clear hr1 hc1
 have HI0 := Aside0.mk hI
 have HK := Aside0.mk (KeepBut.refl w g none)
 have HL := Aside0.mk hB.size
 clear hI
 have HW0 := Aside0.mk hB.size
 have HB := Aside0.mk hB
 clear hB
 have H : ((spec_l1Cur_pick.f s0_0 s0_1 s0_2 (l1.length : Int)).bind fun ez => (if 0 ≤ ez.1 then (if ez.1 < (l1.length : Int) then (some (rd l1 ez.1, ez.2.1, ez.2.2)) else (none)) else (none))) = some (r1, r2, r3) := h
 clear h
 replace H := Option.bind_eq_some_iff.mp H
 obtain ⟨⟨lA, t175, t176⟩, dF, H⟩ := H
 (try dsimp only at H)
 have A3 := Aside0.mk dF
 clear dF
 by_cases c4 : 0 ≤ lA
 ·rw [if_pos c4] at H
  have cy : decide (0 ≤ lA) = true := decide_eq_true c4
  clear c4
  by_cases c5 : lA < (l1.length : Int)
  ·rw [if_pos c5] at H
   have e3 : decide (lA < (l1.length : Int)) = true := decide_eq_true c5
   clear c5
   simp only [Option.some.injEq, Prod.mk.injEq] at H
   obtain ⟨rfl, rfl, rfl⟩ := H
   go_enter Tryd.func53, Tryd.ntmps53
   go_wp2_with (first | ((with_reducible refine gate_callee (f := 46) rfl ?_); refine gl_ 9 Tryd.func46 #[.pointer (some ⟨g, 0, none⟩), .int .i64 (l1.length : Int)] ?_; (with_reducible refine (spec_l1Cur_pick.calls g s0_0 s0_1 s0_2 (l1.length : Int) lA t175 t176 w0 _ ?_ ?_ A3.out).mono ?_); exact (Z3 HI0); exact Z8; rintro e w6 ⟨rfl, hi, hb, hk⟩; refine ⟨_, rfl, ?_⟩; refine k3_ (KeepBut.trans (Z7) hk (.inl rfl)) (hb) (hi) ?_; clear HK HB HI0; intro HK HB HI0; (try clear hb hk hi); have u5 : 0 ≤ (lA : Int) := of_decide_eq_true (Z12); have u6 : lA < (l1.length : Int) := of_decide_eq_true (Z12); obtain ⟨ad177, e177, nK⟩ := Kd.at_int HR1.out lA u5 u6; cases e177; replace nK := keep_cell HK.out nK (by first | (rw [add_block]; exact hf1 _ rfl (by omega)) | exact hf1 _ rfl (by omega) | exact hf1 ad177 rfl (by omega)); replace u5 := eq_true u5; replace u6 := eq_true u6))
   go_ret
   exact ⟨Z11, Z3 HI0, Z8, Z7⟩
  rw [if_neg c5] at H
  exact absurd H (by simp)
 rw [if_neg c4] at H
 exact absurd H (by simp)

/-! ### spec_l1Cur_pin: function 52 -/
def spec_l1Cur_pin.f (s0_0 : List Int) (s0_1 : Int) (s0_2 : Int) : Option (Int × Int × Int × Int × Int) := (spec_l1Cur_pick.f s0_0 s0_1 s0_2 20).bind fun il => ((spec_l1Cur_among.f s0_0 il.2.1 il.2.2 (([0, 1, 1, 2, il.1] : List Int))).bind fun eA => ((spec_l1Cur_pick.f s0_0 eA.2.1 eA.2.2 360).bind fun eB => ((spec_l1Cur_among.f s0_0 eB.2.1 eB.2.2 (([0, 10, 90, 359, eB.1] : List Int))).bind fun cY => ((spec_l1Cur_pick.f s0_0 cY.2.1 cY.2.2 4).bind fun cZ => (some (eA.1, cY.1, cZ.1, cZ.2.1, cZ.2.2))))))
set_option maxHeartbeats 8000000 in
set_option maxRecDepth 100000 in
theorem spec_l1Cur_pin.calls (g : Nat) (s0_0 : List Int) (s0_1 : Int) (s0_2 : Int) (r1 : Int) (r2 : Int) (r3 : Int) (r4 : Int) (r5 : Int) (w0 w : World) (hI : IsS47 w0 w g s0_0 s0_1 s0_2) (hB : Below w0.heap.size w0 w) (h : spec_l1Cur_pin.f s0_0 s0_1 s0_2 = some (r1, r2, r3, r4, r5)) :
  Calls Tryd.prog 52 #[.pointer (some ⟨g, 0, none⟩)] w fun e w' => e = .returned (.agg #[.int .i64 r1, .int .i64 r2, .int .i64 r3]) ∧ IsS47 w0 w' g s0_0 r4 r5 ∧ Below w0.heap.size w0 w' ∧ KeepBut w w' g none := by
 have hu33 := Tryd.underlying33
 have HI0 := Aside0.mk hI
 have HK := Aside0.mk (KeepBut.refl w g none)
 have HL := Aside0.mk hB.size
 clear hI
 have HW0 := Aside0.mk hB.size
 have HB := Aside0.mk hB
 clear hB
 have H : ((spec_l1Cur_pick.f s0_0 s0_1 s0_2 20).bind fun il => ((spec_l1Cur_among.f s0_0 il.2.1 il.2.2 (([0, 1, 1, 2, il.1] : List Int))).bind fun eA => ((spec_l1Cur_pick.f s0_0 eA.2.1 eA.2.2 360).bind fun eB => ((spec_l1Cur_among.f s0_0 eB.2.1 eB.2.2 (([0, 10, 90, 359, eB.1] : List Int))).bind fun cY => ((spec_l1Cur_pick.f s0_0 cY.2.1 cY.2.2 4).bind fun cZ => (some (eA.1, cY.1, cZ.1, cZ.2.1, cZ.2.2))))))) = some (r1, r2, r3, r4, r5) := h
 clear h
 replace H := Option.bind_eq_some_iff.mp H
 obtain ⟨⟨oh, rB, rC⟩, cr, H⟩ := H
 (try dsimp only at H)
 have A2 := Aside0.mk cr
 clear cr
 obtain ⟨u9, lB⟩ : ∃ y_ : List Int, y_ = (([0, 1, 1, 2, oh] : List Int)) := ⟨_, rfl⟩
 replace H : ((spec_l1Cur_among.f s0_0 rB rC u9).bind fun eA => ((spec_l1Cur_pick.f s0_0 eA.2.1 eA.2.2 360).bind fun eB => ((spec_l1Cur_among.f s0_0 eB.2.1 eB.2.2 (([0, 10, 90, 359, eB.1] : List Int))).bind fun cY => ((spec_l1Cur_pick.f s0_0 cY.2.1 cY.2.2 4).bind fun cZ => (some (eA.1, cY.1, cZ.1, cZ.2.1, cZ.2.2)))))) = some (r1, r2, r3, r4, r5) := by first | (rw [lB]; with_reducible exact H) | (have H2_ := (Option.bind_some _ _).symm.trans H; rw [lB]; with_reducible exact H2_) | (have H2_ := (Option.bind_some _ _).symm.trans H; with_reducible exact H2_) | with_reducible exact H | (rw [lB]; exact H) | exact H
 have tA := Aside0.mk lB
 clear lB
 replace H := Option.bind_eq_some_iff.mp H
 obtain ⟨⟨qv, vk, vl⟩, dF, H⟩ := H
 (try dsimp only at H)
 have A3 := Aside0.mk dF
 clear dF
 replace H := Option.bind_eq_some_iff.mp H
 obtain ⟨⟨ol, qw, qx⟩, ff, H⟩ := H
 (try dsimp only at H)
 have A4 := Aside0.mk ff
 clear ff
 obtain ⟨vm, lC⟩ : ∃ y_ : List Int, y_ = (([0, 10, 90, 359, ol] : List Int)) := ⟨_, rfl⟩
 replace H : ((spec_l1Cur_among.f s0_0 qw qx vm).bind fun cY => ((spec_l1Cur_pick.f s0_0 cY.2.1 cY.2.2 4).bind fun cZ => (some (qv, cY.1, cZ.1, cZ.2.1, cZ.2.2)))) = some (r1, r2, r3, r4, r5) := by first | (rw [lC]; with_reducible exact H) | (have H2_ := (Option.bind_some _ _).symm.trans H; rw [lC]; with_reducible exact H2_) | (have H2_ := (Option.bind_some _ _).symm.trans H; with_reducible exact H2_) | with_reducible exact H | (rw [lC]; exact H) | exact H
 have tB := Aside0.mk lC
 clear lC
 replace H := Option.bind_eq_some_iff.mp H
 obtain ⟨⟨vn, rD, rE⟩, dG, H⟩ := H
 (try dsimp only at H)
 have A5 := Aside0.mk dG
 clear dG
 replace H := Option.bind_eq_some_iff.mp H
 obtain ⟨⟨xv, t198, t199⟩, gW, H⟩ := H
 (try dsimp only at H)
 have A6 := Aside0.mk gW
 clear gW
 simp only [Option.some.injEq, Prod.mk.injEq] at H
 obtain ⟨rfl, rfl, rfl, rfl, rfl⟩ := H
 go_enter Tryd.func52, Tryd.ntmps52
 go_wp2_with (first | ((with_reducible refine gate_dst (N := 2) rfl ?_); refine bv_ 2 33 #[.int .i64 0, .int .i64 0, .int .i64 0] ?_; intro eC hg w7 hbox hb; refine k8_ (IsS47.below (Z3 HI0) hb) (KeepBut.trans (Z7) (KeepBut.of_below hb g none) (.inl rfl)) (below_step (Z8) hb) (hbox) ((Z73 : w.heap.size ≤ eC)) ((Nat.le_trans HW0.out (Z73 : w.heap.size ≤ eC) : w0.heap.size ≤ eC)) ((by rw [hg]; exact Nat.ne_of_lt (IsS47.lt (show IsS47 w0 _ g s0_0 s0_1 s0_2 from Z3 HI0)) : g ≠ eC)) ((by rw [hg]; exact Nat.ne_of_gt (IsS47.lt (show IsS47 w0 _ g s0_0 s0_1 s0_2 from Z3 HI0)) : eC ≠ g)) ?_; clear HI0 HK HB; intro HI0 HK HB bT GW178 GE178 mS eM; clear hb hbox hg) | ((with_reducible refine gate_callee (f := 46) rfl ?_); refine gl_ 5 Tryd.func46 #[.pointer (some ⟨g, 0, none⟩), .int .i64 20] ?_; (with_reducible refine (spec_l1Cur_pick.calls g s0_0 s0_1 s0_2 20 oh rB rC w0 _ ?_ ?_ A2.out).mono ?_); exact Z25; exact Z41; rintro e w8 ⟨rfl, hi, hb, hk⟩; refine ⟨_, rfl, ?_⟩; refine k4_ (KeepBut.blk hk (g' := eC) (o := .cells #[.int .i64 0, .int .i64 0, .int .i64 0] 33 (0, 0)) (Z5 bT) eM.out (by simp)) (KeepBut.trans (Z35) hk (.inl rfl)) (hb) (hi) ?_; clear bT HK HB HI0; intro bT HK HB HI0; (try clear hb hk hi)) | ((with_reducible refine gate_dst (N := 6) rfl ?_); refine Kd.R_lit (Kd.int .i64) _ 3 ?hg (N := 6) ?hd (xs := ([0, 1, 1, 2, oh] : List Int)) (inner := [.int .i64 0, .int .i64 1, .int .i64 1, .int .i64 2, .int .i64 oh]) (ok := fun _ => True) (okp := fun _ => True) ?hr ?hp (fun _ hk => hk) trivial (Below.refl _ _) (Nat.le_refl _) (by simp) ?_; (case hd => rfl); (case hg => rfl); (case hr => exact Z34); (case hp => exact (Reps.one (show Kd.M (Kd.int .i64) _ _ _ 0 [.int .i64 0] from rfl) (Reps.one (show Kd.M (Kd.int .i64) _ _ _ 1 [.int .i64 1] from rfl) (Reps.one (show Kd.M (Kd.int .i64) _ _ _ 1 [.int .i64 1] from rfl) (Reps.one (show Kd.M (Kd.int .i64) _ _ _ 2 [.int .i64 2] from rfl) (Reps.one (show Kd.M (Kd.int .i64) _ _ _ oh [.int .i64 oh] from rfl) (Reps.none _ _))))))); intro v183 w9 ho10 hb hg_ hnew_; clear hg_ hnew_; (first | rw [← tA.out] at ho10 | (simp only [Int.reduceToNat] at ho10; rw [← tA.out] at ho10)); refine k5_ (Kd.R_lower ho10 (keep_size (w := w) (g := g) (row := none) (Z35))) (IsS47.below (Z25) hb) (Ye_ bT) (KeepBut.trans (Z35) (KeepBut.of_below hb g none) (.inl rfl)) (below_step (Z41) hb) ?_; clear HI0 bT HK HB; intro b6 HI0 bT HK HB; clear hb ho10; obtain ⟨xw, vo, om⟩ := Kd.R_slice b6.out; subst om) | ((with_reducible refine gate_callee (f := 53) rfl ?_); refine gl_ 7 Tryd.func53 #[.pointer (some ⟨g, 0, none⟩), .slice xw u9.length vo] ?_; (with_reducible refine (spec_l1Cur_among.calls g s0_0 rB rC _ _ u9 qv vk vl w0 _ ?_ ?_ ?_ ?_ ?_ A3.out).mono ?_); exact Z25; exact Z41; exact (Z4 b6); exact (Kd.R_reads' b6.out).2.1; exact far_slice (IsS47.own_ne HI0.out b6.out (by decide)); rintro e oU ⟨rfl, hi, hb, hk⟩; refine ⟨_, rfl, ?_⟩; refine k5_ (KeepBut.blk hk (g' := eC) (o := .cells #[.int .i64 0, .int .i64 0, .int .i64 0] 33 (0, 0)) (Z5 bT) eM.out (by simp)) (Kd.R_mono (Kd.R_keep (IsS47.apart (show IsS47 w0 _ g s0_0 rB rC from Z25) (Z2 b6) (by decide)) hk (fun _ h => h.2)) (fun _ h => h.1)) (KeepBut.trans (Z35) hk (.inl rfl)) (hb) (hi) ?_; clear bT b6 HK HB HI0; intro bT b6 HK HB HI0; (try clear hb hk hi)) | ((with_reducible refine gate_callee (f := 46) rfl ?_); refine gl_ 10 Tryd.func46 #[.pointer (some ⟨g, 0, none⟩), .int .i64 360] ?_; (with_reducible refine (spec_l1Cur_pick.calls g s0_0 vk vl 360 ol qw qx w0 _ ?_ ?_ A4.out).mono ?_); exact Z25; exact Z41; rintro e fS ⟨rfl, hi, hb, hk⟩; refine ⟨_, rfl, ?_⟩; refine k5_ (KeepBut.blk hk (g' := eC) (o := .cells #[.int .i64 0, .int .i64 0, .int .i64 0] 33 (0, 0)) (Z5 bT) eM.out (by simp)) (Kd.R_mono (Kd.R_keep (IsS47.apart (show IsS47 w0 _ g s0_0 vk vl from Z25) (Z2 b6) (by decide)) hk (fun _ h => h.2)) (fun _ h => h.1)) (KeepBut.trans (Z35) hk (.inl rfl)) (hb) (hi) ?_; clear bT b6 HK HB HI0; intro bT b6 HK HB HI0; (try clear hb hk hi)) | ((with_reducible refine gate_dst (N := 11) rfl ?_); refine Kd.R_lit (Kd.int .i64) _ 3 ?hg (N := 11) ?hd (xs := ([0, 10, 90, 359, ol] : List Int)) (inner := [.int .i64 0, .int .i64 10, .int .i64 90, .int .i64 359, .int .i64 ol]) (ok := fun _ => True) (okp := fun _ => True) ?hr ?hp (fun _ hk => hk) trivial (Below.refl _ _) (Nat.le_refl _) (by simp) ?_; (case hd => rfl); (case hg => rfl); (case hr => exact Z34); (case hp => exact (Reps.one (show Kd.M (Kd.int .i64) _ _ _ 0 [.int .i64 0] from rfl) (Reps.one (show Kd.M (Kd.int .i64) _ _ _ 10 [.int .i64 10] from rfl) (Reps.one (show Kd.M (Kd.int .i64) _ _ _ 90 [.int .i64 90] from rfl) (Reps.one (show Kd.M (Kd.int .i64) _ _ _ 359 [.int .i64 359] from rfl) (Reps.one (show Kd.M (Kd.int .i64) _ _ _ ol [.int .i64 ol] from rfl) (Reps.none _ _))))))); intro v192 vY ho15 hb hg_ hnew_; clear hg_ hnew_; (first | rw [← tB.out] at ho15 | (simp only [Int.reduceToNat] at ho15; rw [← tB.out] at ho15)); refine k6_ (Kd.R_elder' (Z2 b6) (Kd.R_base ho15) hb) (Kd.R_lower (Kd.R_new' ho15 (Yd_ b6)) (keep_size (w := w) (g := g) (row := none) (Z35))) (IsS47.below (Z25) hb) (Ye_ bT) (KeepBut.trans (Z35) (KeepBut.of_below hb g none) (.inl rfl)) (below_step (Z41) hb) ?_; clear b6 HI0 bT HK HB; intro b6 eX HI0 bT HK HB; clear hb ho15; obtain ⟨mo, g2, mq⟩ := Kd.R_slice eX.out; subst mq) | ((with_reducible refine gate_callee (f := 53) rfl ?_); refine gl_ 12 Tryd.func53 #[.pointer (some ⟨g, 0, none⟩), .slice mo vm.length g2] ?_; (with_reducible refine (spec_l1Cur_among.calls g s0_0 qw qx _ _ vm vn rD rE w0 _ ?_ ?_ ?_ ?_ ?_ A5.out).mono ?_); exact Z25; exact Z41; exact (Z4 eX); exact (Kd.R_reads' eX.out).2.1; exact far_slice (IsS47.own_ne HI0.out eX.out (by decide)); rintro e mh ⟨rfl, hi, hb, hk⟩; refine ⟨_, rfl, ?_⟩; refine k6_ (KeepBut.blk hk (g' := eC) (o := .cells #[.int .i64 0, .int .i64 0, .int .i64 0] 33 (0, 0)) (Z5 bT) eM.out (by simp)) (Kd.R_mono (Kd.R_keep (IsS47.apart (show IsS47 w0 _ g s0_0 qw qx from Z25) (Z2 b6) (by decide)) hk (fun _ h => h.2)) (fun _ h => h.1)) (Kd.R_mono (Kd.R_keep (IsS47.apart (show IsS47 w0 _ g s0_0 qw qx from Z25) (Z2 eX) (by decide)) hk (fun _ h => h.2)) (fun _ h => h.1)) (KeepBut.trans (Z35) hk (.inl rfl)) (hb) (hi) ?_; clear bT b6 eX HK HB HI0; intro bT b6 eX HK HB HI0; (try clear hb hk hi)) | ((with_reducible refine gate_callee (f := 46) rfl ?_); refine gl_ 14 Tryd.func46 #[.pointer (some ⟨g, 0, none⟩), .int .i64 4] ?_; (with_reducible refine (spec_l1Cur_pick.calls g s0_0 rD rE 4 xv t198 t199 w0 _ ?_ ?_ A6.out).mono ?_); exact Z25; exact Z41; rintro e yf ⟨rfl, hi, hb, hk⟩; refine ⟨_, rfl, ?_⟩; refine k6_ (KeepBut.blk hk (g' := eC) (o := .cells #[.int .i64 0, .int .i64 0, .int .i64 0] 33 (0, 0)) (Z5 bT) eM.out (by simp)) (Kd.R_mono (Kd.R_keep (IsS47.apart (show IsS47 w0 _ g s0_0 rD rE from Z25) (Z2 b6) (by decide)) hk (fun _ h => h.2)) (fun _ h => h.1)) (Kd.R_mono (Kd.R_keep (IsS47.apart (show IsS47 w0 _ g s0_0 rD rE from Z25) (Z2 eX) (by decide)) hk (fun _ h => h.2)) (fun _ h => h.1)) (KeepBut.trans (Z35) hk (.inl rfl)) (hb) (hi) ?_; clear bT b6 eX HK HB HI0; intro bT b6 eX HK HB HI0; (try clear hb hk hi); have hnb19 := eM.out; have hnc19 := mS.out; obtain ⟨gA, gB, gC, gD, gE, gF⟩ := bx3_ (w := yf) bT.out))
 refine bodyPost_ret (results_cell_row rfl _ _ eC 33 #[.int .i64 qv, .int .i64 vn, .int .i64 xv] (0, 0) _ rfl (by (with_reducible repeat (first | refine blk_drewN ?_ _ | refine blk_drew ?_ | refine blk_alloc ?_ _)); refine blk_put (cs := #[.int .i64 qv, .int .i64 vn, .int .i64 0]) ?_ 2 _ rfl; (with_reducible repeat (first | refine blk_drewN ?_ _ | refine blk_drew ?_ | refine blk_alloc ?_ _)); refine blk_put (cs := #[.int .i64 qv, .int .i64 0, .int .i64 0]) ?_ 1 _ rfl; (with_reducible repeat (first | refine blk_drewN ?_ _ | refine blk_drew ?_ | refine blk_alloc ?_ _)); refine blk_put (cs := #[.int .i64 0, .int .i64 0, .int .i64 0]) ?_ 0 _ rfl; (with_reducible repeat (first | refine blk_drewN ?_ _ | refine blk_drew ?_ | refine blk_alloc ?_ _)); exact bT.out) Tryd.underlying33 rfl (by kernel_rfl)) rfl ?_
 exact ⟨Z11, Z25, Z41, Z35⟩

end Go.Proofs.YtdipcpcbclobpaaDoor.PFnPins
