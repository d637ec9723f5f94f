-- written by a program of this session: the kit's print, with outer functions of the session's own (wip/ext)
import Derived.Test.YtdipcpcbclobpaaDoorPFnPinsx0
import Derived.Test.YtdipcpcbclobpaaDoorPFnPinsx2
import Derived.Test.YtdipcpcbclobpaaDoorPFnPinsx4
import Derived.Test.YtdipcpcbclobpaaDoorPFnPinsx7
import Derived.Test.YtdipcpcbclobpaaDoorPFnPinsx8
namespace Go.Proofs.YtdipcpcbclobpaaDoor.PFnPins
open Go.RowKit Go.Proofs.YtdipcpcbclobpaaDoorW.PrintWords Go.Proofs.YtdipcpcbclobpaaDoorW.PrintLast Go.Proofs.YtdipcpcbclobpaaDoorW.PrintMore
attribute [local go_sem] max2_int min2_int max_two min_two max_three min_three max_four min_four   -- for this text's walks alone
set_option linter.unusedVariables false
set_option linter.unusedSimpArgs false
theorem mo9_ {p : Prop} (h : p := by repeat' first | (with_reducible first | apply ih0 | apply ih0 | apply impl_ArePins.mono | apply impl_ArePins.mono | apply impl_pinsOf.mono | apply impl_pinsOf.mono | apply impl_turnTune.mono | apply impl_turnTune.mono | apply spec_cySorted.mono | apply spec_cySorted.mono | exact LeO.refl _ | exact LeO.none _ | refine LeO.ite ?_ ?_ | refine LeO.bind ?_ (fun _ => ?_)) | exact LeO.none _ | refine LeO.ite ?_ ?_ | refine LeO.bind ?_ (fun _ => ?_)) : p := h

/-! ### impl_pinsOf_1: function 59 -/
def impl_pinsOf_1.f (a0 : Int) (a1 : Int) (l2 : List (S33)) : Option (Bool) := if 0 ≤ a0 then (if a0 < (l2.length : Int) then (if 0 ≤ a1 then (if a1 < (l2.length : Int) then ((impl_pinLess.f ((rd_T33 l2 a0).f0) ((rd_T33 l2 a0).f1) ((rd_T33 l2 a0).f2) ((rd_T33 l2 a1).f0) ((rd_T33 l2 a1).f1) ((rd_T33 l2 a1).f2)).bind fun oz => (some oz)) else (none)) else (none)) else (none)) else (none)
def impl_pinsOf_1.T1 : Bool × List (List Nat × List Nat) := (true, [([], []), ([], []), ([0, 1], [0, 1]), ([2], [2]), ([], []), ([], []), ([4, 5], [4, 5]), ([6], [6]), ([3, 7], [3, 7]), ([8, 8, 0, 1, 2, 3, 4, 5, 6, 7, 8], [8])])
def impl_pinsOf_1.B1 : List Nat := [0, 0, 3, 7, 0, 0, 48, 112, 255, 511]
theorem impl_pinsOf_1.tab1 : rtab .any (opsOf Tryd.f59 1) = impl_pinsOf_1.T1 := by kernel_rfl
theorem impl_pinsOf_1.bits1 : waitsOk impl_pinsOf_1.T1.2 impl_pinsOf_1.B1 = true := by kernel_rfl
set_option maxHeartbeats 8000000 in
set_option maxRecDepth 100000 in
theorem impl_pinsOf_1.calls (a0 : Int) (a1 : Int) (p2 : Nat) (A2 : Option Addr) (c2 : Nat) (l2 : List (S33)) (r : Bool) (w : World) (hr2 : Kd.C k33 w A2 l2.length l2) (hc2 : l2.length ≤ c2) (hb2 : w.heap[p2]? = some (.cells #[.slice A2 l2.length c2] 24 (0, 0))) (h : impl_pinsOf_1.f a0 a1 l2 = some r) :
  Calls Tryd.prog 59 #[.int .i64 a0, .int .i64 a1, .pointer (some ⟨p2, 0, none⟩)] w fun e w' => e = .returned (.bool r) ∧ Below w.heap.size w w' := by
 have hu24 := Tryd.underlying24
 have hu33 := Tryd.underlying33
 have HR2 := Aside0.mk hr2
 have HC2 := Aside0.mk hc2
 clear hr2 hc2
 have HB := Aside0.mk (Below.refl w.heap.size w)
 have fK := Aside0.mk hb2
 clear hb2
 have H : (if 0 ≤ a0 then (if a0 < (l2.length : Int) then (if 0 ≤ a1 then (if a1 < (l2.length : Int) then ((impl_pinLess.f ((rd_T33 l2 a0).f0) ((rd_T33 l2 a0).f1) ((rd_T33 l2 a0).f2) ((rd_T33 l2 a1).f0) ((rd_T33 l2 a1).f1) ((rd_T33 l2 a1).f2)).bind fun oz => (some oz)) else (none)) else (none)) else (none)) else (none)) = some r := h
 clear h
 by_cases c4 : 0 ≤ a0
 ·rw [if_pos c4] at H
  have cy : decide (0 ≤ a0) = true := decide_eq_true c4
  clear c4
  by_cases c5 : a0 < (l2.length : Int)
  ·rw [if_pos c5] at H
   have e3 : decide (a0 < (l2.length : Int)) = true := decide_eq_true c5
   clear c5
   by_cases c6 : 0 ≤ a1
   ·rw [if_pos c6] at H
    have en : decide (0 ≤ a1) = true := decide_eq_true c6
    clear c6
    by_cases c7 : a1 < (l2.length : Int)
    ·rw [if_pos c7] at H
     have dz : decide (a1 < (l2.length : Int)) = true := decide_eq_true c7
     clear c7
     replace H := Option.bind_eq_some_iff.mp H
     obtain ⟨oz, oS, H⟩ := H
     replace H : (some oz) = some r := H
     have A8 := Aside0.mk oS
     clear oS
     obtain rfl := Option.some.inj H
     go_enter Tryd.func59, Tryd.ntmps59
     try go_wp2
     refine k2_ (blk_drew fK.out) (below_drew1 HB.out) ?_
     clear fK HB
     intro fK HB
     have vN : 0 ≤ (a0 : Int) := of_decide_eq_true (Z12)
     have vO : a0 < (l2.length : Int) := of_decide_eq_true (Z12)
     obtain ⟨el, e335, fL, fM, fN⟩ := at_T33 HR2.out a0 vN vO
     have hw335_2 := fN
     have hw335_1 := fM
     have hw335_0 := fL
     cases e335
     replace fL := (HB.out.cell (World.block_lt_of_cell? w _ fL)).trans fL
     replace fM := (HB.out.cell (World.block_lt_of_cell? w _ fM)).trans fM
     replace fN := (HB.out.cell (World.block_lt_of_cell? w _ fN)).trans fN
     replace vN := eq_true vN
     replace vO := eq_true vO
     have vP : 0 ≤ (a1 : Int) := of_decide_eq_true (Z12)
     have vQ : a1 < (l2.length : Int) := of_decide_eq_true (Z12)
     obtain ⟨ad336, e336, fO, fP, fQ⟩ := at_T33 HR2.out a1 vP vQ
     have hw336_2 := fQ
     have hw336_1 := fP
     have hw336_0 := fO
     obtain rfl : el = ad336 := (by injection e336)
     replace fO := (HB.out.cell (World.block_lt_of_cell? w _ fO)).trans fO
     replace fP := (HB.out.cell (World.block_lt_of_cell? w _ fP)).trans fP
     replace fQ := (HB.out.cell (World.block_lt_of_cell? w _ fQ)).trans fQ
     replace vP := eq_true vP
     replace vQ := eq_true vQ
     refine start_ (n := 10) (S := fun w' => w'.cell? ⟨p2, 0, none⟩ = some (.slice (some el) l2.length c2) ∧ w'.cell? (el.add ((a0).toNat * 3)) = some (.int .i64 ((rd_T33 l2 a0).f0)) ∧ w'.cell? ⟨(el.add ((a0).toNat * 3)).block, (el.add ((a0).toNat * 3)).off + 1, none⟩ = some (.int .i64 ((rd_T33 l2 a0).f1)) ∧ w'.cell? ⟨(el.add ((a0).toNat * 3)).block, (el.add ((a0).toNat * 3)).off + 2, none⟩ = some (.int .i64 ((rd_T33 l2 a0).f2)) ∧ w'.cell? (el.add ((a1).toNat * 3)) = some (.int .i64 ((rd_T33 l2 a1).f0)) ∧ w'.cell? ⟨(el.add ((a1).toNat * 3)).block, (el.add ((a1).toNat * 3)).off + 1, none⟩ = some (.int .i64 ((rd_T33 l2 a1).f1)) ∧ w'.cell? ⟨(el.add ((a1).toNat * 3)).block, (el.add ((a1).toNat * 3)).off + 2, none⟩ = some (.int .i64 ((rd_T33 l2 a1).f2))) (ds := []) (M_ 0 10) (by kernel_rfl) rfl rfl ⟨(blk_cell fK.out 0).trans rfl, ((HB.out.cell (World.block_lt_of_cell? w _ hw335_0)).trans hw335_0), ((HB.out.cell (World.block_lt_of_cell? w _ hw335_1)).trans hw335_1), ((HB.out.cell (World.block_lt_of_cell? w _ hw335_2)).trans hw335_2), ((HB.out.cell (World.block_lt_of_cell? w _ hw336_0)).trans hw336_0), ((HB.out.cell (World.block_lt_of_cell? w _ hw336_1)).trans hw336_1), ((HB.out.cell (World.block_lt_of_cell? w _ hw336_2)).trans hw336_2)⟩ (fun hHeld => ?_); refine with_tabW impl_pinsOf_1.tab1 impl_pinsOf_1.bits1 (fun HT_ HW_ => ?_)
     generalize w.drew = w9 at fK HB fL fM fN fO fP fQ hHeld ⊢
     refine pu_ 1 7 (N_ 10 2) ?_
     refine pu_ 5 11 (N_ 10 34) ?_
     refine tk7_ 0 6 (N_ 10 35) hHeld ?_
     refine pu_ 2 8 (N_ 10 39) ?_
     refine tk7_ 3 9 (N_ 10 47) hHeld ?_
     refine tk7_ 4 10 (M_ 6 4) hHeld ?_
     refine pu_ 6 12 (M_ 7 3) ?_
     refine tk7_ 7 13 (M_ 8 2) hHeld ?_
     refine one_ (i := 8) (N := some 14) (M_ 9 1) rfl rfl (one_of HT_.out (by kernel_rfl)) (by decide) (fun K hK => ?_)
     refine goes_ Tryd.func40 (by kernel_rfl) rfl #[.agg #[.int .i64 ((rd_T33 l2 a0).f0), .int .i64 ((rd_T33 l2 a0).f1), .int .i64 ((rd_T33 l2 a0).f2)], .agg #[.int .i64 ((rd_T33 l2 a1).f0), .int .i64 ((rd_T33 l2 a1).f1), .int .i64 ((rd_T33 l2 a1).f2)]] (by rfl) rfl rfl (Z27) ?_
     with_reducible refine (impl_pinLess.calls ((rd_T33 l2 a0).f0) ((rd_T33 l2 a0).f1) ((rd_T33 l2 a0).f2) ((rd_T33 l2 a1).f0) ((rd_T33 l2 a1).f1) ((rd_T33 l2 a1).f2) oz _ A8.out).mono ?_
     rintro e jE ⟨rfl, hb⟩
     refine ⟨_, rfl, ?_⟩
     have n0_ := Aside0.mk (Ye_ fK)
     have n1_ := Aside0.mk (below_step (Z105) hb)
     clear fK
     clear HB
     have fK := n0_
     have HB := n1_
     clear n0_ n1_
     (try clear hb)
     (try clear hb2)
     (try clear hk)
     (try clear hi)
     refine hK.out _ _ ⟨(blk_cell fK.out 0).trans rfl, ((HB.out.cell (World.block_lt_of_cell? w _ hw335_0)).trans hw335_0), ((HB.out.cell (World.block_lt_of_cell? w _ hw335_1)).trans hw335_1), ((HB.out.cell (World.block_lt_of_cell? w _ hw335_2)).trans hw335_2), ((HB.out.cell (World.block_lt_of_cell? w _ hw336_0)).trans hw336_0), ((HB.out.cell (World.block_lt_of_cell? w _ hw336_1)).trans hw336_1), ((HB.out.cell (World.block_lt_of_cell? w _ hw336_2)).trans hw336_2)⟩ (fun hHeld => ?_)
     clear hK K
     refine norm_ (a' := ?_) ?_ ?_
     rotate_left
     ·show Act.put _ (some 14) _ = _
      simp only [Act.put, List.setIfInBounds_toArray, List.set_cons_zero, List.set_cons_succ, i64_w, i32_w]
      rfl
     refine pu_ 9 5 (M_ 10 0) ?_
     refine done_ (done_of HT_.out (by kernel_rfl)) ?_
     try go_wp2
     go_ret
     exact ⟨Z11, Z105⟩
    rw [if_neg c7] at H
    exact absurd H (by simp)
   rw [if_neg c6] at H
   exact absurd H (by simp)
  rw [if_neg c5] at H
  exact absurd H (by simp)
 rw [if_neg c4] at H
 exact absurd H (by simp)

/-- A state of type 33 at block g of W; what its slices lead to came in by w0. -/
def IsS33 (w0 W : World) (g : Nat) (f0 : Int) (f1 : Int) (f2 : Int) : Prop := W.heap[g]? = some (.cells #[.int .i64 f0, .int .i64 f1, .int .i64 f2] 33 (0, 0)) ∧ w0.heap.size ≤ g
theorem IsS33.grown {w0 W : World} {g : Nat} {f0 : Int} {f1 : Int} {f2 : Int} {W1 : World} {row : Option Nat} (h : IsS33 w0 W g f0 f1 f2) (hw : W.grownBy W1 row) (hne : some g ≠ row) : IsS33 w0 W1 g f0 f1 f2 := by
 obtain ⟨hb, hg⟩ := h
 exact ⟨blk_grown hb hw hne, hg⟩
theorem IsS33.own_neN {w0 W : World} {g : Nat} {f0 : Int} {f1 : Int} {f2 : Int} {α : Type} {d : Kd α} {e : Nat} {base : Nat} {ok : Nat → Prop} {v : Value} {xs : List α} (h : IsS33 w0 W g f0 f1 f2) (ho : Kd.N d e W base ok v xs) (ht : e ≠ 33) : some g ≠ v.ownBlock := by
 obtain ⟨hb, hg⟩ := h
 exact Kd.N_ne ho hb ht
theorem IsS33.fresh {w0 W : World} {g : Nat} {f0 : Int} {f1 : Int} {f2 : Int} (h : IsS33 w0 W g f0 f1 f2) : ∀ k, W.heap.size ≤ k → k ≠ g := by
 obtain ⟨hb, hg⟩ := h
 exact Kd.freshB hb
theorem IsS33.kept {w0 W : World} {g : Nat} {f0 : Int} {f1 : Int} {f2 : Int} {W1 : World} {S : Nat → Prop} (h : IsS33 w0 W g f0 f1 f2) (hk : Kept W W1 S) (hne : ¬ S g) : IsS33 w0 W1 g f0 f1 f2 := by
 obtain ⟨hb, hg⟩ := h
 exact ⟨blk_kept hb hk hne, hg⟩
theorem IsS33.below {w0 W : World} {g : Nat} {f0 : Int} {f1 : Int} {f2 : Int} {W1 : World} (h : IsS33 w0 W g f0 f1 f2) (hw : Below W.heap.size W W1) : IsS33 w0 W1 g f0 f1 f2 := h.grown (grown_of_below hw none) (by simp)
theorem IsS33.alloc {w0 W : World} {g : Nat} {f0 : Int} {f1 : Int} {f2 : Int} (h : IsS33 w0 W g f0 f1 f2) (o : Obj) : IsS33 w0 (W.alloc o) g f0 f1 f2 := h.below (below_alloc (Below.refl _ _) o)
theorem IsS33.drewN {w0 W : World} {g : Nat} {f0 : Int} {f1 : Int} {f2 : Int} (h : IsS33 w0 W g f0 f1 f2) (m : Nat) : IsS33 w0 (W.drewN m) g f0 f1 f2 := h
theorem IsS33.drew {w0 W : World} {g : Nat} {f0 : Int} {f1 : Int} {f2 : Int} (h : IsS33 w0 W g f0 f1 f2) : IsS33 w0 W.drew g f0 f1 f2 := h
theorem IsS33.at_ {w0 W : World} {g : Nat} {f0 : Int} {f1 : Int} {f2 : Int} {w' : World} {m : Nat} (hq : W.drewN m = w') (h : IsS33 w0 W g f0 f1 f2) : IsS33 w0 w' g f0 f1 f2 := by subst hq; exact IsS33.drewN h m
theorem IsS33.apart {w0 W : World} {g : Nat} {f0 : Int} {f1 : Int} {f2 : Int} {α : Type} {d : Kd α} {e : Nat} {base : Nat} {ok : Nat → Prop} {v : Value} {xs : List α} (h : IsS33 w0 W g f0 f1 f2) (ho : d.R e W base ok v xs) (ht : ∀ q, q ∈ e :: d.E → q ≠ 33) : d.R e W base (fun k => ok k ∧ k ≠ g) v xs := by
 obtain ⟨hb, hg⟩ := h
 exact Kd.R_types ho hb ht
theorem IsS33.own_ne {w0 W : World} {g : Nat} {f0 : Int} {f1 : Int} {f2 : Int} {α : Type} {d : Kd α} {e : Nat} {base : Nat} {ok : Nat → Prop} {v : Value} {xs : List α} (h : IsS33 w0 W g f0 f1 f2) (ho : d.R e W base ok v xs) (ht : e ≠ 33) : some g ≠ v.ownBlock := by
 obtain ⟨hb, hg⟩ := h
 exact Kd.R_ne ho hb ht
theorem IsS33.apartQ {w0 W : World} {g : Nat} {f0 : Int} {f1 : Int} {f2 : Int} {α : Type} {d : Kd α} {e : Nat} {base : Nat} {ok : Nat → Prop} {v : Value} {xs : List α} (h : IsS33 w0 W g f0 f1 f2) (ho : d.Q e W base ok v xs) (ht : ∀ q, q ∈ e :: d.E → q ≠ 33) : d.Q e W base (fun k => ok k ∧ k ≠ g) v xs := by
 obtain ⟨hb, hg⟩ := h
 exact Kd.Q_types ho hb ht
theorem IsS33.own_neQ {w0 W : World} {g : Nat} {f0 : Int} {f1 : Int} {f2 : Int} {α : Type} {d : Kd α} {e : Nat} {base : Nat} {ok : Nat → Prop} {v : Value} {xs : List α} (h : IsS33 w0 W g f0 f1 f2) (ho : d.Q e W base ok v xs) (ht : e ≠ 33) : some g ≠ v.ownBlock := by
 obtain ⟨hb, hg⟩ := h
 exact Kd.Q_ne ho hb ht
theorem IsS33.apartS {w0 W : World} {g : Nat} {f0 : Int} {f1 : Int} {f2 : Int} {α : Type} {d : Kd α} {e : Nat} {base : Nat} {ok : Nat → Prop} {v : Value} {xs : List α} (h : IsS33 w0 W g f0 f1 f2) (ho : d.S e W base ok v xs) (ht : ∀ q, q ∈ e :: d.E → q ≠ 33) : d.S e W base (fun k => ok k ∧ k ≠ g) v xs := by
 obtain ⟨hb, hg⟩ := h
 exact Kd.S_types ho hb ht
theorem IsS33.own_neS {w0 W : World} {g : Nat} {f0 : Int} {f1 : Int} {f2 : Int} {α : Type} {d : Kd α} {e : Nat} {base : Nat} {ok : Nat → Prop} {v : Value} {xs : List α} (h : IsS33 w0 W g f0 f1 f2) (ho : d.S e W base ok v xs) (ht : e ≠ 33) : some g ≠ v.ownBlock := by
 obtain ⟨hb, hg⟩ := h
 exact Kd.S_ne ho hb ht
theorem IsS33.lt {w0 W : World} {g : Nat} {f0 : Int} {f1 : Int} {f2 : Int} (h : IsS33 w0 W g f0 f1 f2) : g < W.heap.size := by
 obtain ⟨hb, hg⟩ := h
 exact blk_lt hb
theorem IsS33.ge {w0 W : World} {g : Nat} {f0 : Int} {f1 : Int} {f2 : Int} (h : IsS33 w0 W g f0 f1 f2) : w0.heap.size ≤ g := by
 obtain ⟨hb, hg⟩ := h
 exact hg
theorem IsS33.ne_blk {w0 W : World} {g : Nat} {f0 : Int} {f1 : Int} {f2 : Int} {a : Nat} {cs : Array Value} {t : TypeId} {fr : Nat × Nat} (h : IsS33 w0 W g f0 f1 f2) (hb2 : W.heap[a]? = some (.cells cs t fr)) (ht : t ≠ 33) : g ≠ a := by
 obtain ⟨hb, hg⟩ := h
 rintro rfl
 rw [hb] at hb2
 injection hb2 with hb2
 injection hb2 with _ ht2
 exact ht ht2.symm
theorem IsS33.far {w0 W : World} {g : Nat} {f0 : Int} {f1 : Int} {f2 : Int} {p : Addr} (h : IsS33 w0 W g f0 f1 f2) (hne : g ≠ p.block) (u : Value) : IsS33 w0 (W.setCell p u) g f0 f1 f2 := by
 obtain ⟨hb, hg⟩ := h
 exact ⟨blk_far hb hne u, hg⟩
theorem cellS33_0 {W : World} {g : Nat} {f0 : Int} {f1 : Int} {f2 : Int} (h : W.heap[g]? = some (.cells #[.int .i64 f0, .int .i64 f1, .int .i64 f2] 33 (0, 0))) : W.cell? ⟨g, 0, none⟩ = some (.int .i64 f0) := (blk_cell h 0).trans rfl
theorem IsS33.set_0 {w0 W : World} {g : Nat} {f0 : Int} {f1 : Int} {f2 : Int} (h : IsS33 w0 W g f0 f1 f2) (x : Int) : IsS33 w0 (W.setCell ⟨g, 0, none⟩ (.int .i64 x)) g x f1 f2 := by
 obtain ⟨hb, hg⟩ := h
 exact ⟨by simpa using blk_set hb 0 (.int .i64 x), hg⟩
theorem cellS33_1 {W : World} {g : Nat} {f0 : Int} {f1 : Int} {f2 : Int} (h : W.heap[g]? = some (.cells #[.int .i64 f0, .int .i64 f1, .int .i64 f2] 33 (0, 0))) : W.cell? ⟨g, 1, none⟩ = some (.int .i64 f1) := (blk_cell h 1).trans rfl
theorem IsS33.set_1 {w0 W : World} {g : Nat} {f0 : Int} {f1 : Int} {f2 : Int} (h : IsS33 w0 W g f0 f1 f2) (x : Int) : IsS33 w0 (W.setCell ⟨g, 1, none⟩ (.int .i64 x)) g f0 x f2 := by
 obtain ⟨hb, hg⟩ := h
 exact ⟨by simpa using blk_set hb 1 (.int .i64 x), hg⟩
theorem cellS33_2 {W : World} {g : Nat} {f0 : Int} {f1 : Int} {f2 : Int} (h : W.heap[g]? = some (.cells #[.int .i64 f0, .int .i64 f1, .int .i64 f2] 33 (0, 0))) : W.cell? ⟨g, 2, none⟩ = some (.int .i64 f2) := (blk_cell h 2).trans rfl
theorem IsS33.set_2 {w0 W : World} {g : Nat} {f0 : Int} {f1 : Int} {f2 : Int} (h : IsS33 w0 W g f0 f1 f2) (x : Int) : IsS33 w0 (W.setCell ⟨g, 2, none⟩ (.int .i64 x)) g f0 f1 x := by
 obtain ⟨hb, hg⟩ := h
 exact ⟨by simpa using blk_set hb 2 (.int .i64 x), hg⟩
theorem IsS33.new (w0 W : World) (f0 : Int) (f1 : Int) (f2 : Int) (hB : Below w0.heap.size w0 W) : IsS33 w0 (W.alloc (.cells #[.int .i64 f0, .int .i64 f1, .int .i64 f2] 33)) W.heap.size f0 f1 f2 := ⟨by simpa using heap_alloc_new W _, hB.size⟩
/-! ### impl_pinsOf: function 43: by this session -/
instance impl_pinsOf_inh : Inhabited S33 := ⟨z33⟩
def impl_pinLt (a b : S33) : Bool := decide (a.f2 < b.f2 ∨ (a.f2 = b.f2 ∧ (a.f1 < b.f1 ∨ (a.f1 = b.f1 ∧ a.f0 < b.f0))))
theorem impl_pinLt.swo : Go.Sort.SWO impl_pinLt := by
 constructor
 ·intro x; unfold impl_pinLt; exact decide_eq_false (by omega)
 ·intro x y z h1 h2; unfold impl_pinLt at *; have := of_decide_eq_true h1; have := of_decide_eq_true h2; exact decide_eq_true (by omega)
 intro x y z h1 h2; unfold impl_pinLt at *; have := of_decide_eq_false h1; have := of_decide_eq_false h2; exact decide_eq_false (by omega)
/-- The row in order, where two that come before neither of them are the same. -/
def impl_sortPins.f (l : List S33) : Option (List S33) := if l.length ≤ 8796093022208 ∧ ∀ a ∈ l, ∀ b ∈ l, impl_pinLt a b = false → impl_pinLt b a = false → a.f0 = b.f0 ∧ a.f1 = b.f1 ∧ a.f2 = b.f2 then some (l.mergeSort (fun a b => !impl_pinLt b a)) else none
theorem impl_sortPins.uniq {l r ys : List S33} (h : impl_sortPins.f l = some r) (hp : ys.Perm l) (hs : ys.Pairwise (fun a b => impl_pinLt b a = false)) : ys = r := by
 unfold impl_sortPins.f at h
 split at h
 ·rename_i hc
  obtain rfl := Option.some.inj h
  have hO := impl_pinLt.swo
  have hm := List.mergeSort_perm l (fun a b => !impl_pinLt b a)
  have hq : (l.mergeSort (fun a b => !impl_pinLt b a)).Pairwise (fun a b => impl_pinLt b a = false) := by
   have := List.pairwise_mergeSort (le := fun a b => !impl_pinLt b a) (by
    intro a b c h1 h2
    simp only [Bool.not_eq_true'] at *
    exact hO.ntrans c b a h2 h1) (by
    intro a b
    simp only [Bool.or_eq_true, Bool.not_eq_true']
    by_cases h : impl_pinLt b a = true
    ·right
     cases h2 : impl_pinLt a b with
     | false => rfl
     | true => have := hO.trans a b a h2 h; rw [hO.irrefl] at this; cases this
    left; exact Bool.eq_false_iff.2 h) l
   exact this.imp (fun h => by simpa using h)
  refine order_unique (fun a b => impl_pinLt b a = false) ys _ (hp.trans hm.symm) hs hq (fun a ha b hb h1 h2 => ?_)
  have := hc.2 a (hp.mem_iff.1 ha) b (hp.mem_iff.1 hb) h2 h1
  obtain ⟨a0, a1, a2⟩ := a
  obtain ⟨b0, b1, b2⟩ := b
  simp only at this
  obtain ⟨rfl, rfl, rfl⟩ := this
  rfl
 cases h
theorem impl_sortPins.short {l r : List S33} (h : impl_sortPins.f l = some r) : l.length < 1152921504606846976 := by
 unfold impl_sortPins.f at h
 split at h
 ·omega
 cases h
theorem impl_pinsOf_1.lt (i j : Nat) (l : List S33) (hi : i < l.length) (hj : j < l.length) : impl_pinsOf_1.f i j l = some (impl_pinLt l[i]! l[j]!) := by
 have e1 : rd_T33 l (i : Int) = l[i]! := by unfold rd_T33; rw [Int.toNat_natCast, List.getD_eq_getElem?_getD, List.getElem?_eq_getElem hi, getElem!_pos l i hi]; rfl
 have e2 : rd_T33 l (j : Int) = l[j]! := by unfold rd_T33; rw [Int.toNat_natCast, List.getD_eq_getElem?_getD, List.getElem?_eq_getElem hj, getElem!_pos l j hj]; rfl
 unfold impl_pinsOf_1.f
 rw [if_pos (by omega), if_pos (by omega), if_pos (by omega), if_pos (by omega), e1, e2]
 unfold impl_pinLess.f impl_pinLt
 repeat' split
 all_goals (simp only [Option.bind_some, Option.some.injEq, decide_eq_decide]; omega)
noncomputable def impl_pinsOf.ie : TypeInfo := (Tryd.prog.info? 33).get (by kernel_rfl)
noncomputable def impl_pinsOf.it : TypeInfo := (Tryd.prog.info? 24).get (by kernel_rfl)
set_option maxHeartbeats 2000000 in
/-- sort.SliceStable with this closure, at a row of the call's own that a boxed variable holds. -/
theorem impl_pinsOf.sorts (xs zs : List S33) (A : Option Addr) (c : Nat) (gb base : Nat) (W : World) (hz : impl_sortPins.f xs = some zs) (hR : Kd.R k33 33 W base (fun k_ => k_ ≠ gb) (.slice A xs.length c) xs)
  (hbx : W.heap[gb]? = some (.cells #[.slice A xs.length c] 24 (0, 0))) :
  Calls Tryd.prog 58 #[.iface 24 (.slice A xs.length c), .func (.func 59) #[] #[.pointer (some ⟨gb, 0, none⟩)]] W fun e' w' => e' = .returned (.tuple #[]) ∧
   xs.length = zs.length ∧ Kd.R k33 33 w' base (fun k_ => k_ ≠ gb) (.slice A zs.length c) zs ∧ w'.heap[gb]? = some (.cells #[.slice A zs.length c] 24 (0, 0)) ∧ W.grownBy w' (Value.ownBlock (.slice A xs.length c)) := by
 have hgb : gb < W.heap.size := (Array.getElem?_eq_some_iff.1 hbx).1
 have hne : some gb ≠ Value.ownBlock (.slice A xs.length c) := fun e => hR.1 gb e.symm rfl
 have hK : ∀ n, Lib.swapperK n impl_pinsOf.ie 25 = if n = 0 then 1 else if n = 1 then 2 else 9 := by
  intro n
  have a : impl_pinsOf.ie.hasPointers = false := by kernel_rfl
  have b : impl_pinsOf.ie.bytes = 24 := by kernel_rfl
  rcases Nat.lt_or_ge n 2 with h | h
  ·rcases Nat.eq_zero_or_pos n with h0 | h0
   ·subst h0; simp [Lib.swapperK]
   obtain rfl : n = 1 := by omega
   simp [Lib.swapperK]
  have c : (n == 0) = false := by simp; omega
  have d : (n == 1) = false := by simp; omega
  rw [if_neg (by omega), if_neg (by omega)]
  simp [Lib.swapperK, a, b, c, d]
 have hf : ∀ n, Tryd.prog.funcs.findIdx? (·.name == "internal/reflectlite" ++ ".Swapper$" ++ toString (Lib.swapperK n impl_pinsOf.ie 25)) = some (if n = 0 then 71 else if n = 1 then 72 else 79) := by
  intro n
  rw [hK]
  by_cases h0 : n = 0
  ·rw [if_pos h0, if_pos h0]; kernel_rfl
  rw [if_neg h0, if_neg h0]
  by_cases h1 : n = 1
  ·rw [if_pos h1, if_pos h1]; kernel_rfl
  rw [if_neg h1, if_neg h1]; kernel_rfl
 refine (sort_rows Tryd.laysGt8 24 33 impl_pinsOf.it impl_pinsOf.ie (by kernel_rfl) (by kernel_rfl) (by kernel_rfl) (by kernel_rfl) 25 (fun _ => by kernel_rfl) k33 (fun x => [.int .i64 x.f0, .int .i64 x.f1, .int .i64 x.f2]) (fun w base ok x cs => by show k33.M w base ok x cs ↔ _; exact ⟨k33_openM, fun h => h ▸ k33_mkM _ _ _ _⟩) (fun _ => rfl) (by kernel_rfl) (fun _ => by kernel_rfl) impl_pinLt impl_pinLt.swo 59 #[.pointer (some ⟨gb, 0, none⟩)]
  (enters_of Tryd.func59 (by kernel_rfl) rfl) false _ hf (fun n h2 args W => by
   rw [if_neg (by omega), if_neg (by omega)]
   exact run_callFunc_extern Tryd.func79 (by kernel_rfl) (by kernel_rfl) (by kernel_rfl) (e := Extern.ReflectliteSwapper.swap false) (by kernel_rfl) args W) A c xs base (fun k_ => k_ ≠ gb) W (impl_sortPins.short hz) hR ?_).mono ?_
 ·intro W' ys hl hC hg i j hi hj
  have hb' : W'.heap[gb]? = some (.cells #[.slice A ys.length c] 24 (0, 0)) := by rw [hg.block gb hgb hne, hbx, hl]
  have hc : xs.length ≤ c := (Kd.R_reads' hR).2.1
  have := impl_pinsOf_1.calls i j gb A c ys (impl_pinLt ys[i]! ys[j]!) W' (by rw [hl]; exact hC) (by omega) hb' (impl_pinsOf_1.lt i j ys (by omega) (by omega))
  exact this.mono fun e w h => ⟨h.1, h.2⟩
 rintro e' w' ⟨he, ys, hp, hs, ho, hg⟩
 obtain rfl := impl_sortPins.uniq hz hp hs
 have hl := hp.length_eq
 rw [← hl] at ho
 exact ⟨he, hl.symm, ho, by rw [hg.block gb hgb hne, hbx, hl], hg⟩
def impl_pinsOf.f (k : Nat) (l0 : List (S33)) : Option ((List (S33)) × Bool) := (slices_Clone_Pin.f l0).bind fun eQ => ((impl_sortPins.f eQ).bind fun eR => ((impl_ArePins.f k eR).bind fun iB => (if iB = true then (some (eR, true)) else (some (([] : List (S33)), false)))))
theorem impl_pinsOf.mono : ∀ a0 k, LeO (impl_pinsOf.f k a0) (impl_pinsOf.f (k + 1) a0) := by
 intro a0 k
 unfold impl_pinsOf.f
 exact mo9_
set_option maxHeartbeats 8000000 in
set_option maxRecDepth 100000 in
theorem impl_pinsOf.calls (k : Nat) (A0 : Option Addr) (c0 : Nat) (l0 : List (S33)) (r1 : List (S33)) (r2 : Bool) (w : World) (hr0 : Kd.C k33 w A0 l0.length l0) (hc0 : l0.length ≤ c0) (h : impl_pinsOf.f k l0 = some (r1, r2)) :
  Calls Tryd.prog 43 #[.slice A0 l0.length c0] w fun e w' => ∃ v0_ : Value, e = .returned (.tuple #[v0_, .bool r2]) ∧ Kd.R k33 33 w' w.heap.size (fun _ => True) v0_ r1 ∧ Below w.heap.size w w' := by
 have HR0 := Aside0.mk hr0
 have HC0 := Aside0.mk hc0
 clear hr0 hc0
 have HB := Aside0.mk (Below.refl w.heap.size w)
 have H : ((slices_Clone_Pin.f l0).bind fun eQ => ((impl_sortPins.f eQ).bind fun eR => ((impl_ArePins.f k eR).bind fun iB => (if iB = true then (some (eR, true)) else (some (([] : List (S33)), false)))))) = some (r1, r2) := h
 clear h
 replace H := Option.bind_eq_some_iff.mp H
 obtain ⟨eQ, cr, H⟩ := H
 (try dsimp only at H)
 have A2 := Aside0.mk cr
 clear cr
 replace H := Option.bind_eq_some_iff.mp H
 obtain ⟨eR, dF, H⟩ := H
 (try dsimp only at H)
 have A3 := Aside0.mk dF
 clear dF
 replace H := Option.bind_eq_some_iff.mp H
 obtain ⟨iB, ff, H⟩ := H
 (try dsimp only at H)
 have A4 := Aside0.mk ff
 clear ff
 by_cases c5 : iB = true
 ·subst c5
  rw [if_pos rfl] at H
  simp only [Option.some.injEq, Prod.mk.injEq] at H
  obtain ⟨rfl, rfl⟩ := H
  go_enter Tryd.func43, Tryd.ntmps43
  go_wp2_with (first | ((with_reducible refine gate_callee (f := 42) rfl ?_); refine gl_ 6 Tryd.func42 #[.slice A0 l0.length c0] ?_; (with_reducible refine (slices_Clone_Pin.calls _ _ l0 eQ _ ?_ ?_ A2.out).mono ?_); exact (Z17 HR0); exact HC0.out; rintro e w6 ⟨v344, rfl, ho0, hb⟩; refine ⟨_, rfl, ?_⟩; refine k2_ (Kd.R_lower ho0 (below_size (Z1))) (below_step (Z1) hb) ?_; clear HB; intro dh HB; (try clear hb ho0); obtain ⟨eq, bX, yy⟩ := Kd.R_slice dh.out; subst yy) | ((with_reducible refine gate_dst (N := 4) rfl ?_); refine bv_ 4 24 #[.slice none 0 0] ?_; intro gbS hg wS hbox hb; refine k4_ (Kd.R_mono (Kd.R_below (Kd.R_elderB (Z2 dh) gbS (Nat.le_of_eq hg.symm)) hb) (ok' := fun k_ => k_ ≠ gbS) (fun _ hk => hk.2)) (below_step (Z1) hb) hbox ((Z23 : w.heap.size ≤ gbS)) ?_; clear dh HB; intro dh HB BKS GES; clear hb hbox hg; have hcS : wS.cell? ⟨gbS, 0, none⟩ = some (.slice none 0 0) := (blk_cell BKS.out 0).trans rfl; have hfS := blk_frozen BKS.out 0) | ((with_reducible refine gate_callee (f := 58) rfl ?_); refine goesL_ (some 10) rfl rfl Tryd.func58 (by kernel_rfl) rfl #[.iface 24 (.slice eq eQ.length bX), .func (.func 59) #[] #[.pointer (some ⟨gbS, 0, none⟩)]] rfl (Z100) ?_; refine (impl_pinsOf.sorts eQ eR eq bX gbS w.heap.size (wS.setCell ⟨gbS, 0, none⟩ (.slice eq eQ.length bX)) A3.out (Kd.R_far (p := ⟨gbS, 0, none⟩) dh.out (fun _ hk => hk) (.slice eq eQ.length bX)) (blk_put (cs := #[.slice none 0 0]) BKS.out 0 (.slice eq eQ.length bX) rfl)).mono ?_; rintro e wT ⟨rfl, hln, ho, hbx, hg⟩; refine ⟨_, rfl, ?_⟩; have n1_ := Aside0.mk ((below_set HB.out GES.out).grown hg (by first | exact below_size (below_set HB.out GES.out) | exact (below_set HB.out GES.out).size) (fun k_ hk_ => Kd.R_base dh.out k_ hk_)); clear dh HB BKS hcS hfS hg; have em := Aside0.mk ho; have HB := n1_; have BKS := Aside0.mk hbx; clear ho hbx n1_; have hcS : wT.cell? ⟨gbS, 0, none⟩ = some (.slice eq eR.length bX) := (blk_cell BKS.out 0).trans rfl; rw [hln]) | ((with_reducible refine gate_callee (f := 13) rfl ?_); refine gl_ 12 Tryd.func13 #[.slice eq eR.length bX] ?_; (with_reducible refine (impl_ArePins.calls k _ _ eR true _ ?_ ?_ A4.out).mono ?_); exact (Z4 em); exact (Kd.R_reads' em.out).2.1; rintro e jE ⟨rfl, hb⟩; refine ⟨_, rfl, ?_⟩; have n0_ := Aside0.mk (blk_below (g := gbS) BKS.out hb); have n1_ := Aside0.mk (Ya_ em); have n2_ := Aside0.mk (below_step (Z1) hb); clear em; clear HB; clear BKS hcS; have BKS := n0_; have hcS : jE.cell? ⟨gbS, 0, none⟩ = some (.slice eq eR.length bX) := (blk_cell BKS.out 0).trans rfl; have em := n1_; have HB := n2_; clear n0_ n1_ n2_; (try clear hb)))
  go_ret2
  exact ⟨_, Z11, Z26 em, Z1⟩
 replace c5 := Bool.eq_false_iff.mpr c5
 subst c5
 rw [if_neg (show ¬ (false = true) by decide)] at H
 simp only [Option.some.injEq, Prod.mk.injEq] at H
 obtain ⟨rfl, rfl⟩ := H
 go_enter Tryd.func43, Tryd.ntmps43
 go_wp2_with (first | ((with_reducible refine gate_callee (f := 42) rfl ?_); refine gl_ 6 Tryd.func42 #[.slice A0 l0.length c0] ?_; (with_reducible refine (slices_Clone_Pin.calls _ _ l0 eQ _ ?_ ?_ A2.out).mono ?_); exact (Z17 HR0); exact HC0.out; rintro e eV ⟨v344, rfl, ho0, hb⟩; refine ⟨_, rfl, ?_⟩; refine k2_ (Kd.R_lower ho0 (below_size (Z1))) (below_step (Z1) hb) ?_; clear HB; intro dh HB; (try clear hb ho0); obtain ⟨gl, gm, pB⟩ := Kd.R_slice dh.out; subst pB) | ((with_reducible refine gate_dst (N := 4) rfl ?_); refine bv_ 4 24 #[.slice none 0 0] ?_; intro gbS hg wS hbox hb; refine k4_ (Kd.R_mono (Kd.R_below (Kd.R_elderB (Z2 dh) gbS (Nat.le_of_eq hg.symm)) hb) (ok' := fun k_ => k_ ≠ gbS) (fun _ hk => hk.2)) (below_step (Z1) hb) hbox ((Z23 : w.heap.size ≤ gbS)) ?_; clear dh HB; intro dh HB BKS GES; clear hb hbox hg; have hcS : wS.cell? ⟨gbS, 0, none⟩ = some (.slice none 0 0) := (blk_cell BKS.out 0).trans rfl; have hfS := blk_frozen BKS.out 0) | ((with_reducible refine gate_callee (f := 58) rfl ?_); refine goesL_ (some 10) rfl rfl Tryd.func58 (by kernel_rfl) rfl #[.iface 24 (.slice gl eQ.length gm), .func (.func 59) #[] #[.pointer (some ⟨gbS, 0, none⟩)]] rfl (Z100) ?_; refine (impl_pinsOf.sorts eQ eR gl gm gbS w.heap.size (wS.setCell ⟨gbS, 0, none⟩ (.slice gl eQ.length gm)) A3.out (Kd.R_far (p := ⟨gbS, 0, none⟩) dh.out (fun _ hk => hk) (.slice gl eQ.length gm)) (blk_put (cs := #[.slice none 0 0]) BKS.out 0 (.slice gl eQ.length gm) rfl)).mono ?_; rintro e wT ⟨rfl, hln, ho, hbx, hg⟩; refine ⟨_, rfl, ?_⟩; have n1_ := Aside0.mk ((below_set HB.out GES.out).grown hg (by first | exact below_size (below_set HB.out GES.out) | exact (below_set HB.out GES.out).size) (fun k_ hk_ => Kd.R_base dh.out k_ hk_)); clear dh HB BKS hcS hfS hg; have em := Aside0.mk ho; have HB := n1_; have BKS := Aside0.mk hbx; clear ho hbx n1_; have hcS : wT.cell? ⟨gbS, 0, none⟩ = some (.slice gl eR.length gm) := (blk_cell BKS.out 0).trans rfl; rw [hln]) | ((with_reducible refine gate_callee (f := 13) rfl ?_); refine gl_ 12 Tryd.func13 #[.slice gl eR.length gm] ?_; (with_reducible refine (impl_ArePins.calls k _ _ eR false _ ?_ ?_ A4.out).mono ?_); exact (Z4 em); exact (Kd.R_reads' em.out).2.1; rintro e l7 ⟨rfl, hb⟩; refine ⟨_, rfl, ?_⟩; have n0_ := Aside0.mk (blk_below (g := gbS) BKS.out hb); have n1_ := Aside0.mk (Ya_ em); have n2_ := Aside0.mk (below_step (Z1) hb); clear em; clear HB; clear BKS hcS; have BKS := n0_; have hcS : l7.cell? ⟨gbS, 0, none⟩ = some (.slice gl eR.length gm) := (blk_cell BKS.out 0).trans rfl; have em := n1_; have HB := n2_; clear n0_ n1_ n2_; (try clear hb)))
 go_ret2
 exact ⟨_, Z11, Z21, Z1⟩

/-! ### impl_turnTune: function 32 -/
def impl_turnTune.l0 : Nat → Int → Int → List (S33) → Int → Int → Option ((List (S33)) × Bool)
 | 0, _, _, _, _, _ => none
 | k + 1, x1, x2, x8, x13, x14 => if x14 < x13 then (if 0 ≤ x14 then (if x14 < (x8.length : Int) then (if ((rd_T33 x8 x14).f2) = x1 then (impl_turnTune.l0 k x1 x2 (x8.set (x14 : Int).toNat (⟨(rd_T33 x8 x14).f0, Int.tmod (wrap64 (((rd_T33 x8 x14).f1) + x2)) 360, (rd_T33 x8 x14).f2⟩ : S33)) x13 (wrap64 (x14 + 1))) else (impl_turnTune.l0 k x1 x2 x8 x13 (wrap64 (x14 + 1)))) else (none)) else (none)) else ((impl_pinsOf.f k x8).bind fun t2 => (some (t2.1, t2.2)))
def impl_turnTune.f (k : Nat) (l0 : List (S33)) (a1 : Int) (a2 : Int) : Option ((List (S33)) × Bool) := (slices_Clone_Pin.f l0).bind fun fR => (impl_turnTune.l0 k a1 a2 fR (fR.length : Int) 0)
theorem impl_turnTune.mono_l : ∀ k, (∀ y0 y1 y2 y3 y4, LeO (impl_turnTune.l0 k y0 y1 y2 y3 y4) (impl_turnTune.l0 (k + 1) y0 y1 y2 y3 y4))
 | 0 => fun _ _ _ _ _ r h => by simp [impl_turnTune.l0] at h
 | k + 1 => by
  have ih0 := impl_turnTune.mono_l k
  ·intro y0 y1 y2 y3 y4
   unfold impl_turnTune.l0
   exact mo9_
theorem impl_turnTune.mono : ∀ a0 a1 a2 k, LeO (impl_turnTune.f k a0 a1 a2) (impl_turnTune.f (k + 1) a0 a1 a2) := by
 intro a0 a1 a2 k
 have ih0 := impl_turnTune.mono_l k
 unfold impl_turnTune.f
 exact mo9_
set_option maxHeartbeats 8000000 in
set_option maxRecDepth 100000 in
theorem impl_turnTune.calls (k : Nat) (A0 : Option Addr) (c0 : Nat) (l0 : List (S33)) (a1 : Int) (a2 : Int) (r1 : List (S33)) (r2 : Bool) (w : World) (hr0 : Kd.C k33 w A0 l0.length l0) (hc0 : l0.length ≤ c0) (h : impl_turnTune.f k l0 a1 a2 = some (r1, r2)) :
  Calls Tryd.prog 32 #[.slice A0 l0.length c0, .int .i64 a1, .int .i64 a2] w fun e w' => ∃ v0_ : Value, e = .returned (.tuple #[v0_, .bool r2]) ∧ Kd.R k33 33 w' w.heap.size (fun _ => True) v0_ r1 ∧ Below w.heap.size w w' := by
 have HR0 := Aside0.mk hr0
 have HC0 := Aside0.mk hc0
 clear hr0 hc0
 have HB := Aside0.mk (Below.refl w.heap.size w)
 have H : ((slices_Clone_Pin.f l0).bind fun fR => (impl_turnTune.l0 k a1 a2 fR (fR.length : Int) 0)) = some (r1, r2) := h
 clear h
 replace H := Option.bind_eq_some_iff.mp H
 obtain ⟨fR, ff, H⟩ := H
 (try dsimp only at H)
 have A4 := Aside0.mk ff
 clear ff
 have H' := Aside0.mk H
 clear H
 go_enter Tryd.func32, Tryd.ntmps32
 go_wp2_with (first | ((with_reducible refine gate_callee (f := 42) rfl ?_); refine gl_ 11 Tryd.func42 #[.slice A0 l0.length c0] ?_; (with_reducible refine (slices_Clone_Pin.calls _ _ l0 fR _ ?_ ?_ A4.out).mono ?_); exact (Z17 HR0); exact HC0.out; rintro e w5 ⟨v339, rfl, ho0, hb⟩; refine ⟨_, rfl, ?_⟩; refine k2_ (Kd.R_lower ho0 (below_size (Z1))) (below_step (Z1) hb) ?_; clear HB; intro t3 HB; (try clear hb ho0); obtain ⟨yl, vX, yE⟩ := Kd.R_slice t3.out; subst yE))
 (try simp only [Act.put, List.setIfInBounds_toArray, List.set_cons_zero, List.set_cons_succ])
 go_loopg [14] k (fun kq yF w' => ∃ (bN : List (S33)) (ai : Int), yF = .int .i64 ai ∧ Aside0 (impl_turnTune.l0 kq a1 a2 bN (fR.length : Int) ai = some (r1, r2)) ∧ Aside0 (kq ≤ k) ∧ Aside0 (Kd.R k33 33 w' w.heap.size (fun _ => True) (.slice yl fR.length vX) bN) ∧ Aside0 (Below w.heap.size w w'))
 case atStart => exact ⟨(fR), (0), (Z14), H', ⟨Nat.le_refl _⟩, ⟨Z2 t3⟩, ⟨Z1⟩⟩
 case round =>
  clear H'
  (try clear p2); (try clear c3); (try clear c4)
  obtain ⟨bN, ai, rfl, HA, HK1, ar, HB⟩ := hrel
  have hl8_1 := (Kd.R_reads' ar.out).1
  rw [hl8_1] at ar
  (try simp only [hl8_1])
  cases gk with
  | zero => exact absurd HA.out (by simp [impl_turnTune.l0])
  | succ k1 =>
   have H := HA.out
   clear HA
   simp only [impl_turnTune.l0] at H
   by_cases c7 : ai < (fR.length : Int)
   ·rw [if_pos c7] at H
    have dz : decide (ai < (fR.length : Int)) = true := decide_eq_true c7
    (try (have c7b9_8_1 : decide (ai < (bN.length : Int)) = true := by rw [← hl8_1]; exact dz))
    clear c7
    by_cases c8 : 0 ≤ ai
    ·rw [if_pos c8] at H
     have iY : decide (0 ≤ ai) = true := decide_eq_true c8
     clear c8
     by_cases c9 : ai < (bN.length : Int)
     ·rw [if_pos c9] at H
      have fT : decide (ai < (bN.length : Int)) = true := decide_eq_true c9
      clear c9
      by_cases c10 : ((rd_T33 bN ai).f2) = a1
      ·rw [if_pos c10] at H
       have fZ : (((rd_T33 bN ai).f2) == a1) = true := beq_iff_eq.mpr c10
       have pC : (((rd_T33 bN ai).f2) != a1) = false := bne_eq_false_iff_eq.mpr c10
       clear c10
       obtain ⟨vR, l3⟩ : ∃ y_ : List (S33), y_ = (bN.set (ai : Int).toNat (⟨(rd_T33 bN ai).f0, Int.tmod (wrap64 (((rd_T33 bN ai).f1) + a2)) 360, (rd_T33 bN ai).f2⟩ : S33)) := ⟨_, rfl⟩
       replace H : (impl_turnTune.l0 k1 a1 a2 vR (fR.length : Int) (wrap64 (ai + 1))) = some (r1, r2) := by first | (rw [l3]; with_reducible exact H) | (have H2_ := (Option.bind_some _ _).symm.trans H; rw [l3]; with_reducible exact H2_) | (have H2_ := (Option.bind_some _ _).symm.trans H; with_reducible exact H2_) | with_reducible exact H | (rw [l3]; exact H) | exact H
       have Ny343 := Aside0.mk l3
       clear l3
       have H' := Aside0.mk H
       clear H
       have mH : 0 ≤ (ai : Int) := of_decide_eq_true (Z12)
       have mI : ai < (bN.length : Int) := of_decide_eq_true (Z12)
       obtain ⟨t4, e341, nP, nQ, nR⟩ := at_T33 (Kd.R_reads' ar.out).2.2 ai mH mI
       cases e341
       replace mH := eq_true mH
       replace mI := eq_true mI
       have vS : 0 ≤ (ai : Int) := of_decide_eq_true (Z12)
       have vT : ai < (bN.length : Int) := of_decide_eq_true (Z12)
       obtain ⟨ad342, e342, hx342_0, hx342_1, hx342_2⟩ := at_T33 (Kd.R_reads' ar.out).2.2 ai vS vT
       obtain rfl : t4 = ad342 := (by injection e342)
       replace vS := eq_true vS
       replace vT := eq_true vT
       have yG : 0 ≤ (ai : Int) := of_decide_eq_true (Z12)
       have yH : (ai : Int) < ((bN.length : Int) : Int) := of_decide_eq_true (Z12)
       obtain ⟨go11, vo, om, xV, gl11, cl11, HG11⟩ := Kd.R_form ar.out (by omega)
       (first | cases om | (injection om with ea_ en_ ec_; (first | subst ea_ | (injection ea_ with ea_; subst ea_)); subst ec_; clear en_))
       have GB11 := Aside0.mk xV
       have GG11 := Aside0.mk HG11
       clear xV gl11 HG11
       (first | simp only [add_plain] at nP | skip)
       (first | simp only [add_plain] at nQ | skip)
       (first | simp only [add_plain] at nR | skip)
       (first | simp only [add_plain] at hx342_0 | skip)
       (first | simp only [add_plain] at hx342_1 | skip)
       (first | simp only [add_plain] at hx342_2 | skip)
       obtain ⟨ce11, hcl11, hM11, hcc11, hfr11⟩ := Kd.R_elem ar.out z33 (ai : Int) yG yH
       obtain rfl := k33_openM hM11
       have hx11_0 : wr.cell? ⟨go11, (ai : Int).toNat * 3, none⟩ = some (.int .i64 ((rd_T33 bN ai).f0)) := hcc11 0 _ rfl
       have hx11_1 : wr.cell? ⟨go11, (ai : Int).toNat * 3 + 1, none⟩ = some (.int .i64 ((rd_T33 bN ai).f1)) := hcc11 1 _ rfl
       have hx11_2 : wr.cell? ⟨go11, (ai : Int).toNat * 3 + 2, none⟩ = some (.int .i64 ((rd_T33 bN ai).f2)) := hcc11 2 _ rfl
       have hf11_0 : wr.frozen? ⟨go11, (ai : Int).toNat * 3, none⟩ = false := hfr11 0
       have hf11_1 : wr.frozen? ⟨go11, (ai : Int).toNat * 3 + 1, none⟩ = false := hfr11 1
       have hf11_2 : wr.frozen? ⟨go11, (ai : Int).toNat * 3 + 2, none⟩ = false := hfr11 2
       clear hcl11 hcc11 hfr11 hM11
       replace yG := eq_true yG
       replace yH := eq_true yH
       have HX12 := Aside0.mk (show Kd.R k33 33 wr w.heap.size (fun _ => True) (.slice (some ⟨go11, 0, none⟩) bN.length vX) bN from (Z2 ar))
       obtain ⟨ce12, hcl12, hM12, hcc12, hfr12⟩ := Kd.R_elem HX12.out z33 (ai : Int) (of_decide_eq_true (Z12)) (Z107)
       obtain rfl := k33_openM hM12
       have HP12 := Kd.R_seg HX12.out (ai : Int) (of_decide_eq_true (Z12)) (Z107) (seg := [.int .i64 (Int.tmod (wrap64 (((rd_T33 bN ai).f1) + a2)) 360)]) (j := 1) hcl12 hcc12 (show 2 ≤ 3 from by decide) (x' := (⟨(rd_T33 bN ai).f0, Int.tmod (wrap64 (((rd_T33 bN ai).f1) + a2)) 360, (rd_T33 bN ai).f2⟩ : S33)) (k33_mkM _ _ _ (⟨(rd_T33 bN ai).f0, Int.tmod (wrap64 (((rd_T33 bN ai).f1) + a2)) 360, (rd_T33 bN ai).f2⟩ : S33) ) (fun _ hk => hk)
       have hx12_1 := hcc12 1 _ rfl
       (try simp only [show (k33).sz = 3 from rfl, Nat.mul_one, Nat.add_zero] at hx12_1)
       have hf12_1 := hfr12 1
       (try simp only [show (k33).sz = 3 from rfl, Nat.mul_one, Nat.add_zero] at hf12_1)
       clear hcl12 hcc12 hfr12 hM12
       go_wp2_with (first | ((with_reducible refine gate_store (t := 3) (p := 35) rfl ?_); refine store_event (t := 3) (p := 35) (v := ?vo_w13) (w1 := (wr.setCell ⟨go11, (ai : Int).toNat * 3 + 1, none⟩ (.int .i64 (Int.tmod (wrap64 (((rd_T33 bN ai).f1) + a2)) 360)))) ?hg ?ho ?hn ?hr ?_; (case ho => rfl); (case hg => rfl); (case hn => rfl); (case hr => exact Z34); intro fS hw; have hg : wr.grownBy fS (some go11) := (by rw [hw]; exact HP12.2); have hp_ : Kd.R k33 33 fS w.heap.size (fun _ => True) (.slice (some ⟨go11, 0, none⟩) bN.length vX) vR := (by rw [hw, Ny343.out]; exact HP12.1); clear HP12; refine k2_ (hp_) ((by rw [hw]; exact below_set (HB.out) GB11.out : Below w.heap.size w fS)) ?_; clear ar HB; intro ar HB; clear hg hw hp_))
       (try simp only [← hl8_1])
       go_roundg k1
       case measure => have := HK1.out; omega
       case rel => exact ⟨(vR), (wrap64 (ai + 1)), (Z14), H', ⟨Z82 HK1⟩, ⟨Z112⟩, ⟨Z1⟩⟩
      rw [if_neg c10] at H
      have fZ : (((rd_T33 bN ai).f2) == a1) = false := beq_eq_false_iff_ne.mpr c10
      have pC : (((rd_T33 bN ai).f2) != a1) = true := bne_iff_ne.mpr c10
      have H' := Aside0.mk H
      clear H
      have mH : 0 ≤ (ai : Int) := of_decide_eq_true (Z12)
      have mI : ai < (bN.length : Int) := of_decide_eq_true (Z12)
      obtain ⟨t4, e341, nP, nQ, nR⟩ := at_T33 (Kd.R_reads' ar.out).2.2 ai mH mI
      cases e341
      replace mH := eq_true mH
      replace mI := eq_true mI
      go_wp2
      (try simp only [← hl8_1])
      go_roundg k1
      case measure => have := HK1.out; omega
      case rel => exact ⟨(bN), (wrap64 (ai + 1)), (Z14), H', ⟨Z82 HK1⟩, ⟨Z112⟩, ⟨Z1⟩⟩
     rw [if_neg c9] at H
     exact absurd H (by simp)
    rw [if_neg c8] at H
    exact absurd H (by simp)
   rw [if_neg c7] at H
   have dz : decide (ai < (fR.length : Int)) = false := decide_eq_false c7
   (try (have c7b9_8_1 : decide (ai < (bN.length : Int)) = false := by rw [← hl8_1]; exact dz))
   clear c7
   replace H := Option.bind_eq_some_iff.mp H
   obtain ⟨⟨xW, xX⟩, fg, H⟩ := H
   replace H : (some (xW, xX)) = some (r1, r2) := H
   have qX := Aside0.mk fg
   clear fg
   simp only [Option.some.injEq, Prod.mk.injEq] at H
   obtain ⟨rfl, rfl⟩ := H
   go_wp2_with (first | ((with_reducible refine gate_callee (f := 43) rfl ?_); refine gl_ 38 Tryd.func43 #[.slice yl bN.length vX] ?_; (with_reducible refine (impl_pinsOf.calls k1 _ _ bN xW xX _ ?_ ?_ qX.out).mono ?_); exact (Z4 ar); exact (Kd.R_reads' ar.out).2.1; rintro e l7 ⟨v346, rfl, ho0, hb⟩; refine ⟨_, rfl, ?_⟩; refine k3_ (Yb_ ar) (Kd.R_lower (Kd.R_new' ho0 (Yd_ ar)) (below_size (Z1))) (below_step (Z1) hb) ?_; clear ar HB; intro ar HO347 HB; (try clear hb ho0)))
   go_ret2
   exact ⟨_, Z11, Z26 HO347, Z1⟩

/-! ### impl_TurnTune: function 6 -/
def impl_TurnTune.f (k : Nat) (l0 : List (S33)) (a1 : Int) (a2 : Int) : Option ((List (S33)) × Bool) := (impl_ArePins.f k l0).bind fun qR => (if qR = true then ((impl_isShift.f a1).bind fun iB => (if iB = true then (if a2 < 0 then (some (([] : List (S33)), false)) else (if a2 ≥ 360 then (some (([] : List (S33)), false)) else ((impl_turnTune.f k l0 a1 a2).bind fun l4 => (some (l4.1, l4.2))))) else (some (([] : List (S33)), false)))) else (some (([] : List (S33)), false)))
theorem impl_TurnTune.mono : ∀ a0 a1 a2 k, LeO (impl_TurnTune.f k a0 a1 a2) (impl_TurnTune.f (k + 1) a0 a1 a2) := by
 intro a0 a1 a2 k
 unfold impl_TurnTune.f
 exact mo9_
set_option maxHeartbeats 8000000 in
set_option maxRecDepth 100000 in
theorem impl_TurnTune.calls (k : Nat) (A0 : Option Addr) (c0 : Nat) (l0 : List (S33)) (a1 : Int) (a2 : Int) (r1 : List (S33)) (r2 : Bool) (w : World) (hr0 : Kd.C k33 w A0 l0.length l0) (hc0 : l0.length ≤ c0) (h : impl_TurnTune.f k l0 a1 a2 = some (r1, r2)) :
  Calls Tryd.prog 6 #[.slice A0 l0.length c0, .int .i64 a1, .int .i64 a2] w fun e w' => ∃ v0_ : Value, e = .returned (.tuple #[v0_, .bool r2]) ∧ Kd.R k33 33 w' w.heap.size (fun _ => True) v0_ r1 ∧ Below w.heap.size w w' := by
 have HR0 := Aside0.mk hr0
 have HC0 := Aside0.mk hc0
 clear hr0 hc0
 have HB := Aside0.mk (Below.refl w.heap.size w)
 have H : ((impl_ArePins.f k l0).bind fun qR => (if qR = true then ((impl_isShift.f a1).bind fun iB => (if iB = true then (if a2 < 0 then (some (([] : List (S33)), false)) else (if a2 ≥ 360 then (some (([] : List (S33)), false)) else ((impl_turnTune.f k l0 a1 a2).bind fun l4 => (some (l4.1, l4.2))))) else (some (([] : List (S33)), false)))) else (some (([] : List (S33)), false)))) = some (r1, r2) := h
 clear h
 replace H := Option.bind_eq_some_iff.mp H
 obtain ⟨qR, ff, H⟩ := H
 (try dsimp only at H)
 have A4 := Aside0.mk ff
 clear ff
 by_cases c5 : qR = true
 ·subst c5
  rw [if_pos rfl] at H
  replace H := Option.bind_eq_some_iff.mp H
  obtain ⟨iB, gW, H⟩ := H
  (try dsimp only at H)
  have A6 := Aside0.mk gW
  clear gW
  by_cases c7 : iB = true
  ·subst c7
   rw [if_pos rfl] at H
   by_cases c8 : a2 < 0
   ·rw [if_pos c8] at H
    have iY : decide (a2 < 0) = true := decide_eq_true c8
    clear c8
    simp only [Option.some.injEq, Prod.mk.injEq] at H
    obtain ⟨rfl, rfl⟩ := H
    go_enter Tryd.func6, Tryd.ntmps6
    go_wp2_with (first | ((with_reducible refine gate_callee (f := 13) rfl ?_); refine gl_ 9 Tryd.func13 #[.slice A0 l0.length c0] ?_; (with_reducible refine (impl_ArePins.calls k _ _ l0 true _ ?_ ?_ A4.out).mono ?_); exact (Z17 HR0); exact HC0.out; rintro e w9 ⟨rfl, hb⟩; refine ⟨_, rfl, ?_⟩; refine k1_ (below_step (Z1) hb) ?_; clear HB; intro HB; (try clear hb)) | (go_at_call 31; (with_reducible refine (impl_isShift.calls a1 true _ A6.out).mono ?_); rintro e w' ⟨rfl, ⟨nd, rfl⟩⟩))
    go_ret2
    exact ⟨_, Z11, Z21, Z1⟩
   rw [if_neg c8] at H
   have iY : decide (a2 < 0) = false := decide_eq_false c8
   clear c8
   by_cases c10 : a2 ≥ 360
   ·rw [if_pos c10] at H
    have fZ : decide (360 ≤ a2) = true := decide_eq_true c10
    clear c10
    simp only [Option.some.injEq, Prod.mk.injEq] at H
    obtain ⟨rfl, rfl⟩ := H
    go_enter Tryd.func6, Tryd.ntmps6
    go_wp2_with (first | ((with_reducible refine gate_callee (f := 13) rfl ?_); refine gl_ 9 Tryd.func13 #[.slice A0 l0.length c0] ?_; (with_reducible refine (impl_ArePins.calls k _ _ l0 true _ ?_ ?_ A4.out).mono ?_); exact (Z17 HR0); exact HC0.out; rintro e eV ⟨rfl, hb⟩; refine ⟨_, rfl, ?_⟩; refine k1_ (below_step (Z1) hb) ?_; clear HB; intro HB; (try clear hb)) | (go_at_call 31; (with_reducible refine (impl_isShift.calls a1 true _ A6.out).mono ?_); rintro e w' ⟨rfl, ⟨nd, rfl⟩⟩))
    go_ret2
    exact ⟨_, Z11, Z21, Z1⟩
   rw [if_neg c10] at H
   have fZ : decide (360 ≤ a2) = false := decide_eq_false c10
   clear c10
   replace H := Option.bind_eq_some_iff.mp H
   obtain ⟨⟨xY, xZ⟩, jS, H⟩ := H
   replace H : (some (xY, xZ)) = some (r1, r2) := H
   have sc := Aside0.mk jS
   clear jS
   simp only [Option.some.injEq, Prod.mk.injEq] at H
   obtain ⟨rfl, rfl⟩ := H
   go_enter Tryd.func6, Tryd.ntmps6
   go_wp2_with (first | ((with_reducible refine gate_callee (f := 13) rfl ?_); refine gl_ 9 Tryd.func13 #[.slice A0 l0.length c0] ?_; (with_reducible refine (impl_ArePins.calls k _ _ l0 true _ ?_ ?_ A4.out).mono ?_); exact (Z17 HR0); exact HC0.out; rintro e fS ⟨rfl, hb⟩; refine ⟨_, rfl, ?_⟩; refine k1_ (below_step (Z1) hb) ?_; clear HB; intro HB; (try clear hb)) | (go_at_call 31; (with_reducible refine (impl_isShift.calls a1 true _ A6.out).mono ?_); rintro e w' ⟨rfl, ⟨nd, rfl⟩⟩) | ((with_reducible refine gate_callee (f := 32) rfl ?_); refine gl_ 27 Tryd.func32 #[.slice A0 l0.length c0, .int .i64 a1, .int .i64 a2] ?_; (with_reducible refine (impl_turnTune.calls k _ _ l0 a1 a2 xY xZ _ ?_ ?_ sc.out).mono ?_); exact Z52; exact HC0.out; rintro e vY ⟨v352, rfl, ho0, hb⟩; refine ⟨_, rfl, ?_⟩; refine k2_ (Kd.R_lower ho0 (below_size (Z1))) (below_step (Z1) hb) ?_; clear HB; intro HO353 HB; (try clear hb ho0)))
   go_ret2
   exact ⟨_, Z11, Z2 HO353, Z1⟩
  replace c7 := Bool.eq_false_iff.mpr c7
  subst c7
  rw [if_neg (show ¬ (false = true) by decide)] at H
  simp only [Option.some.injEq, Prod.mk.injEq] at H
  obtain ⟨rfl, rfl⟩ := H
  go_enter Tryd.func6, Tryd.ntmps6
  go_wp2_with (first | ((with_reducible refine gate_callee (f := 13) rfl ?_); refine gl_ 9 Tryd.func13 #[.slice A0 l0.length c0] ?_; (with_reducible refine (impl_ArePins.calls k _ _ l0 true _ ?_ ?_ A4.out).mono ?_); exact (Z17 HR0); exact HC0.out; rintro e l7 ⟨rfl, hb⟩; refine ⟨_, rfl, ?_⟩; refine k1_ (below_step (Z1) hb) ?_; clear HB; intro HB; (try clear hb)) | (go_at_call 31; (with_reducible refine (impl_isShift.calls a1 false _ A6.out).mono ?_); rintro e w' ⟨rfl, ⟨nd, rfl⟩⟩))
  go_ret2
  exact ⟨_, Z11, Z21, Z1⟩
 replace c5 := Bool.eq_false_iff.mpr c5
 subst c5
 rw [if_neg (show ¬ (false = true) by decide)] at H
 simp only [Option.some.injEq, Prod.mk.injEq] at H
 obtain ⟨rfl, rfl⟩ := H
 go_enter Tryd.func6, Tryd.ntmps6
 go_wp2_with (first | ((with_reducible refine gate_callee (f := 13) rfl ?_); refine gl_ 9 Tryd.func13 #[.slice A0 l0.length c0] ?_; (with_reducible refine (impl_ArePins.calls k _ _ l0 false _ ?_ ?_ A4.out).mono ?_); exact (Z17 HR0); exact HC0.out; rintro e oD ⟨rfl, hb⟩; refine ⟨_, rfl, ?_⟩; refine k1_ (below_step (Z1) hb) ?_; clear HB; intro HB; (try clear hb)))
 go_ret2
 exact ⟨_, Z11, Z21, Z1⟩

/-! ### spec_cyAngle: function 35 -/
def spec_cyAngle.f (a0 : Int) : Option (Bool) := (spec_l1In.f a0 0 359).bind fun oA => (some oA)
set_option maxHeartbeats 8000000 in
set_option maxRecDepth 100000 in
theorem spec_cyAngle.calls (a0 : Int) (r : Bool) (w : World) (h : spec_cyAngle.f a0 = some r) :
  Calls Tryd.prog 35 #[.int .i64 a0] w fun e w' => e = .returned (.bool r) ∧ Drawn0 w w' := by
 have H : ((spec_l1In.f a0 0 359).bind fun oA => (some oA)) = some r := h
 clear h
 replace H := Option.bind_eq_some_iff.mp H
 obtain ⟨oA, cr, H⟩ := H
 replace H : (some oA) = some r := H
 have A2 := Aside0.mk cr
 clear cr
 obtain rfl := Option.some.inj H
 go_enter Tryd.func35, Tryd.ntmps35
 go_wp2_with (first | ((with_reducible refine gate_callee (f := 56) rfl ?_); refine gl_ 4 Tryd.func56 #[.int .i64 a0, .int .i64 0, .int .i64 359] ?_; (with_reducible refine (spec_l1In.calls a0 0 359 oA _ A2.out).mono ?_); rintro e w' ⟨rfl, ⟨nd, rfl⟩⟩; refine ⟨_, rfl, ?_⟩))
 go_ret
 exact ⟨Z14, Z43⟩

/-! ### spec_cyTurn: function 36 -/
def spec_cyTurn.l0 : Nat → Int → Int → List (S33) → List (S33) → Int → Int → Option ((List (S33)))
 | 0, _, _, _, _, _, _ => none
 | k + 1, x1, x2, x7, x12, x13, x14 => if x14 < x13 then (if 0 ≤ x14 then (if x14 < (x12.length : Int) then (if ((rd_T33 x12 x14).f2) = x1 then (if x7.length < 5864062014805 then (spec_cyTurn.l0 k x1 x2 (x7 ++ [(⟨(rd_T33 x12 x14).f0, Int.tmod (wrap64 (((rd_T33 x12 x14).f1) + x2)) 360, (rd_T33 x12 x14).f2⟩ : S33)]) x12 x13 (wrap64 (x14 + 1))) else (none)) else (if x7.length < 5864062014805 then (spec_cyTurn.l0 k x1 x2 (x7 ++ [(⟨(rd_T33 x12 x14).f0, (rd_T33 x12 x14).f1, (rd_T33 x12 x14).f2⟩ : S33)]) x12 x13 (wrap64 (x14 + 1))) else (none))) else (none)) else (none)) else ((spec_cySorted.f k x7).bind fun bt363 => (some bt363.1))
def spec_cyTurn.f (k : Nat) (l0 : List (S33)) (a1 : Int) (a2 : Int) : Option ((List (S33))) := spec_cyTurn.l0 k a1 a2 ([] : List (S33)) l0 (l0.length : Int) 0
theorem spec_cyTurn.mono_l : ∀ k, (∀ y0 y1 y2 y3 y4 y5, LeO (spec_cyTurn.l0 k y0 y1 y2 y3 y4 y5) (spec_cyTurn.l0 (k + 1) y0 y1 y2 y3 y4 y5))
 | 0 => fun _ _ _ _ _ _ r h => by simp [spec_cyTurn.l0] at h
 | k + 1 => by
  have ih0 := spec_cyTurn.mono_l k
  ·intro y0 y1 y2 y3 y4 y5
   unfold spec_cyTurn.l0
   exact mo9_
theorem spec_cyTurn.mono : ∀ a0 a1 a2 k, LeO (spec_cyTurn.f k a0 a1 a2) (spec_cyTurn.f (k + 1) a0 a1 a2) := by
 intro a0 a1 a2 k
 have ih0 := spec_cyTurn.mono_l k
 unfold spec_cyTurn.f
 exact mo9_
set_option maxHeartbeats 8000000 in
set_option maxRecDepth 100000 in
theorem spec_cyTurn.calls (k : Nat) (A0 : Option Addr) (c0 : Nat) (l0 : List (S33)) (a1 : Int) (a2 : Int) (r : List (S33)) (w : World) (hr0 : Kd.C k33 w A0 l0.length l0) (hc0 : l0.length ≤ c0) (h : spec_cyTurn.f k l0 a1 a2 = some r) :
  Calls Tryd.prog 36 #[.slice A0 l0.length c0, .int .i64 a1, .int .i64 a2] w fun e w' => ∃ v0_ : Value, e = .returned (v0_) ∧ Kd.R k33 33 w' w.heap.size (fun _ => True) v0_ r ∧ Below w.heap.size w w' := by
 have hu33 := Tryd.underlying33
 have HR0 := Aside0.mk hr0
 have HC0 := Aside0.mk hc0
 clear hr0 hc0
 have HB := Aside0.mk (Below.refl w.heap.size w)
 have H : (spec_cyTurn.l0 k a1 a2 ([] : List (S33)) l0 (l0.length : Int) 0) = some r := h
 clear h
 have H' := Aside0.mk H
 clear H
 go_enter Tryd.func36, Tryd.ntmps36
 go_wp2
 go_loopg [7, 14] k (fun kq v7 yF w' => ∃ (ag : List (S33)) (ai : Int), yF = .int .i64 ai ∧ Aside0 (spec_cyTurn.l0 kq a1 a2 ag l0 (l0.length : Int) ai = some r) ∧ Aside0 (kq ≤ k) ∧ Aside0 (Kd.R k33 33 w' w.heap.size (fun _ => True) v7 ag) ∧ Aside0 (Below w.heap.size w w'))
 case atStart => exact ⟨(([] : List (S33))), (0), (Z14), H', ⟨Nat.le_refl _⟩, ⟨Z21⟩, ⟨Z1⟩⟩
 case round =>
  clear H'
  (try clear p2); (try clear c3)
  obtain ⟨ag, ai, rfl, HA, HK1, bp, HB⟩ := hrel
  cases gk with
  | zero => exact absurd HA.out (by simp [spec_cyTurn.l0])
  | succ k1 =>
   have H := HA.out
   clear HA
   simp only [spec_cyTurn.l0] at H
   by_cases c4 : ai < (l0.length : Int)
   ·rw [if_pos c4] at H
    have cy : decide (ai < (l0.length : Int)) = true := decide_eq_true c4
    clear c4
    by_cases c5 : 0 ≤ ai
    ·rw [if_pos c5] at H
     have e3 : decide (0 ≤ ai) = true := decide_eq_true c5
     clear c5
     by_cases c6 : ai < (l0.length : Int)
     ·rw [if_pos c6] at H
      have en : decide (ai < (l0.length : Int)) = true := decide_eq_true c6
      clear c6
      by_cases c7 : ((rd_T33 l0 ai).f2) = a1
      ·rw [if_pos c7] at H
       have dz : (((rd_T33 l0 ai).f2) == a1) = true := beq_iff_eq.mpr c7
       have oY : (((rd_T33 l0 ai).f2) != a1) = false := bne_eq_false_iff_eq.mpr c7
       clear c7
       by_cases c8 : ag.length < 5864062014805
       ·rw [if_pos c8] at H
        have oZ := Aside0.mk c8
        clear c8
        obtain ⟨ya, l5⟩ : ∃ y_ : List (S33), y_ = (ag ++ [(⟨(rd_T33 l0 ai).f0, Int.tmod (wrap64 (((rd_T33 l0 ai).f1) + a2)) 360, (rd_T33 l0 ai).f2⟩ : S33)]) := ⟨_, rfl⟩
        replace H : (spec_cyTurn.l0 k1 a1 a2 ya l0 (l0.length : Int) (wrap64 (ai + 1))) = some r := by first | (rw [l5]; with_reducible exact H) | (have H2_ := (Option.bind_some _ _).symm.trans H; rw [l5]; with_reducible exact H2_) | (have H2_ := (Option.bind_some _ _).symm.trans H; with_reducible exact H2_) | with_reducible exact H | (rw [l5]; exact H) | exact H
        have Ny357 := Aside0.mk l5
        clear l5
        have H' := Aside0.mk H
        clear H
        have mJ : 0 ≤ (ai : Int) := of_decide_eq_true (Z12)
        have mK : ai < (l0.length : Int) := of_decide_eq_true (Z12)
        obtain ⟨ad355, e355, d9, ea, eb⟩ := at_T33 HR0.out ai mJ mK
        cases e355
        replace d9 := (HB.out.cell (World.block_lt_of_cell? w _ d9)).trans d9
        replace ea := (HB.out.cell (World.block_lt_of_cell? w _ ea)).trans ea
        replace eb := (HB.out.cell (World.block_lt_of_cell? w _ eb)).trans eb
        replace mJ := eq_true mJ
        replace mK := eq_true mK
        go_wp2_with (first | ((with_reducible refine gate_dst (N := 9) rfl ?_); refine bv_ 9 33 #[.int .i64 0, .int .i64 0, .int .i64 0] ?_; intro bz hg w9 hbox hb; refine k5_ (Kd.R_below (Kd.R_elderB (Z2 bp) bz (Nat.le_of_eq hg.symm)) hb) (below_step (Z1) hb) (hbox) ((Z23 : w.heap.size ≤ bz)) ((Z23 : w.heap.size ≤ bz)) ?_; clear bp HB; intro bp HB eT GW356 rT; clear hb hbox hg; obtain ⟨i6, i7, i8, i9, ja, jb⟩ := bx3_ (w := w9) eT.out; have hq_gb356 : ((((w9.setCell ⟨bz, 0, none⟩ (.int .i64 ((rd_T33 l0 ai).f0))).setCell ⟨bz, 1, none⟩ (.int .i64 ((rd_T33 l0 ai).f1))).setCell ⟨bz, 2, none⟩ (.int .i64 ((rd_T33 l0 ai).f2))).setCell ⟨bz, 1, none⟩ (.int .i64 (Int.tmod (wrap64 (((rd_T33 l0 ai).f1) + a2)) 360))).cell? ⟨bz, 1, none⟩ = some (.int .i64 (Int.tmod (wrap64 (((rd_T33 l0 ai).f1) + a2)) 360)) := (blk_cell (blk_put (cs := #[.int .i64 ((rd_T33 l0 ai).f0), .int .i64 ((rd_T33 l0 ai).f1), .int .i64 ((rd_T33 l0 ai).f2)]) (blk_put (cs := #[.int .i64 ((rd_T33 l0 ai).f0), .int .i64 ((rd_T33 l0 ai).f1), .int .i64 0]) (blk_put (cs := #[.int .i64 ((rd_T33 l0 ai).f0), .int .i64 0, .int .i64 0]) (blk_put (cs := #[.int .i64 0, .int .i64 0, .int .i64 0]) eT.out 0 (.int .i64 ((rd_T33 l0 ai).f0)) rfl) 1 (.int .i64 ((rd_T33 l0 ai).f1)) rfl) 2 (.int .i64 ((rd_T33 l0 ai).f2)) rfl) 1 (.int .i64 (Int.tmod (wrap64 (((rd_T33 l0 ai).f1) + a2)) 360)) rfl) 1).trans rfl) | ((with_reducible refine gate_builtin (b := .append) (xs := #[.tmp 28, .tmp 30]) rfl ?_); at_builtin; refine Kd.R_append k33 (w0 := w) w.heap.size rfl (.tmp 28) (.tmp 30) 24 33 (.agg #[(.int .i64 0), (.int .i64 0), (.int .i64 0)]) 24 rfl Tryd.underlying24 info33 rfl (by decide) (by omega) u7 ag (⟨(rd_T33 l0 ai).f0, Int.tmod (wrap64 (((rd_T33 l0 ai).f1) + a2)) 360, (rd_T33 l0 ai).f2⟩ : S33) [.int .i64 ((rd_T33 l0 ai).f0), .int .i64 (Int.tmod (wrap64 (((rd_T33 l0 ai).f1) + a2)) 360), .int .i64 ((rd_T33 l0 ai).f2)] (fun k_ => k_ ≠ bz) (fun _ => False) rfl (Z34) ?aP (fun _ hk => hk.elim) ?aF ?aO ?aB ?aS ?aL ?_; (case aP => exact k33_mkM _ _ _ (⟨(rd_T33 l0 ai).f0, Int.tmod (wrap64 (((rd_T33 l0 ai).f1) + a2)) 360, (rd_T33 l0 ai).f2⟩ : S33)); (case aB => exact Z53); (case aF => exact (fun k_ hk => Kd.freshB (g := bz) (o := .cells #[.int .i64 ((rd_T33 l0 ai).f0), .int .i64 (Int.tmod (wrap64 (((rd_T33 l0 ai).f1) + a2)) 360), .int .i64 ((rd_T33 l0 ai).f2)] 33 (0, 0)) (Z49) k_ hk)); (case aO => exact (by (with_reducible repeat (first | apply Kd.R_alloc | apply Kd.R_drewN | apply Kd.R_drew)); exact Kd.R_mono (Kd.R_far (p := ⟨bz, 1, none⟩) (Kd.R_far (p := ⟨bz, 2, none⟩) (Kd.R_far (p := ⟨bz, 1, none⟩) (Kd.R_far (p := ⟨bz, 0, none⟩) (Kd.R_mono bp.out (fun k_ hk => (⟨hk, hk.2⟩ : _ ∧ k_ ≠ bz))) (fun _ hk => hk.2) (.int .i64 ((rd_T33 l0 ai).f0))) (fun _ hk => hk.2) (.int .i64 ((rd_T33 l0 ai).f1))) (fun _ hk => hk.2) (.int .i64 ((rd_T33 l0 ai).f2))) (fun _ hk => hk.2) (.int .i64 (Int.tmod (wrap64 (((rd_T33 l0 ai).f1) + a2)) 360))) (fun _ hk => hk.1.2))); (case aS => exact (below_size (Z53))); (case aL => exact Z82 oZ); intro v358 eV ho hb hg hat; rw [← Ny357.out] at ho; refine k3_ (blk_grown (g := bz) (o := .cells #[.int .i64 ((rd_T33 l0 ai).f0), .int .i64 (Int.tmod (wrap64 (((rd_T33 l0 ai).f1) + a2)) 360), .int .i64 ((rd_T33 l0 ai).f2)] 33 (0, 0)) (Z49) hg (Kd.R_away bp.out (fun _ hk => hk.2))) (hb) (ho) ?_; clear eT HB bp; intro eT HB HO359; clear ho hb hg hat))
        go_roundg k1
        case measure => have := HK1.out; omega
        case rel => exact ⟨(ya), (wrap64 (ai + 1)), (Z14), H', ⟨Z82 HK1⟩, ⟨Z26 HO359⟩, ⟨Z53⟩⟩
       rw [if_neg c8] at H
       exact absurd H (by simp)
      rw [if_neg c7] at H
      have dz : (((rd_T33 l0 ai).f2) == a1) = false := beq_eq_false_iff_ne.mpr c7
      have oY : (((rd_T33 l0 ai).f2) != a1) = true := bne_iff_ne.mpr c7
      by_cases c12 : ag.length < 5864062014805
      ·rw [if_pos c12] at H
       have LMc12 := Aside0.mk c12
       clear c12
       obtain ⟨yb, l6⟩ : ∃ y_ : List (S33), y_ = (ag ++ [(⟨(rd_T33 l0 ai).f0, (rd_T33 l0 ai).f1, (rd_T33 l0 ai).f2⟩ : S33)]) := ⟨_, rfl⟩
       replace H : (spec_cyTurn.l0 k1 a1 a2 yb l0 (l0.length : Int) (wrap64 (ai + 1))) = some r := by first | (rw [l6]; with_reducible exact H) | (have H2_ := (Option.bind_some _ _).symm.trans H; rw [l6]; with_reducible exact H2_) | (have H2_ := (Option.bind_some _ _).symm.trans H; with_reducible exact H2_) | with_reducible exact H | (rw [l6]; exact H) | exact H
       have Ny360 := Aside0.mk l6
       clear l6
       have H' := Aside0.mk H
       clear H
       have mJ : 0 ≤ (ai : Int) := of_decide_eq_true (Z12)
       have mK : ai < (l0.length : Int) := of_decide_eq_true (Z12)
       obtain ⟨ad355, e355, d9, ea, eb⟩ := at_T33 HR0.out ai mJ mK
       cases e355
       replace d9 := (HB.out.cell (World.block_lt_of_cell? w _ d9)).trans d9
       replace ea := (HB.out.cell (World.block_lt_of_cell? w _ ea)).trans ea
       replace eb := (HB.out.cell (World.block_lt_of_cell? w _ eb)).trans eb
       replace mJ := eq_true mJ
       replace mK := eq_true mK
       go_wp2_with (first | ((with_reducible refine gate_dst (N := 9) rfl ?_); refine bv_ 9 33 #[.int .i64 0, .int .i64 0, .int .i64 0] ?_; intro bz hg fS hbox hb; refine k5_ (Kd.R_below (Kd.R_elderB (Z2 bp) bz (Nat.le_of_eq hg.symm)) hb) (below_step (Z1) hb) (hbox) ((Z23 : w.heap.size ≤ bz)) ((Z23 : w.heap.size ≤ bz)) ?_; clear bp HB; intro bp HB eT GW356 rT; clear hb hbox hg; obtain ⟨fv, fw, fx, fy, fz, fA⟩ := bx3_ (w := fS) eT.out) | ((with_reducible refine gate_builtin (b := .append) (xs := #[.tmp 28, .tmp 30]) rfl ?_); at_builtin; refine Kd.R_append k33 (w0 := w) w.heap.size rfl (.tmp 28) (.tmp 30) 24 33 (.agg #[(.int .i64 0), (.int .i64 0), (.int .i64 0)]) 24 rfl Tryd.underlying24 info33 rfl (by decide) (by omega) u7 ag (⟨(rd_T33 l0 ai).f0, (rd_T33 l0 ai).f1, (rd_T33 l0 ai).f2⟩ : S33) [.int .i64 ((rd_T33 l0 ai).f0), .int .i64 ((rd_T33 l0 ai).f1), .int .i64 ((rd_T33 l0 ai).f2)] (fun k_ => k_ ≠ bz) (fun _ => False) rfl (Z34) ?aP (fun _ hk => hk.elim) ?aF ?aO ?aB ?aS ?aL ?_; (case aP => exact k33_mkM _ _ _ (⟨(rd_T33 l0 ai).f0, (rd_T33 l0 ai).f1, (rd_T33 l0 ai).f2⟩ : S33)); (case aB => exact Z53); (case aF => exact (fun k_ hk => Kd.freshB (g := bz) (o := .cells #[.int .i64 ((rd_T33 l0 ai).f0), .int .i64 ((rd_T33 l0 ai).f1), .int .i64 ((rd_T33 l0 ai).f2)] 33 (0, 0)) (Z57) k_ hk)); (case aO => exact (by (with_reducible repeat (first | apply Kd.R_alloc | apply Kd.R_drewN | apply Kd.R_drew)); exact Kd.R_mono (Kd.R_far (p := ⟨bz, 2, none⟩) (Kd.R_far (p := ⟨bz, 1, none⟩) (Kd.R_far (p := ⟨bz, 0, none⟩) (Kd.R_mono bp.out (fun k_ hk => (⟨hk, hk.2⟩ : _ ∧ k_ ≠ bz))) (fun _ hk => hk.2) (.int .i64 ((rd_T33 l0 ai).f0))) (fun _ hk => hk.2) (.int .i64 ((rd_T33 l0 ai).f1))) (fun _ hk => hk.2) (.int .i64 ((rd_T33 l0 ai).f2))) (fun _ hk => hk.1.2))); (case aS => exact (below_size (Z53))); (case aL => exact Z82 LMc12); intro v361 l7 ho hb hg hat; rw [← Ny360.out] at ho; refine k3_ (blk_grown (g := bz) (o := .cells #[.int .i64 ((rd_T33 l0 ai).f0), .int .i64 ((rd_T33 l0 ai).f1), .int .i64 ((rd_T33 l0 ai).f2)] 33 (0, 0)) (Z57) hg (Kd.R_away bp.out (fun _ hk => hk.2))) (hb) (ho) ?_; clear eT HB bp; intro eT HB HO362; clear ho hb hg hat))
       go_roundg k1
       case measure => have := HK1.out; omega
       case rel => exact ⟨(yb), (wrap64 (ai + 1)), (Z14), H', ⟨Z82 HK1⟩, ⟨Z26 HO362⟩, ⟨Z53⟩⟩
      rw [if_neg c12] at H
      exact absurd H (by simp)
     rw [if_neg c6] at H
     exact absurd H (by simp)
    rw [if_neg c5] at H
    exact absurd H (by simp)
   rw [if_neg c4] at H
   have cy : decide (ai < (l0.length : Int)) = false := decide_eq_false c4
   clear c4
   replace H := Option.bind_eq_some_iff.mp H
   obtain ⟨⟨yc, t364⟩, yd, H⟩ := H
   replace H : (some yc) = some r := H
   have A16 := Aside0.mk yd
   clear yd
   obtain rfl := Option.some.inj H
   obtain ⟨Ao17, co17, eo17⟩ := Kd.R_slice bp.out
   subst eo17
   go_wp2_with (first | ((with_reducible refine gate_callee (f := 44) rfl ?_); refine gl_ 35 Tryd.func44 #[.slice Ao17 ag.length co17] ?_; (with_reducible refine (spec_cySorted.calls k1 _ _ ag yc t364 _ ?_ ?_ A16.out).mono ?_); exact (Z4 bp); exact (Kd.R_reads' bp.out).2.1; rintro e yf ⟨v365, rfl, ho0, hb⟩; refine ⟨_, rfl, ?_⟩; refine k3_ (Yb_ bp) (Kd.R_lower (Kd.R_new' ho0 (Yd_ bp)) (below_size (Z1))) (below_step (Z1) hb) ?_; clear bp HB; intro bp HO366 HB; (try clear hb ho0)))
   go_ret
   exact ⟨_, Z11, Z26 HO366, Z1⟩

end Go.Proofs.YtdipcpcbclobpaaDoor.PFnPins
