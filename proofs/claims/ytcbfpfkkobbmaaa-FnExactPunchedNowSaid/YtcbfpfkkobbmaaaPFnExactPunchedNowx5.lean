-- written by a program of this session: the kit's print, with outer functions of the session's own (wip/ext)
import Derived.Test.YtcbfpfkkobbmaaaPFnExactPunchedNowx0
import Derived.Test.YtcbfpfkkobbmaaaPFnExactPunchedNowx2
import Derived.Test.YtcbfpfkkobbmaaaPFnExactPunchedNowx4
namespace Go.Proofs.Ytcbfpfkkobbmaaa.PFnExactPunchedNow
open Go.RowKit Go.Proofs.YtcbfpfkkobbmaaaW.PrintWords Go.Proofs.YtcbfpfkkobbmaaaW.PrintLast Go.Proofs.YtcbfpfkkobbmaaaW.PrintMore
attribute [local go_sem] max2_int min2_int max_two min_two max_three min_three max_four min_four   -- for this text's walks alone
set_option linter.unusedVariables false
set_option linter.unusedSimpArgs false

/-! ### spec_PunchedBy: function 8 -/
mutual
def spec_PunchedBy.l0 : Nat → List (S56) → List (S58) → Int → Option ((List (S58)) × Bool)
 | 0, _, _, _ => none
 | k + 1, x0, x4, x5 => if x5 < 20 then (if 2001 ≤ 281474976710656 then (spec_PunchedBy.l1 k x0 x4 x5 (List.replicate 2001 false) x0 (x0.length : Int) 0) else (none)) else ((spec_shSorted.f k x4).bind fun bt190 => (some (bt190.1, bt190.2)))
def spec_PunchedBy.l1 : Nat → List (S56) → List (S58) → Int → List Bool → List (S56) → Int → Int → Option ((List (S58)) × Bool)
 | 0, _, _, _, _, _, _, _ => none
 | k + 1, x0, x4, x5, x6, x21, x22, x23 => if x23 < x22 then (if 0 ≤ x23 then (if x23 < (x21.length : Int) then (spec_PunchedBy.l2 k x0 x4 x5 x6 0 x21 x22 x23 ((rd_T56 x21 x23).f0) ((rd_T56 x21 x23).f1)) else (none)) else (none)) else (spec_PunchedBy.l3 k x0 x4 x5 x6 (x6.length : Int) 0)
def spec_PunchedBy.l2 : Nat → List (S56) → List (S58) → Int → List Bool → Int → List (S56) → Int → Int → Int → Int → Option ((List (S58)) × Bool)
 | 0, _, _, _, _, _, _, _, _, _, _ => none
 | k + 1, x0, x4, x5, x6, x9, x21, x22, x23, x199000, x199001 => if x9 < 4 then (spec_PunchedBy.j3 k x0 x4 x5 x6 x9 x21 x22 x23 (x199000 == x5) x199000 x199001) else (spec_PunchedBy.j3 k x0 x4 x5 x6 x9 x21 x22 x23 false x199000 x199001)
def spec_PunchedBy.j3 : Nat → List (S56) → List (S58) → Int → List Bool → Int → List (S56) → Int → Int → Bool → Int → Int → Option ((List (S58)) × Bool)
 | 0, _, _, _, _, _, _, _, _, _, _, _ => none
 | k + 1, x0, x4, x5, x6, x9, x21, x22, x23, x34, x199000, x199001 => if x34 = true then (if (wrap64 (x199001 + x9)) < 2000 then (if 0 ≤ (wrap64 (x199001 + x9)) then (if (wrap64 (x199001 + x9)) < (x6.length : Int) then (spec_PunchedBy.l2 k x0 x4 x5 (x6.set ((wrap64 (x199001 + x9)) : Int).toNat true) (wrap64 (x9 + 1)) x21 x22 x23 x199000 x199001) else (none)) else (none)) else (spec_PunchedBy.l2 k x0 x4 x5 x6 (wrap64 (x9 + 1)) x21 x22 x23 x199000 x199001)) else (spec_PunchedBy.l1 k x0 x4 x5 x6 x21 x22 (wrap64 (x23 + 1)))
def spec_PunchedBy.l3 : Nat → List (S56) → List (S58) → Int → List Bool → Int → Int → Option ((List (S58)) × Bool)
 | 0, _, _, _, _, _, _ => none
 | k + 1, x0, x4, x5, x49, x50, x51 => if x51 < x50 then (if 0 ≤ x51 then (if x51 < (x49.length : Int) then (if rdOf false x49 x51 = true then (if (x4.length : Int) > 0 then (if 0 ≤ (wrap64 ((x4.length : Int) - 1)) then (if (wrap64 ((x4.length : Int) - 1)) < (x4.length : Int) then (if ((rd_T58 x4 (wrap64 ((x4.length : Int) - 1))).f0) = x5 then (spec_PunchedBy.j5 k x0 x4 x5 x51 (rdOf false x49 x51) (x4.length : Int) x49 x50 x51 (((rd_T58 x4 (wrap64 ((x4.length : Int) - 1))).f2) == x51)) else (spec_PunchedBy.j5 k x0 x4 x5 x51 (rdOf false x49 x51) (x4.length : Int) x49 x50 x51 false)) else (none)) else (none)) else (spec_PunchedBy.j5 k x0 x4 x5 x51 (rdOf false x49 x51) (x4.length : Int) x49 x50 x51 false)) else (spec_PunchedBy.j5 k x0 x4 x5 x51 (rdOf false x49 x51) (x4.length : Int) x49 x50 x51 false)) else (none)) else (none)) else (spec_PunchedBy.l0 k x0 x4 (wrap64 (x5 + 1)))
def spec_PunchedBy.j5 : Nat → List (S56) → List (S58) → Int → Int → Bool → Int → List Bool → Int → Int → Bool → Option ((List (S58)) × Bool)
 | 0, _, _, _, _, _, _, _, _, _, _ => none
 | k + 1, x0, x4, x5, x10, x11, x12, x49, x50, x51, x58 => if x58 = true then (if 0 ≤ (wrap64 (x12 - 1)) then (if (wrap64 (x12 - 1)) < (x4.length : Int) then (spec_PunchedBy.l3 k x0 (x4.set ((wrap64 (x12 - 1)) : Int).toNat (⟨(rd_T58 x4 (wrap64 (x12 - 1))).f0, (rd_T58 x4 (wrap64 (x12 - 1))).f1, wrap64 (x10 + 1)⟩ : S58)) x5 x49 x50 (wrap64 (x51 + 1))) else (none)) else (none)) else (if x11 = true then (if x4.length < 5864062014805 then (spec_PunchedBy.l3 k x0 (x4 ++ [(⟨x5, x10, wrap64 (x10 + 1)⟩ : S58)]) x5 x49 x50 (wrap64 (x51 + 1))) else (none)) else (spec_PunchedBy.l3 k x0 x4 x5 x49 x50 (wrap64 (x51 + 1))))
end
def spec_PunchedBy.f (k : Nat) (l0 : List (S56)) : Option ((List (S58)) × Bool) := (spec_puGood.f k l0).bind fun t189 => (if t189 = true then (spec_PunchedBy.l0 k l0 ([] : List (S58)) 0) else (some (([] : List (S58)), false)))
theorem spec_PunchedBy.mono_l : ∀ k, (∀ y0 y1 y2, LeO (spec_PunchedBy.l0 k y0 y1 y2) (spec_PunchedBy.l0 (k + 1) y0 y1 y2)) ∧ (∀ y0 y1 y2 y3 y4 y5 y6, LeO (spec_PunchedBy.l1 k y0 y1 y2 y3 y4 y5 y6) (spec_PunchedBy.l1 (k + 1) y0 y1 y2 y3 y4 y5 y6)) ∧ (∀ y0 y1 y2 y3 y4 y5 y6 y7 y8 y9, LeO (spec_PunchedBy.l2 k y0 y1 y2 y3 y4 y5 y6 y7 y8 y9) (spec_PunchedBy.l2 (k + 1) y0 y1 y2 y3 y4 y5 y6 y7 y8 y9)) ∧ (∀ y0 y1 y2 y3 y4 y5 y6 y7 y8 y9 y10, LeO (spec_PunchedBy.j3 k y0 y1 y2 y3 y4 y5 y6 y7 y8 y9 y10) (spec_PunchedBy.j3 (k + 1) y0 y1 y2 y3 y4 y5 y6 y7 y8 y9 y10)) ∧ (∀ y0 y1 y2 y3 y4 y5, LeO (spec_PunchedBy.l3 k y0 y1 y2 y3 y4 y5) (spec_PunchedBy.l3 (k + 1) y0 y1 y2 y3 y4 y5)) ∧ (∀ y0 y1 y2 y3 y4 y5 y6 y7 y8 y9, LeO (spec_PunchedBy.j5 k y0 y1 y2 y3 y4 y5 y6 y7 y8 y9) (spec_PunchedBy.j5 (k + 1) y0 y1 y2 y3 y4 y5 y6 y7 y8 y9))
 | 0 => ⟨fun _ _ _ r h => by simp [spec_PunchedBy.l0] at h, fun _ _ _ _ _ _ _ r h => by simp [spec_PunchedBy.l1] at h, fun _ _ _ _ _ _ _ _ _ _ r h => by simp [spec_PunchedBy.l2] at h, fun _ _ _ _ _ _ _ _ _ _ _ r h => by simp [spec_PunchedBy.j3] at h, fun _ _ _ _ _ _ r h => by simp [spec_PunchedBy.l3] at h, fun _ _ _ _ _ _ _ _ _ _ r h => by simp [spec_PunchedBy.j5] at h⟩
 | k + 1 => by
  obtain ⟨ih0, ih1, ih2, ih3, ih4, ih5⟩ := spec_PunchedBy.mono_l k
  refine ⟨?_, ?_, ?_, ?_, ?_, ?_⟩
  ·intro y0 y1 y2
   unfold spec_PunchedBy.l0
   repeat' first
   | (with_reducible exact ih0 _ _ _)
   | (with_reducible exact ih1 _ _ _ _ _ _ _)
   | (with_reducible exact ih2 _ _ _ _ _ _ _ _ _ _)
   | (with_reducible exact ih3 _ _ _ _ _ _ _ _ _ _ _)
   | (with_reducible exact ih4 _ _ _ _ _ _)
   | (with_reducible exact ih5 _ _ _ _ _ _ _ _ _ _)
   | (with_reducible exact spec_puGood.mono _ _)
   | (with_reducible exact spec_shSorted.mono _ _)
   | (with_reducible exact LeO.refl _)
   | (with_reducible exact LeO.none _)
   | (with_reducible refine LeO.ite ?_ ?_)
   | (with_reducible refine LeO.bind ?_ (fun _ => ?_))
   | exact ih0 _ _ _
   | exact ih1 _ _ _ _ _ _ _
   | exact ih2 _ _ _ _ _ _ _ _ _ _
   | exact ih3 _ _ _ _ _ _ _ _ _ _ _
   | exact ih4 _ _ _ _ _ _
   | exact ih5 _ _ _ _ _ _ _ _ _ _
   | exact spec_puGood.mono _ _
   | exact spec_shSorted.mono _ _
   | exact LeO.none _
   | refine LeO.ite ?_ ?_
   | refine LeO.bind ?_ (fun _ => ?_)
  ·intro y0 y1 y2 y3 y4 y5 y6
   unfold spec_PunchedBy.l1
   repeat' first
   | (with_reducible exact ih0 _ _ _)
   | (with_reducible exact ih1 _ _ _ _ _ _ _)
   | (with_reducible exact ih2 _ _ _ _ _ _ _ _ _ _)
   | (with_reducible exact ih3 _ _ _ _ _ _ _ _ _ _ _)
   | (with_reducible exact ih4 _ _ _ _ _ _)
   | (with_reducible exact ih5 _ _ _ _ _ _ _ _ _ _)
   | (with_reducible exact spec_puGood.mono _ _)
   | (with_reducible exact spec_shSorted.mono _ _)
   | (with_reducible exact LeO.refl _)
   | (with_reducible exact LeO.none _)
   | (with_reducible refine LeO.ite ?_ ?_)
   | (with_reducible refine LeO.bind ?_ (fun _ => ?_))
   | exact ih0 _ _ _
   | exact ih1 _ _ _ _ _ _ _
   | exact ih2 _ _ _ _ _ _ _ _ _ _
   | exact ih3 _ _ _ _ _ _ _ _ _ _ _
   | exact ih4 _ _ _ _ _ _
   | exact ih5 _ _ _ _ _ _ _ _ _ _
   | exact spec_puGood.mono _ _
   | exact spec_shSorted.mono _ _
   | exact LeO.none _
   | refine LeO.ite ?_ ?_
   | refine LeO.bind ?_ (fun _ => ?_)
  ·intro y0 y1 y2 y3 y4 y5 y6 y7 y8 y9
   unfold spec_PunchedBy.l2
   repeat' first
   | (with_reducible exact ih0 _ _ _)
   | (with_reducible exact ih1 _ _ _ _ _ _ _)
   | (with_reducible exact ih2 _ _ _ _ _ _ _ _ _ _)
   | (with_reducible exact ih3 _ _ _ _ _ _ _ _ _ _ _)
   | (with_reducible exact ih4 _ _ _ _ _ _)
   | (with_reducible exact ih5 _ _ _ _ _ _ _ _ _ _)
   | (with_reducible exact spec_puGood.mono _ _)
   | (with_reducible exact spec_shSorted.mono _ _)
   | (with_reducible exact LeO.refl _)
   | (with_reducible exact LeO.none _)
   | (with_reducible refine LeO.ite ?_ ?_)
   | (with_reducible refine LeO.bind ?_ (fun _ => ?_))
   | exact ih0 _ _ _
   | exact ih1 _ _ _ _ _ _ _
   | exact ih2 _ _ _ _ _ _ _ _ _ _
   | exact ih3 _ _ _ _ _ _ _ _ _ _ _
   | exact ih4 _ _ _ _ _ _
   | exact ih5 _ _ _ _ _ _ _ _ _ _
   | exact spec_puGood.mono _ _
   | exact spec_shSorted.mono _ _
   | exact LeO.none _
   | refine LeO.ite ?_ ?_
   | refine LeO.bind ?_ (fun _ => ?_)
  ·intro y0 y1 y2 y3 y4 y5 y6 y7 y8 y9 y10
   unfold spec_PunchedBy.j3
   repeat' first
   | (with_reducible exact ih0 _ _ _)
   | (with_reducible exact ih1 _ _ _ _ _ _ _)
   | (with_reducible exact ih2 _ _ _ _ _ _ _ _ _ _)
   | (with_reducible exact ih3 _ _ _ _ _ _ _ _ _ _ _)
   | (with_reducible exact ih4 _ _ _ _ _ _)
   | (with_reducible exact ih5 _ _ _ _ _ _ _ _ _ _)
   | (with_reducible exact spec_puGood.mono _ _)
   | (with_reducible exact spec_shSorted.mono _ _)
   | (with_reducible exact LeO.refl _)
   | (with_reducible exact LeO.none _)
   | (with_reducible refine LeO.ite ?_ ?_)
   | (with_reducible refine LeO.bind ?_ (fun _ => ?_))
   | exact ih0 _ _ _
   | exact ih1 _ _ _ _ _ _ _
   | exact ih2 _ _ _ _ _ _ _ _ _ _
   | exact ih3 _ _ _ _ _ _ _ _ _ _ _
   | exact ih4 _ _ _ _ _ _
   | exact ih5 _ _ _ _ _ _ _ _ _ _
   | exact spec_puGood.mono _ _
   | exact spec_shSorted.mono _ _
   | exact LeO.none _
   | refine LeO.ite ?_ ?_
   | refine LeO.bind ?_ (fun _ => ?_)
  ·intro y0 y1 y2 y3 y4 y5
   unfold spec_PunchedBy.l3
   repeat' first
   | (with_reducible exact ih0 _ _ _)
   | (with_reducible exact ih1 _ _ _ _ _ _ _)
   | (with_reducible exact ih2 _ _ _ _ _ _ _ _ _ _)
   | (with_reducible exact ih3 _ _ _ _ _ _ _ _ _ _ _)
   | (with_reducible exact ih4 _ _ _ _ _ _)
   | (with_reducible exact ih5 _ _ _ _ _ _ _ _ _ _)
   | (with_reducible exact spec_puGood.mono _ _)
   | (with_reducible exact spec_shSorted.mono _ _)
   | (with_reducible exact LeO.refl _)
   | (with_reducible exact LeO.none _)
   | (with_reducible refine LeO.ite ?_ ?_)
   | (with_reducible refine LeO.bind ?_ (fun _ => ?_))
   | exact ih0 _ _ _
   | exact ih1 _ _ _ _ _ _ _
   | exact ih2 _ _ _ _ _ _ _ _ _ _
   | exact ih3 _ _ _ _ _ _ _ _ _ _ _
   | exact ih4 _ _ _ _ _ _
   | exact ih5 _ _ _ _ _ _ _ _ _ _
   | exact spec_puGood.mono _ _
   | exact spec_shSorted.mono _ _
   | exact LeO.none _
   | refine LeO.ite ?_ ?_
   | refine LeO.bind ?_ (fun _ => ?_)
  ·intro y0 y1 y2 y3 y4 y5 y6 y7 y8 y9
   unfold spec_PunchedBy.j5
   repeat' first
   | (with_reducible exact ih0 _ _ _)
   | (with_reducible exact ih1 _ _ _ _ _ _ _)
   | (with_reducible exact ih2 _ _ _ _ _ _ _ _ _ _)
   | (with_reducible exact ih3 _ _ _ _ _ _ _ _ _ _ _)
   | (with_reducible exact ih4 _ _ _ _ _ _)
   | (with_reducible exact ih5 _ _ _ _ _ _ _ _ _ _)
   | (with_reducible exact spec_puGood.mono _ _)
   | (with_reducible exact spec_shSorted.mono _ _)
   | (with_reducible exact LeO.refl _)
   | (with_reducible exact LeO.none _)
   | (with_reducible refine LeO.ite ?_ ?_)
   | (with_reducible refine LeO.bind ?_ (fun _ => ?_))
   | exact ih0 _ _ _
   | exact ih1 _ _ _ _ _ _ _
   | exact ih2 _ _ _ _ _ _ _ _ _ _
   | exact ih3 _ _ _ _ _ _ _ _ _ _ _
   | exact ih4 _ _ _ _ _ _
   | exact ih5 _ _ _ _ _ _ _ _ _ _
   | exact spec_puGood.mono _ _
   | exact spec_shSorted.mono _ _
   | exact LeO.none _
   | refine LeO.ite ?_ ?_
   | refine LeO.bind ?_ (fun _ => ?_)
theorem spec_PunchedBy.mono : ∀ a0 k, LeO (spec_PunchedBy.f k a0) (spec_PunchedBy.f (k + 1) a0) := by
 intro a0 k
 obtain ⟨ih0, ih1, ih2, ih3, ih4, ih5⟩ := spec_PunchedBy.mono_l k
 unfold spec_PunchedBy.f
 repeat' first
   | (with_reducible exact ih0 _ _ _)
   | (with_reducible exact ih1 _ _ _ _ _ _ _)
   | (with_reducible exact ih2 _ _ _ _ _ _ _ _ _ _)
   | (with_reducible exact ih3 _ _ _ _ _ _ _ _ _ _ _)
   | (with_reducible exact ih4 _ _ _ _ _ _)
   | (with_reducible exact ih5 _ _ _ _ _ _ _ _ _ _)
   | (with_reducible exact spec_puGood.mono _ _)
   | (with_reducible exact spec_shSorted.mono _ _)
   | (with_reducible exact LeO.refl _)
   | (with_reducible exact LeO.none _)
   | (with_reducible refine LeO.ite ?_ ?_)
   | (with_reducible refine LeO.bind ?_ (fun _ => ?_))
   | exact ih0 _ _ _
   | exact ih1 _ _ _ _ _ _ _
   | exact ih2 _ _ _ _ _ _ _ _ _ _
   | exact ih3 _ _ _ _ _ _ _ _ _ _ _
   | exact ih4 _ _ _ _ _ _
   | exact ih5 _ _ _ _ _ _ _ _ _ _
   | exact spec_puGood.mono _ _
   | exact spec_shSorted.mono _ _
   | exact LeO.none _
   | refine LeO.ite ?_ ?_
   | refine LeO.bind ?_ (fun _ => ?_)
set_option maxHeartbeats 8000000 in
set_option maxRecDepth 100000 in
theorem spec_PunchedBy.calls (k : Nat) (A0 : Option Addr) (c0 : Nat) (l0 : List (S56)) (r1 : List (S58)) (r2 : Bool) (w : World) (hr0 : Kd.C k56 w A0 l0.length l0) (hc0 : l0.length ≤ c0) (h : spec_PunchedBy.f k l0 = some (r1, r2)) :
  Calls Try.prog 8 #[.slice A0 l0.length c0] w fun e w' => ∃ v0_ : Value, e = .returned (.tuple #[v0_, .bool r2]) ∧ Kd.R k58 58 w' w.heap.size (fun _ => True) v0_ r1 ∧ Below w.heap.size w w' := by
 have hu56 := Try.underlying56
 have hu58 := Try.underlying58
 have HR0 := Aside0.mk hr0
 have HC0 := Aside0.mk hc0
 clear hr0 hc0
 have HB := Aside0.mk (Below.refl w.heap.size w)
 have H : ((spec_puGood.f k l0).bind fun t189 => (if t189 = true then (spec_PunchedBy.l0 k l0 ([] : List (S58)) 0) else (some (([] : List (S58)), false)))) = some (r1, r2) := h
 clear h
 replace H := Option.bind_eq_some_iff.mp H
 obtain ⟨t189, A20, H⟩ := H
 (try dsimp only at H)
 have A2 := Aside0.mk A20
 clear A20
 by_cases c3 : t189 = true
 ·subst c3
  have H1 : (spec_PunchedBy.l0 k l0 ([] : List (S58)) 0) = some (r1, r2) := by rw [if_pos rfl] at H; exact H
  clear H
  have H := H1
  clear H1
  have H' := Aside0.mk H
  clear H
  go_enter Try.func8, Try.ntmps8
  go_wp2_with (first | ((with_reducible refine gate_callee (f := 31) rfl ?_); refine goesL_ (some 14) rfl rfl Try.func31 (by kernel_rfl) rfl #[.slice A0 l0.length c0] rfl (by (try simp only [List.map_toArray, List.map_cons, List.map_nil]); first | done | rfl | (simp only [List.length_drop, List.length_take]; rfl)) ?_; (with_reducible refine (spec_puGood.calls k _ _ l0 true _ ?side1 ?side2 A2.out).mono ?_); (case side1 => repeat (first | exact HR0.out | (with_reducible refine Kd.C_alloc ?_ _) | (with_reducible refine Kd.C_drewN ?_ _) | (with_reducible refine Kd.C_drew ?_))); (case side2 => exact HC0.out); rintro e w4 ⟨rfl, hb⟩; refine ⟨_, rfl, ?_⟩; have n0_ := Aside0.mk (below_step (by repeat (first | (with_reducible first | exact HB.out | apply below_alloc | apply pw_below_drewN | apply below_drew1) | exact HB.out)) hb); clear HB; have HB := n0_; clear n0_; (try clear hb); (try clear hb2); (try clear hk); (try clear hi)))
  go_loopg [4, 5] k (fun kq v4 v5 w' => ∃ (x4_1 : List (S58)) (x5_1 : Int), v5 = .int .i64 x5_1 ∧ Aside0 (spec_PunchedBy.l0 kq l0 x4_1 x5_1 = some (r1, r2)) ∧ Aside0 (kq ≤ k) ∧ Aside0 (Kd.R k58 58 w' w.heap.size (fun _ => True) v4 x4_1) ∧ Aside0 (Below w.heap.size w w'))
  case atStart => exact ⟨(([] : List (S58))), (0), (by first | rfl | (simp; done) | (simp [*]; done)), H', ⟨Nat.le_refl _⟩, ⟨by first | exact Kd.R_nil _ _ _ _ _ | exact Kd.N_nil _ _ _ _ _ | exact Kd.V_nil _ _ _ _ _ | exact Kd.Q_nil _ _ _ _ _ | exact Kd.S_nil _ _ _ _ _⟩, ⟨by repeat (first | (with_reducible first | exact HB.out | apply below_alloc | apply pw_below_drewN | apply below_drew1) | exact HB.out)⟩⟩
  case round =>
   clear H'
   (try clear p2); (try clear c3)
   obtain ⟨x4_1, x5_1, rfl, HA, HK1, HO_4, HB⟩ := hrel
   cases gk with
   | zero => exact absurd HA.out (by simp [spec_PunchedBy.l0])
   | succ k1 =>
    have H := HA.out
    clear HA
    simp only [spec_PunchedBy.l0] at H
    by_cases c5 : x5_1 < 20
    ·rw [if_pos c5] at H
     have c5b0 : decide (x5_1 < 20) = true := decide_eq_true c5
     clear c5
     by_cases c6 : 2001 ≤ 281474976710656
     ·rw [if_pos c6] at H
      have c6b0 := eq_true c6
      have c6b1 : decide (2001 ≤ 281474976710656) = true := decide_eq_true c6
      clear c6
      obtain ⟨y194, hy194⟩ : ∃ y_ : List Bool, y_ = (List.replicate 2001 false) := ⟨_, rfl⟩
      replace H : (spec_PunchedBy.l1 k1 l0 x4_1 x5_1 y194 l0 (l0.length : Int) 0) = some (r1, r2) := by first | (rw [hy194]; with_reducible exact H) | (have H2_ := (Option.bind_some _ _).symm.trans H; rw [hy194]; with_reducible exact H2_) | (have H2_ := (Option.bind_some _ _).symm.trans H; with_reducible exact H2_) | with_reducible exact H | (rw [hy194]; exact H) | exact H
      have Ny194 := Aside0.mk hy194
      clear hy194
      have H' := Aside0.mk H
      clear H
      go_wp2_with (first | ((with_reducible refine gate_dst (N := 20) rfl ?_); refine Kd.R_make Kd.bool _ 4 rfl (N := 20) rfl 54 _ _ rfl 2001 rfl rfl Try.underlying54 (.bool false) 1 info4 rfl (by decide) (by omega) false (ok := fun _ => True) (okp := fun _ => True) rfl (fun _ hk => hk) trivial (by omega) (by omega) (Below.refl _ _) (Nat.le_refl _) ?_; intro v195 w7 ho8 hb hg_ hnew_; clear hg_ hnew_; (first | rw [← Ny194.out] at ho8 | (simp only [Int.reduceToNat] at ho8; rw [← Ny194.out] at ho8)); have n0_ := Aside0.mk (Kd.R_below (by (with_reducible repeat (first | apply Kd.R_alloc | apply Kd.R_drewN | apply Kd.R_drew)); exact HO_4.out) hb); have n1_ := Aside0.mk (Kd.R_lower ho8 (below_size (by repeat (first | (with_reducible first | exact HB.out | apply below_alloc | apply pw_below_drewN | apply below_drew1) | exact HB.out)))); have n2_ := Aside0.mk (below_step (by repeat (first | (with_reducible first | exact HB.out | apply below_alloc | apply pw_below_drewN | apply below_drew1) | exact HB.out)) hb); clear HO_4; clear HB; have HO_4 := n0_; have HO196 := n1_; have HB := n2_; clear n0_ n1_ n2_; clear hb ho8))
      go_loopg [23] k1 (fun kq v23 w' => ∃ (x6_2 : List Bool) (x23_2 : Int), v23 = .int .i64 x23_2 ∧ Aside0 (spec_PunchedBy.l1 kq l0 x4_1 x5_1 x6_2 l0 (l0.length : Int) x23_2 = some (r1, r2)) ∧ Aside0 (kq ≤ k1) ∧ Aside0 (Kd.R k58 58 w' w.heap.size (fun _ => True) u4 x4_1) ∧ Aside0 (Kd.R Kd.bool 4 w' w.heap.size (fun _ => True) v195 x6_2) ∧ Aside0 (Below w.heap.size w w'))
      case atStart => exact ⟨(y194), (0), (by first | rfl | (simp; done) | (simp [*]; done)), H', ⟨Nat.le_refl _⟩, ⟨by (with_reducible repeat (first | apply Kd.R_alloc | apply Kd.R_drewN | apply Kd.R_drew)); exact HO_4.out⟩, ⟨by (with_reducible repeat (first | apply Kd.R_alloc | apply Kd.R_drewN | apply Kd.R_drew)); exact HO196.out⟩, ⟨by repeat (first | (with_reducible first | exact HB.out | apply below_alloc | apply pw_below_drewN | apply below_drew1) | exact HB.out)⟩⟩
      case round =>
       clear H'
       (try clear c5); (try clear c5b0); (try clear c6); (try clear c6b0); (try clear c6b1); (try clear c8)
       obtain ⟨x6_2, x23_2, rfl, HA, HK2, HO_4, HO_6, HB⟩ := hrel
       cases gk with
       | zero => exact absurd HA.out (by simp [spec_PunchedBy.l1])
       | succ k2 =>
        have H := HA.out
        clear HA
        simp only [spec_PunchedBy.l1] at H
        by_cases c9 : x23_2 < (l0.length : Int)
        ·rw [if_pos c9] at H
         have c9b0 : decide (x23_2 < (l0.length : Int)) = true := decide_eq_true c9
         clear c9
         by_cases c10 : 0 ≤ x23_2
         ·rw [if_pos c10] at H
          have c10b0 : decide (0 ≤ x23_2) = true := decide_eq_true c10
          clear c10
          by_cases c11 : x23_2 < (l0.length : Int)
          ·rw [if_pos c11] at H
           have c11b0 : decide (x23_2 < (l0.length : Int)) = true := decide_eq_true c11
           clear c11
           have H' := Aside0.mk H
           clear H
           have p197 : 0 ≤ (x23_2 : Int) := of_decide_eq_true (by first | (with_reducible assumption) | assumption)
           have q197 : x23_2 < (l0.length : Int) := of_decide_eq_true (by first | (with_reducible assumption) | assumption)
           obtain ⟨ad197, e197, hx197_0, hx197_1⟩ := at_T56 HR0.out x23_2 p197 q197
           cases e197
           replace hx197_0 := (HB.out.cell (World.block_lt_of_cell? w _ hx197_0)).trans hx197_0
           replace hx197_1 := (HB.out.cell (World.block_lt_of_cell? w _ hx197_1)).trans hx197_1
           replace p197 := eq_true p197
           replace q197 := eq_true q197
           go_wp2_with (first | ((with_reducible refine gate_dst (N := 8) rfl ?_); refine box_event ?hg (N := 8) ?hd (cs := #[.int .i64 0, .int .i64 0]) (t := 56) ?hr ?_; (case hd => rfl); (case hg => rfl); (case hr => first | (go_simp; done) | (go_simp; rfl)); intro gb198 hg w12 hbox hb; have n0_ := Aside0.mk (Kd.R_below (by (with_reducible repeat (first | apply Kd.R_alloc | apply Kd.R_drewN | apply Kd.R_drew)); exact HO_4.out) hb); have n1_ := Aside0.mk (Kd.R_below (by (with_reducible repeat (first | apply Kd.R_alloc | apply Kd.R_drewN | apply Kd.R_drew)); exact HO_6.out) hb); have n2_ := Aside0.mk (below_step (by repeat (first | (with_reducible first | exact HB.out | apply below_alloc | apply pw_below_drewN | apply below_drew1) | exact HB.out)) hb); have n3_ := Aside0.mk (hbox); have n4_ := Aside0.mk ((by rw [hg]; exact (below_size (by repeat (first | (with_reducible first | exact HB.out | apply below_alloc | apply pw_below_drewN | apply below_drew1) | exact HB.out))) : w.heap.size ≤ gb198)); have n5_ := Aside0.mk ((by rw [hg]; exact (below_size (by repeat (first | (with_reducible first | exact HB.out | apply below_alloc | apply pw_below_drewN | apply below_drew1) | exact HB.out))) : w.heap.size ≤ gb198)); clear HO_4; clear HO_6; clear HB; have HO_4 := n0_; have HO_6 := n1_; have HB := n2_; have BK198 := n3_; have GW198 := n4_; have GE198 := n5_; clear n0_ n1_ n2_ n3_ n4_ n5_; clear hb hbox hg; have hcz13_0 : w12.cell? ⟨gb198, 0, none⟩ = some (.int .i64 0) := (blk_cell BK198.out 0).trans rfl; have hcz13_1 : w12.cell? ⟨gb198, 1, none⟩ = some (.int .i64 0) := (blk_cell BK198.out 1).trans rfl; have hfz13_0 := blk_frozen BK198.out 0; have hfz13_1 := blk_frozen BK198.out 1))
           go_loopg [9] k2 (fun kq v9 w' => ∃ (x6_3 : List Bool) (x9_3 : Int), v9 = .int .i64 x9_3 ∧ Aside0 (spec_PunchedBy.l2 kq l0 x4_1 x5_1 x6_3 x9_3 l0 (l0.length : Int) x23_2 ((rd_T56 l0 x23_2).f0) ((rd_T56 l0 x23_2).f1) = some (r1, r2)) ∧ Aside0 (kq ≤ k2) ∧ Aside0 (Kd.R k58 58 w' w.heap.size (fun _ => True) u4 x4_1) ∧ Aside0 (Kd.R Kd.bool 4 w' w.heap.size (fun _ => True) v195 x6_3) ∧ Aside0 (w'.heap[gb198]? = some (.cells #[.int .i64 ((rd_T56 l0 x23_2).f0), .int .i64 ((rd_T56 l0 x23_2).f1)] 56 (0, 0))) ∧ Aside0 (Below w.heap.size w w'))
           case atStart => exact ⟨(x6_2), (0), (by first | rfl | (simp; done) | (simp [*]; done)), H', ⟨Nat.le_refl _⟩, ⟨by (with_reducible repeat (first | apply Kd.R_alloc | apply Kd.R_drewN | apply Kd.R_drew)); exact Kd.R_mono (Kd.R_far (p := ⟨gb198, 1, none⟩) (Kd.R_far (p := ⟨gb198, 0, none⟩) (Kd.R_types HO_4.out BK198.out (by decide)) (fun _ hk => hk.2) (.int .i64 ((rd_T56 l0 x23_2).f0))) (fun _ hk => hk.2) (.int .i64 ((rd_T56 l0 x23_2).f1))) (fun _ hk => trivial)⟩, ⟨by (with_reducible repeat (first | apply Kd.R_alloc | apply Kd.R_drewN | apply Kd.R_drew)); exact Kd.R_mono (Kd.R_far (p := ⟨gb198, 1, none⟩) (Kd.R_far (p := ⟨gb198, 0, none⟩) (Kd.R_types HO_6.out BK198.out (by decide)) (fun _ hk => hk.2) (.int .i64 ((rd_T56 l0 x23_2).f0))) (fun _ hk => hk.2) (.int .i64 ((rd_T56 l0 x23_2).f1))) (fun _ hk => trivial)⟩, ⟨by (with_reducible repeat (first | refine blk_drewN ?_ _ | refine blk_drew ?_ | refine blk_alloc ?_ _)); refine blk_put (cs := #[.int .i64 ((rd_T56 l0 x23_2).f0), .int .i64 0]) ?_ 1 _ rfl; (with_reducible repeat (first | refine blk_drewN ?_ _ | refine blk_drew ?_ | refine blk_alloc ?_ _)); refine blk_put (cs := #[.int .i64 0, .int .i64 0]) ?_ 0 _ rfl; (with_reducible repeat (first | refine blk_drewN ?_ _ | refine blk_drew ?_ | refine blk_alloc ?_ _)); exact BK198.out⟩, ⟨by repeat (first | (with_reducible first | exact HB.out | apply below_alloc | apply pw_below_drewN | apply below_drew1 | refine below_set ?_ GE198.out) | exact HB.out)⟩⟩
           case round =>
            clear H'
            (try clear c1); (try clear p1); (try clear q1); (try clear hx1); (try clear c9); (try clear c9b0); (try clear c10); (try clear c10b0); (try clear c11); (try clear c11b0); (try clear hcz13_0); (try clear hcz13_1); (try clear hfz13_0); (try clear hfz13_1); (try clear hx197_0); (try clear hx197_1); (try clear p197); (try clear q197)
            obtain ⟨x6_3, x9_3, rfl, HA, HK3, HO_4, HO_6, BK198, HB⟩ := hrel
            cases gk with
            | zero => exact absurd HA.out (by simp [spec_PunchedBy.l2])
            | succ k3 =>
             have H := HA.out
             clear HA
             simp only [spec_PunchedBy.l2] at H
             have HC14 := Aside0.mk H
             clear H
             go_upto_region 12 with (fail)
             go_cut [34] (fun v34 wc => ∃ (kq : Nat) (x34_13 : Bool), v34 = .bool x34_13 ∧ Aside0 (spec_PunchedBy.j3 kq l0 x4_1 x5_1 x6_3 x9_3 l0 (l0.length : Int) x23_2 x34_13 ((rd_T56 l0 x23_2).f0) ((rd_T56 l0 x23_2).f1) = some (r1, r2)) ∧ Aside0 (kq ≤ k3) ∧ Aside0 (Kd.R k58 58 wc w.heap.size (fun _ => True) u4 x4_1) ∧ Aside0 (Kd.R Kd.bool 4 wc w.heap.size (fun _ => True) v195 x6_3) ∧ Aside0 (wc.heap[gb198]? = some (.cells #[.int .i64 ((rd_T56 l0 x23_2).f0), .int .i64 ((rd_T56 l0 x23_2).f1)] 56 (0, 0))) ∧ Aside0 (Below w.heap.size w wc))
             case first =>
              have H := HC14.out
              clear HC14
              by_cases c15 : x9_3 < 4
              ·rw [if_pos c15] at H
               have c15b0 : decide (x9_3 < 4) = true := decide_eq_true c15
               clear c15
               (first | rw [c15b0] | (simp only [i64_w, i32_w]; rw [c15b0]) | skip)
               have H' := Aside0.mk H
               clear H
               have hcz16_0 : wr.cell? ⟨gb198, 0, none⟩ = some (.int .i64 ((rd_T56 l0 x23_2).f0)) := (blk_cell BK198.out 0).trans rfl
               have hcz16_1 : wr.cell? ⟨gb198, 1, none⟩ = some (.int .i64 ((rd_T56 l0 x23_2).f1)) := (blk_cell BK198.out 1).trans rfl
               have hfz16_0 := blk_frozen BK198.out 0
               have hfz16_1 := blk_frozen BK198.out 1
               go_wp2
               go_meet
               case rel => exact ⟨_, ((((rd_T56 l0 x23_2).f0) == x5_1)), (by first | rfl | (simp; done) | (simp [*]; done)), H', ⟨by have := HK1.out; have := HK2.out; have := HK3.out; first | omega | exact Nat.le_refl _⟩, ⟨by (with_reducible repeat (first | apply Kd.R_alloc | apply Kd.R_drewN | apply Kd.R_drew)); exact HO_4.out⟩, ⟨by (with_reducible repeat (first | apply Kd.R_alloc | apply Kd.R_drewN | apply Kd.R_drew)); exact HO_6.out⟩, ⟨by (with_reducible repeat (first | refine blk_drewN ?_ _ | refine blk_drew ?_ | refine blk_alloc ?_ _)); exact BK198.out⟩, ⟨by repeat (first | (with_reducible first | exact HB.out | apply below_alloc | apply pw_below_drewN | apply below_drew1 | refine below_set ?_ GE198.out) | exact HB.out)⟩⟩
              ·rw [if_neg c15] at H
               have c15b0 : decide (x9_3 < 4) = false := decide_eq_false c15
               clear c15
               (first | rw [c15b0] | (simp only [i64_w, i32_w]; rw [c15b0]) | skip)
               have H' := Aside0.mk H
               clear H
               go_wp2
               go_meet
               case rel => exact ⟨_, (false), (by first | rfl | (simp; done) | (simp [*]; done)), H', ⟨by have := HK1.out; have := HK2.out; have := HK3.out; first | omega | exact Nat.le_refl _⟩, ⟨by (with_reducible repeat (first | apply Kd.R_alloc | apply Kd.R_drewN | apply Kd.R_drew)); exact HO_4.out⟩, ⟨by (with_reducible repeat (first | apply Kd.R_alloc | apply Kd.R_drewN | apply Kd.R_drew)); exact HO_6.out⟩, ⟨by (with_reducible repeat (first | refine blk_drewN ?_ _ | refine blk_drew ?_ | refine blk_alloc ?_ _)); exact BK198.out⟩, ⟨by repeat (first | (with_reducible first | exact HB.out | apply below_alloc | apply pw_below_drewN | apply below_drew1 | refine below_set ?_ GE198.out) | exact HB.out)⟩⟩
             case rest =>
              clear HC14
              (try clear c15); (try clear c15b0); (try clear hcz16_0); (try clear hcz16_1); (try clear hfz16_0); (try clear hfz16_1)
              obtain ⟨kq, x34_13, rfl, HA, HJ13, HO_4, HO_6, BK198, HB⟩ := hcut
              cases kq with
              | zero => exact absurd HA.out (by simp [spec_PunchedBy.j3])
              | succ kj13 =>
               have H := HA.out
               clear HA
               simp only [spec_PunchedBy.j3] at H
               by_cases c17 : x34_13 = true
               ·subst c17
                have H1 : (if (wrap64 (((rd_T56 l0 x23_2).f1) + x9_3)) < 2000 then (if 0 ≤ (wrap64 (((rd_T56 l0 x23_2).f1) + x9_3)) then (if (wrap64 (((rd_T56 l0 x23_2).f1) + x9_3)) < (x6_3.length : Int) then (spec_PunchedBy.l2 kj13 l0 x4_1 x5_1 (x6_3.set ((wrap64 (((rd_T56 l0 x23_2).f1) + x9_3)) : Int).toNat true) (wrap64 (x9_3 + 1)) l0 (l0.length : Int) x23_2 ((rd_T56 l0 x23_2).f0) ((rd_T56 l0 x23_2).f1)) else (none)) else (none)) else (spec_PunchedBy.l2 kj13 l0 x4_1 x5_1 x6_3 (wrap64 (x9_3 + 1)) l0 (l0.length : Int) x23_2 ((rd_T56 l0 x23_2).f0) ((rd_T56 l0 x23_2).f1))) = some (r1, r2) := by rw [if_pos rfl] at H; exact H
                clear H
                have H := H1
                clear H1
                by_cases c18 : (wrap64 (((rd_T56 l0 x23_2).f1) + x9_3)) < 2000
                ·rw [if_pos c18] at H
                 have c18b0 : decide ((wrap64 (((rd_T56 l0 x23_2).f1) + x9_3)) < 2000) = true := decide_eq_true c18
                 clear c18
                 obtain ⟨ji19, hji19⟩ : ∃ j_ : Int, (wrap64 (((rd_T56 l0 x23_2).f1) + x9_3)) = j_ := ⟨_, rfl⟩
                 replace H : (if 0 ≤ (ji19) then (if (ji19) < (x6_3.length : Int) then (spec_PunchedBy.l2 kj13 l0 x4_1 x5_1 (x6_3.set ((ji19) : Int).toNat true) (wrap64 (x9_3 + 1)) l0 (l0.length : Int) x23_2 ((rd_T56 l0 x23_2).f0) ((rd_T56 l0 x23_2).f1)) else (none)) else (none)) = some (r1, r2) := by first | (rw [hji19] at H; exact H) | (simp only [hji19] at H ⊢; exact H)
                 (try rw [hji19] at c18b0)
                 have hji19w : (IntKind.i64.wrap (((rd_T56 l0 x23_2).f1) + x9_3)) = ji19 := (i64_w _).trans hji19
                 by_cases c20 : 0 ≤ (ji19)
                 ·rw [if_pos c20] at H
                  have c20b0 : decide (0 ≤ (ji19)) = true := decide_eq_true c20
                  clear c20
                  by_cases c21 : (ji19) < (x6_3.length : Int)
                  ·rw [if_pos c21] at H
                   have c21b0 : decide ((ji19) < (x6_3.length : Int)) = true := decide_eq_true c21
                   clear c21
                   obtain ⟨y199, hy199⟩ : ∃ y_ : List Bool, y_ = (x6_3.set ((ji19) : Int).toNat true) := ⟨_, rfl⟩
                   replace H : (spec_PunchedBy.l2 kj13 l0 x4_1 x5_1 y199 (wrap64 (x9_3 + 1)) l0 (l0.length : Int) x23_2 ((rd_T56 l0 x23_2).f0) ((rd_T56 l0 x23_2).f1)) = some (r1, r2) := by first | (rw [hy199]; with_reducible exact H) | (have H2_ := (Option.bind_some _ _).symm.trans H; rw [hy199]; with_reducible exact H2_) | (have H2_ := (Option.bind_some _ _).symm.trans H; with_reducible exact H2_) | with_reducible exact H | (rw [hy199]; exact H) | exact H
                   have Ny199 := Aside0.mk hy199
                   clear hy199
                   have H' := Aside0.mk H
                   clear H
                   have hcz23_0 : wc.cell? ⟨gb198, 0, none⟩ = some (.int .i64 ((rd_T56 l0 x23_2).f0)) := (blk_cell BK198.out 0).trans rfl
                   have hcz23_1 : wc.cell? ⟨gb198, 1, none⟩ = some (.int .i64 ((rd_T56 l0 x23_2).f1)) := (blk_cell BK198.out 1).trans rfl
                   have hfz23_0 := blk_frozen BK198.out 0
                   have hfz23_1 := blk_frozen BK198.out 1
                   have p22 : 0 ≤ ((ji19) : Int) := of_decide_eq_true (by first | (with_reducible assumption) | assumption)
                   have q22 : ((ji19) : Int) < ((x6_3.length : Int) : Int) := of_decide_eq_true (by first | (with_reducible assumption) | assumption)
                   obtain ⟨go22, co22, eo22, gb22, gl22, cl22, HG22⟩ := Kd.R_form HO_6.out (by omega)
                   (first | cases eo22 | (injection eo22 with ea_ en_ ec_; (first | subst ea_ | (injection ea_ with ea_; subst ea_)); subst ec_; clear en_))
                   have GB22 := Aside0.mk gb22
                   have GG22 := Aside0.mk HG22
                   clear gb22 gl22 HG22
                   obtain ⟨hx22_0, hf22_0⟩ := Kd.R_celln false HO_6.out ((ji19) : Int) p22 q22
                   replace p22 := eq_true p22
                   replace q22 := eq_true q22
                   have HP24 := Kd.R_putg HO_6.out ((ji19) : Int) true
                   go_wp2_with (first | ((with_reducible refine gate_store (t := 4) (p := 47) rfl ?_); refine store_event (t := 4) (p := 47) (v := ?vo_w25) (w1 := (wc.setCell ⟨go22, ((ji19) : Int).toNat, none⟩ (.bool true))) ?hg ?ho ?hn ?hr ?_; (case ho => rfl); (case hg => rfl); (case hn => rfl); (case hr => first | (go_simp; done) | (go_simp; rfl)); intro w25 hw; have hg : wc.grownBy w25 (some go22) := (by rw [hw]; exact HP24.2); have hp_ : Kd.R Kd.bool 4 w25 w.heap.size (fun _ => True) (.slice (some ⟨go22, 0, none⟩) x6_3.length co22) y199 := (by rw [hw, Ny199.out]; exact HP24.1); clear HP24; have n0_ := Aside0.mk (Kd.R_over' (v := (.slice (some ⟨go22, 0, none⟩) x6_3.length co22)) (by (with_reducible repeat (first | apply Kd.R_alloc | apply Kd.R_drewN | apply Kd.R_drew)); exact HO_4.out) (Kd.R_typed HO_6.out) (by decide) hg); have n1_ := Aside0.mk (hp_); have n2_ := Aside0.mk (blk_grown (g := gb198) (o := .cells #[.int .i64 ((rd_T56 l0 x23_2).f0), .int .i64 ((rd_T56 l0 x23_2).f1)] 56 (0, 0)) (by (with_reducible repeat (first | refine blk_drewN ?_ _ | refine blk_drew ?_ | refine blk_alloc ?_ _)); exact BK198.out) hg (Kd.R_ne HO_6.out BK198.out (by decide))); have n3_ := Aside0.mk ((by rw [hw]; exact below_set (HB.out) GB22.out : Below w.heap.size w w25)); clear HO_4; clear HO_6; clear BK198; clear HB; have HO_4 := n0_; have HO_6 := n1_; have BK198 := n2_; have HB := n3_; clear n0_ n1_ n2_ n3_; clear hg hw hp_))
                   go_roundg kj13
                   case measure => have := HK1.out; have := HK2.out; have := HK3.out; have := HJ13.out; omega
                   case rel => exact ⟨(y199), (wrap64 (x9_3 + 1)), (by first | rfl | (simp; done) | (simp [*]; done)), H', ⟨by have := HK1.out; have := HK2.out; have := HK3.out; have := HJ13.out; omega⟩, ⟨by (with_reducible repeat (first | apply Kd.R_alloc | apply Kd.R_drewN | apply Kd.R_drew)); exact HO_4.out⟩, ⟨by (with_reducible repeat (first | apply Kd.R_alloc | apply Kd.R_drewN | apply Kd.R_drew)); exact HO_6.out⟩, ⟨by (with_reducible repeat (first | refine blk_drewN ?_ _ | refine blk_drew ?_ | refine blk_alloc ?_ _)); exact BK198.out⟩, ⟨by repeat (first | (with_reducible first | exact HB.out | apply below_alloc | apply pw_below_drewN | apply below_drew1 | refine below_set ?_ GE198.out) | exact HB.out)⟩⟩
                  ·rw [if_neg c21] at H
                   exact absurd H (by simp)
                 ·rw [if_neg c20] at H
                  exact absurd H (by simp)
                ·rw [if_neg c18] at H
                 have c18b0 : decide ((wrap64 (((rd_T56 l0 x23_2).f1) + x9_3)) < 2000) = false := decide_eq_false c18
                 clear c18
                 have H' := Aside0.mk H
                 clear H
                 have hcz26_0 : wc.cell? ⟨gb198, 0, none⟩ = some (.int .i64 ((rd_T56 l0 x23_2).f0)) := (blk_cell BK198.out 0).trans rfl
                 have hcz26_1 : wc.cell? ⟨gb198, 1, none⟩ = some (.int .i64 ((rd_T56 l0 x23_2).f1)) := (blk_cell BK198.out 1).trans rfl
                 have hfz26_0 := blk_frozen BK198.out 0
                 have hfz26_1 := blk_frozen BK198.out 1
                 go_wp2
                 go_roundg kj13
                 case measure => have := HK1.out; have := HK2.out; have := HK3.out; have := HJ13.out; omega
                 case rel => exact ⟨(x6_3), (wrap64 (x9_3 + 1)), (by first | rfl | (simp; done) | (simp [*]; done)), H', ⟨by have := HK1.out; have := HK2.out; have := HK3.out; have := HJ13.out; omega⟩, ⟨by (with_reducible repeat (first | apply Kd.R_alloc | apply Kd.R_drewN | apply Kd.R_drew)); exact HO_4.out⟩, ⟨by (with_reducible repeat (first | apply Kd.R_alloc | apply Kd.R_drewN | apply Kd.R_drew)); exact HO_6.out⟩, ⟨by (with_reducible repeat (first | refine blk_drewN ?_ _ | refine blk_drew ?_ | refine blk_alloc ?_ _)); exact BK198.out⟩, ⟨by repeat (first | (with_reducible first | exact HB.out | apply below_alloc | apply pw_below_drewN | apply below_drew1 | refine below_set ?_ GE198.out) | exact HB.out)⟩⟩
               ·replace c17 := Bool.eq_false_iff.mpr c17
                subst c17
                have H1 : (spec_PunchedBy.l1 kj13 l0 x4_1 x5_1 x6_3 l0 (l0.length : Int) (wrap64 (x23_2 + 1))) = some (r1, r2) := by rw [if_neg (show ¬ (false = true) by decide)] at H; exact H
                clear H
                have H := H1
                clear H1
                have H' := Aside0.mk H
                clear H
                go_wp2
                go_roundg kj13
                case measure => have := HK1.out; have := HK2.out; have := HK3.out; have := HJ13.out; omega
                case rel => exact ⟨(x6_3), (wrap64 (x23_2 + 1)), (by first | rfl | (simp; done) | (simp [*]; done)), H', ⟨by have := HK1.out; have := HK2.out; have := HK3.out; have := HJ13.out; omega⟩, ⟨by (with_reducible repeat (first | apply Kd.R_alloc | apply Kd.R_drewN | apply Kd.R_drew)); exact HO_4.out⟩, ⟨by (with_reducible repeat (first | apply Kd.R_alloc | apply Kd.R_drewN | apply Kd.R_drew)); exact HO_6.out⟩, ⟨by repeat (first | (with_reducible first | exact HB.out | apply below_alloc | apply pw_below_drewN | apply below_drew1 | refine below_set ?_ GE198.out) | exact HB.out)⟩⟩
          ·rw [if_neg c11] at H
           exact absurd H (by simp)
         ·rw [if_neg c10] at H
          exact absurd H (by simp)
        ·rw [if_neg c9] at H
         have c9b0 : decide (x23_2 < (l0.length : Int)) = false := decide_eq_false c9
         clear c9
         have H' := Aside0.mk H
         clear H
         obtain ⟨Ao27, co27, eo27⟩ := Kd.R_slice HO_6.out
         subst eo27
         go_wp2
         go_loopg [4, 51] k2 (fun kq v4 v51 w' => ∃ (x4_3 : List (S58)) (x51_3 : Int), v51 = .int .i64 x51_3 ∧ Aside0 (spec_PunchedBy.l3 kq l0 x4_3 x5_1 x6_2 (x6_2.length : Int) x51_3 = some (r1, r2)) ∧ Aside0 (kq ≤ k2) ∧ Aside0 (Kd.R k58 58 w' w.heap.size (fun _ => True) v4 x4_3) ∧ Aside0 (Kd.R Kd.bool 4 w' w.heap.size (fun _ => True) (.slice Ao27 x6_2.length co27) x6_2) ∧ Aside0 (Below w.heap.size w w'))
         case atStart => exact ⟨(x4_1), (0), (by first | rfl | (simp; done) | (simp [*]; done)), H', ⟨Nat.le_refl _⟩, ⟨by (with_reducible repeat (first | apply Kd.R_alloc | apply Kd.R_drewN | apply Kd.R_drew)); exact HO_4.out⟩, ⟨by (with_reducible repeat (first | apply Kd.R_alloc | apply Kd.R_drewN | apply Kd.R_drew)); exact HO_6.out⟩, ⟨by repeat (first | (with_reducible first | exact HB.out | apply below_alloc | apply pw_below_drewN | apply below_drew1) | exact HB.out)⟩⟩
         case round =>
          clear H'
          (try clear c1); (try clear p1); (try clear q1); (try clear hx1); (try clear c2); (try clear q2); (try clear hx2); (try clear hf2); (try clear p6); (try clear c9); (try clear c9b0); (try clear c10); (try clear c10b0); (try clear c11); (try clear c11b0); (try clear c15); (try clear c15b0); (try clear c17); (try clear c18); (try clear c18b0); (try clear p19); (try clear q19); (try clear hx19); (try clear c20); (try clear c20b0); (try clear c21); (try clear c21b0); (try clear p22); (try clear q22); (try clear hx22); (try clear hf22); (try clear hcz13_0); (try clear hcz13_1); (try clear hcz16_0); (try clear hcz16_1); (try clear hcz23_0); (try clear hcz23_1); (try clear hcz26_0); (try clear hcz26_1); (try clear hfz13_0); (try clear hfz13_1); (try clear hfz16_0); (try clear hfz16_1); (try clear hfz23_0); (try clear hfz23_1); (try clear hfz26_0); (try clear hfz26_1); (try clear hx197_0); (try clear hx197_1); (try clear hx22_0); (try clear p197); (try clear q197)
          obtain ⟨x4_3, x51_3, rfl, HA, HK3, HO_4, HO_49, HB⟩ := hrel
          cases gk with
          | zero => exact absurd HA.out (by simp [spec_PunchedBy.l3])
          | succ k3 =>
           have H := HA.out
           clear HA
           simp only [spec_PunchedBy.l3] at H
           by_cases c28 : x51_3 < (x6_2.length : Int)
           ·rw [if_pos c28] at H
            have c28b0 : decide (x51_3 < (x6_2.length : Int)) = true := decide_eq_true c28
            clear c28
            by_cases c29 : 0 ≤ x51_3
            ·rw [if_pos c29] at H
             have c29b0 : decide (0 ≤ x51_3) = true := decide_eq_true c29
             clear c29
             by_cases c30 : x51_3 < (x6_2.length : Int)
             ·rw [if_pos c30] at H
              have c30b0 : decide (x51_3 < (x6_2.length : Int)) = true := decide_eq_true c30
              clear c30
              have HC31 := Aside0.mk H
              clear H
              have p200 : 0 ≤ (x51_3 : Int) := of_decide_eq_true (by first | (with_reducible assumption) | assumption)
              have q200 : x51_3 < (x6_2.length : Int) := of_decide_eq_true (by first | (with_reducible assumption) | assumption)
              obtain ⟨ad200, e200, hx200_0⟩ := Kd.at_bool (Kd.R_reads' HO_49.out).2.2 x51_3 p200 q200
              cases e200
              replace p200 := eq_true p200
              replace q200 := eq_true q200
              obtain ⟨Ao32, co32, eo32⟩ := Kd.R_slice HO_4.out
              subst eo32
              obtain ⟨bq33, hbq33⟩ : ∃ b_ : Bool, b_ = (rdOf false x6_2 x51_3) := ⟨_, rfl⟩
              rw [← hbq33] at hx200_0
              have Nbq33 := Aside0.mk hbq33
              clear hbq33
              go_upto_region 21 with (fail)
              go_cut [58] (fun v58 wc => ∃ (kq : Nat) (x58_30 : Bool), v58 = .bool x58_30 ∧ Aside0 (spec_PunchedBy.j5 kq l0 x4_3 x5_1 x51_3 bq33 (x4_3.length : Int) x6_2 (x6_2.length : Int) x51_3 x58_30 = some (r1, r2)) ∧ Aside0 (kq ≤ k3) ∧ Aside0 (Kd.R k58 58 wc w.heap.size (fun _ => True) (.slice Ao32 x4_3.length co32) x4_3) ∧ Aside0 (Kd.R Kd.bool 4 wc w.heap.size (fun _ => True) (.slice (some ad200) x6_2.length co27) x6_2) ∧ Aside0 (Below w.heap.size w wc))
              case first =>
               have H := HC31.out
               clear HC31
               have hbq33 := Nbq33.out
               replace H : (if bq33 = true then (if (x4_3.length : Int) > 0 then (if 0 ≤ (wrap64 ((x4_3.length : Int) - 1)) then (if (wrap64 ((x4_3.length : Int) - 1)) < (x4_3.length : Int) then (if ((rd_T58 x4_3 (wrap64 ((x4_3.length : Int) - 1))).f0) = x5_1 then (spec_PunchedBy.j5 k3 l0 x4_3 x5_1 x51_3 bq33 (x4_3.length : Int) x6_2 (x6_2.length : Int) x51_3 (((rd_T58 x4_3 (wrap64 ((x4_3.length : Int) - 1))).f2) == x51_3)) else (spec_PunchedBy.j5 k3 l0 x4_3 x5_1 x51_3 bq33 (x4_3.length : Int) x6_2 (x6_2.length : Int) x51_3 false)) else (none)) else (none)) else (spec_PunchedBy.j5 k3 l0 x4_3 x5_1 x51_3 bq33 (x4_3.length : Int) x6_2 (x6_2.length : Int) x51_3 false)) else (spec_PunchedBy.j5 k3 l0 x4_3 x5_1 x51_3 bq33 (x4_3.length : Int) x6_2 (x6_2.length : Int) x51_3 false)) = some (r1, r2) := by rw [← hbq33] at H; exact H
               clear hbq33
               by_cases c34 : bq33 = true
               ·subst c34
                have H1 : (if (x4_3.length : Int) > 0 then (if 0 ≤ (wrap64 ((x4_3.length : Int) - 1)) then (if (wrap64 ((x4_3.length : Int) - 1)) < (x4_3.length : Int) then (if ((rd_T58 x4_3 (wrap64 ((x4_3.length : Int) - 1))).f0) = x5_1 then (spec_PunchedBy.j5 k3 l0 x4_3 x5_1 x51_3 true (x4_3.length : Int) x6_2 (x6_2.length : Int) x51_3 (((rd_T58 x4_3 (wrap64 ((x4_3.length : Int) - 1))).f2) == x51_3)) else (spec_PunchedBy.j5 k3 l0 x4_3 x5_1 x51_3 true (x4_3.length : Int) x6_2 (x6_2.length : Int) x51_3 false)) else (none)) else (none)) else (spec_PunchedBy.j5 k3 l0 x4_3 x5_1 x51_3 true (x4_3.length : Int) x6_2 (x6_2.length : Int) x51_3 false)) = some (r1, r2) := by rw [if_pos rfl] at H; exact H
                clear H
                have H := H1
                clear H1
                by_cases c35 : (x4_3.length : Int) > 0
                ·rw [if_pos c35] at H
                 have c35b0 : decide (0 < (x4_3.length : Int)) = true := decide_eq_true c35
                 have c35b1 : decide (0 < x4_3.length) = true := decide_eq_true (by omega)
                 clear c35
                 obtain ⟨ji36, hji36⟩ : ∃ j_ : Int, (wrap64 ((x4_3.length : Int) - 1)) = j_ := ⟨_, rfl⟩
                 replace H : (if 0 ≤ (ji36) then (if (ji36) < (x4_3.length : Int) then (if ((rd_T58 x4_3 (ji36)).f0) = x5_1 then (spec_PunchedBy.j5 k3 l0 x4_3 x5_1 x51_3 true (x4_3.length : Int) x6_2 (x6_2.length : Int) x51_3 (((rd_T58 x4_3 (ji36)).f2) == x51_3)) else (spec_PunchedBy.j5 k3 l0 x4_3 x5_1 x51_3 true (x4_3.length : Int) x6_2 (x6_2.length : Int) x51_3 false)) else (none)) else (none)) = some (r1, r2) := by first | (rw [hji36] at H; exact H) | (simp only [hji36] at H ⊢; exact H)
                 have hji36w : (IntKind.i64.wrap ((x4_3.length : Int) - 1)) = ji36 := (i64_w _).trans hji36
                 by_cases c37 : 0 ≤ (ji36)
                 ·rw [if_pos c37] at H
                  have c37b0 : decide (0 ≤ (ji36)) = true := decide_eq_true c37
                  clear c37
                  by_cases c38 : (ji36) < (x4_3.length : Int)
                  ·rw [if_pos c38] at H
                   have c38b0 : decide ((ji36) < (x4_3.length : Int)) = true := decide_eq_true c38
                   clear c38
                   by_cases c39 : ((rd_T58 x4_3 (ji36)).f0) = x5_1
                   ·rw [if_pos c39] at H
                    have c39b0 : (((rd_T58 x4_3 (ji36)).f0) == x5_1) = true := beq_iff_eq.mpr c39
                    have c39b1 : (((rd_T58 x4_3 (ji36)).f0) != x5_1) = false := bne_eq_false_iff_eq.mpr c39
                    clear c39
                    have H' := Aside0.mk H
                    clear H
                    have p201 : 0 ≤ ((ji36) : Int) := of_decide_eq_true (by first | (with_reducible assumption) | assumption)
                    have q201 : (ji36) < (x4_3.length : Int) := of_decide_eq_true (by first | (with_reducible assumption) | assumption)
                    obtain ⟨ad201, e201, hx201_0, hx201_1, hx201_2⟩ := at_T58 (Kd.R_reads' HO_4.out).2.2 (ji36) p201 q201
                    cases e201
                    replace p201 := eq_true p201
                    replace q201 := eq_true q201
                    have p202 : 0 ≤ ((ji36) : Int) := of_decide_eq_true (by first | (with_reducible assumption) | assumption)
                    have q202 : (ji36) < (x4_3.length : Int) := of_decide_eq_true (by first | (with_reducible assumption) | assumption)
                    obtain ⟨ad202, e202, hx202_0, hx202_1, hx202_2⟩ := at_T58 (Kd.R_reads' HO_4.out).2.2 (ji36) p202 q202
                    obtain rfl : ad201 = ad202 := (by injection e202)
                    replace p202 := eq_true p202
                    replace q202 := eq_true q202
                    go_wp2
                    go_meet
                    case rel => exact ⟨_, ((((rd_T58 x4_3 (ji36)).f2) == x51_3)), (by first | rfl | (simp; done) | (simp only [← hji36] <;> (first | rfl | simp)) | (simp [*]; done)), H', ⟨by have := HK1.out; have := HK2.out; have := HK3.out; first | omega | exact Nat.le_refl _⟩, ⟨by (with_reducible repeat (first | apply Kd.R_alloc | apply Kd.R_drewN | apply Kd.R_drew)); exact HO_4.out⟩, ⟨by (with_reducible repeat (first | apply Kd.R_alloc | apply Kd.R_drewN | apply Kd.R_drew)); exact HO_49.out⟩, ⟨by repeat (first | (with_reducible first | exact HB.out | apply below_alloc | apply pw_below_drewN | apply below_drew1) | exact HB.out)⟩⟩
                   ·rw [if_neg c39] at H
                    have c39b0 : (((rd_T58 x4_3 (ji36)).f0) == x5_1) = false := beq_eq_false_iff_ne.mpr c39
                    have c39b1 : (((rd_T58 x4_3 (ji36)).f0) != x5_1) = true := bne_iff_ne.mpr c39
                    have H' := Aside0.mk H
                    clear H
                    have p201 : 0 ≤ ((ji36) : Int) := of_decide_eq_true (by first | (with_reducible assumption) | assumption)
                    have q201 : (ji36) < (x4_3.length : Int) := of_decide_eq_true (by first | (with_reducible assumption) | assumption)
                    obtain ⟨ad201, e201, hx201_0, hx201_1, hx201_2⟩ := at_T58 (Kd.R_reads' HO_4.out).2.2 (ji36) p201 q201
                    cases e201
                    replace p201 := eq_true p201
                    replace q201 := eq_true q201
                    go_wp2
                    go_meet
                    case rel => exact ⟨_, (false), (by first | rfl | (simp; done) | (simp [*]; done)), H', ⟨by have := HK1.out; have := HK2.out; have := HK3.out; first | omega | exact Nat.le_refl _⟩, ⟨by (with_reducible repeat (first | apply Kd.R_alloc | apply Kd.R_drewN | apply Kd.R_drew)); exact HO_4.out⟩, ⟨by (with_reducible repeat (first | apply Kd.R_alloc | apply Kd.R_drewN | apply Kd.R_drew)); exact HO_49.out⟩, ⟨by repeat (first | (with_reducible first | exact HB.out | apply below_alloc | apply pw_below_drewN | apply below_drew1) | exact HB.out)⟩⟩
                  ·rw [if_neg c38] at H
                   exact absurd H (by simp)
                 ·rw [if_neg c37] at H
                  exact absurd H (by simp)
                ·rw [if_neg c35] at H
                 have c35b0 : decide (0 < (x4_3.length : Int)) = false := decide_eq_false c35
                 have c35b1 : decide (0 < x4_3.length) = false := decide_eq_false (by omega)
                 clear c35
                 have H' := Aside0.mk H
                 clear H
                 go_wp2
                 go_meet
                 case rel => exact ⟨_, (false), (by first | rfl | (simp; done) | (simp [*]; done)), H', ⟨by have := HK1.out; have := HK2.out; have := HK3.out; first | omega | exact Nat.le_refl _⟩, ⟨by (with_reducible repeat (first | apply Kd.R_alloc | apply Kd.R_drewN | apply Kd.R_drew)); exact HO_4.out⟩, ⟨by (with_reducible repeat (first | apply Kd.R_alloc | apply Kd.R_drewN | apply Kd.R_drew)); exact HO_49.out⟩, ⟨by repeat (first | (with_reducible first | exact HB.out | apply below_alloc | apply pw_below_drewN | apply below_drew1) | exact HB.out)⟩⟩
               ·replace c34 := Bool.eq_false_iff.mpr c34
                subst c34
                have H1 : (spec_PunchedBy.j5 k3 l0 x4_3 x5_1 x51_3 false (x4_3.length : Int) x6_2 (x6_2.length : Int) x51_3 false) = some (r1, r2) := by rw [if_neg (show ¬ (false = true) by decide)] at H; exact H
                clear H
                have H := H1
                clear H1
                have H' := Aside0.mk H
                clear H
                go_wp2
                go_meet
                case rel => exact ⟨_, (false), (by first | rfl | (simp; done) | (simp [*]; done)), H', ⟨by have := HK1.out; have := HK2.out; have := HK3.out; first | omega | exact Nat.le_refl _⟩, ⟨by (with_reducible repeat (first | apply Kd.R_alloc | apply Kd.R_drewN | apply Kd.R_drew)); exact HO_4.out⟩, ⟨by (with_reducible repeat (first | apply Kd.R_alloc | apply Kd.R_drewN | apply Kd.R_drew)); exact HO_49.out⟩, ⟨by repeat (first | (with_reducible first | exact HB.out | apply below_alloc | apply pw_below_drewN | apply below_drew1) | exact HB.out)⟩⟩
              case rest =>
               have hbq33 := Nbq33.out
               clear Nbq33
               subst hbq33
               clear HC31
               (try clear q3); (try clear p20); (try clear q20); (try clear hx20); (try clear c28); (try clear c28b0); (try clear c29); (try clear c29b0); (try clear c30); (try clear c30b0); (try clear c31); (try clear q33); (try clear c34); (try clear c35); (try clear c35b0); (try clear c35b1); (try clear c37); (try clear c37b0); (try clear c38); (try clear c38b0); (try clear c39); (try clear c39b0); (try clear c39b1); (try clear hx200_0); (try clear hx201_0); (try clear hx201_1); (try clear hx201_2); (try clear hx202_0); (try clear hx202_1); (try clear hx202_2); (try clear p200); (try clear p201); (try clear p202); (try clear q200); (try clear q201); (try clear q202)
               obtain ⟨kq, x58_30, rfl, HA, HJ30, HO_4, HO_49, HB⟩ := hcut
               cases kq with
               | zero => exact absurd HA.out (by simp [spec_PunchedBy.j5])
               | succ kj30 =>
                have H := HA.out
                clear HA
                simp only [spec_PunchedBy.j5] at H
                by_cases c40 : x58_30 = true
                ·subst c40
                 have H1 : (if 0 ≤ (wrap64 ((x4_3.length : Int) - 1)) then (if (wrap64 ((x4_3.length : Int) - 1)) < (x4_3.length : Int) then (spec_PunchedBy.l3 kj30 l0 (x4_3.set ((wrap64 ((x4_3.length : Int) - 1)) : Int).toNat (⟨(rd_T58 x4_3 (wrap64 ((x4_3.length : Int) - 1))).f0, (rd_T58 x4_3 (wrap64 ((x4_3.length : Int) - 1))).f1, wrap64 (x51_3 + 1)⟩ : S58)) x5_1 x6_2 (x6_2.length : Int) (wrap64 (x51_3 + 1))) else (none)) else (none)) = some (r1, r2) := by rw [if_pos rfl] at H; exact H
                 clear H
                 have H := H1
                 clear H1
                 obtain ⟨ji41, hji41⟩ : ∃ j_ : Int, (wrap64 ((x4_3.length : Int) - 1)) = j_ := ⟨_, rfl⟩
                 replace H : (if 0 ≤ (ji41) then (if (ji41) < (x4_3.length : Int) then (spec_PunchedBy.l3 kj30 l0 (x4_3.set ((ji41) : Int).toNat (⟨(rd_T58 x4_3 (ji41)).f0, (rd_T58 x4_3 (ji41)).f1, wrap64 (x51_3 + 1)⟩ : S58)) x5_1 x6_2 (x6_2.length : Int) (wrap64 (x51_3 + 1))) else (none)) else (none)) = some (r1, r2) := by first | (rw [hji41] at H; exact H) | (simp only [hji41] at H ⊢; exact H)
                 have hji41w : (IntKind.i64.wrap ((x4_3.length : Int) - 1)) = ji41 := (i64_w _).trans hji41
                 by_cases c42 : 0 ≤ (ji41)
                 ·rw [if_pos c42] at H
                  have c42b0 : decide (0 ≤ (ji41)) = true := decide_eq_true c42
                  clear c42
                  by_cases c43 : (ji41) < (x4_3.length : Int)
                  ·rw [if_pos c43] at H
                   have c43b0 : decide ((ji41) < (x4_3.length : Int)) = true := decide_eq_true c43
                   clear c43
                   obtain ⟨y203, hy203⟩ : ∃ y_ : List (S58), y_ = (x4_3.set ((ji41) : Int).toNat (⟨(rd_T58 x4_3 (ji41)).f0, (rd_T58 x4_3 (ji41)).f1, wrap64 (x51_3 + 1)⟩ : S58)) := ⟨_, rfl⟩
                   replace H : (spec_PunchedBy.l3 kj30 l0 y203 x5_1 x6_2 (x6_2.length : Int) (wrap64 (x51_3 + 1))) = some (r1, r2) := by first | (rw [hy203]; with_reducible exact H) | (have H2_ := (Option.bind_some _ _).symm.trans H; rw [hy203]; with_reducible exact H2_) | (have H2_ := (Option.bind_some _ _).symm.trans H; with_reducible exact H2_) | with_reducible exact H | (rw [hy203]; exact H) | exact H
                   have Ny203 := Aside0.mk hy203
                   clear hy203
                   have H' := Aside0.mk H
                   clear H
                   have p44 : 0 ≤ ((ji41) : Int) := of_decide_eq_true (by first | (with_reducible assumption) | assumption)
                   have q44 : ((ji41) : Int) < ((x4_3.length : Int) : Int) := of_decide_eq_true (by first | (with_reducible assumption) | assumption)
                   obtain ⟨go44, co44, eo44, gb44, gl44, cl44, HG44⟩ := Kd.R_form HO_4.out (by omega)
                   (first | cases eo44 | (injection eo44 with ea_ en_ ec_; (first | subst ea_ | (injection ea_ with ea_; subst ea_)); subst ec_; clear en_))
                   have GB44 := Aside0.mk gb44
                   have GG44 := Aside0.mk HG44
                   clear gb44 gl44 HG44
                   obtain ⟨ce44, hcl44, hM44, hcc44, hfr44⟩ := Kd.R_elem HO_4.out z58 ((ji41) : Int) p44 q44
                   obtain rfl := k58_openM hM44
                   have hx44_0 : wc.cell? ⟨go44, ((ji41) : Int).toNat * 3, none⟩ = some (.int .i64 ((rd_T58 x4_3 (ji41)).f0)) := hcc44 0 _ rfl
                   have hx44_1 : wc.cell? ⟨go44, ((ji41) : Int).toNat * 3 + 1, none⟩ = some (.int .i64 ((rd_T58 x4_3 (ji41)).f1)) := hcc44 1 _ rfl
                   have hx44_2 : wc.cell? ⟨go44, ((ji41) : Int).toNat * 3 + 2, none⟩ = some (.int .i64 ((rd_T58 x4_3 (ji41)).f2)) := hcc44 2 _ rfl
                   have hf44_0 : wc.frozen? ⟨go44, ((ji41) : Int).toNat * 3, none⟩ = false := hfr44 0
                   have hf44_1 : wc.frozen? ⟨go44, ((ji41) : Int).toNat * 3 + 1, none⟩ = false := hfr44 1
                   have hf44_2 : wc.frozen? ⟨go44, ((ji41) : Int).toNat * 3 + 2, none⟩ = false := hfr44 2
                   clear hcl44 hcc44 hfr44 hM44
                   replace p44 := eq_true p44
                   replace q44 := eq_true q44
                   have HX45 := Aside0.mk (show Kd.R k58 58 wc w.heap.size (fun _ => True) (.slice (some ⟨go44, 0, none⟩) x4_3.length co32) x4_3 from (by (with_reducible repeat (first | apply Kd.R_alloc | apply Kd.R_drewN | apply Kd.R_drew)); exact HO_4.out))
                   obtain ⟨ce45, hcl45, hM45, hcc45, hfr45⟩ := Kd.R_elem HX45.out z58 ((ji41) : Int) (of_decide_eq_true (by first | (with_reducible assumption) | assumption)) (by have h_ : ((ji41) : Int) < ((x4_3.length : Int) : Int) := of_decide_eq_true (by first | (with_reducible assumption) | assumption); first | exact h_ | (have e_ := (Kd.R_reads' HO_4.out).1; omega) | simpa using h_)
                   obtain rfl := k58_openM hM45
                   have HP45 := Kd.R_seg HX45.out ((ji41) : Int) (of_decide_eq_true (by first | (with_reducible assumption) | assumption)) (by have h_ : ((ji41) : Int) < ((x4_3.length : Int) : Int) := of_decide_eq_true (by first | (with_reducible assumption) | assumption); first | exact h_ | (have e_ := (Kd.R_reads' HO_4.out).1; omega) | simpa using h_) (seg := [.int .i64 (wrap64 (x51_3 + 1))]) (j := 2) hcl45 hcc45 (show 3 ≤ 3 from by decide) (x' := (⟨(rd_T58 x4_3 (ji41)).f0, (rd_T58 x4_3 (ji41)).f1, wrap64 (x51_3 + 1)⟩ : S58)) (k58_mkM _ _ _ (⟨(rd_T58 x4_3 (ji41)).f0, (rd_T58 x4_3 (ji41)).f1, wrap64 (x51_3 + 1)⟩ : S58) ) (fun _ hk => hk)
                   have hx45_2 := hcc45 2 _ rfl
                   (try simp only [show (k58).sz = 3 from rfl, Nat.mul_one, Nat.add_zero] at hx45_2)
                   have hf45_2 := hfr45 2
                   (try simp only [show (k58).sz = 3 from rfl, Nat.mul_one, Nat.add_zero] at hf45_2)
                   clear hcl45 hcc45 hfr45 hM45
                   go_wp2_with (first | ((with_reducible refine gate_store (t := 3) (p := 90) rfl ?_); refine store_event (t := 3) (p := 90) (v := ?vo_w46) (w1 := (wc.setCell ⟨go44, ((ji41) : Int).toNat * 3 + 2, none⟩ (.int .i64 (wrap64 (x51_3 + 1))))) ?hg ?ho ?hn ?hr ?_; (case ho => rfl); (case hg => rfl); (case hn => rfl); (case hr => first | (go_simp; done) | (go_simp; rfl)); intro w46 hw; have hg : wc.grownBy w46 (some go44) := (by rw [hw]; exact HP45.2); have hp_ : Kd.R k58 58 w46 w.heap.size (fun _ => True) (.slice (some ⟨go44, 0, none⟩) x4_3.length co32) y203 := (by rw [hw, Ny203.out]; exact HP45.1); clear HP45; have n0_ := Aside0.mk (hp_); have n1_ := Aside0.mk (Kd.R_over' (v := (.slice (some ⟨go44, 0, none⟩) x4_3.length co32)) (by (with_reducible repeat (first | apply Kd.R_alloc | apply Kd.R_drewN | apply Kd.R_drew)); exact HO_49.out) (Kd.R_typed HO_4.out) (by decide) hg); have n2_ := Aside0.mk ((by rw [hw]; exact below_set (HB.out) GB44.out : Below w.heap.size w w46)); clear HO_4; clear HO_49; clear HB; have HO_4 := n0_; have HO_49 := n1_; have HB := n2_; clear n0_ n1_ n2_; clear hg hw hp_))
                   go_roundg kj30
                   case measure => have := HK1.out; have := HK2.out; have := HK3.out; have := HJ30.out; omega
                   case rel => exact ⟨(y203), (wrap64 (x51_3 + 1)), (by first | rfl | (simp; done) | (simp [*]; done)), H', ⟨by have := HK1.out; have := HK2.out; have := HK3.out; have := HJ30.out; omega⟩, ⟨by (with_reducible repeat (first | apply Kd.R_alloc | apply Kd.R_drewN | apply Kd.R_drew)); exact HO_4.out⟩, ⟨by (with_reducible repeat (first | apply Kd.R_alloc | apply Kd.R_drewN | apply Kd.R_drew)); exact HO_49.out⟩, ⟨by repeat (first | (with_reducible first | exact HB.out | apply below_alloc | apply pw_below_drewN | apply below_drew1) | exact HB.out)⟩⟩
                  ·rw [if_neg c43] at H
                   exact absurd H (by simp)
                 ·rw [if_neg c42] at H
                  exact absurd H (by simp)
                ·replace c40 := Bool.eq_false_iff.mpr c40
                 subst c40
                 have H1 : (if (rdOf false x6_2 x51_3) = true then (if x4_3.length < 5864062014805 then (spec_PunchedBy.l3 kj30 l0 (x4_3 ++ [(⟨x5_1, x51_3, wrap64 (x51_3 + 1)⟩ : S58)]) x5_1 x6_2 (x6_2.length : Int) (wrap64 (x51_3 + 1))) else (none)) else (spec_PunchedBy.l3 kj30 l0 x4_3 x5_1 x6_2 (x6_2.length : Int) (wrap64 (x51_3 + 1)))) = some (r1, r2) := by rw [if_neg (show ¬ (false = true) by decide)] at H; exact H
                 clear H
                 have H := H1
                 clear H1
                 obtain ⟨bq47, hbq47⟩ : ∃ b_ : Bool, b_ = (rdOf false x6_2 x51_3) := ⟨_, rfl⟩
                 replace H : (if (bq47) = true then (if x4_3.length < 5864062014805 then (spec_PunchedBy.l3 kj30 l0 (x4_3 ++ [(⟨x5_1, x51_3, wrap64 (x51_3 + 1)⟩ : S58)]) x5_1 x6_2 (x6_2.length : Int) (wrap64 (x51_3 + 1))) else (none)) else (spec_PunchedBy.l3 kj30 l0 x4_3 x5_1 x6_2 (x6_2.length : Int) (wrap64 (x51_3 + 1)))) = some (r1, r2) := by rw [← hbq47] at H; exact H
                 have Nbq47 := Aside0.mk hbq47
                 clear hbq47
                 (try rw [← Nbq47.out])
                 by_cases c48 : (bq47) = true
                 ·rw [if_pos c48] at H
                  have c48b0 : (bq47) = true := c48
                  subst c48b0
                  clear c48
                  by_cases c49 : x4_3.length < 5864062014805
                  ·rw [if_pos c49] at H
                   have LMc49 := Aside0.mk c49
                   clear c49
                   obtain ⟨y204, hy204⟩ : ∃ y_ : List (S58), y_ = (x4_3 ++ [(⟨x5_1, x51_3, wrap64 (x51_3 + 1)⟩ : S58)]) := ⟨_, rfl⟩
                   replace H : (spec_PunchedBy.l3 kj30 l0 y204 x5_1 x6_2 (x6_2.length : Int) (wrap64 (x51_3 + 1))) = some (r1, r2) := by first | (rw [hy204]; with_reducible exact H) | (have H2_ := (Option.bind_some _ _).symm.trans H; rw [hy204]; with_reducible exact H2_) | (have H2_ := (Option.bind_some _ _).symm.trans H; with_reducible exact H2_) | with_reducible exact H | (rw [hy204]; exact H) | exact H
                   have Ny204 := Aside0.mk hy204
                   clear hy204
                   have H' := Aside0.mk H
                   clear H
                   go_wp2_with (first | ((with_reducible refine gate_builtin (b := .append) (xs := #[.tmp 93, .tmp 99]) rfl ?_); at_builtin; refine Kd.R_append k58 (w0 := w) w.heap.size rfl (.tmp 93) (.tmp 99) 24 58 (.agg #[(.int .i64 0), (.int .i64 0), (.int .i64 0)]) 24 rfl Try.underlying24 info58 rfl (by decide) (by omega) (.slice Ao32 x4_3.length co32) x4_3 (⟨x5_1, x51_3, wrap64 (x51_3 + 1)⟩ : S58) [.int .i64 x5_1, .int .i64 x51_3, .int .i64 (wrap64 (x51_3 + 1))] (fun _ => True) (fun _ => False) rfl rfl ?aP (fun _ hk => hk.elim) ?aF ?aO ?aB ?aS ?aL ?_; (case aP => exact k58_mkM _ _ _ (⟨x5_1, x51_3, wrap64 (x51_3 + 1)⟩ : S58)); (case aB => exact (by repeat (first | (with_reducible first | exact HB.out | apply below_alloc | apply pw_below_drewN | apply below_drew1) | exact HB.out))); (case aF => exact (fun _ _ => trivial)); (case aO => exact (by (with_reducible repeat (first | apply Kd.R_alloc | apply Kd.R_drewN | apply Kd.R_drew)); exact HO_4.out)); (case aS => exact (below_size (by repeat (first | (with_reducible first | exact HB.out | apply below_alloc | apply pw_below_drewN | apply below_drew1) | exact HB.out)))); (case aL => have := LMc49.out; omega); intro v205 w50 ho hb hg hat; rw [← Ny204.out] at ho; have n0_ := Aside0.mk (Kd.R_over' (by (with_reducible repeat (first | apply Kd.R_alloc | apply Kd.R_drewN | apply Kd.R_drew)); exact HO_49.out) (Kd.R_typed (by (with_reducible repeat (first | apply Kd.R_alloc | apply Kd.R_drewN | apply Kd.R_drew)); exact HO_4.out)) (by decide) hg); have n1_ := Aside0.mk (hb); have n2_ := Aside0.mk (ho); clear HO_49; clear HB; clear HO_4; have HO_49 := n0_; have HB := n1_; have HO206 := n2_; clear n0_ n1_ n2_; clear ho hb hg hat))
                   go_roundg kj30
                   case measure => have := HK1.out; have := HK2.out; have := HK3.out; have := HJ30.out; omega
                   case rel => exact ⟨(y204), (wrap64 (x51_3 + 1)), (by first | rfl | (simp; done) | (simp [*]; done)), H', ⟨by have := HK1.out; have := HK2.out; have := HK3.out; have := HJ30.out; omega⟩, ⟨by (with_reducible repeat (first | apply Kd.R_alloc | apply Kd.R_drewN | apply Kd.R_drew)); exact HO206.out⟩, ⟨by (with_reducible repeat (first | apply Kd.R_alloc | apply Kd.R_drewN | apply Kd.R_drew)); exact HO_49.out⟩, ⟨by repeat (first | (with_reducible first | exact HB.out | apply below_alloc | apply pw_below_drewN | apply below_drew1) | exact HB.out)⟩⟩
                  ·rw [if_neg c49] at H
                   exact absurd H (by simp)
                 ·rw [if_neg c48] at H
                  have c48b0 : (bq47) = false := by simpa using c48
                  subst c48b0
                  clear c48
                  have H' := Aside0.mk H
                  clear H
                  go_wp2
                  go_roundg kj30
                  case measure => have := HK1.out; have := HK2.out; have := HK3.out; have := HJ30.out; omega
                  case rel => exact ⟨(x4_3), (wrap64 (x51_3 + 1)), (by first | rfl | (simp; done) | (simp [*]; done)), H', ⟨by have := HK1.out; have := HK2.out; have := HK3.out; have := HJ30.out; omega⟩, ⟨by (with_reducible repeat (first | apply Kd.R_alloc | apply Kd.R_drewN | apply Kd.R_drew)); exact HO_4.out⟩, ⟨by (with_reducible repeat (first | apply Kd.R_alloc | apply Kd.R_drewN | apply Kd.R_drew)); exact HO_49.out⟩, ⟨by repeat (first | (with_reducible first | exact HB.out | apply below_alloc | apply pw_below_drewN | apply below_drew1) | exact HB.out)⟩⟩
             ·rw [if_neg c30] at H
              exact absurd H (by simp)
            ·rw [if_neg c29] at H
             exact absurd H (by simp)
           ·rw [if_neg c28] at H
            have c28b0 : decide (x51_3 < (x6_2.length : Int)) = false := decide_eq_false c28
            clear c28
            have H' := Aside0.mk H
            clear H
            go_wp2
            go_roundg k3
            case measure => have := HK1.out; have := HK2.out; have := HK3.out; omega
            case rel => exact ⟨(x4_3), (wrap64 (x5_1 + 1)), (by first | rfl | (simp; done) | (simp [*]; done)), H', ⟨by have := HK1.out; have := HK2.out; have := HK3.out; omega⟩, ⟨by (with_reducible repeat (first | apply Kd.R_alloc | apply Kd.R_drewN | apply Kd.R_drew)); exact HO_4.out⟩, ⟨by repeat (first | (with_reducible first | exact HB.out | apply below_alloc | apply pw_below_drewN | apply below_drew1) | exact HB.out)⟩⟩
     ·rw [if_neg c6] at H
      exact absurd H (by simp)
    ·rw [if_neg c5] at H
     have c5b0 : decide (x5_1 < 20) = false := decide_eq_false c5
     clear c5
     replace H := Option.bind_eq_some_iff.mp H
     obtain ⟨⟨t190, t191⟩, A510, H⟩ := H
     replace H : (some (t190, t191)) = some (r1, r2) := H
     have A51 := Aside0.mk A510
     clear A510
     simp only [Option.some.injEq, Prod.mk.injEq] at H
     obtain ⟨rfl, rfl⟩ := H
     obtain ⟨Ao52, co52, eo52⟩ := Kd.R_slice HO_4.out
     subst eo52
     go_wp2_with (first | ((with_reducible refine gate_callee (f := 32) rfl ?_); refine goesL_ (some 103) rfl rfl Try.func32 (by kernel_rfl) rfl #[.slice Ao52 x4_1.length co52] rfl (by (try simp only [List.map_toArray, List.map_cons, List.map_nil]); first | done | rfl | (simp only [List.length_drop, List.length_take]; rfl)) ?_; (with_reducible refine (spec_shSorted.calls k1 _ _ x4_1 t190 t191 _ ?side1 ?side2 A51.out).mono ?_); (case side1 => repeat (first | exact (Kd.R_reads' HO_4.out).2.2 | (with_reducible refine Kd.C_alloc ?_ _) | (with_reducible refine Kd.C_drewN ?_ _) | (with_reducible refine Kd.C_drew ?_))); (case side2 => exact (Kd.R_reads' HO_4.out).2.1); rintro e w53 ⟨v192, rfl, ho0, hb⟩; refine ⟨_, rfl, ?_⟩; have n0_ := Aside0.mk (Kd.R_elder' (by (with_reducible repeat (first | apply Kd.R_alloc | apply Kd.R_drewN | apply Kd.R_drew)); exact HO_4.out) (Kd.R_base ho0) hb); have n1_ := Aside0.mk (Kd.R_lower (Kd.R_new' ho0 (Kd.R_lt (by (with_reducible repeat (first | apply Kd.R_alloc | apply Kd.R_drewN | apply Kd.R_drew)); exact HO_4.out))) (below_size (by repeat (first | (with_reducible first | exact HB.out | apply below_alloc | apply pw_below_drewN | apply below_drew1) | exact HB.out)))); have n2_ := Aside0.mk (below_step (by repeat (first | (with_reducible first | exact HB.out | apply below_alloc | apply pw_below_drewN | apply below_drew1) | exact HB.out)) hb); clear HO_4; clear HB; have HO_4 := n0_; have HO193 := n1_; have HB := n2_; clear n0_ n1_ n2_; (try clear hb); (try clear hb2); (try clear hk); (try clear hi); (try clear ho0)))
     go_ret2
     exact ⟨_, by first | rfl | (simp [errW_none, errW_some] <;> rfl) | (simp [*, errW_none, errW_some] <;> rfl), by (with_reducible repeat (first | apply Kd.R_alloc | apply Kd.R_drewN | apply Kd.R_drew)); exact Kd.R_mono HO193.out (fun _ hk => trivial), by repeat (first | (with_reducible first | exact HB.out | apply below_alloc | apply pw_below_drewN | apply below_drew1) | exact HB.out)⟩
 ·replace c3 := Bool.eq_false_iff.mpr c3
  subst c3
  have H1 : (some (([] : List (S58)), false)) = some (r1, r2) := by rw [if_neg (show ¬ (false = true) by decide)] at H; exact H
  clear H
  have H := H1
  clear H1
  simp only [Option.some.injEq, Prod.mk.injEq] at H
  obtain ⟨rfl, rfl⟩ := H
  go_enter Try.func8, Try.ntmps8
  go_wp2_with (first | ((with_reducible refine gate_callee (f := 31) rfl ?_); refine goesL_ (some 14) rfl rfl Try.func31 (by kernel_rfl) rfl #[.slice A0 l0.length c0] rfl (by (try simp only [List.map_toArray, List.map_cons, List.map_nil]); first | done | rfl | (simp only [List.length_drop, List.length_take]; rfl)) ?_; (with_reducible refine (spec_puGood.calls k _ _ l0 false _ ?side1 ?side2 A2.out).mono ?_); (case side1 => repeat (first | exact HR0.out | (with_reducible refine Kd.C_alloc ?_ _) | (with_reducible refine Kd.C_drewN ?_ _) | (with_reducible refine Kd.C_drew ?_))); (case side2 => exact HC0.out); rintro e w54 ⟨rfl, hb⟩; refine ⟨_, rfl, ?_⟩; have n0_ := Aside0.mk (below_step (by repeat (first | (with_reducible first | exact HB.out | apply below_alloc | apply pw_below_drewN | apply below_drew1) | exact HB.out)) hb); clear HB; have HB := n0_; clear n0_; (try clear hb); (try clear hb2); (try clear hk); (try clear hi)))
  go_ret2
  exact ⟨_, by first | rfl | (simp [errW_none, errW_some] <;> rfl) | (simp [*, errW_none, errW_some] <;> rfl), by first | exact Kd.R_nil _ _ _ _ _ | exact Kd.N_nil _ _ _ _ _ | exact Kd.V_nil _ _ _ _ _ | exact Kd.Q_nil _ _ _ _ _ | exact Kd.S_nil _ _ _ _ _, by repeat (first | (with_reducible first | exact HB.out | apply below_alloc | apply pw_below_drewN | apply below_drew1) | exact HB.out)⟩

end Go.Proofs.Ytcbfpfkkobbmaaa.PFnExactPunchedNow
