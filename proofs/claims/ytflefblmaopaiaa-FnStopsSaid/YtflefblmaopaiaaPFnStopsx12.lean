-- written by a program of this session: the kit's print, with outer functions of the session's own (wip/ext)
import Derived.Test.YtflefblmaopaiaaPFnStopsx0
import Derived.Test.YtflefblmaopaiaaPFnStopsx2
import Derived.Test.YtflefblmaopaiaaPFnStopsx11
namespace Go.Proofs.Ytflefblmaopaiaa.PFnStops
open Go.RowKit Go.Proofs.YtflefblmaopaiaaW.PrintWords Go.Proofs.YtflefblmaopaiaaW.PrintLast Go.Proofs.YtflefblmaopaiaaW.PrintMore
attribute [local go_sem] max2_int min2_int max_two min_two max_three min_three max_four min_four   -- for this text's walks alone
set_option linter.unusedVariables false
set_option linter.unusedSimpArgs false
theorem mo12_ {p : Prop} (h : p := by repeat' first | (with_reducible first | apply ih0 | apply ih0 | apply ih1 | apply ih1 | apply spec_jbStrokes.mono | apply spec_jbStrokes.mono | apply spec_l1All.mono | apply spec_l1All.mono | exact LeO.refl _ | exact LeO.none _ | refine LeO.ite ?_ ?_ | refine LeO.bind ?_ (fun _ => ?_)) | exact LeO.none _ | refine LeO.ite ?_ ?_ | refine LeO.bind ?_ (fun _ => ?_)) : p := h

/-! ### spec_l1All: function 31 -/
def spec_l1All.l0 : Nat → Int → Int → List Int → Int → Int → Option (Bool)
 | 0, _, _, _, _, _ => none
 | k + 1, x1, x2, x9, x10, x11 => if x11 < x10 then (if 0 ≤ x11 then (if x11 < (x9.length : Int) then ((spec_l1In.f (rd x9 x11) x1 x2).bind fun t494 => (if t494 = true then (spec_l1All.l0 k x1 x2 x9 x10 (wrap64 (x11 + 1))) else (some false))) else (none)) else (none)) else (some true)
def spec_l1All.f (k : Nat) (l0 : List Int) (a1 : Int) (a2 : Int) : Option (Bool) := spec_l1All.l0 k a1 a2 l0 (l0.length : Int) 0
theorem spec_l1All.mono_l : ∀ k, (∀ y0 y1 y2 y3 y4, LeO (spec_l1All.l0 k y0 y1 y2 y3 y4) (spec_l1All.l0 (k + 1) y0 y1 y2 y3 y4))
 | 0 => fun _ _ _ _ _ r h => by simp [spec_l1All.l0] at h
 | k + 1 => by
  have ih0 := spec_l1All.mono_l k
  ·intro y0 y1 y2 y3 y4
   unfold spec_l1All.l0
   exact mo12_
theorem spec_l1All.mono : ∀ a0 a1 a2 k, LeO (spec_l1All.f k a0 a1 a2) (spec_l1All.f (k + 1) a0 a1 a2) := by
 intro a0 a1 a2 k
 have ih0 := spec_l1All.mono_l k
 unfold spec_l1All.f
 exact mo12_
set_option maxHeartbeats 8000000 in
set_option maxRecDepth 100000 in
theorem spec_l1All.calls (k : Nat) (A0 : Option Addr) (c0 : Nat) (l0 : List Int) (a1 : Int) (a2 : Int) (r : Bool) (w : World) (hr0 : Kd.C (Kd.int .i64) w A0 l0.length l0) (hc0 : l0.length ≤ c0) (h : spec_l1All.f k l0 a1 a2 = some r) :
  Calls Try.prog 31 #[.slice A0 l0.length c0, .int .i64 a1, .int .i64 a2] w fun e w' => e = .returned (.bool r) ∧ Drawn0 w w' := by
 have HR0 := Aside0.mk hr0
 have HC0 := Aside0.mk hc0
 clear hr0 hc0
 have H : (spec_l1All.l0 k a1 a2 l0 (l0.length : Int) 0) = some r := h
 clear h
 have H' := Aside0.mk H
 clear H
 go_enter Try.func31, Try.ntmps31
 go_wp2
 go_loopg [11] k (fun kq v11 w' => ∃ (x11_1 : Int), v11 = .int .i64 x11_1 ∧ Aside0 (spec_l1All.l0 kq a1 a2 l0 (l0.length : Int) x11_1 = some r) ∧ Aside0 (kq ≤ k) ∧ Drawn0 w w')
 case atStart => exact ⟨(0), (Z17), H', ⟨Nat.le_refl _⟩, Z75⟩
 case round =>
  clear H'
  (try clear p2); (try clear c3)
  obtain ⟨x11_1, rfl, HA, HK1, ⟨m1, rfl⟩⟩ := hrel
  cases gk with
  | zero => exact absurd HA.out (by simp [spec_l1All.l0])
  | succ k1 =>
   have H := HA.out
   clear HA
   simp only [spec_l1All.l0] at H
   by_cases c4 : x11_1 < (l0.length : Int)
   ·rw [if_pos c4] at H
    have c4b0 : decide (x11_1 < (l0.length : Int)) = true := decide_eq_true c4
    clear c4
    by_cases c5 : 0 ≤ x11_1
    ·rw [if_pos c5] at H
     have c5b0 : decide (0 ≤ x11_1) = true := decide_eq_true c5
     clear c5
     by_cases c6 : x11_1 < (l0.length : Int)
     ·rw [if_pos c6] at H
      have c6b0 : decide (x11_1 < (l0.length : Int)) = true := decide_eq_true c6
      clear c6
      replace H := Option.bind_eq_some_iff.mp H
      obtain ⟨t494, A70, H⟩ := H
      (try dsimp only at H)
      have A7 := Aside0.mk A70
      clear A70
      by_cases c8 : t494 = true
      ·subst c8
       rw [if_pos rfl] at H
       have H' := Aside0.mk H
       clear H
       have p493 : 0 ≤ (x11_1 : Int) := of_decide_eq_true (Z18)
       have q493 : x11_1 < (l0.length : Int) := of_decide_eq_true (Z18)
       obtain ⟨ad493, e493, hx493_0⟩ := Kd.at_int HR0.out x11_1 p493 q493
       cases e493
       replace p493 := eq_true p493
       replace q493 := eq_true q493
       go_wp2_with (first | ((with_reducible refine gate_callee (f := 35) rfl ?_); refine gl_ 18 Try.func35 #[.int .i64 (rd l0 x11_1), .int .i64 a1, .int .i64 a2] ?_; (with_reducible refine (spec_l1In.calls (rd l0 x11_1) a1 a2 true _ A7.out).mono ?_); rintro e w' ⟨rfl, ⟨nd, rfl⟩⟩; refine ⟨_, rfl, ?_⟩))
       go_roundg k1
       case measure => have := HK1.out; omega
       case rel => exact ⟨(wrap64 (x11_1 + 1)), (Z17), H', ⟨Z187⟩, Z75⟩
      replace c8 := Bool.eq_false_iff.mpr c8
      subst c8
      rw [if_neg (show ¬ (false = true) by decide)] at H
      obtain rfl := Option.some.inj H
      have p493 : 0 ≤ (x11_1 : Int) := of_decide_eq_true (Z18)
      have q493 : x11_1 < (l0.length : Int) := of_decide_eq_true (Z18)
      obtain ⟨ad493, e493, hx493_0⟩ := Kd.at_int HR0.out x11_1 p493 q493
      cases e493
      replace p493 := eq_true p493
      replace q493 := eq_true q493
      go_wp2_with (first | ((with_reducible refine gate_callee (f := 35) rfl ?_); refine gl_ 18 Try.func35 #[.int .i64 (rd l0 x11_1), .int .i64 a1, .int .i64 a2] ?_; (with_reducible refine (spec_l1In.calls (rd l0 x11_1) a1 a2 false _ A7.out).mono ?_); rintro e w' ⟨rfl, ⟨nd, rfl⟩⟩; refine ⟨_, rfl, ?_⟩))
      go_ret
      exact ⟨Z17, Z75⟩
     rw [if_neg c6] at H
     exact absurd H (by simp)
    rw [if_neg c5] at H
    exact absurd H (by simp)
   rw [if_neg c4] at H
   have c4b0 : decide (x11_1 < (l0.length : Int)) = false := decide_eq_false c4
   clear c4
   obtain rfl := Option.some.inj H
   go_wp2
   go_ret
   exact ⟨Z17, Z75⟩

/-! ### spec_jbMark: function 32 -/
def spec_jbMark.f (a0 : Int) : Option (Bool) := (spec_l1In.f a0 1 50).bind fun t495 => (some t495)
set_option maxHeartbeats 8000000 in
set_option maxRecDepth 100000 in
theorem spec_jbMark.calls (a0 : Int) (r : Bool) (w : World) (h : spec_jbMark.f a0 = some r) :
  Calls Try.prog 32 #[.int .i64 a0] w fun e w' => e = .returned (.bool r) ∧ Drawn0 w w' := by
 have H : ((spec_l1In.f a0 1 50).bind fun t495 => (some t495)) = some r := h
 clear h
 replace H := Option.bind_eq_some_iff.mp H
 obtain ⟨t495, A20, H⟩ := H
 replace H : (some t495) = some r := H
 have A2 := Aside0.mk A20
 clear A20
 obtain rfl := Option.some.inj H
 go_enter Try.func32, Try.ntmps32
 go_wp2_with (first | ((with_reducible refine gate_callee (f := 35) rfl ?_); refine gl_ 4 Try.func35 #[.int .i64 a0, .int .i64 1, .int .i64 50] ?_; (with_reducible refine (spec_l1In.calls a0 1 50 t495 _ A2.out).mono ?_); rintro e w' ⟨rfl, ⟨nd, rfl⟩⟩; refine ⟨_, rfl, ?_⟩))
 go_ret
 exact ⟨Z17, Z75⟩

/-! ### spec_l1Least: function 33 -/
def spec_l1Least.f (a0 : Int) (a1 : Int) : Option (Int) := if a0 < a1 then (some a0) else (some a1)
set_option maxHeartbeats 8000000 in
set_option maxRecDepth 100000 in
theorem spec_l1Least.calls (a0 : Int) (a1 : Int) (r : Int) (w : World) (h : spec_l1Least.f a0 a1 = some r) :
  Calls Try.prog 33 #[.int .i64 a0, .int .i64 a1] w fun e w' => e = .returned (.int .i64 r) ∧ Drawn0 w w' := by
 have H : (if a0 < a1 then (some a0) else (some a1)) = some r := h
 clear h
 by_cases c3 : a0 < a1
 ·rw [if_pos c3] at H
  have c3b0 : decide (a0 < a1) = true := decide_eq_true c3
  clear c3
  obtain rfl := Option.some.inj H
  go_enter Try.func33, Try.ntmps33
  go_wp2
  go_ret
  exact ⟨Z17, Z75⟩
 rw [if_neg c3] at H
 have c3b0 : decide (a0 < a1) = false := decide_eq_false c3
 clear c3
 obtain rfl := Option.some.inj H
 go_enter Try.func33, Try.ntmps33
 go_wp2
 go_ret
 exact ⟨Z17, Z75⟩

/-! ### spec_jbOwn: function 34 -/
def spec_jbOwn.f (l0 : List (S64)) (a1 : Int) : Option ((List (S64)) × Int) := (some (([] : List (S64)) : List (S64))).bind fun y497 => (if y497.length + l0.length < 5864062014805 then (some ((y497 ++ l0), a1)) else (none))
set_option maxHeartbeats 8000000 in
set_option maxRecDepth 100000 in
theorem spec_jbOwn.calls (A0 : Option Addr) (c0 : Nat) (l0 : List (S64)) (a1 : Int) (r1 : List (S64)) (r2 : Int) (w : World) (hr0 : Kd.C k64 w A0 l0.length l0) (hc0 : l0.length ≤ c0) (h : spec_jbOwn.f l0 a1 = some (r1, r2)) :
  Calls Try.prog 34 #[.slice A0 l0.length c0, .int .i64 a1] w fun e w' => ∃ v0_ : Value, e = .returned (.agg #[v0_, .int .i64 r2]) ∧ Kd.R k64 64 w' w.heap.size (fun _ => True) v0_ r1 ∧ Below w.heap.size w w' := by
 have hu28 := Try.underlying28
 have HR0 := Aside0.mk hr0
 have HC0 := Aside0.mk hc0
 clear hr0 hc0
 have HB := Aside0.mk (Below.refl w.heap.size w)
 have H : ((some (([] : List (S64)) : List (S64))).bind fun y497 => (if y497.length + l0.length < 5864062014805 then (some ((y497 ++ l0), a1)) else (none))) = some (r1, r2) := h
 clear h
 obtain ⟨y497, hy497⟩ : ∃ y_ : List (S64), y_ = (([] : List (S64))) := ⟨_, rfl⟩
 replace H : (if y497.length + l0.length < 5864062014805 then (some ((y497 ++ l0), a1)) else (none)) = some (r1, r2) := by first | (rw [hy497]; with_reducible exact H) | (have H2_ := (Option.bind_some _ _).symm.trans H; rw [hy497]; with_reducible exact H2_) | (have H2_ := (Option.bind_some _ _).symm.trans H; with_reducible exact H2_) | with_reducible exact H | (rw [hy497]; exact H) | exact H
 have Ny497 := Aside0.mk hy497
 clear hy497
 by_cases c3 : y497.length + l0.length < 5864062014805
 ·rw [if_pos c3] at H
  have LMc3 := Aside0.mk c3
  clear c3
  obtain ⟨y500, hy500⟩ : ∃ y_ : List (S64), y_ = (y497 ++ l0) := ⟨_, rfl⟩
  replace H : (some (y500, a1)) = some (r1, r2) := by first | (rw [hy500]; with_reducible exact H) | (have H2_ := (Option.bind_some _ _).symm.trans H; rw [hy500]; with_reducible exact H2_) | (have H2_ := (Option.bind_some _ _).symm.trans H; with_reducible exact H2_) | with_reducible exact H | (rw [hy500]; exact H) | exact H
  have Ny500 := Aside0.mk hy500
  clear hy500
  simp only [Option.some.injEq, Prod.mk.injEq] at H
  obtain ⟨rfl, rfl⟩ := H
  go_enter Try.func34, Try.ntmps34
  go_wp2_with (first | ((with_reducible refine gate_dst (N := 4) rfl ?_); refine bv_ 4 28 #[.slice none 0 0, .int .i64 0] ?_; intro gb496 hg w4 hbox hb; refine k4_ (below_step (Z3) hb) (hbox) ((Z26 : w.heap.size ≤ gb496)) ((Z26 : w.heap.size ≤ gb496)) ?_; clear HB; intro HB BK496 GW496 GE496; clear hb hbox hg) | ((with_reducible refine gate_dst (N := 5) rfl ?_); refine Kd.R_lit k64 _ 64 ?hg (N := 5) ?hd (xs := ([] : List (S64))) (inner := []) (ok := fun _ => True) (okp := fun _ => True) ?hr ?hp (fun _ hk => hk) trivial (Below.refl _ _) (Nat.le_refl _) (by simp) ?_; (case hd => rfl); (case hg => rfl); (case hr => exact Z100); (case hp => exact (Reps.none _ _)); intro v498 w5 ho6 hb hg_ hnew_; clear hg_ hnew_; (first | rw [← Ny497.out] at ho6 | (simp only [Int.reduceToNat] at ho6; rw [← Ny497.out] at ho6)); refine k3_ (Kd.R_lower ho6 (below_size (Z127))) (blk_below (g := gb496) (o := .cells #[.slice none 0 0, .int .i64 0] 28 (0, 0)) (Z2 BK496.out) hb) (below_step (Z127) hb) ?_; clear BK496 HB; intro HO499 BK496 HB; clear hb ho6) | ((with_reducible refine gate_builtin (b := .append) (xs := #[.tmp 5, .tmp 6]) rfl ?_); at_builtin; refine Kd.R_append_rows k64 (w0 := w) w.heap.size rfl (.tmp 5) (.tmp 6) 23 64 (.agg #[(.int .i64 0), (.int .i64 0), (.int .i64 0)]) 24 rfl Try.underlying23 info64 rfl (by decide) (by omega) v498 y497 l0 _ _ _ (fun _ => True) (fun _ => False) rfl rfl ?aO ?aR (fun _ _ h => h) (fun _ h => h.elim) ?aF ?aB ?aS ?aL ?_; (case aR => exact Z10 HR0.out); (case aB => exact Z127); (case aF => exact (fun _ _ => trivial)); (case aO => exact Z1 HO499.out); (case aS => exact (below_size (Z127))); (case aL => have := LMc3.out; omega); intro v501 w7 ho hb hg hat; rw [← Ny500.out] at ho; refine k3_ (blk_grown (g := gb496) (o := .cells #[.slice none 0 0, .int .i64 0] 28 (0, 0)) (Z2 BK496.out) hg (Kd.R_ne HO499.out BK496.out (by decide))) (hb) (ho) ?_; clear BK496 HB HO499; intro BK496 HB HO502; clear ho hb hg hat; obtain ⟨Ao8, co8, eo8⟩ := Kd.R_slice HO502.out; subst eo8; obtain ⟨hcz9_0, hcz9_1, hfz9_0, hfz9_1⟩ := bx2_ (w := w7) BK496.out))
  refine bodyPost_ret (results_cell_row rfl _ _ gb496 28 #[.slice Ao8 y500.length co8, .int .i64 a1] (0, 0) _ rfl (by (with_reducible repeat (first | refine blk_drewN ?_ _ | refine blk_drew ?_ | refine blk_alloc ?_ _)); refine blk_put (cs := #[.slice Ao8 y500.length co8, .int .i64 0]) ?_ 1 _ rfl; (with_reducible repeat (first | refine blk_drewN ?_ _ | refine blk_drew ?_ | refine blk_alloc ?_ _)); refine blk_put (cs := #[.slice none 0 0, .int .i64 0]) ?_ 0 _ rfl; (with_reducible repeat (first | refine blk_drewN ?_ _ | refine blk_drew ?_ | refine blk_alloc ?_ _)); exact BK496.out) Try.underlying28 rfl (by kernel_rfl)) rfl ?_
  exact ⟨_, Z11, by (with_reducible repeat (first | apply Kd.R_alloc | apply Kd.R_drewN | apply Kd.R_drew)); exact Kd.R_mono (Kd.R_far (p := ⟨gb496, 1, none⟩) (Kd.R_far (p := ⟨gb496, 0, none⟩) (Kd.R_types HO502.out BK496.out (by decide)) (fun _ hk => hk.2) (.slice Ao8 y500.length co8)) (fun _ hk => hk.2) (.int .i64 a1)) (fun _ hk => trivial), Z127⟩
 rw [if_neg c3] at H
 exact absurd H (by simp)

/-! ### spec_RunWithStops: function 6 -/
mutual
def spec_RunWithStops.j0 : Nat → List (S64) → List Int → Int → List (S77) → Bool → Option ((List (S64)) × Int × Int × Bool)
 | 0, _, _, _, _, _ => none
 | k + 1, x0, x1, x2, x9, x38 => if x38 = true then (some (([] : List (S64)), 0, 0, false)) else (spec_RunWithStops.l0 k x0 x2 x9 0 0 x1 (x1.length : Int) 0)
def spec_RunWithStops.l0 : Nat → List (S64) → Int → List (S77) → Int → Int → List Int → Int → Int → Option ((List (S64)) × Int × Int × Bool)
 | 0, _, _, _, _, _, _, _, _ => none
 | k + 1, x0, x2, x9, x11, x12, x40, x41, x42 => if x42 < x41 then (if 0 ≤ x42 then (if x42 < (x40.length : Int) then (if x42 > 0 then (if x2 = 0 then (none) else ((spec_l1Least.f (rd x40 x42) (wrap64 ((x9.length : Int) - (wrap64 (x11 - (Int.tmod x11 x2)))))).bind fun t511 => (spec_RunWithStops.l0 k x0 x2 x9 (wrap64 ((wrap64 (x11 - (Int.tmod x11 x2))) + t511)) (wrap64 (x12 + t511)) x40 x41 (wrap64 (x42 + 1))))) else ((spec_l1Least.f (rd x40 x42) (wrap64 ((x9.length : Int) - x11))).bind fun t512 => (spec_RunWithStops.l0 k x0 x2 x9 (wrap64 (x11 + t512)) (wrap64 (x12 + t512)) x40 x41 (wrap64 (x42 + 1))))) else (none)) else (none)) else ((spec_jbOwn.f x0 x11).bind fun bt513 => (some (bt513.1, bt513.2, x12, true)))
end
def spec_RunWithStops.f (k : Nat) (l0 : List (S64)) (l1 : List Int) (a2 : Int) : Option ((List (S64)) × Int × Int × Bool) := (spec_jbStrokes.f k l0 0).bind fun bt504 => (if bt504.2 = true then (if (l1.length : Int) > 20 then (spec_RunWithStops.j0 k l0 l1 a2 bt504.1 true) else ((spec_l1All.f k l1 0 200).bind fun t508 => (if t508 = true then ((spec_jbMark.f a2).bind fun t509 => (spec_RunWithStops.j0 k l0 l1 a2 bt504.1 (!t509))) else (spec_RunWithStops.j0 k l0 l1 a2 bt504.1 true)))) else (spec_RunWithStops.j0 k l0 l1 a2 bt504.1 true))
theorem spec_RunWithStops.mono_l : ∀ k, (∀ y0 y1 y2 y3 y4, LeO (spec_RunWithStops.j0 k y0 y1 y2 y3 y4) (spec_RunWithStops.j0 (k + 1) y0 y1 y2 y3 y4)) ∧ (∀ y0 y1 y2 y3 y4 y5 y6 y7, LeO (spec_RunWithStops.l0 k y0 y1 y2 y3 y4 y5 y6 y7) (spec_RunWithStops.l0 (k + 1) y0 y1 y2 y3 y4 y5 y6 y7))
 | 0 => ⟨fun _ _ _ _ _ r h => by simp [spec_RunWithStops.j0] at h, fun _ _ _ _ _ _ _ _ r h => by simp [spec_RunWithStops.l0] at h⟩
 | k + 1 => by
  obtain ⟨ih0, ih1⟩ := spec_RunWithStops.mono_l k
  refine ⟨?_, ?_⟩
  ·intro y0 y1 y2 y3 y4
   unfold spec_RunWithStops.j0
   exact mo12_
  intro y0 y1 y2 y3 y4 y5 y6 y7
  unfold spec_RunWithStops.l0
  exact mo12_
theorem spec_RunWithStops.mono : ∀ a0 a1 a2 k, LeO (spec_RunWithStops.f k a0 a1 a2) (spec_RunWithStops.f (k + 1) a0 a1 a2) := by
 intro a0 a1 a2 k
 obtain ⟨ih0, ih1⟩ := spec_RunWithStops.mono_l k
 unfold spec_RunWithStops.f
 exact mo12_
set_option maxHeartbeats 8000000 in
set_option maxRecDepth 100000 in
theorem spec_RunWithStops.calls (k : Nat) (A0 : Option Addr) (c0 : Nat) (l0 : List (S64)) (A1 : Option Addr) (c1 : Nat) (l1 : List Int) (a2 : Int) (r1 : List (S64)) (r2 : Int) (r3 : Int) (r4 : Bool) (w : World) (hr0 : Kd.C k64 w A0 l0.length l0) (hc0 : l0.length ≤ c0) (hr1 : Kd.C (Kd.int .i64) w A1 l1.length l1) (hc1 : l1.length ≤ c1) (h : spec_RunWithStops.f k l0 l1 a2 = some (r1, r2, r3, r4)) :
  Calls Try.prog 6 #[.slice A0 l0.length c0, .slice A1 l1.length c1, .int .i64 a2] w fun e w' => ∃ v0_ : Value, e = .returned (.tuple #[.agg #[v0_, .int .i64 r2], .int .i64 r3, .bool r4]) ∧ Kd.R k64 64 w' w.heap.size (fun _ => True) v0_ r1 ∧ Below w.heap.size w w' := by
 have hu28 := Try.underlying28
 have HR0 := Aside0.mk hr0
 have HC0 := Aside0.mk hc0
 clear hr0 hc0
 have HR1 := Aside0.mk hr1
 have HC1 := Aside0.mk hc1
 clear hr1 hc1
 have HB := Aside0.mk (Below.refl w.heap.size w)
 have H : ((spec_jbStrokes.f k l0 0).bind fun bt504 => (if bt504.2 = true then (if (l1.length : Int) > 20 then (spec_RunWithStops.j0 k l0 l1 a2 bt504.1 true) else ((spec_l1All.f k l1 0 200).bind fun t508 => (if t508 = true then ((spec_jbMark.f a2).bind fun t509 => (spec_RunWithStops.j0 k l0 l1 a2 bt504.1 (!t509))) else (spec_RunWithStops.j0 k l0 l1 a2 bt504.1 true)))) else (spec_RunWithStops.j0 k l0 l1 a2 bt504.1 true))) = some (r1, r2, r3, r4) := h
 clear h
 replace H := Option.bind_eq_some_iff.mp H
 obtain ⟨⟨t504, t507⟩, A40, H⟩ := H
 (try dsimp only at H)
 have A4 := Aside0.mk A40
 clear A40
 have HC5 := Aside0.mk H
 clear H
 go_enter Try.func6, Try.ntmps6
 go_upto_region 2 with (first | ((with_reducible refine gate_dst (N := 6) rfl ?_); (try (refine gate_guard (by rfl) ?_; dsimp only)); refine bv_ 6 28 #[.slice none 0 0, .int .i64 0] ?_; intro gb503 hg w6 hbox hb; refine k4_ (below_step (Z3) hb) (hbox) ((Z26 : w.heap.size ≤ gb503)) ((Z26 : w.heap.size ≤ gb503)) ?_; clear HB; intro HB BK503 GW503 GE503; clear hb hbox hg) | ((with_reducible refine gate_callee (f := 30) rfl ?_); refine gl_ 19 Try.func30 #[.agg #[.slice A0 l0.length c0, .int .i64 0]] ?_; (with_reducible refine (spec_jbStrokes.calls k _ _ l0 0 t504 t507 _ ?_ ?_ A4.out).mono ?_); exact Z10 HR0.out; exact HC0.out; rintro e w7 ⟨v505, rfl, ho0, hb⟩; refine ⟨_, rfl, ?_⟩; refine k3_ (Kd.R_lower ho0 (below_size (Z76))) (blk_below (g := gb503) (o := .cells #[.slice none 0 0, .int .i64 0] 28 (0, 0)) (Z2 BK503.out) hb) (below_step (Z76) hb) ?_; clear BK503 HB; intro HO506 BK503 HB; (try clear hb ho0)))
 (try simp only [Act.put, List.setIfInBounds_toArray, List.set_cons_zero, List.set_cons_succ])
 go_cut [38] (fun v38 wc => ∃ (kq : Nat) (x38_4 : Bool), v38 = .bool x38_4 ∧ Aside0 (spec_RunWithStops.j0 kq l0 l1 a2 t504 x38_4 = some (r1, r2, r3, r4)) ∧ Aside0 (kq ≤ k) ∧ Aside0 (Kd.R k77 77 wc w.heap.size (fun _ => True) v505 t504) ∧ Aside0 (wc.heap[gb503]? = some (.cells #[(.slice none 0 0), .int .i64 0] 28 (0, 0))) ∧ Aside0 (Below w.heap.size w wc))
 case first =>
  have H := HC5.out
  clear HC5
  by_cases c8 : t507 = true
  ·subst c8
   rw [if_pos rfl] at H
   by_cases c9 : (l1.length : Int) > 20
   ·rw [if_pos c9] at H
    have c9b0 : decide (20 < (l1.length : Int)) = true := decide_eq_true c9
    have c9b1 : decide (20 < l1.length) = true := decide_eq_true (by omega)
    clear c9
    (first | rw [c9b0] | (simp only [i64_w, i32_w]; rw [c9b0]) | skip)
    have H' := Aside0.mk H
    clear H
    go_wp2
    go_meet
    case rel => exact ⟨_, (true), (Z17), H', ⟨Z110⟩, ⟨Z1 HO506.out⟩, ⟨Z2 BK503.out⟩, ⟨Z76⟩⟩
   rw [if_neg c9] at H
   have c9b0 : decide (20 < (l1.length : Int)) = false := decide_eq_false c9
   have c9b1 : decide (20 < l1.length) = false := decide_eq_false (by omega)
   clear c9
   (first | rw [c9b0] | (simp only [i64_w, i32_w]; rw [c9b0]) | skip)
   replace H := Option.bind_eq_some_iff.mp H
   obtain ⟨t508, A100, H⟩ := H
   (try dsimp only at H)
   have A10 := Aside0.mk A100
   clear A100
   by_cases c11 : t508 = true
   ·subst c11
    rw [if_pos rfl] at H
    replace H := Option.bind_eq_some_iff.mp H
    obtain ⟨t509, A120, H⟩ := H
    (try dsimp only at H)
    have A12 := Aside0.mk A120
    clear A120
    have H' := Aside0.mk H
    clear H
    go_wp2_with (first | (go_at_call 31; (with_reducible refine (spec_l1All.calls k _ _ l1 0 200 true _ ?_ ?_ A10.out).mono ?_); exact Z10 HR1.out; exact HC1.out; rintro e w' ⟨rfl, ⟨nd, rfl⟩⟩) | (go_at_call 32; (with_reducible refine (spec_jbMark.calls a2 t509 _ A12.out).mono ?_); rintro e w' ⟨rfl, ⟨nd, rfl⟩⟩))
    go_meet
    case rel => exact ⟨_, (!t509), (Z17), H', ⟨Z110⟩, ⟨Z1 HO506.out⟩, ⟨Z2 BK503.out⟩, ⟨Z76⟩⟩
   replace c11 := Bool.eq_false_iff.mpr c11
   subst c11
   rw [if_neg (show ¬ (false = true) by decide)] at H
   have H' := Aside0.mk H
   clear H
   go_wp2_with (first | (go_at_call 31; (with_reducible refine (spec_l1All.calls k _ _ l1 0 200 false _ ?_ ?_ A10.out).mono ?_); exact Z10 HR1.out; exact HC1.out; rintro e w' ⟨rfl, ⟨nd, rfl⟩⟩))
   go_meet
   case rel => exact ⟨_, (true), (Z17), H', ⟨Z110⟩, ⟨Z1 HO506.out⟩, ⟨Z2 BK503.out⟩, ⟨Z76⟩⟩
  replace c8 := Bool.eq_false_iff.mpr c8
  subst c8
  rw [if_neg (show ¬ (false = true) by decide)] at H
  have H' := Aside0.mk H
  clear H
  go_wp2
  go_meet
  case rel => exact ⟨_, (true), (Z17), H', ⟨Z110⟩, ⟨Z1 HO506.out⟩, ⟨Z2 BK503.out⟩, ⟨Z76⟩⟩
 case rest =>
  clear HC5
  (try clear c1); (try clear p2); (try clear c3); (try clear c6); (try clear c8); (try clear c9); (try clear c9b0); (try clear c9b1); (try clear c11)
  obtain ⟨kq, x38_4, rfl, HA, HJ4, HO_9, BK503, HB⟩ := hcut
  cases kq with
  | zero => exact absurd HA.out (by simp [spec_RunWithStops.j0])
  | succ kj4 =>
   have H := HA.out
   clear HA
   simp only [spec_RunWithStops.j0] at H
   by_cases c13 : x38_4 = true
   ·subst c13
    rw [if_pos rfl] at H
    simp only [Option.some.injEq, Prod.mk.injEq] at H
    obtain ⟨rfl, rfl, rfl, rfl⟩ := H
    obtain ⟨hcz14_0, hcz14_1, hfz14_0, hfz14_1⟩ := bx2_ (w := wc) BK503.out
    go_wp2
    refine bodyPost_ret (results_ctt rfl _ _ gb503 28 #[.slice none 0 0, .int .i64 0] (0, 0) _ rfl (Z23 BK503.out) Try.underlying28 rfl (by kernel_rfl)) rfl ?_
    exact ⟨_, Z11, Z21, Z76⟩
   replace c13 := Bool.eq_false_iff.mpr c13
   subst c13
   rw [if_neg (show ¬ (false = true) by decide)] at H
   have H' := Aside0.mk H
   clear H
   go_wp2
   go_loopg [11, 12, 42] kj4 (fun kq v11 v12 v42 w' => ∃ (x11_2 : Int) (x12_2 : Int) (x42_2 : Int), v11 = .int .i64 x11_2 ∧ v12 = .int .i64 x12_2 ∧ v42 = .int .i64 x42_2 ∧ Aside0 (spec_RunWithStops.l0 kq l0 a2 t504 x11_2 x12_2 l1 (l1.length : Int) x42_2 = some (r1, r2, r3, r4)) ∧ Aside0 (kq ≤ kj4) ∧ Aside0 (Kd.R k77 77 w' w.heap.size (fun _ => True) v505 t504) ∧ Aside0 (w'.heap[gb503]? = some (.cells #[(.slice none 0 0), .int .i64 0] 28 (0, 0))) ∧ Aside0 (Below w.heap.size w w'))
   case atStart => exact ⟨(0), (0), (0), (Z17), (Z17), (Z17), H', ⟨Nat.le_refl _⟩, ⟨Z1 HO_9.out⟩, ⟨Z2 BK503.out⟩, ⟨Z76⟩⟩
   case round =>
    clear H'
    (try clear c13); (try clear hcz14_0); (try clear hcz14_1); (try clear hfz14_0); (try clear hfz14_1)
    obtain ⟨x11_2, x12_2, x42_2, rfl, rfl, rfl, HA, HK2, HO_9, BK503, HB⟩ := hrel
    cases gk with
    | zero => exact absurd HA.out (by simp [spec_RunWithStops.l0])
    | succ k2 =>
     have H := HA.out
     clear HA
     simp only [spec_RunWithStops.l0] at H
     by_cases c15 : x42_2 < (l1.length : Int)
     ·rw [if_pos c15] at H
      have c15b0 : decide (x42_2 < (l1.length : Int)) = true := decide_eq_true c15
      clear c15
      by_cases c16 : 0 ≤ x42_2
      ·rw [if_pos c16] at H
       have c16b0 : decide (0 ≤ x42_2) = true := decide_eq_true c16
       clear c16
       by_cases c17 : x42_2 < (l1.length : Int)
       ·rw [if_pos c17] at H
        have c17b0 : decide (x42_2 < (l1.length : Int)) = true := decide_eq_true c17
        clear c17
        by_cases c18 : x42_2 > 0
        ·rw [if_pos c18] at H
         have c18b0 : decide (0 < x42_2) = true := decide_eq_true c18
         clear c18
         by_cases c19 : a2 = 0
         ·rw [if_pos c19] at H
          exact absurd H (by simp)
         rw [if_neg c19] at H
         have c19b0 : (a2 == 0) = false := beq_eq_false_iff_ne.mpr c19
         have c19b1 : (a2 != 0) = true := bne_iff_ne.mpr c19
         replace H := Option.bind_eq_some_iff.mp H
         obtain ⟨t511, A200, H⟩ := H
         (try dsimp only at H)
         have A20 := Aside0.mk A200
         clear A200
         have H' := Aside0.mk H
         clear H
         have p510 : 0 ≤ (x42_2 : Int) := of_decide_eq_true (Z18)
         have q510 : x42_2 < (l1.length : Int) := of_decide_eq_true (Z18)
         obtain ⟨ad510, e510, hx510_0⟩ := Kd.at_int HR1.out x42_2 p510 q510
         cases e510
         replace hx510_0 := (HB.out.cell (World.block_lt_of_cell? w _ hx510_0)).trans hx510_0
         replace p510 := eq_true p510
         replace q510 := eq_true q510
         obtain ⟨Ao21, co21, eo21⟩ := Kd.R_slice HO_9.out
         subst eo21
         go_wp2_with (first | ((with_reducible refine gate_callee (f := 33) rfl ?_); refine gl_ 59 Try.func33 #[.int .i64 (rd l1 x42_2), .int .i64 (wrap64 ((t504.length : Int) - (wrap64 (x11_2 - (Int.tmod x11_2 a2)))))] ?_; (with_reducible refine (spec_l1Least.calls (rd l1 x42_2) (wrap64 ((t504.length : Int) - (wrap64 (x11_2 - (Int.tmod x11_2 a2))))) t511 _ A20.out).mono ?_); rintro e w' ⟨rfl, ⟨nd, rfl⟩⟩; refine ⟨_, rfl, ?_⟩))
         go_roundg k2
         case measure => have := HJ4.out; have := HK2.out; omega
         case rel => exact ⟨(wrap64 ((wrap64 (x11_2 - (Int.tmod x11_2 a2))) + t511)), (wrap64 (x12_2 + t511)), (wrap64 (x42_2 + 1)), (Z17), (Z17), (Z17), H', ⟨Z153 HJ4.out⟩, ⟨Z1 HO_9.out⟩, ⟨Z2 BK503.out⟩, ⟨Z76⟩⟩
        rw [if_neg c18] at H
        have c18b0 : decide (0 < x42_2) = false := decide_eq_false c18
        clear c18
        replace H := Option.bind_eq_some_iff.mp H
        obtain ⟨t512, A220, H⟩ := H
        (try dsimp only at H)
        have A22 := Aside0.mk A220
        clear A220
        have H' := Aside0.mk H
        clear H
        have p510 : 0 ≤ (x42_2 : Int) := of_decide_eq_true (Z18)
        have q510 : x42_2 < (l1.length : Int) := of_decide_eq_true (Z18)
        obtain ⟨ad510, e510, hx510_0⟩ := Kd.at_int HR1.out x42_2 p510 q510
        cases e510
        replace hx510_0 := (HB.out.cell (World.block_lt_of_cell? w _ hx510_0)).trans hx510_0
        replace p510 := eq_true p510
        replace q510 := eq_true q510
        obtain ⟨Ao23, co23, eo23⟩ := Kd.R_slice HO_9.out
        subst eo23
        go_wp2_with (first | ((with_reducible refine gate_callee (f := 33) rfl ?_); refine gl_ 59 Try.func33 #[.int .i64 (rd l1 x42_2), .int .i64 (wrap64 ((t504.length : Int) - x11_2))] ?_; (with_reducible refine (spec_l1Least.calls (rd l1 x42_2) (wrap64 ((t504.length : Int) - x11_2)) t512 _ A22.out).mono ?_); rintro e w' ⟨rfl, ⟨nd, rfl⟩⟩; refine ⟨_, rfl, ?_⟩))
        go_roundg k2
        case measure => have := HJ4.out; have := HK2.out; omega
        case rel => exact ⟨(wrap64 (x11_2 + t512)), (wrap64 (x12_2 + t512)), (wrap64 (x42_2 + 1)), (Z17), (Z17), (Z17), H', ⟨Z153 HJ4.out⟩, ⟨Z1 HO_9.out⟩, ⟨Z2 BK503.out⟩, ⟨Z76⟩⟩
       rw [if_neg c17] at H
       exact absurd H (by simp)
      rw [if_neg c16] at H
      exact absurd H (by simp)
     rw [if_neg c15] at H
     have c15b0 : decide (x42_2 < (l1.length : Int)) = false := decide_eq_false c15
     clear c15
     replace H := Option.bind_eq_some_iff.mp H
     obtain ⟨⟨t513, t516⟩, A240, H⟩ := H
     (try dsimp only at H)
     have A24 := Aside0.mk A240
     clear A240
     simp only [Option.some.injEq, Prod.mk.injEq] at H
     obtain ⟨rfl, rfl, rfl, rfl⟩ := H
     go_wp2_with (first | ((with_reducible refine gate_callee (f := 34) rfl ?_); refine gl_ 69 Try.func34 #[.slice A0 l0.length c0, .int .i64 x11_2] ?_; (with_reducible refine (spec_jbOwn.calls _ _ l0 x11_2 t513 t516 _ ?_ ?_ A24.out).mono ?_); exact Z10 HR0.out; exact HC0.out; rintro e w25 ⟨v514, rfl, ho0, hb⟩; refine ⟨_, rfl, ?_⟩; refine k4_ (Ya_ HO_9.out) (Kd.R_lower ho0 (below_size (Z76))) (blk_below (g := gb503) (o := .cells #[.slice none 0 0, .int .i64 0] 28 (0, 0)) (Z2 BK503.out) hb) (below_step (Z76) hb) ?_; clear HO_9 BK503 HB; intro HO_9 HO515 BK503 HB; (try clear hb ho0); obtain ⟨Ao26, co26, eo26⟩ := Kd.R_slice HO515.out; subst eo26; obtain ⟨hcz27_0, hcz27_1, hfz27_0, hfz27_1⟩ := bx2_ (w := w25) BK503.out))
     refine bodyPost_ret (results_ctt rfl _ _ gb503 28 #[.slice Ao26 t513.length co26, .int .i64 t516] (0, 0) _ rfl (by (with_reducible repeat (first | refine blk_drewN ?_ _ | refine blk_drew ?_ | refine blk_alloc ?_ _)); refine blk_put (cs := #[.slice Ao26 t513.length co26, .int .i64 0]) ?_ 1 _ rfl; (with_reducible repeat (first | refine blk_drewN ?_ _ | refine blk_drew ?_ | refine blk_alloc ?_ _)); refine blk_put (cs := #[.slice none 0 0, .int .i64 0]) ?_ 0 _ rfl; (with_reducible repeat (first | refine blk_drewN ?_ _ | refine blk_drew ?_ | refine blk_alloc ?_ _)); exact BK503.out) Try.underlying28 rfl (by kernel_rfl)) rfl ?_
     exact ⟨_, Z11, by (with_reducible repeat (first | apply Kd.R_alloc | apply Kd.R_drewN | apply Kd.R_drew)); exact Kd.R_mono (Kd.R_far (p := ⟨gb503, 1, none⟩) (Kd.R_far (p := ⟨gb503, 0, none⟩) (Kd.R_types HO515.out BK503.out (by decide)) (fun _ hk => hk.2) (.slice Ao26 t513.length co26)) (fun _ hk => hk.2) (.int .i64 t516)) (fun _ hk => trivial), Z76⟩

/-! ### spec_DrawBestMark: function 7 -/
def spec_DrawBestMark.f (l0 : List Int) : Option (Int × Int × Int) := (spec_l1Cur_pick.f l0 0 0 101).bind fun bt518 => ((spec_l1Cur_among.f l0 bt518.2.1 bt518.2.2 (([101, (-1)] : List Int))).bind fun bt524 => ((some (([0, 1, 2, 5, bt518.1, 100, bt524.1] : List Int) : List Int)).bind fun y527 => ((spec_l1Cur_pick.f l0 bt524.2.1 bt524.2.2 200).bind fun bt530 => ((spec_l1Cur_among.f l0 bt530.2.1 bt530.2.2 (([0, 201] : List Int))).bind fun bt536 => ((spec_l1Cur_among.f l0 bt536.2.1 bt536.2.2 (([1, 10, 50, wrap64 (1 + bt530.1), 200, bt536.1] : List Int))).bind fun bt542 => ((spec_l1Cur_among.f l0 bt542.2.1 bt542.2.2 y527).bind fun bt545 => ((spec_l1Cur_among.f l0 bt545.2.1 bt545.2.2 y527).bind fun bt548 => (some (bt542.1, bt545.1, bt548.1)))))))))
set_option maxHeartbeats 8000000 in
set_option maxRecDepth 100000 in
theorem spec_DrawBestMark.calls (A0 : Option Addr) (c0 : Nat) (l0 : List Int) (r1 : Int) (r2 : Int) (r3 : Int) (w : World) (hr0 : Kd.C (Kd.int .u8) w A0 l0.length l0) (hc0 : l0.length ≤ c0) (h : spec_DrawBestMark.f l0 = some (r1, r2, r3)) :
  Calls Try.prog 7 #[.slice A0 l0.length c0] w fun e w' => e = .returned (.tuple #[.int .i64 r1, .int .i64 r2, .int .i64 r3]) ∧ Below w.heap.size w w' := by
 have hu49 := Try.underlying49
 have HR0 := Aside0.mk hr0
 have HC0 := Aside0.mk hc0
 clear hr0 hc0
 have HB := Aside0.mk (Below.refl w.heap.size w)
 have H : ((spec_l1Cur_pick.f l0 0 0 101).bind fun bt518 => ((spec_l1Cur_among.f l0 bt518.2.1 bt518.2.2 (([101, (-1)] : List Int))).bind fun bt524 => ((some (([0, 1, 2, 5, bt518.1, 100, bt524.1] : List Int) : List Int)).bind fun y527 => ((spec_l1Cur_pick.f l0 bt524.2.1 bt524.2.2 200).bind fun bt530 => ((spec_l1Cur_among.f l0 bt530.2.1 bt530.2.2 (([0, 201] : List Int))).bind fun bt536 => ((spec_l1Cur_among.f l0 bt536.2.1 bt536.2.2 (([1, 10, 50, wrap64 (1 + bt530.1), 200, bt536.1] : List Int))).bind fun bt542 => ((spec_l1Cur_among.f l0 bt542.2.1 bt542.2.2 y527).bind fun bt545 => ((spec_l1Cur_among.f l0 bt545.2.1 bt545.2.2 y527).bind fun bt548 => (some (bt542.1, bt545.1, bt548.1)))))))))) = some (r1, r2, r3) := h
 clear h
 replace H := Option.bind_eq_some_iff.mp H
 obtain ⟨⟨t518, t519, t520⟩, A20, H⟩ := H
 (try dsimp only at H)
 have A2 := Aside0.mk A20
 clear A20
 obtain ⟨y521, hy521⟩ : ∃ y_ : List Int, y_ = (([101, (-1)] : List Int)) := ⟨_, rfl⟩
 replace H : ((spec_l1Cur_among.f l0 t519 t520 y521).bind fun bt524 => ((some (([0, 1, 2, 5, t518, 100, bt524.1] : List Int) : List Int)).bind fun y527 => ((spec_l1Cur_pick.f l0 bt524.2.1 bt524.2.2 200).bind fun bt530 => ((spec_l1Cur_among.f l0 bt530.2.1 bt530.2.2 (([0, 201] : List Int))).bind fun bt536 => ((spec_l1Cur_among.f l0 bt536.2.1 bt536.2.2 (([1, 10, 50, wrap64 (1 + bt530.1), 200, bt536.1] : List Int))).bind fun bt542 => ((spec_l1Cur_among.f l0 bt542.2.1 bt542.2.2 y527).bind fun bt545 => ((spec_l1Cur_among.f l0 bt545.2.1 bt545.2.2 y527).bind fun bt548 => (some (bt542.1, bt545.1, bt548.1))))))))) = some (r1, r2, r3) := by first | (rw [hy521]; with_reducible exact H) | (have H2_ := (Option.bind_some _ _).symm.trans H; rw [hy521]; with_reducible exact H2_) | (have H2_ := (Option.bind_some _ _).symm.trans H; with_reducible exact H2_) | with_reducible exact H | (rw [hy521]; exact H) | exact H
 have Ny521 := Aside0.mk hy521
 clear hy521
 replace H := Option.bind_eq_some_iff.mp H
 obtain ⟨⟨t524, t525, t526⟩, A30, H⟩ := H
 (try dsimp only at H)
 have A3 := Aside0.mk A30
 clear A30
 obtain ⟨y527, hy527⟩ : ∃ y_ : List Int, y_ = (([0, 1, 2, 5, t518, 100, t524] : List Int)) := ⟨_, rfl⟩
 replace H : ((spec_l1Cur_pick.f l0 t525 t526 200).bind fun bt530 => ((spec_l1Cur_among.f l0 bt530.2.1 bt530.2.2 (([0, 201] : List Int))).bind fun bt536 => ((spec_l1Cur_among.f l0 bt536.2.1 bt536.2.2 (([1, 10, 50, wrap64 (1 + bt530.1), 200, bt536.1] : List Int))).bind fun bt542 => ((spec_l1Cur_among.f l0 bt542.2.1 bt542.2.2 y527).bind fun bt545 => ((spec_l1Cur_among.f l0 bt545.2.1 bt545.2.2 y527).bind fun bt548 => (some (bt542.1, bt545.1, bt548.1))))))) = some (r1, r2, r3) := by first | (rw [hy527]; with_reducible exact H) | (have H2_ := (Option.bind_some _ _).symm.trans H; rw [hy527]; with_reducible exact H2_) | (have H2_ := (Option.bind_some _ _).symm.trans H; with_reducible exact H2_) | with_reducible exact H | (rw [hy527]; exact H) | exact H
 have Ny527 := Aside0.mk hy527
 clear hy527
 replace H := Option.bind_eq_some_iff.mp H
 obtain ⟨⟨t530, t531, t532⟩, A40, H⟩ := H
 (try dsimp only at H)
 have A4 := Aside0.mk A40
 clear A40
 obtain ⟨y533, hy533⟩ : ∃ y_ : List Int, y_ = (([0, 201] : List Int)) := ⟨_, rfl⟩
 replace H : ((spec_l1Cur_among.f l0 t531 t532 y533).bind fun bt536 => ((spec_l1Cur_among.f l0 bt536.2.1 bt536.2.2 (([1, 10, 50, wrap64 (1 + t530), 200, bt536.1] : List Int))).bind fun bt542 => ((spec_l1Cur_among.f l0 bt542.2.1 bt542.2.2 y527).bind fun bt545 => ((spec_l1Cur_among.f l0 bt545.2.1 bt545.2.2 y527).bind fun bt548 => (some (bt542.1, bt545.1, bt548.1)))))) = some (r1, r2, r3) := by first | (rw [hy533]; with_reducible exact H) | (have H2_ := (Option.bind_some _ _).symm.trans H; rw [hy533]; with_reducible exact H2_) | (have H2_ := (Option.bind_some _ _).symm.trans H; with_reducible exact H2_) | with_reducible exact H | (rw [hy533]; exact H) | exact H
 have Ny533 := Aside0.mk hy533
 clear hy533
 replace H := Option.bind_eq_some_iff.mp H
 obtain ⟨⟨t536, t537, t538⟩, A50, H⟩ := H
 (try dsimp only at H)
 have A5 := Aside0.mk A50
 clear A50
 obtain ⟨y539, hy539⟩ : ∃ y_ : List Int, y_ = (([1, 10, 50, wrap64 (1 + t530), 200, t536] : List Int)) := ⟨_, rfl⟩
 replace H : ((spec_l1Cur_among.f l0 t537 t538 y539).bind fun bt542 => ((spec_l1Cur_among.f l0 bt542.2.1 bt542.2.2 y527).bind fun bt545 => ((spec_l1Cur_among.f l0 bt545.2.1 bt545.2.2 y527).bind fun bt548 => (some (bt542.1, bt545.1, bt548.1))))) = some (r1, r2, r3) := by first | (rw [hy539]; with_reducible exact H) | (have H2_ := (Option.bind_some _ _).symm.trans H; rw [hy539]; with_reducible exact H2_) | (have H2_ := (Option.bind_some _ _).symm.trans H; with_reducible exact H2_) | with_reducible exact H | (rw [hy539]; exact H) | exact H
 have Ny539 := Aside0.mk hy539
 clear hy539
 replace H := Option.bind_eq_some_iff.mp H
 obtain ⟨⟨t542, t543, t544⟩, A60, H⟩ := H
 (try dsimp only at H)
 have A6 := Aside0.mk A60
 clear A60
 replace H := Option.bind_eq_some_iff.mp H
 obtain ⟨⟨t545, t546, t547⟩, A70, H⟩ := H
 (try dsimp only at H)
 have A7 := Aside0.mk A70
 clear A70
 replace H := Option.bind_eq_some_iff.mp H
 obtain ⟨⟨t548, t549, t550⟩, A80, H⟩ := H
 (try dsimp only at H)
 have A8 := Aside0.mk A80
 clear A80
 simp only [Option.some.injEq, Prod.mk.injEq] at H
 obtain ⟨rfl, rfl, rfl⟩ := H
 go_enter Try.func7, Try.ntmps7
 go_wp2_with (first | ((with_reducible refine gate_dst (N := 9) rfl ?_); refine bv_ 9 49 #[.slice A0 l0.length c0, .int .i64 0, .int .u64 0] ?_; intro gb517 hg w9 hbox hb; refine k4_ (below_step (Z3) hb) ((show IsS49 w w9 gb517 l0 0 0 from ⟨_, _, hbox, (Z26), HR0.out⟩)) ((Z26 : w.heap.size ≤ gb517)) ((Z26 : w.heap.size ≤ gb517)) ?_; clear HB; intro HB HI517 GW517 GE517; clear hb hbox hg) | ((with_reducible refine gate_callee (f := 22) rfl ?_); refine gl_ 11 Try.func22 #[.pointer (some ⟨gb517, 0, none⟩), .int .i64 101] ?_; (with_reducible refine (spec_l1Cur_pick.calls gb517 l0 0 0 101 t518 t519 t520 w _ ?_ ?_ A2.out).mono ?_); exact Z4 HI517.out; exact Z55; rintro e w10 ⟨rfl, hi, hb, hk⟩; refine ⟨_, rfl, ?_⟩; refine k2_ (hb) (hi) ?_; clear HB HI517; intro HB HI517; (try clear hb hk hi)) | ((with_reducible refine gate_dst (N := 13) rfl ?_); refine Kd.R_lit (Kd.int .i64) _ 3 ?hg (N := 13) ?hd (xs := ([101, (-1)] : List Int)) (inner := [.int .i64 101, .int .i64 (-1)]) (ok := fun _ => True) (okp := fun _ => True) ?hr ?hp (fun _ hk => hk) trivial (Below.refl _ _) (Nat.le_refl _) (by simp) ?_; (case hd => rfl); (case hg => rfl); (case hr => exact Z100); (case hp => exact (Reps.one (show Kd.M (Kd.int .i64) _ _ _ 101 [.int .i64 101] from rfl) (Reps.one (show Kd.M (Kd.int .i64) _ _ _ (-1) [.int .i64 (-1)] from rfl) (Reps.none _ _)))); intro v522 w11 ho12 hb hg_ hnew_; clear hg_ hnew_; (first | rw [← Ny521.out] at ho12 | (simp only [Int.reduceToNat] at ho12; rw [← Ny521.out] at ho12)); refine k3_ (Kd.R_lower ho12 (below_size (Z55))) (IsS49.below (Z4 HI517.out) hb) (below_step (Z55) hb) ?_; clear HI517 HB; intro HO523 HI517 HB; clear hb ho12; obtain ⟨Ao13, co13, eo13⟩ := Kd.R_slice HO523.out; subst eo13) | ((with_reducible refine gate_callee (f := 24) rfl ?_); refine gl_ 14 Try.func24 #[.pointer (some ⟨gb517, 0, none⟩), .slice Ao13 y521.length co13] ?_; (with_reducible refine (spec_l1Cur_among.calls gb517 l0 t519 t520 _ _ y521 t524 t525 t526 w _ ?_ ?_ ?_ ?_ ?_ A3.out).mono ?_); exact Z4 HI517.out; exact Z55; exact Z7 HO523.out; exact (Kd.R_reads' HO523.out).2.1; exact far_slice (IsS49.own_ne HI517.out HO523.out (by decide)); rintro e w14 ⟨rfl, hi, hb, hk⟩; refine ⟨_, rfl, ?_⟩; refine k3_ (Kd.R_mono (Kd.R_keep (IsS49.apart (show IsS49 w _ gb517 l0 t519 t520 from Z4 HI517.out) (Z1 HO523.out) (by decide)) hk (fun _ h => h.2)) (fun _ h => h.1)) (hb) (hi) ?_; clear HO523 HB HI517; intro HO523 HB HI517; (try clear hb hk hi)) | ((with_reducible refine gate_dst (N := 15) rfl ?_); refine Kd.R_lit (Kd.int .i64) _ 3 ?hg (N := 15) ?hd (xs := ([0, 1, 2, 5, t518, 100, t524] : List Int)) (inner := [.int .i64 0, .int .i64 1, .int .i64 2, .int .i64 5, .int .i64 t518, .int .i64 100, .int .i64 t524]) (ok := fun _ => True) (okp := fun _ => True) ?hr ?hp (fun _ hk => hk) trivial (Below.refl _ _) (Nat.le_refl _) (by simp) ?_; (case hd => rfl); (case hg => rfl); (case hr => exact Z100); (case hp => exact (Reps.one (show Kd.M (Kd.int .i64) _ _ _ 0 [.int .i64 0] from rfl) (Reps.one (show Kd.M (Kd.int .i64) _ _ _ 1 [.int .i64 1] from rfl) (Reps.one (show Kd.M (Kd.int .i64) _ _ _ 2 [.int .i64 2] from rfl) (Reps.one (show Kd.M (Kd.int .i64) _ _ _ 5 [.int .i64 5] from rfl) (Reps.one (show Kd.M (Kd.int .i64) _ _ _ t518 [.int .i64 t518] from rfl) (Reps.one (show Kd.M (Kd.int .i64) _ _ _ 100 [.int .i64 100] from rfl) (Reps.one (show Kd.M (Kd.int .i64) _ _ _ t524 [.int .i64 t524] from rfl) (Reps.none _ _))))))))); intro v528 w15 ho16 hb hg_ hnew_; clear hg_ hnew_; (first | rw [← Ny527.out] at ho16 | (simp only [Int.reduceToNat] at ho16; rw [← Ny527.out] at ho16)); refine k4_ (Kd.R_elder' (Z1 HO523.out) (Kd.R_base ho16) hb) (Kd.R_lower (Kd.R_new' ho16 (Yd_ HO523.out)) (below_size (Z55))) (IsS49.below (Z4 HI517.out) hb) (below_step (Z55) hb) ?_; clear HO523 HI517 HB; intro HO523 HO529 HI517 HB; clear hb ho16) | ((with_reducible refine gate_callee (f := 22) rfl ?_); refine gl_ 18 Try.func22 #[.pointer (some ⟨gb517, 0, none⟩), .int .i64 200] ?_; (with_reducible refine (spec_l1Cur_pick.calls gb517 l0 t525 t526 200 t530 t531 t532 w _ ?_ ?_ A4.out).mono ?_); exact Z4 HI517.out; exact Z55; rintro e w17 ⟨rfl, hi, hb, hk⟩; refine ⟨_, rfl, ?_⟩; refine k4_ (Kd.R_mono (Kd.R_keep (IsS49.apart (show IsS49 w _ gb517 l0 t525 t526 from Z4 HI517.out) (Z1 HO523.out) (by decide)) hk (fun _ h => h.2)) (fun _ h => h.1)) (Kd.R_mono (Kd.R_keep (IsS49.apart (show IsS49 w _ gb517 l0 t525 t526 from Z4 HI517.out) (Z1 HO529.out) (by decide)) hk (fun _ h => h.2)) (fun _ h => h.1)) (hb) (hi) ?_; clear HO523 HO529 HB HI517; intro HO523 HO529 HB HI517; (try clear hb hk hi)) | ((with_reducible refine gate_dst (N := 21) rfl ?_); refine Kd.R_lit (Kd.int .i64) _ 3 ?hg (N := 21) ?hd (xs := ([0, 201] : List Int)) (inner := [.int .i64 0, .int .i64 201]) (ok := fun _ => True) (okp := fun _ => True) ?hr ?hp (fun _ hk => hk) trivial (Below.refl _ _) (Nat.le_refl _) (by simp) ?_; (case hd => rfl); (case hg => rfl); (case hr => exact Z100); (case hp => exact (Reps.one (show Kd.M (Kd.int .i64) _ _ _ 0 [.int .i64 0] from rfl) (Reps.one (show Kd.M (Kd.int .i64) _ _ _ 201 [.int .i64 201] from rfl) (Reps.none _ _)))); intro v534 w18 ho19 hb hg_ hnew_; clear hg_ hnew_; (first | rw [← Ny533.out] at ho19 | (simp only [Int.reduceToNat] at ho19; rw [← Ny533.out] at ho19)); refine k5_ (Kd.R_elder' (Z1 HO523.out) (Kd.R_base ho19) hb) (Kd.R_elder' (Z1 HO529.out) (Kd.R_base ho19) hb) (Kd.R_lower (Kd.R_new' (Kd.R_new' ho19 (Yd_ HO523.out)) (Yd_ HO529.out)) (below_size (Z55))) (IsS49.below (Z4 HI517.out) hb) (below_step (Z55) hb) ?_; clear HO523 HO529 HI517 HB; intro HO523 HO529 HO535 HI517 HB; clear hb ho19; obtain ⟨Ao20, co20, eo20⟩ := Kd.R_slice HO535.out; subst eo20) | ((with_reducible refine gate_callee (f := 24) rfl ?_); refine gl_ 22 Try.func24 #[.pointer (some ⟨gb517, 0, none⟩), .slice Ao20 y533.length co20] ?_; (with_reducible refine (spec_l1Cur_among.calls gb517 l0 t531 t532 _ _ y533 t536 t537 t538 w _ ?_ ?_ ?_ ?_ ?_ A5.out).mono ?_); exact Z4 HI517.out; exact Z55; exact Z7 HO535.out; exact (Kd.R_reads' HO535.out).2.1; exact far_slice (IsS49.own_ne HI517.out HO535.out (by decide)); rintro e w21 ⟨rfl, hi, hb, hk⟩; refine ⟨_, rfl, ?_⟩; refine k5_ (Kd.R_mono (Kd.R_keep (IsS49.apart (show IsS49 w _ gb517 l0 t531 t532 from Z4 HI517.out) (Z1 HO523.out) (by decide)) hk (fun _ h => h.2)) (fun _ h => h.1)) (Kd.R_mono (Kd.R_keep (IsS49.apart (show IsS49 w _ gb517 l0 t531 t532 from Z4 HI517.out) (Z1 HO529.out) (by decide)) hk (fun _ h => h.2)) (fun _ h => h.1)) (Kd.R_mono (Kd.R_keep (IsS49.apart (show IsS49 w _ gb517 l0 t531 t532 from Z4 HI517.out) (Z1 HO535.out) (by decide)) hk (fun _ h => h.2)) (fun _ h => h.1)) (hb) (hi) ?_; clear HO523 HO529 HO535 HB HI517; intro HO523 HO529 HO535 HB HI517; (try clear hb hk hi)) | ((with_reducible refine gate_dst (N := 23) rfl ?_); refine Kd.R_lit (Kd.int .i64) _ 3 ?hg (N := 23) ?hd (xs := ([1, 10, 50, wrap64 (1 + t530), 200, t536] : List Int)) (inner := [.int .i64 1, .int .i64 10, .int .i64 50, .int .i64 (wrap64 (1 + t530)), .int .i64 200, .int .i64 t536]) (ok := fun _ => True) (okp := fun _ => True) ?hr ?hp (fun _ hk => hk) trivial (Below.refl _ _) (Nat.le_refl _) (by simp) ?_; (case hd => rfl); (case hg => rfl); (case hr => exact Z100); (case hp => exact (Reps.one (show Kd.M (Kd.int .i64) _ _ _ 1 [.int .i64 1] from rfl) (Reps.one (show Kd.M (Kd.int .i64) _ _ _ 10 [.int .i64 10] from rfl) (Reps.one (show Kd.M (Kd.int .i64) _ _ _ 50 [.int .i64 50] from rfl) (Reps.one (show Kd.M (Kd.int .i64) _ _ _ (wrap64 (1 + t530)) [.int .i64 (wrap64 (1 + t530))] from rfl) (Reps.one (show Kd.M (Kd.int .i64) _ _ _ 200 [.int .i64 200] from rfl) (Reps.one (show Kd.M (Kd.int .i64) _ _ _ t536 [.int .i64 t536] from rfl) (Reps.none _ _)))))))); intro v540 w22 ho23 hb hg_ hnew_; clear hg_ hnew_; (first | rw [← Ny539.out] at ho23 | (simp only [Int.reduceToNat] at ho23; rw [← Ny539.out] at ho23)); refine k6_ (Kd.R_elder' (Z1 HO523.out) (Kd.R_base ho23) hb) (Kd.R_elder' (Z1 HO529.out) (Kd.R_base ho23) hb) (Kd.R_elder' (Z1 HO535.out) (Kd.R_base ho23) hb) (Kd.R_lower (Kd.R_new' (Kd.R_new' (Kd.R_new' ho23 (Yd_ HO523.out)) (Yd_ HO529.out)) (Yd_ HO535.out)) (below_size (Z55))) (IsS49.below (Z4 HI517.out) hb) (below_step (Z55) hb) ?_; clear HO523 HO529 HO535 HI517 HB; intro HO523 HO529 HO535 HO541 HI517 HB; clear hb ho23; obtain ⟨Ao24, co24, eo24⟩ := Kd.R_slice HO541.out; subst eo24) | ((with_reducible refine gate_callee (f := 24) rfl ?_); refine gl_ 24 Try.func24 #[.pointer (some ⟨gb517, 0, none⟩), .slice Ao24 y539.length co24] ?_; (with_reducible refine (spec_l1Cur_among.calls gb517 l0 t537 t538 _ _ y539 t542 t543 t544 w _ ?_ ?_ ?_ ?_ ?_ A6.out).mono ?_); exact Z4 HI517.out; exact Z55; exact Z7 HO541.out; exact (Kd.R_reads' HO541.out).2.1; exact far_slice (IsS49.own_ne HI517.out HO541.out (by decide)); rintro e w25 ⟨rfl, hi, hb, hk⟩; refine ⟨_, rfl, ?_⟩; refine k6_ (Kd.R_mono (Kd.R_keep (IsS49.apart (show IsS49 w _ gb517 l0 t537 t538 from Z4 HI517.out) (Z1 HO523.out) (by decide)) hk (fun _ h => h.2)) (fun _ h => h.1)) (Kd.R_mono (Kd.R_keep (IsS49.apart (show IsS49 w _ gb517 l0 t537 t538 from Z4 HI517.out) (Z1 HO529.out) (by decide)) hk (fun _ h => h.2)) (fun _ h => h.1)) (Kd.R_mono (Kd.R_keep (IsS49.apart (show IsS49 w _ gb517 l0 t537 t538 from Z4 HI517.out) (Z1 HO535.out) (by decide)) hk (fun _ h => h.2)) (fun _ h => h.1)) (Kd.R_mono (Kd.R_keep (IsS49.apart (show IsS49 w _ gb517 l0 t537 t538 from Z4 HI517.out) (Z1 HO541.out) (by decide)) hk (fun _ h => h.2)) (fun _ h => h.1)) (hb) (hi) ?_; clear HO523 HO529 HO535 HO541 HB HI517; intro HO523 HO529 HO535 HO541 HB HI517; (try clear hb hk hi); obtain ⟨Ao26, co26, eo26⟩ := Kd.R_slice HO529.out; subst eo26) | ((with_reducible refine gate_callee (f := 24) rfl ?_); refine gl_ 27 Try.func24 #[.pointer (some ⟨gb517, 0, none⟩), .slice Ao26 y527.length co26] ?_; (with_reducible refine (spec_l1Cur_among.calls gb517 l0 t543 t544 _ _ y527 t545 t546 t547 w _ ?_ ?_ ?_ ?_ ?_ A7.out).mono ?_); exact Z4 HI517.out; exact Z55; exact Z7 HO529.out; exact (Kd.R_reads' HO529.out).2.1; exact far_slice (IsS49.own_ne HI517.out HO529.out (by decide)); rintro e w27 ⟨rfl, hi, hb, hk⟩; refine ⟨_, rfl, ?_⟩; refine k6_ (Kd.R_mono (Kd.R_keep (IsS49.apart (show IsS49 w _ gb517 l0 t543 t544 from Z4 HI517.out) (Z1 HO523.out) (by decide)) hk (fun _ h => h.2)) (fun _ h => h.1)) (Kd.R_mono (Kd.R_keep (IsS49.apart (show IsS49 w _ gb517 l0 t543 t544 from Z4 HI517.out) (Z1 HO529.out) (by decide)) hk (fun _ h => h.2)) (fun _ h => h.1)) (Kd.R_mono (Kd.R_keep (IsS49.apart (show IsS49 w _ gb517 l0 t543 t544 from Z4 HI517.out) (Z1 HO535.out) (by decide)) hk (fun _ h => h.2)) (fun _ h => h.1)) (Kd.R_mono (Kd.R_keep (IsS49.apart (show IsS49 w _ gb517 l0 t543 t544 from Z4 HI517.out) (Z1 HO541.out) (by decide)) hk (fun _ h => h.2)) (fun _ h => h.1)) (hb) (hi) ?_; clear HO523 HO529 HO535 HO541 HB HI517; intro HO523 HO529 HO535 HO541 HB HI517; (try clear hb hk hi)) | ((with_reducible refine gate_callee (f := 24) rfl ?_); refine gl_ 30 Try.func24 #[.pointer (some ⟨gb517, 0, none⟩), .slice Ao26 y527.length co26] ?_; (with_reducible refine (spec_l1Cur_among.calls gb517 l0 t546 t547 _ _ y527 t548 t549 t550 w _ ?_ ?_ ?_ ?_ ?_ A8.out).mono ?_); exact Z4 HI517.out; exact Z55; exact Z7 HO529.out; exact (Kd.R_reads' HO529.out).2.1; exact far_slice (IsS49.own_ne HI517.out HO529.out (by decide)); rintro e w28 ⟨rfl, hi, hb, hk⟩; refine ⟨_, rfl, ?_⟩; refine k6_ (Kd.R_mono (Kd.R_keep (IsS49.apart (show IsS49 w _ gb517 l0 t546 t547 from Z4 HI517.out) (Z1 HO523.out) (by decide)) hk (fun _ h => h.2)) (fun _ h => h.1)) (Kd.R_mono (Kd.R_keep (IsS49.apart (show IsS49 w _ gb517 l0 t546 t547 from Z4 HI517.out) (Z1 HO529.out) (by decide)) hk (fun _ h => h.2)) (fun _ h => h.1)) (Kd.R_mono (Kd.R_keep (IsS49.apart (show IsS49 w _ gb517 l0 t546 t547 from Z4 HI517.out) (Z1 HO535.out) (by decide)) hk (fun _ h => h.2)) (fun _ h => h.1)) (Kd.R_mono (Kd.R_keep (IsS49.apart (show IsS49 w _ gb517 l0 t546 t547 from Z4 HI517.out) (Z1 HO541.out) (by decide)) hk (fun _ h => h.2)) (fun _ h => h.1)) (hb) (hi) ?_; clear HO523 HO529 HO535 HO541 HB HI517; intro HO523 HO529 HO535 HO541 HB HI517; (try clear hb hk hi)))
 go_ret3
 exact ⟨Z11, Z55⟩

/-! ### impl_BestMark: function 8 -/
mutual
def impl_BestMark.j0 : Nat → Int → Int → Int → Bool → Option (Int × Int × Bool)
 | 0, _, _, _, _ => none
 | k + 1, x0, x1, x2, x34 => if x34 = true then (some (0, 0, false)) else (impl_BestMark.l0 k x0 x1 x2 0 0 1)
def impl_BestMark.l0 : Nat → Int → Int → Int → Int → Int → Int → Option (Int × Int × Bool)
 | 0, _, _, _, _, _, _ => none
 | k + 1, x0, x1, x2, x9, x10, x11 => if x11 ≤ 50 then (if x11 = 0 then (none) else (if x11 = 1 then (impl_BestMark.l0 k x0 x1 x2 x11 (wrap64 ((wrap64 ((wrap64 (Int.tdiv x0 x11)) * x1)) + (wrap64 ((wrap64 (x11 - 1)) * x2)))) (wrap64 (x11 + 1))) else (if (wrap64 ((wrap64 ((wrap64 (Int.tdiv x0 x11)) * x1)) + (wrap64 ((wrap64 (x11 - 1)) * x2)))) < x10 then (impl_BestMark.l0 k x0 x1 x2 x11 (wrap64 ((wrap64 ((wrap64 (Int.tdiv x0 x11)) * x1)) + (wrap64 ((wrap64 (x11 - 1)) * x2)))) (wrap64 (x11 + 1))) else (impl_BestMark.l0 k x0 x1 x2 x9 x10 (wrap64 (x11 + 1)))))) else (some (x9, x10, true))
end
def impl_BestMark.f (k : Nat) (a0 : Int) (a1 : Int) (a2 : Int) : Option (Int × Int × Bool) := if a0 < 1 then (impl_BestMark.j0 k a0 a1 a2 true) else (if a0 > 200 then (impl_BestMark.j0 k a0 a1 a2 true) else (if a1 < 0 then (impl_BestMark.j0 k a0 a1 a2 true) else (if a1 > 100 then (impl_BestMark.j0 k a0 a1 a2 true) else (if a2 < 0 then (impl_BestMark.j0 k a0 a1 a2 true) else (impl_BestMark.j0 k a0 a1 a2 (decide (a2 > 100)))))))
theorem impl_BestMark.mono_l : ∀ k, (∀ y0 y1 y2 y3, LeO (impl_BestMark.j0 k y0 y1 y2 y3) (impl_BestMark.j0 (k + 1) y0 y1 y2 y3)) ∧ (∀ y0 y1 y2 y3 y4 y5, LeO (impl_BestMark.l0 k y0 y1 y2 y3 y4 y5) (impl_BestMark.l0 (k + 1) y0 y1 y2 y3 y4 y5))
 | 0 => ⟨fun _ _ _ _ r h => by simp [impl_BestMark.j0] at h, fun _ _ _ _ _ _ r h => by simp [impl_BestMark.l0] at h⟩
 | k + 1 => by
  obtain ⟨ih0, ih1⟩ := impl_BestMark.mono_l k
  refine ⟨?_, ?_⟩
  ·intro y0 y1 y2 y3
   unfold impl_BestMark.j0
   exact mo12_
  intro y0 y1 y2 y3 y4 y5
  unfold impl_BestMark.l0
  exact mo12_
theorem impl_BestMark.mono : ∀ a0 a1 a2 k, LeO (impl_BestMark.f k a0 a1 a2) (impl_BestMark.f (k + 1) a0 a1 a2) := by
 intro a0 a1 a2 k
 obtain ⟨ih0, ih1⟩ := impl_BestMark.mono_l k
 unfold impl_BestMark.f
 exact mo12_
set_option maxHeartbeats 8000000 in
set_option maxRecDepth 100000 in
theorem impl_BestMark.calls (k : Nat) (a0 : Int) (a1 : Int) (a2 : Int) (r1 : Int) (r2 : Int) (r3 : Bool) (w : World) (h : impl_BestMark.f k a0 a1 a2 = some (r1, r2, r3)) :
  Calls Try.prog 8 #[.int .i64 a0, .int .i64 a1, .int .i64 a2] w fun e w' => e = .returned (.tuple #[.int .i64 r1, .int .i64 r2, .bool r3]) ∧ Drawn0 w w' := by
 have H : (if a0 < 1 then (impl_BestMark.j0 k a0 a1 a2 true) else (if a0 > 200 then (impl_BestMark.j0 k a0 a1 a2 true) else (if a1 < 0 then (impl_BestMark.j0 k a0 a1 a2 true) else (if a1 > 100 then (impl_BestMark.j0 k a0 a1 a2 true) else (if a2 < 0 then (impl_BestMark.j0 k a0 a1 a2 true) else (impl_BestMark.j0 k a0 a1 a2 (decide (a2 > 100)))))))) = some (r1, r2, r3) := h
 clear h
 have HC4 := Aside0.mk H
 clear H
 go_enter Try.func8, Try.ntmps8
 go_upto_region 1 with (fail)
 go_cut [34] (fun v34 wc => ∃ (kq : Nat) (x34_3 : Bool), v34 = .bool x34_3 ∧ Aside0 (impl_BestMark.j0 kq a0 a1 a2 x34_3 = some (r1, r2, r3)) ∧ Aside0 (kq ≤ k) ∧ Drawn0 w wc)
 case first =>
  have H := HC4.out
  clear HC4
  by_cases c5 : a0 < 1
  ·rw [if_pos c5] at H
   have c5b0 : decide (a0 < 1) = true := decide_eq_true c5
   clear c5
   (first | rw [c5b0] | (simp only [i64_w, i32_w]; rw [c5b0]) | skip)
   have H' := Aside0.mk H
   clear H
   go_wp2
   go_meet
   case rel => exact ⟨_, (true), (Z17), H', ⟨Z110⟩, Z75⟩
  rw [if_neg c5] at H
  have c5b0 : decide (a0 < 1) = false := decide_eq_false c5
  clear c5
  (first | rw [c5b0] | (simp only [i64_w, i32_w]; rw [c5b0]) | skip)
  by_cases c6 : a0 > 200
  ·rw [if_pos c6] at H
   have c6b0 : decide (200 < a0) = true := decide_eq_true c6
   clear c6
   have H' := Aside0.mk H
   clear H
   go_wp2
   go_meet
   case rel => exact ⟨_, (true), (Z17), H', ⟨Z110⟩, Z75⟩
  rw [if_neg c6] at H
  have c6b0 : decide (200 < a0) = false := decide_eq_false c6
  clear c6
  by_cases c7 : a1 < 0
  ·rw [if_pos c7] at H
   have c7b0 : decide (a1 < 0) = true := decide_eq_true c7
   clear c7
   have H' := Aside0.mk H
   clear H
   go_wp2
   go_meet
   case rel => exact ⟨_, (true), (Z17), H', ⟨Z110⟩, Z75⟩
  rw [if_neg c7] at H
  have c7b0 : decide (a1 < 0) = false := decide_eq_false c7
  clear c7
  by_cases c8 : a1 > 100
  ·rw [if_pos c8] at H
   have c8b0 : decide (100 < a1) = true := decide_eq_true c8
   clear c8
   have H' := Aside0.mk H
   clear H
   go_wp2
   go_meet
   case rel => exact ⟨_, (true), (Z17), H', ⟨Z110⟩, Z75⟩
  rw [if_neg c8] at H
  have c8b0 : decide (100 < a1) = false := decide_eq_false c8
  clear c8
  by_cases c9 : a2 < 0
  ·rw [if_pos c9] at H
   have c9b0 : decide (a2 < 0) = true := decide_eq_true c9
   clear c9
   have H' := Aside0.mk H
   clear H
   go_wp2
   go_meet
   case rel => exact ⟨_, (true), (Z17), H', ⟨Z110⟩, Z75⟩
  rw [if_neg c9] at H
  have c9b0 : decide (a2 < 0) = false := decide_eq_false c9
  clear c9
  have H' := Aside0.mk H
  clear H
  go_wp2
  go_meet
  case rel => exact ⟨_, (decide (a2 > 100)), (Z17), H', ⟨Z110⟩, Z75⟩
 case rest =>
  clear HC4
  (try clear p2); (try clear c5); (try clear c5b0); (try clear c6); (try clear c6b0); (try clear c7); (try clear c7b0); (try clear c8); (try clear c8b0); (try clear c9); (try clear c9b0)
  obtain ⟨kq, x34_3, rfl, HA, HJ3, ⟨mc3, rfl⟩⟩ := hcut
  cases kq with
  | zero => exact absurd HA.out (by simp [impl_BestMark.j0])
  | succ kj3 =>
   have H := HA.out
   clear HA
   simp only [impl_BestMark.j0] at H
   by_cases c10 : x34_3 = true
   ·subst c10
    rw [if_pos rfl] at H
    simp only [Option.some.injEq, Prod.mk.injEq] at H
    obtain ⟨rfl, rfl, rfl⟩ := H
    go_wp2
    go_ret3
    exact ⟨Z17, Z75⟩
   replace c10 := Bool.eq_false_iff.mpr c10
   subst c10
   rw [if_neg (show ¬ (false = true) by decide)] at H
   have H' := Aside0.mk H
   clear H
   go_wp2
   go_loopg [9, 10, 11] kj3 (fun kq v9 v10 v11 w' => ∃ (x9_2 : Int) (x10_2 : Int) (x11_2 : Int), v9 = .int .i64 x9_2 ∧ v10 = .int .i64 x10_2 ∧ v11 = .int .i64 x11_2 ∧ Aside0 (impl_BestMark.l0 kq a0 a1 a2 x9_2 x10_2 x11_2 = some (r1, r2, r3)) ∧ Aside0 (kq ≤ kj3) ∧ Drawn0 w w')
   case atStart => exact ⟨(0), (0), (1), (Z17), (Z17), (Z17), H', ⟨Nat.le_refl _⟩, Z75⟩
   case round =>
    clear H'
    (try clear c1); (try clear c3); (try clear c10)
    obtain ⟨x9_2, x10_2, x11_2, rfl, rfl, rfl, HA, HK2, ⟨m2, rfl⟩⟩ := hrel
    cases gk with
    | zero => exact absurd HA.out (by simp [impl_BestMark.l0])
    | succ k2 =>
     have H := HA.out
     clear HA
     simp only [impl_BestMark.l0] at H
     by_cases c11 : x11_2 ≤ 50
     ·rw [if_pos c11] at H
      have c11b0 : decide (x11_2 ≤ 50) = true := decide_eq_true c11
      clear c11
      by_cases c12 : x11_2 = 0
      ·rw [if_pos c12] at H
       exact absurd H (by simp)
      rw [if_neg c12] at H
      have c12b0 : (x11_2 == 0) = false := beq_eq_false_iff_ne.mpr c12
      have c12b1 : (x11_2 != 0) = true := bne_iff_ne.mpr c12
      by_cases c13 : x11_2 = 1
      ·rw [if_pos c13] at H
       have c13b0 : (x11_2 == 1) = true := beq_iff_eq.mpr c13
       have c13b1 : (x11_2 != 1) = false := bne_eq_false_iff_eq.mpr c13
       clear c13
       have H' := Aside0.mk H
       clear H
       go_wp2
       go_roundg k2
       case measure => have := HJ3.out; have := HK2.out; omega
       case rel => exact ⟨(x11_2), (wrap64 ((wrap64 ((wrap64 (Int.tdiv a0 x11_2)) * a1)) + (wrap64 ((wrap64 (x11_2 - 1)) * a2)))), (wrap64 (x11_2 + 1)), (Z17), (Z17), (Z17), H', ⟨Z153 HJ3.out⟩, Z75⟩
      rw [if_neg c13] at H
      have c13b0 : (x11_2 == 1) = false := beq_eq_false_iff_ne.mpr c13
      have c13b1 : (x11_2 != 1) = true := bne_iff_ne.mpr c13
      by_cases c14 : (wrap64 ((wrap64 ((wrap64 (Int.tdiv a0 x11_2)) * a1)) + (wrap64 ((wrap64 (x11_2 - 1)) * a2)))) < x10_2
      ·rw [if_pos c14] at H
       have c14b0 : decide ((wrap64 ((wrap64 ((wrap64 (Int.tdiv a0 x11_2)) * a1)) + (wrap64 ((wrap64 (x11_2 - 1)) * a2)))) < x10_2) = true := decide_eq_true c14
       clear c14
       have H' := Aside0.mk H
       clear H
       go_wp2
       go_roundg k2
       case measure => have := HJ3.out; have := HK2.out; omega
       case rel => exact ⟨(x11_2), (wrap64 ((wrap64 ((wrap64 (Int.tdiv a0 x11_2)) * a1)) + (wrap64 ((wrap64 (x11_2 - 1)) * a2)))), (wrap64 (x11_2 + 1)), (Z17), (Z17), (Z17), H', ⟨Z153 HJ3.out⟩, Z75⟩
      rw [if_neg c14] at H
      have c14b0 : decide ((wrap64 ((wrap64 ((wrap64 (Int.tdiv a0 x11_2)) * a1)) + (wrap64 ((wrap64 (x11_2 - 1)) * a2)))) < x10_2) = false := decide_eq_false c14
      clear c14
      have H' := Aside0.mk H
      clear H
      go_wp2
      go_roundg k2
      case measure => have := HJ3.out; have := HK2.out; omega
      case rel => exact ⟨(x9_2), (x10_2), (wrap64 (x11_2 + 1)), (Z17), (Z17), (Z17), H', ⟨Z153 HJ3.out⟩, Z75⟩
     rw [if_neg c11] at H
     have c11b0 : decide (x11_2 ≤ 50) = false := decide_eq_false c11
     clear c11
     simp only [Option.some.injEq, Prod.mk.injEq] at H
     obtain ⟨rfl, rfl, rfl⟩ := H
     go_wp2
     go_ret3
     exact ⟨Z17, Z75⟩

end Go.Proofs.Ytflefblmaopaiaa.PFnStops
