-- written by a program of this session: the kit's print, with outer functions of the session's own (wip/ext)
import Derived.Test.YtmnnmddfmmaohaaPFnStainsx0
import Derived.Test.YtmnnmddfmmaohaaPFnStainsx7
namespace Go.Proofs.Ytmnnmddfmmaohaa.PFnStains
open Go.RowKit Go.Proofs.YtmnnmddfmmaohaaW.PrintWords Go.Proofs.YtmnnmddfmmaohaaW.PrintLast Go.Proofs.YtmnnmddfmmaohaaW.PrintMore
attribute [local go_sem] max2_int min2_int max_two min_two max_three min_three max_four min_four   -- for this text's walks alone
set_option linter.unusedVariables false
set_option linter.unusedSimpArgs false

/-! ### impl_StainScan_1: function 49 -/
def impl_StainScan_1.f (a0 : Int) (a1 : Int) (a2 : Int) (a3 : Int) (a4 : Int) (l5 : List ByteArray) : Option (Int) := (impl_distance.f a0 a2).bind fun t422 => (if t422 < a3 then ((impl_distance.f a1 a4).bind fun t423 => (if t423 < a3 then (some 63) else (if 0 ≤ a0 then (if a0 < (l5.length : Int) then (if 0 ≤ a1 then (if a1 < ((rdOf ByteArray.empty l5 a0).size : Int) then (some (bt (rdOf ByteArray.empty l5 a0) a1)) else (none)) else (none)) else (none)) else (none)))) else (if 0 ≤ a0 then (if a0 < (l5.length : Int) then (if 0 ≤ a1 then (if a1 < ((rdOf ByteArray.empty l5 a0).size : Int) then (some (bt (rdOf ByteArray.empty l5 a0) a1)) else (none)) else (none)) else (none)) else (none)))
def impl_StainScan_1.T1 : Bool × List (List Nat × List Nat) := (true, [([], []), ([], []), ([0, 1], [0, 1]), ([], []), ([2, 3], [2, 3]), ([4, 2], [4]), ([5], [5]), ([5], [5]), ([6, 7, 5, 5], [5, 6, 7]), ([5], [5]), ([8, 9, 5], [5, 8, 9]), ([5, 10], [5, 10])])
def impl_StainScan_1.B1 : List Nat := [0, 0, 3, 0, 15, 31, 63, 63, 255, 63, 1023, 2047]
theorem impl_StainScan_1.tab1 : rtab .any (opsOf Try.f49 1) = impl_StainScan_1.T1 := by kernel_rfl
theorem impl_StainScan_1.bits1 : waitsOk impl_StainScan_1.T1.2 impl_StainScan_1.B1 = true := by kernel_rfl
set_option maxHeartbeats 8000000 in
set_option maxRecDepth 100000 in
theorem impl_StainScan_1.calls (a0 : Int) (a1 : Int) (p2 : Nat) (a2 : Int) (p3 : Nat) (a3 : Int) (p4 : Nat) (a4 : Int) (p5 : Nat) (A5 : Option Addr) (c5 : Nat) (l5 : List ByteArray) (r : Int) (w : World) (hr5 : Kd.C Kd.string w A5 l5.length l5) (hc5 : l5.length ≤ c5) (hb2 : w.heap[p2]? = some (.cells #[.int .i64 a2] 3 (0, 0))) (hb3 : w.heap[p3]? = some (.cells #[.int .i64 a3] 3 (0, 0))) (hb4 : w.heap[p4]? = some (.cells #[.int .i64 a4] 3 (0, 0))) (hb5 : w.heap[p5]? = some (.cells #[.slice A5 l5.length c5] 24 (0, 0))) (hn2_3 : p2 ≠ p3) (hn2_4 : p2 ≠ p4) (hn2_5 : p2 ≠ p5) (hn3_2 : p3 ≠ p2) (hn3_4 : p3 ≠ p4) (hn3_5 : p3 ≠ p5) (hn4_2 : p4 ≠ p2) (hn4_3 : p4 ≠ p3) (hn4_5 : p4 ≠ p5) (hn5_2 : p5 ≠ p2) (hn5_3 : p5 ≠ p3) (hn5_4 : p5 ≠ p4) (h : impl_StainScan_1.f a0 a1 a2 a3 a4 l5 = some r) :
  Calls Try.prog 49 #[.int .i64 a0, .int .i64 a1, .pointer (some ⟨p2, 0, none⟩), .pointer (some ⟨p3, 0, none⟩), .pointer (some ⟨p4, 0, none⟩), .pointer (some ⟨p5, 0, none⟩)] w fun e w' => e = .returned (.int .u8 r) ∧ Below w.heap.size w w' := by
 have hu3 := Try.underlying3
 have hu24 := Try.underlying24
 have hu9 := Try.underlying9
 have HR5 := Aside0.mk hr5
 have HC5 := Aside0.mk hc5
 clear hr5 hc5
 have HB := Aside0.mk (Below.refl w.heap.size w)
 have BK418 := Aside0.mk hb2
 clear hb2
 have BK419 := Aside0.mk hb3
 clear hb3
 have BK420 := Aside0.mk hb4
 clear hb4
 have BK421 := Aside0.mk hb5
 clear hb5
 have NB418_419 := Aside0.mk hn2_3
 clear hn2_3
 have NB418_420 := Aside0.mk hn2_4
 clear hn2_4
 have NB418_421 := Aside0.mk hn2_5
 clear hn2_5
 have NB419_418 := Aside0.mk hn3_2
 clear hn3_2
 have NB419_420 := Aside0.mk hn3_4
 clear hn3_4
 have NB419_421 := Aside0.mk hn3_5
 clear hn3_5
 have NB420_418 := Aside0.mk hn4_2
 clear hn4_2
 have NB420_419 := Aside0.mk hn4_3
 clear hn4_3
 have NB420_421 := Aside0.mk hn4_5
 clear hn4_5
 have NB421_418 := Aside0.mk hn5_2
 clear hn5_2
 have NB421_419 := Aside0.mk hn5_3
 clear hn5_3
 have NB421_420 := Aside0.mk hn5_4
 clear hn5_4
 have H : ((impl_distance.f a0 a2).bind fun t422 => (if t422 < a3 then ((impl_distance.f a1 a4).bind fun t423 => (if t423 < a3 then (some 63) else (if 0 ≤ a0 then (if a0 < (l5.length : Int) then (if 0 ≤ a1 then (if a1 < ((rdOf ByteArray.empty l5 a0).size : Int) then (some (bt (rdOf ByteArray.empty l5 a0) a1)) else (none)) else (none)) else (none)) else (none)))) else (if 0 ≤ a0 then (if a0 < (l5.length : Int) then (if 0 ≤ a1 then (if a1 < ((rdOf ByteArray.empty l5 a0).size : Int) then (some (bt (rdOf ByteArray.empty l5 a0) a1)) else (none)) else (none)) else (none)) else (none)))) = some r := h
 clear h
 replace H := Option.bind_eq_some_iff.mp H
 obtain ⟨t422, A70, H⟩ := H
 (try dsimp only at H)
 have A7 := Aside0.mk A70
 clear A70
 by_cases c8 : t422 < a3
 ·rw [if_pos c8] at H
  have c8b0 : decide (t422 < a3) = true := decide_eq_true c8
  clear c8
  replace H := Option.bind_eq_some_iff.mp H
  obtain ⟨t423, A90, H⟩ := H
  (try dsimp only at H)
  have A9 := Aside0.mk A90
  clear A90
  by_cases c10 : t423 < a3
  ·rw [if_pos c10] at H
   have c10b0 : decide (t423 < a3) = true := decide_eq_true c10
   clear c10
   obtain rfl := Option.some.inj H
   go_enter Try.func49, Try.ntmps49
   try go_wp2
   refine k5_ (blk_drew BK418.out) (blk_drew BK419.out) (blk_drew BK420.out) (blk_drew BK421.out) (below_drew1 HB.out) ?_
   clear BK418 BK419 BK420 BK421 HB
   intro BK418 BK419 BK420 BK421 HB
   refine start_ (n := 12) (S := fun w' => w'.cell? ⟨p2, 0, none⟩ = some (.int .i64 a2) ∧ w'.cell? ⟨p3, 0, none⟩ = some (.int .i64 a3) ∧ w'.cell? ⟨p4, 0, none⟩ = some (.int .i64 a4)) (ds := []) (M_ 0 12) (by kernel_rfl) rfl rfl ⟨(blk_cell BK418.out 0).trans rfl, (blk_cell BK419.out 0).trans rfl, (blk_cell BK420.out 0).trans rfl⟩ (fun hHeld => ?_); refine with_tabW impl_StainScan_1.tab1 impl_StainScan_1.bits1 (fun HT_ HW_ => ?_)
   generalize w.drew = w11 at BK418 BK419 BK420 BK421 HB hHeld ⊢
   refine pu_ 0 9 (M_ 1 11) ?_
   refine tk3_ 1 10 (M_ 2 10) hHeld ?_
   refine tk3_ 3 12 (N_ 12 11) hHeld ?_
   refine one_ (i := 2) (N := some 11) (M_ 4 8) rfl rfl (one_of HT_.out (by kernel_rfl)) (by decide) (fun K hK => ?_)
   refine goes_ Try.func50 (by kernel_rfl) rfl #[.int .i64 a0, .int .i64 a2] (by rfl) rfl rfl (Z18) ?_
   with_reducible refine (impl_distance.calls a0 a2 t422 _ A7.out).mono ?_
   rintro e w12 ⟨rfl, hb⟩
   refine ⟨_, rfl, ?_⟩
   have n0_ := Aside0.mk (blk_below (g := p2) (o := .cells #[.int .i64 a2] 3 (0, 0)) (Z4 BK418.out) hb)
   have n1_ := Aside0.mk (blk_below (g := p3) (o := .cells #[.int .i64 a3] 3 (0, 0)) (Z4 BK419.out) hb)
   have n2_ := Aside0.mk (blk_below (g := p4) (o := .cells #[.int .i64 a4] 3 (0, 0)) (Z4 BK420.out) hb)
   have n3_ := Aside0.mk (blk_below (g := p5) (o := .cells #[.slice A5 l5.length c5] 24 (0, 0)) (Z4 BK421.out) hb)
   have n4_ := Aside0.mk (below_step (Z32) hb)
   clear BK418
   clear BK419
   clear BK420
   clear BK421
   clear HB
   have BK418 := n0_
   have BK419 := n1_
   have BK420 := n2_
   have BK421 := n3_
   have HB := n4_
   clear n0_ n1_ n2_ n3_ n4_
   (try clear hb)
   (try clear hb2)
   (try clear hk)
   (try clear hi)
   refine hK.out _ _ ⟨(blk_cell BK418.out 0).trans rfl, (blk_cell BK419.out 0).trans rfl, (blk_cell BK420.out 0).trans rfl⟩ (fun hHeld => ?_)
   clear hK K
   refine norm_ (a' := ?_) ?_ ?_
   rotate_left
   ·show Act.put _ (some 11) _ = _
    simp only [Act.put, List.setIfInBounds_toArray, List.set_cons_zero, List.set_cons_succ, i64_w, i32_w]
    rfl
   refine pu_ 4 13 (M_ 5 7) ?_
   refine pu_ 5 14 (M_ 6 6) ?_
   refine pu_ 6 15 (M_ 7 5) ?_
   refine tk3_ 7 16 (M_ 8 4) hHeld ?_
   refine tk3_ 9 18 (N_ 12 767) hHeld ?_
   refine one_ (i := 8) (N := some 17) (M_ 10 2) rfl rfl (one_of HT_.out (by kernel_rfl)) (by decide) (fun K hK => ?_)
   refine goes_ Try.func50 (by kernel_rfl) rfl #[.int .i64 a1, .int .i64 a4] (by rfl) rfl rfl (Z18) ?_
   with_reducible refine (impl_distance.calls a1 a4 t423 _ A9.out).mono ?_
   rintro e w13 ⟨rfl, hb⟩
   refine ⟨_, rfl, ?_⟩
   have n0_ := Aside0.mk (blk_below (g := p2) (o := .cells #[.int .i64 a2] 3 (0, 0)) (Z4 BK418.out) hb)
   have n1_ := Aside0.mk (blk_below (g := p3) (o := .cells #[.int .i64 a3] 3 (0, 0)) (Z4 BK419.out) hb)
   have n2_ := Aside0.mk (blk_below (g := p4) (o := .cells #[.int .i64 a4] 3 (0, 0)) (Z4 BK420.out) hb)
   have n3_ := Aside0.mk (blk_below (g := p5) (o := .cells #[.slice A5 l5.length c5] 24 (0, 0)) (Z4 BK421.out) hb)
   have n4_ := Aside0.mk (below_step (Z32) hb)
   clear BK418
   clear BK419
   clear BK420
   clear BK421
   clear HB
   have BK418 := n0_
   have BK419 := n1_
   have BK420 := n2_
   have BK421 := n3_
   have HB := n4_
   clear n0_ n1_ n2_ n3_ n4_
   refine hK.out _ _ ⟨(blk_cell BK418.out 0).trans rfl, (blk_cell BK419.out 0).trans rfl, (blk_cell BK420.out 0).trans rfl⟩ (fun hHeld => ?_)
   clear hK K
   refine norm_ (a' := ?_) ?_ ?_
   rotate_left
   ·show Act.put _ (some 17) _ = _
    simp only [Act.put, List.setIfInBounds_toArray, List.set_cons_zero, List.set_cons_succ, i64_w, i32_w]
    rfl
   refine pu_ 10 19 (M_ 11 1) ?_
   refine pu_ 11 20 (M_ 12 0) ?_
   refine done_ (done_of HT_.out (by kernel_rfl)) ?_
   try go_wp2
   go_ret
   exact ⟨Z11, Z32⟩
  rw [if_neg c10] at H
  have c10b0 : decide (t423 < a3) = false := decide_eq_false c10
  clear c10
  by_cases c14 : 0 ≤ a0
  ·rw [if_pos c14] at H
   have c14b0 : decide (0 ≤ a0) = true := decide_eq_true c14
   clear c14
   by_cases c15 : a0 < (l5.length : Int)
   ·rw [if_pos c15] at H
    have c15b0 : decide (a0 < (l5.length : Int)) = true := decide_eq_true c15
    clear c15
    by_cases c16 : 0 ≤ a1
    ·rw [if_pos c16] at H
     have c16b0 : decide (0 ≤ a1) = true := decide_eq_true c16
     clear c16
     by_cases c17 : a1 < ((rdOf ByteArray.empty l5 a0).size : Int)
     ·rw [if_pos c17] at H
      have c17b0 : decide (a1 < ((rdOf ByteArray.empty l5 a0).size : Int)) = true := decide_eq_true c17
      clear c17
      obtain rfl := Option.some.inj H
      go_enter Try.func49, Try.ntmps49
      try go_wp2
      refine k5_ (blk_drew BK418.out) (blk_drew BK419.out) (blk_drew BK420.out) (blk_drew BK421.out) (below_drew1 HB.out) ?_
      clear BK418 BK419 BK420 BK421 HB
      intro BK418 BK419 BK420 BK421 HB
      refine start_ (n := 12) (S := fun w' => w'.cell? ⟨p2, 0, none⟩ = some (.int .i64 a2) ∧ w'.cell? ⟨p3, 0, none⟩ = some (.int .i64 a3) ∧ w'.cell? ⟨p4, 0, none⟩ = some (.int .i64 a4)) (ds := []) (M_ 0 12) (by kernel_rfl) rfl rfl ⟨(blk_cell BK418.out 0).trans rfl, (blk_cell BK419.out 0).trans rfl, (blk_cell BK420.out 0).trans rfl⟩ (fun hHeld => ?_); refine with_tabW impl_StainScan_1.tab1 impl_StainScan_1.bits1 (fun HT_ HW_ => ?_)
      generalize w.drew = w19 at BK418 BK419 BK420 BK421 HB hHeld ⊢
      refine pu_ 0 9 (M_ 1 11) ?_
      refine tk3_ 1 10 (M_ 2 10) hHeld ?_
      refine tk3_ 3 12 (N_ 12 11) hHeld ?_
      refine one_ (i := 2) (N := some 11) (M_ 4 8) rfl rfl (one_of HT_.out (by kernel_rfl)) (by decide) (fun K hK => ?_)
      refine goes_ Try.func50 (by kernel_rfl) rfl #[.int .i64 a0, .int .i64 a2] (by rfl) rfl rfl (Z18) ?_
      with_reducible refine (impl_distance.calls a0 a2 t422 _ A7.out).mono ?_
      rintro e w20 ⟨rfl, hb⟩
      refine ⟨_, rfl, ?_⟩
      have n0_ := Aside0.mk (blk_below (g := p2) (o := .cells #[.int .i64 a2] 3 (0, 0)) (Z4 BK418.out) hb)
      have n1_ := Aside0.mk (blk_below (g := p3) (o := .cells #[.int .i64 a3] 3 (0, 0)) (Z4 BK419.out) hb)
      have n2_ := Aside0.mk (blk_below (g := p4) (o := .cells #[.int .i64 a4] 3 (0, 0)) (Z4 BK420.out) hb)
      have n3_ := Aside0.mk (blk_below (g := p5) (o := .cells #[.slice A5 l5.length c5] 24 (0, 0)) (Z4 BK421.out) hb)
      have n4_ := Aside0.mk (below_step (Z32) hb)
      clear BK418
      clear BK419
      clear BK420
      clear BK421
      clear HB
      have BK418 := n0_
      have BK419 := n1_
      have BK420 := n2_
      have BK421 := n3_
      have HB := n4_
      clear n0_ n1_ n2_ n3_ n4_
      (try clear hb)
      (try clear hb2)
      (try clear hk)
      (try clear hi)
      refine hK.out _ _ ⟨(blk_cell BK418.out 0).trans rfl, (blk_cell BK419.out 0).trans rfl, (blk_cell BK420.out 0).trans rfl⟩ (fun hHeld => ?_)
      clear hK K
      refine norm_ (a' := ?_) ?_ ?_
      rotate_left
      ·show Act.put _ (some 11) _ = _
       simp only [Act.put, List.setIfInBounds_toArray, List.set_cons_zero, List.set_cons_succ, i64_w, i32_w]
       rfl
      refine pu_ 4 13 (M_ 5 7) ?_
      refine pu_ 5 14 (M_ 6 6) ?_
      refine pu_ 6 15 (M_ 7 5) ?_
      refine tk3_ 7 16 (M_ 8 4) hHeld ?_
      refine tk3_ 9 18 (N_ 12 767) hHeld ?_
      refine one_ (i := 8) (N := some 17) (M_ 10 2) rfl rfl (one_of HT_.out (by kernel_rfl)) (by decide) (fun K hK => ?_)
      refine goes_ Try.func50 (by kernel_rfl) rfl #[.int .i64 a1, .int .i64 a4] (by rfl) rfl rfl (Z18) ?_
      with_reducible refine (impl_distance.calls a1 a4 t423 _ A9.out).mono ?_
      rintro e w21 ⟨rfl, hb⟩
      refine ⟨_, rfl, ?_⟩
      have n0_ := Aside0.mk (blk_below (g := p2) (o := .cells #[.int .i64 a2] 3 (0, 0)) (Z4 BK418.out) hb)
      have n1_ := Aside0.mk (blk_below (g := p3) (o := .cells #[.int .i64 a3] 3 (0, 0)) (Z4 BK419.out) hb)
      have n2_ := Aside0.mk (blk_below (g := p4) (o := .cells #[.int .i64 a4] 3 (0, 0)) (Z4 BK420.out) hb)
      have n3_ := Aside0.mk (blk_below (g := p5) (o := .cells #[.slice A5 l5.length c5] 24 (0, 0)) (Z4 BK421.out) hb)
      have n4_ := Aside0.mk (below_step (Z32) hb)
      clear BK418
      clear BK419
      clear BK420
      clear BK421
      clear HB
      have BK418 := n0_
      have BK419 := n1_
      have BK420 := n2_
      have BK421 := n3_
      have HB := n4_
      clear n0_ n1_ n2_ n3_ n4_
      refine hK.out _ _ ⟨(blk_cell BK418.out 0).trans rfl, (blk_cell BK419.out 0).trans rfl, (blk_cell BK420.out 0).trans rfl⟩ (fun hHeld => ?_)
      clear hK K
      refine norm_ (a' := ?_) ?_ ?_
      rotate_left
      ·show Act.put _ (some 17) _ = _
       simp only [Act.put, List.setIfInBounds_toArray, List.set_cons_zero, List.set_cons_succ, i64_w, i32_w]
       rfl
      refine pu_ 10 19 (M_ 11 1) ?_
      refine pu_ 11 20 (M_ 12 0) ?_
      refine done_ (done_of HT_.out (by kernel_rfl)) ?_
      have hnb22 := NB421_418.out
      have hnc22 := NB418_421.out
      have hnb23 := NB421_419.out
      have hnc23 := NB419_421.out
      have hnb24 := NB421_420.out
      have hnc24 := NB420_421.out
      obtain ⟨hcz25_0, hfz25_0⟩ := bx1_ (w := w21) BK421.out
      have p424 : 0 ≤ (a0 : Int) := of_decide_eq_true (Z8)
      have q424 : a0 < (l5.length : Int) := of_decide_eq_true (Z8)
      obtain ⟨ad424, e424, hx424_0⟩ := Kd.at_string HR5.out a0 p424 q424
      cases e424
      replace hx424_0 := (HB.out.cell (World.block_lt_of_cell? w _ hx424_0)).trans hx424_0
      replace p424 := eq_true p424
      replace q424 := eq_true q424
      have p18 : 0 ≤ (a1 : Int) := of_decide_eq_true (Z8)
      have q18 : a1 < ((rdOf ByteArray.empty l5 a0).size : Int) := of_decide_eq_true (Z8)
      have hx18 := bt_at (rdOf ByteArray.empty l5 a0) a1
      replace p18 := eq_true p18
      replace q18 := eq_true q18
      try go_wp2
      go_ret
      exact ⟨Z11, Z32⟩
     rw [if_neg c17] at H
     exact absurd H (by simp)
    rw [if_neg c16] at H
    exact absurd H (by simp)
   rw [if_neg c15] at H
   exact absurd H (by simp)
  rw [if_neg c14] at H
  exact absurd H (by simp)
 rw [if_neg c8] at H
 have c8b0 : decide (t422 < a3) = false := decide_eq_false c8
 clear c8
 by_cases c26 : 0 ≤ a0
 ·rw [if_pos c26] at H
  have c26b0 : decide (0 ≤ a0) = true := decide_eq_true c26
  clear c26
  by_cases c27 : a0 < (l5.length : Int)
  ·rw [if_pos c27] at H
   have c27b0 : decide (a0 < (l5.length : Int)) = true := decide_eq_true c27
   clear c27
   by_cases c28 : 0 ≤ a1
   ·rw [if_pos c28] at H
    have c28b0 : decide (0 ≤ a1) = true := decide_eq_true c28
    clear c28
    by_cases c29 : a1 < ((rdOf ByteArray.empty l5 a0).size : Int)
    ·rw [if_pos c29] at H
     have c29b0 : decide (a1 < ((rdOf ByteArray.empty l5 a0).size : Int)) = true := decide_eq_true c29
     clear c29
     obtain rfl := Option.some.inj H
     go_enter Try.func49, Try.ntmps49
     try go_wp2
     refine k5_ (blk_drew BK418.out) (blk_drew BK419.out) (blk_drew BK420.out) (blk_drew BK421.out) (below_drew1 HB.out) ?_
     clear BK418 BK419 BK420 BK421 HB
     intro BK418 BK419 BK420 BK421 HB
     refine start_ (n := 12) (S := fun w' => w'.cell? ⟨p2, 0, none⟩ = some (.int .i64 a2) ∧ w'.cell? ⟨p3, 0, none⟩ = some (.int .i64 a3)) (ds := []) (M_ 0 12) (by kernel_rfl) rfl rfl ⟨(blk_cell BK418.out 0).trans rfl, (blk_cell BK419.out 0).trans rfl⟩ (fun hHeld => ?_); refine with_tabW impl_StainScan_1.tab1 impl_StainScan_1.bits1 (fun HT_ HW_ => ?_)
     generalize w.drew = w31 at BK418 BK419 BK420 BK421 HB hHeld ⊢
     refine pu_ 0 9 (M_ 1 11) ?_
     refine tk2_ 1 10 (M_ 2 10) hHeld ?_
     refine tk2_ 3 12 (N_ 12 11) hHeld ?_
     refine one_ (i := 2) (N := some 11) (M_ 4 8) rfl rfl (one_of HT_.out (by kernel_rfl)) (by decide) (fun K hK => ?_)
     refine goes_ Try.func50 (by kernel_rfl) rfl #[.int .i64 a0, .int .i64 a2] (by rfl) rfl rfl (Z18) ?_
     with_reducible refine (impl_distance.calls a0 a2 t422 _ A7.out).mono ?_
     rintro e w32 ⟨rfl, hb⟩
     refine ⟨_, rfl, ?_⟩
     have n0_ := Aside0.mk (blk_below (g := p2) (o := .cells #[.int .i64 a2] 3 (0, 0)) (Z4 BK418.out) hb)
     have n1_ := Aside0.mk (blk_below (g := p3) (o := .cells #[.int .i64 a3] 3 (0, 0)) (Z4 BK419.out) hb)
     have n2_ := Aside0.mk (blk_below (g := p4) (o := .cells #[.int .i64 a4] 3 (0, 0)) (Z4 BK420.out) hb)
     have n3_ := Aside0.mk (blk_below (g := p5) (o := .cells #[.slice A5 l5.length c5] 24 (0, 0)) (Z4 BK421.out) hb)
     have n4_ := Aside0.mk (below_step (Z32) hb)
     clear BK418
     clear BK419
     clear BK420
     clear BK421
     clear HB
     have BK418 := n0_
     have BK419 := n1_
     have BK420 := n2_
     have BK421 := n3_
     have HB := n4_
     clear n0_ n1_ n2_ n3_ n4_
     (try clear hb)
     (try clear hb2)
     (try clear hk)
     (try clear hi)
     refine hK.out _ _ ⟨(blk_cell BK418.out 0).trans rfl, (blk_cell BK419.out 0).trans rfl⟩ (fun hHeld => ?_)
     clear hK K
     refine norm_ (a' := ?_) ?_ ?_
     rotate_left
     ·show Act.put _ (some 11) _ = _
      simp only [Act.put, List.setIfInBounds_toArray, List.set_cons_zero, List.set_cons_succ, i64_w, i32_w]
      rfl
     refine pu_ 4 13 (M_ 5 7) ?_
     refine pu_ 5 14 (M_ 6 6) ?_
     refine pn_ 6 15 (M_ 7 5) ?_
     refine pn_ 7 16 (M_ 8 4) ?_
     refine pn_ 8 17 (M_ 9 3) ?_
     refine pn_ 9 18 (M_ 10 2) ?_
     refine pn_ 10 19 (M_ 11 1) ?_
     refine pu_ 11 20 (M_ 12 0) ?_
     refine done_ (done_of HT_.out (by kernel_rfl)) ?_
     have hnb33 := NB421_418.out
     have hnc33 := NB418_421.out
     have hnb34 := NB421_419.out
     have hnc34 := NB419_421.out
     have hnb35 := NB421_420.out
     have hnc35 := NB420_421.out
     obtain ⟨hcz36_0, hfz36_0⟩ := bx1_ (w := w32) BK421.out
     have p425 : 0 ≤ (a0 : Int) := of_decide_eq_true (Z8)
     have q425 : a0 < (l5.length : Int) := of_decide_eq_true (Z8)
     obtain ⟨ad425, e425, hx425_0⟩ := Kd.at_string HR5.out a0 p425 q425
     cases e425
     replace hx425_0 := (HB.out.cell (World.block_lt_of_cell? w _ hx425_0)).trans hx425_0
     replace p425 := eq_true p425
     replace q425 := eq_true q425
     have p30 : 0 ≤ (a1 : Int) := of_decide_eq_true (Z8)
     have q30 : a1 < ((rdOf ByteArray.empty l5 a0).size : Int) := of_decide_eq_true (Z8)
     have hx30 := bt_at (rdOf ByteArray.empty l5 a0) a1
     replace p30 := eq_true p30
     replace q30 := eq_true q30
     try go_wp2
     go_ret
     exact ⟨Z11, Z32⟩
    rw [if_neg c29] at H
    exact absurd H (by simp)
   rw [if_neg c28] at H
   exact absurd H (by simp)
  rw [if_neg c27] at H
  exact absurd H (by simp)
 rw [if_neg c26] at H
 exact absurd H (by simp)

end Go.Proofs.Ytmnnmddfmmaohaa.PFnStains
