-- written by a program of this session: the kit's print, with outer functions of the session's own (wip/ext)
import Derived.Test.YtmnnmddfmmaohaaPFnStainsx0
import Derived.Test.YtmnnmddfmmaohaaPFnStainsx7
import Derived.Test.YtmnnmddfmmaohaaPFnStainsx8
namespace Go.Proofs.Ytmnnmddfmmaohaa.PFnStains
open Go.RowKit Go.Proofs.YtmnnmddfmmaohaaW.PrintWords Go.Proofs.YtmnnmddfmmaohaaW.PrintLast Go.Proofs.YtmnnmddfmmaohaaW.PrintMore
attribute [local go_sem] max2_int min2_int max_two min_two max_three min_three max_four min_four   -- for this text's walks alone
set_option linter.unusedVariables false
set_option linter.unusedSimpArgs false
theorem mo9_ {p : Prop} (h : p := by repeat' first | (with_reducible first | apply impl_IsScan.mono | apply impl_IsScan.mono | apply impl_drawnW.mono | apply impl_drawnW.mono | exact LeO.refl _ | exact LeO.none _ | refine LeO.ite ?_ ?_ | refine LeO.bind ?_ (fun _ => ?_)) | exact LeO.none _ | refine LeO.ite ?_ ?_ | refine LeO.bind ?_ (fun _ => ?_)) : p := h

/-! ### impl_StainScan: function 7 -/
def impl_StainScan.f (k : Nat) (l0 : List ByteArray) (a1 : Int) (a2 : Int) (a3 : Int) : Option (List ByteArray × Bool) := (impl_IsScan.f k l0).bind fun t430 => (if t430 = true then (if a1 < 0 then (some (([] : List ByteArray), false)) else (if a1 ≥ (l0.length : Int) then (some (([] : List ByteArray), false)) else (if a2 < 0 then (some (([] : List ByteArray), false)) else (if 0 < (l0.length : Int) then (if a2 ≥ ((rdOf ByteArray.empty l0 0).size : Int) then (some (([] : List ByteArray), false)) else (if a3 < 1 then (some (([] : List ByteArray), false)) else (if a3 > 10 then (some (([] : List ByteArray), false)) else ((impl_drawnW.f k (l0.length : Int) ((rdOf ByteArray.empty l0 0).size : Int) (fun a0_ a1_ => impl_StainScan_1.f a0_ a1_ a1 a3 a2 l0)).bind fun t433 => (some (t433, true)))))) else (none))))) else (some (([] : List ByteArray), false)))
theorem impl_StainScan.mono : ∀ a0 a1 a2 a3 k, LeO (impl_StainScan.f k a0 a1 a2 a3) (impl_StainScan.f (k + 1) a0 a1 a2 a3) := by
 intro a0 a1 a2 a3 k
 unfold impl_StainScan.f
 exact mo9_
def impl_StainScan.T1 : Bool × List (List Nat × List Nat) := (true, [([], []), ([0], [0]), ([1], [1]), ([2, 1], [2]), ([3], [3]), ([4, 3], [3, 4]), ([3, 5], [3, 5]), ([6, 3], [6]), ([7], [7]), ([7], [7]), ([9, 7], [7, 9]), ([8, 10, 7], [7, 8, 10]), ([7, 11], [7, 11]), ([12, 7], [12]), ([13], [13]), ([14, 13], [13, 14]), ([13, 15], [13, 15]), ([16, 13], [16]), ([17], [17]), ([17], [17]), ([19, 17], [17, 19]), ([20, 17], [17, 20]), ([21, 17], [17, 21]), ([18, 22, 17], [17, 18, 22]), ([17, 23], [17, 23]), ([24, 17], [24]), ([25], [25]), ([26, 25], [25, 26]), ([25, 27], [25, 27]), ([28, 25], [28]), ([29], [29]), ([30, 29], [29, 30]), ([29, 31], [29, 31])])
def impl_StainScan.B1 : List Nat := [0, 1, 3, 7, 15, 31, 63, 127, 255, 255, 767, 2047, 4095, 8191, 16383, 32767, 65535, 131071, 262143, 262143, 786431, 1835007, 3932159, 8388607, 16777215, 33554431, 67108863, 134217727, 268435455, 536870911, 1073741823, 2147483647, 4294967295]
theorem impl_StainScan.tab1 : rtab .any (opsOf Try.f7 1) = impl_StainScan.T1 := by kernel_rfl
theorem impl_StainScan.bits1 : waitsOk impl_StainScan.T1.2 impl_StainScan.B1 = true := by kernel_rfl
def impl_StainScan.T3 : Bool × List (List Nat × List Nat) := (true, [([], []), ([0], [0]), ([], []), ([2], [2]), ([3], [3]), ([4], [4]), ([], []), ([1, 5, 6], [1, 5, 6]), ([7, 7, 0, 1, 2, 3, 4, 5, 6, 7], [7]), ([8, 0, 1, 2, 3, 4, 5, 6, 7, 8], [])])
def impl_StainScan.B3 : List Nat := [0, 1, 0, 4, 12, 28, 0, 127, 255, 511]
theorem impl_StainScan.tab3 : rtab .any (opsOf Try.f7 3) = impl_StainScan.T3 := by kernel_rfl
theorem impl_StainScan.bits3 : waitsOk impl_StainScan.T3.2 impl_StainScan.B3 = true := by kernel_rfl
set_option maxHeartbeats 8000000 in
set_option maxRecDepth 100000 in
theorem impl_StainScan.calls (k : Nat) (A0 : Option Addr) (c0 : Nat) (l0 : List ByteArray) (a1 : Int) (a2 : Int) (a3 : Int) (r1 : List ByteArray) (r2 : Bool) (w : World) (hr0 : Kd.C Kd.string w A0 l0.length l0) (hc0 : l0.length ≤ c0) (h : impl_StainScan.f k l0 a1 a2 a3 = some (r1, r2)) :
  Calls Try.prog 7 #[.slice A0 l0.length c0, .int .i64 a1, .int .i64 a2, .int .i64 a3] w fun e w' => ∃ v0_ : Value, e = .returned (.tuple #[v0_, .bool r2]) ∧ Kd.R Kd.string 9 w' w.heap.size (fun _ => True) v0_ r1 ∧ Below w.heap.size w w' := by
 have hu24 := Try.underlying24
 have hu3 := Try.underlying3
 have HR0 := Aside0.mk hr0
 have HC0 := Aside0.mk hc0
 clear hr0 hc0
 have HB := Aside0.mk (Below.refl w.heap.size w)
 have H : ((impl_IsScan.f k l0).bind fun t430 => (if t430 = true then (if a1 < 0 then (some (([] : List ByteArray), false)) else (if a1 ≥ (l0.length : Int) then (some (([] : List ByteArray), false)) else (if a2 < 0 then (some (([] : List ByteArray), false)) else (if 0 < (l0.length : Int) then (if a2 ≥ ((rdOf ByteArray.empty l0 0).size : Int) then (some (([] : List ByteArray), false)) else (if a3 < 1 then (some (([] : List ByteArray), false)) else (if a3 > 10 then (some (([] : List ByteArray), false)) else ((impl_drawnW.f k (l0.length : Int) ((rdOf ByteArray.empty l0 0).size : Int) (fun a0_ a1_ => impl_StainScan_1.f a0_ a1_ a1 a3 a2 l0)).bind fun t433 => (some (t433, true)))))) else (none))))) else (some (([] : List ByteArray), false)))) = some (r1, r2) := h
 clear h
 replace H := Option.bind_eq_some_iff.mp H
 obtain ⟨t430, A50, H⟩ := H
 (try dsimp only at H)
 have A5 := Aside0.mk A50
 clear A50
 by_cases c6 : t430 = true
 ·subst c6
  rw [if_pos rfl] at H
  by_cases c7 : a1 < 0
  ·rw [if_pos c7] at H
   have c7b0 : decide (a1 < 0) = true := decide_eq_true c7
   clear c7
   simp only [Option.some.injEq, Prod.mk.injEq] at H
   obtain ⟨rfl, rfl⟩ := H
   go_enter Try.func7, Try.ntmps7
   try go_wp2_with (first | ((with_reducible refine gate_dst (N := 4) rfl ?_); (try (refine gate_guard (by rfl) ?_; dsimp only)); refine bv_ 4 24 #[.slice A0 l0.length c0] ?_; intro gb426 hg w8 hbox hb; refine k4_ (below_step (Z2) hb) (hbox) ((Z34 : w.heap.size ≤ gb426)) ((Z34 : w.heap.size ≤ gb426)) ?_; clear HB; intro HB BK426 GW426 GE426; clear hb hbox hg) | ((with_reducible refine gate_dst (N := 5) rfl ?_); (try (refine gate_guard (by rfl) ?_; dsimp only)); refine bv_ 5 3 #[.int .i64 a1] ?_; intro gb427 hg w9 hbox hb; refine k7_ (blk_below (g := gb426) (o := .cells #[.slice A0 l0.length c0] 24 (0, 0)) (Z4 BK426.out) hb) (below_step (Z20) hb) (hbox) ((Z66 : w.heap.size ≤ gb427)) ((Z66 : w.heap.size ≤ gb427)) ((Z25 : gb426 ≠ gb427)) ((Z26 : gb427 ≠ gb426)) ?_; clear BK426 HB; intro BK426 HB BK427 GW427 GE427 NB426_427 NB427_426; clear hb hbox hg) | ((with_reducible refine gate_dst (N := 6) rfl ?_); (try (refine gate_guard (by rfl) ?_; dsimp only)); refine bv_ 6 3 #[.int .i64 a2] ?_; intro gb428 hg w10 hbox hb; refine k10_ (blk_below (g := gb426) (o := .cells #[.slice A0 l0.length c0] 24 (0, 0)) (Z4 BK426.out) hb) (blk_below (g := gb427) (o := .cells #[.int .i64 a1] 3 (0, 0)) (Z4 BK427.out) hb) (below_step (Z16) hb) (hbox) ((Z67 : w.heap.size ≤ gb428)) ((Z67 : w.heap.size ≤ gb428)) ((Z25 : gb426 ≠ gb428)) ((Z26 : gb428 ≠ gb426)) ((Z35 : gb427 ≠ gb428)) ((Z36 : gb428 ≠ gb427)) ?_; clear BK426 BK427 HB; intro BK426 BK427 HB BK428 GW428 GE428 NB426_428 NB428_426 NB427_428 NB428_427; clear hb hbox hg) | ((with_reducible refine gate_dst (N := 7) rfl ?_); (try (refine gate_guard (by rfl) ?_; dsimp only)); refine bv_ 7 3 #[.int .i64 a3] ?_; intro gb429 hg w11 hbox hb; refine k13_ (blk_below (g := gb426) (o := .cells #[.slice A0 l0.length c0] 24 (0, 0)) (Z4 BK426.out) hb) (blk_below (g := gb427) (o := .cells #[.int .i64 a1] 3 (0, 0)) (Z4 BK427.out) hb) (blk_below (g := gb428) (o := .cells #[.int .i64 a2] 3 (0, 0)) (Z4 BK428.out) hb) (below_step (Z15) hb) (hbox) ((Z68 : w.heap.size ≤ gb429)) ((Z68 : w.heap.size ≤ gb429)) ((Z25 : gb426 ≠ gb429)) ((Z26 : gb429 ≠ gb426)) ((Z35 : gb427 ≠ gb429)) ((Z36 : gb429 ≠ gb427)) ((Z55 : gb428 ≠ gb429)) ((Z56 : gb429 ≠ gb428)) ?_; clear BK426 BK427 BK428 HB; intro BK426 BK427 BK428 HB BK429 GW429 GE429 NB426_429 NB429_426 NB427_429 NB429_427 NB428_429 NB429_428; clear hb hbox hg))
   refine k5_ (blk_drew BK426.out) (blk_drew BK427.out) (blk_drew BK428.out) (blk_drew BK429.out) (below_drew1 HB.out) ?_
   clear BK426 BK427 BK428 BK429 HB
   intro BK426 BK427 BK428 BK429 HB
   refine start_ (n := 33) (S := fun w' => w'.cell? ⟨gb426, 0, none⟩ = some (.slice A0 l0.length c0) ∧ w'.cell? ⟨gb427, 0, none⟩ = some (.int .i64 a1)) (ds := []) (M_ 0 33) (by kernel_rfl) rfl rfl ⟨(blk_cell BK426.out 0).trans rfl, (blk_cell BK427.out 0).trans rfl⟩ (fun hHeld => ?_); refine with_tabW impl_StainScan.tab1 impl_StainScan.bits1 (fun HT_ HW_ => ?_)
   generalize w11.drew = w12 at BK426 BK427 BK428 BK429 HB hHeld ⊢
   refine tk2_ 0 10 (M_ 1 32) hHeld ?_
   refine one_ (i := 1) (N := some 11) (M_ 2 31) rfl rfl (one_of HT_.out (by kernel_rfl)) (by decide) (fun K hK => ?_)
   refine goes_ Try.func47 (by kernel_rfl) rfl #[.slice A0 l0.length c0] (by rfl) rfl rfl (Z18) ?_
   with_reducible refine (impl_IsScan.calls k _ _ l0 true _ ?side1 ?side2 A5.out).mono ?_
   (case side1 => exact Z13 HR0.out)
   (case side2 => exact HC0.out)
   rintro e w' ⟨rfl, ⟨nd, rfl⟩⟩
   refine ⟨_, rfl, ?_⟩
   refine hK.out _ _ ⟨(blk_cell BK426.out 0).trans rfl, (blk_cell BK427.out 0).trans rfl⟩ (fun hHeld => ?_)
   clear hK K
   refine norm_ (a' := ?_) ?_ ?_
   rotate_left
   ·show Act.put _ (some 11) _ = _
    simp only [Act.put, List.setIfInBounds_toArray, List.set_cons_zero, List.set_cons_succ, i64_w, i32_w]
    rfl
   refine pu_ 2 12 (M_ 3 30) ?_
   refine pu_ 3 13 (M_ 4 29) ?_
   refine tk2_ 4 14 (M_ 5 28) hHeld ?_
   refine pu_ 5 15 (M_ 6 27) ?_
   refine pu_ 6 16 (M_ 7 26) ?_
   refine pu_ 7 17 (M_ 8 25) ?_
   refine pn_ 8 18 (M_ 9 24) ?_
   refine pn_ 9 19 (M_ 10 23) ?_
   refine pn_ 10 20 (M_ 11 22) ?_
   refine pn_ 11 21 (M_ 12 21) ?_
   refine pu_ 12 22 (M_ 13 20) ?_
   refine pu_ 13 23 (M_ 14 19) ?_
   refine pn_ 14 24 (M_ 15 18) ?_
   refine pn_ 15 25 (M_ 16 17) ?_
   refine pu_ 16 26 (M_ 17 16) ?_
   refine pu_ 17 27 (M_ 18 15) ?_
   refine pn_ 18 28 (M_ 19 14) ?_
   refine pn_ 19 29 (M_ 20 13) ?_
   refine pn_ 20 30 (M_ 21 12) ?_
   refine pn_ 21 31 (M_ 22 11) ?_
   refine pn_ 22 32 (M_ 23 10) ?_
   refine pn_ 23 33 (M_ 24 9) ?_
   refine pu_ 24 34 (M_ 25 8) ?_
   refine pu_ 25 35 (M_ 26 7) ?_
   refine pn_ 26 36 (M_ 27 6) ?_
   refine pn_ 27 37 (M_ 28 5) ?_
   refine pu_ 28 38 (M_ 29 4) ?_
   refine pu_ 29 39 (M_ 30 3) ?_
   refine pn_ 30 40 (M_ 31 2) ?_
   refine pn_ 31 41 (M_ 32 1) ?_
   refine pu_ 32 42 (M_ 33 0) ?_
   refine done_ (done_of HT_.out (by kernel_rfl)) ?_
   try go_wp2
   go_ret2
   exact ⟨_, Z11, Z21, Z24⟩
  rw [if_neg c7] at H
  have c7b0 : decide (a1 < 0) = false := decide_eq_false c7
  clear c7
  by_cases c13 : a1 ≥ (l0.length : Int)
  ·rw [if_pos c13] at H
   have c13b0 : decide ((l0.length : Int) ≤ a1) = true := decide_eq_true c13
   clear c13
   simp only [Option.some.injEq, Prod.mk.injEq] at H
   obtain ⟨rfl, rfl⟩ := H
   go_enter Try.func7, Try.ntmps7
   try go_wp2_with (first | ((with_reducible refine gate_dst (N := 4) rfl ?_); (try (refine gate_guard (by rfl) ?_; dsimp only)); refine bv_ 4 24 #[.slice A0 l0.length c0] ?_; intro gb426 hg w14 hbox hb; refine k4_ (below_step (Z2) hb) (hbox) ((Z34 : w.heap.size ≤ gb426)) ((Z34 : w.heap.size ≤ gb426)) ?_; clear HB; intro HB BK426 GW426 GE426; clear hb hbox hg) | ((with_reducible refine gate_dst (N := 5) rfl ?_); (try (refine gate_guard (by rfl) ?_; dsimp only)); refine bv_ 5 3 #[.int .i64 a1] ?_; intro gb427 hg w15 hbox hb; refine k7_ (blk_below (g := gb426) (o := .cells #[.slice A0 l0.length c0] 24 (0, 0)) (Z4 BK426.out) hb) (below_step (Z20) hb) (hbox) ((Z66 : w.heap.size ≤ gb427)) ((Z66 : w.heap.size ≤ gb427)) ((Z25 : gb426 ≠ gb427)) ((Z26 : gb427 ≠ gb426)) ?_; clear BK426 HB; intro BK426 HB BK427 GW427 GE427 NB426_427 NB427_426; clear hb hbox hg) | ((with_reducible refine gate_dst (N := 6) rfl ?_); (try (refine gate_guard (by rfl) ?_; dsimp only)); refine bv_ 6 3 #[.int .i64 a2] ?_; intro gb428 hg w16 hbox hb; refine k10_ (blk_below (g := gb426) (o := .cells #[.slice A0 l0.length c0] 24 (0, 0)) (Z4 BK426.out) hb) (blk_below (g := gb427) (o := .cells #[.int .i64 a1] 3 (0, 0)) (Z4 BK427.out) hb) (below_step (Z16) hb) (hbox) ((Z67 : w.heap.size ≤ gb428)) ((Z67 : w.heap.size ≤ gb428)) ((Z25 : gb426 ≠ gb428)) ((Z26 : gb428 ≠ gb426)) ((Z35 : gb427 ≠ gb428)) ((Z36 : gb428 ≠ gb427)) ?_; clear BK426 BK427 HB; intro BK426 BK427 HB BK428 GW428 GE428 NB426_428 NB428_426 NB427_428 NB428_427; clear hb hbox hg) | ((with_reducible refine gate_dst (N := 7) rfl ?_); (try (refine gate_guard (by rfl) ?_; dsimp only)); refine bv_ 7 3 #[.int .i64 a3] ?_; intro gb429 hg w17 hbox hb; refine k13_ (blk_below (g := gb426) (o := .cells #[.slice A0 l0.length c0] 24 (0, 0)) (Z4 BK426.out) hb) (blk_below (g := gb427) (o := .cells #[.int .i64 a1] 3 (0, 0)) (Z4 BK427.out) hb) (blk_below (g := gb428) (o := .cells #[.int .i64 a2] 3 (0, 0)) (Z4 BK428.out) hb) (below_step (Z15) hb) (hbox) ((Z68 : w.heap.size ≤ gb429)) ((Z68 : w.heap.size ≤ gb429)) ((Z25 : gb426 ≠ gb429)) ((Z26 : gb429 ≠ gb426)) ((Z35 : gb427 ≠ gb429)) ((Z36 : gb429 ≠ gb427)) ((Z55 : gb428 ≠ gb429)) ((Z56 : gb429 ≠ gb428)) ?_; clear BK426 BK427 BK428 HB; intro BK426 BK427 BK428 HB BK429 GW429 GE429 NB426_429 NB429_426 NB427_429 NB429_427 NB428_429 NB429_428; clear hb hbox hg))
   refine k5_ (blk_drew BK426.out) (blk_drew BK427.out) (blk_drew BK428.out) (blk_drew BK429.out) (below_drew1 HB.out) ?_
   clear BK426 BK427 BK428 BK429 HB
   intro BK426 BK427 BK428 BK429 HB
   refine start_ (n := 33) (S := fun w' => w'.cell? ⟨gb426, 0, none⟩ = some (.slice A0 l0.length c0) ∧ w'.cell? ⟨gb427, 0, none⟩ = some (.int .i64 a1)) (ds := []) (M_ 0 33) (by kernel_rfl) rfl rfl ⟨(blk_cell BK426.out 0).trans rfl, (blk_cell BK427.out 0).trans rfl⟩ (fun hHeld => ?_); refine with_tabW impl_StainScan.tab1 impl_StainScan.bits1 (fun HT_ HW_ => ?_)
   generalize w17.drew = w18 at BK426 BK427 BK428 BK429 HB hHeld ⊢
   refine tk2_ 0 10 (M_ 1 32) hHeld ?_
   refine one_ (i := 1) (N := some 11) (M_ 2 31) rfl rfl (one_of HT_.out (by kernel_rfl)) (by decide) (fun K hK => ?_)
   refine goes_ Try.func47 (by kernel_rfl) rfl #[.slice A0 l0.length c0] (by rfl) rfl rfl (Z18) ?_
   with_reducible refine (impl_IsScan.calls k _ _ l0 true _ ?side1 ?side2 A5.out).mono ?_
   (case side1 => exact Z13 HR0.out)
   (case side2 => exact HC0.out)
   rintro e w' ⟨rfl, ⟨nd, rfl⟩⟩
   refine ⟨_, rfl, ?_⟩
   refine hK.out _ _ ⟨(blk_cell BK426.out 0).trans rfl, (blk_cell BK427.out 0).trans rfl⟩ (fun hHeld => ?_)
   clear hK K
   refine norm_ (a' := ?_) ?_ ?_
   rotate_left
   ·show Act.put _ (some 11) _ = _
    simp only [Act.put, List.setIfInBounds_toArray, List.set_cons_zero, List.set_cons_succ, i64_w, i32_w]
    rfl
   refine pu_ 2 12 (M_ 3 30) ?_
   refine pu_ 3 13 (M_ 4 29) ?_
   refine tk2_ 4 14 (M_ 5 28) hHeld ?_
   refine pu_ 5 15 (M_ 6 27) ?_
   refine pu_ 6 16 (M_ 7 26) ?_
   refine pu_ 7 17 (M_ 8 25) ?_
   refine tk2_ 8 18 (M_ 9 24) hHeld ?_
   refine tk2_ 9 19 (M_ 10 23) hHeld ?_
   refine pu_ 10 20 (M_ 11 22) ?_
   refine pu_ 11 21 (M_ 12 21) ?_
   refine pu_ 12 22 (M_ 13 20) ?_
   refine pu_ 13 23 (M_ 14 19) ?_
   refine pn_ 14 24 (M_ 15 18) ?_
   refine pn_ 15 25 (M_ 16 17) ?_
   refine pu_ 16 26 (M_ 17 16) ?_
   refine pu_ 17 27 (M_ 18 15) ?_
   refine pn_ 18 28 (M_ 19 14) ?_
   refine pn_ 19 29 (M_ 20 13) ?_
   refine pn_ 20 30 (M_ 21 12) ?_
   refine pn_ 21 31 (M_ 22 11) ?_
   refine pn_ 22 32 (M_ 23 10) ?_
   refine pn_ 23 33 (M_ 24 9) ?_
   refine pu_ 24 34 (M_ 25 8) ?_
   refine pu_ 25 35 (M_ 26 7) ?_
   refine pn_ 26 36 (M_ 27 6) ?_
   refine pn_ 27 37 (M_ 28 5) ?_
   refine pu_ 28 38 (M_ 29 4) ?_
   refine pu_ 29 39 (M_ 30 3) ?_
   refine pn_ 30 40 (M_ 31 2) ?_
   refine pn_ 31 41 (M_ 32 1) ?_
   refine pu_ 32 42 (M_ 33 0) ?_
   refine done_ (done_of HT_.out (by kernel_rfl)) ?_
   try go_wp2
   go_ret2
   exact ⟨_, Z11, Z21, Z24⟩
  rw [if_neg c13] at H
  have c13b0 : decide ((l0.length : Int) ≤ a1) = false := decide_eq_false c13
  clear c13
  by_cases c19 : a2 < 0
  ·rw [if_pos c19] at H
   have c19b0 : decide (a2 < 0) = true := decide_eq_true c19
   clear c19
   simp only [Option.some.injEq, Prod.mk.injEq] at H
   obtain ⟨rfl, rfl⟩ := H
   go_enter Try.func7, Try.ntmps7
   try go_wp2_with (first | ((with_reducible refine gate_dst (N := 4) rfl ?_); (try (refine gate_guard (by rfl) ?_; dsimp only)); refine bv_ 4 24 #[.slice A0 l0.length c0] ?_; intro gb426 hg w20 hbox hb; refine k4_ (below_step (Z2) hb) (hbox) ((Z34 : w.heap.size ≤ gb426)) ((Z34 : w.heap.size ≤ gb426)) ?_; clear HB; intro HB BK426 GW426 GE426; clear hb hbox hg) | ((with_reducible refine gate_dst (N := 5) rfl ?_); (try (refine gate_guard (by rfl) ?_; dsimp only)); refine bv_ 5 3 #[.int .i64 a1] ?_; intro gb427 hg w21 hbox hb; refine k7_ (blk_below (g := gb426) (o := .cells #[.slice A0 l0.length c0] 24 (0, 0)) (Z4 BK426.out) hb) (below_step (Z20) hb) (hbox) ((Z66 : w.heap.size ≤ gb427)) ((Z66 : w.heap.size ≤ gb427)) ((Z25 : gb426 ≠ gb427)) ((Z26 : gb427 ≠ gb426)) ?_; clear BK426 HB; intro BK426 HB BK427 GW427 GE427 NB426_427 NB427_426; clear hb hbox hg) | ((with_reducible refine gate_dst (N := 6) rfl ?_); (try (refine gate_guard (by rfl) ?_; dsimp only)); refine bv_ 6 3 #[.int .i64 a2] ?_; intro gb428 hg w22 hbox hb; refine k10_ (blk_below (g := gb426) (o := .cells #[.slice A0 l0.length c0] 24 (0, 0)) (Z4 BK426.out) hb) (blk_below (g := gb427) (o := .cells #[.int .i64 a1] 3 (0, 0)) (Z4 BK427.out) hb) (below_step (Z16) hb) (hbox) ((Z67 : w.heap.size ≤ gb428)) ((Z67 : w.heap.size ≤ gb428)) ((Z25 : gb426 ≠ gb428)) ((Z26 : gb428 ≠ gb426)) ((Z35 : gb427 ≠ gb428)) ((Z36 : gb428 ≠ gb427)) ?_; clear BK426 BK427 HB; intro BK426 BK427 HB BK428 GW428 GE428 NB426_428 NB428_426 NB427_428 NB428_427; clear hb hbox hg) | ((with_reducible refine gate_dst (N := 7) rfl ?_); (try (refine gate_guard (by rfl) ?_; dsimp only)); refine bv_ 7 3 #[.int .i64 a3] ?_; intro gb429 hg w23 hbox hb; refine k13_ (blk_below (g := gb426) (o := .cells #[.slice A0 l0.length c0] 24 (0, 0)) (Z4 BK426.out) hb) (blk_below (g := gb427) (o := .cells #[.int .i64 a1] 3 (0, 0)) (Z4 BK427.out) hb) (blk_below (g := gb428) (o := .cells #[.int .i64 a2] 3 (0, 0)) (Z4 BK428.out) hb) (below_step (Z15) hb) (hbox) ((Z68 : w.heap.size ≤ gb429)) ((Z68 : w.heap.size ≤ gb429)) ((Z25 : gb426 ≠ gb429)) ((Z26 : gb429 ≠ gb426)) ((Z35 : gb427 ≠ gb429)) ((Z36 : gb429 ≠ gb427)) ((Z55 : gb428 ≠ gb429)) ((Z56 : gb429 ≠ gb428)) ?_; clear BK426 BK427 BK428 HB; intro BK426 BK427 BK428 HB BK429 GW429 GE429 NB426_429 NB429_426 NB427_429 NB429_427 NB428_429 NB429_428; clear hb hbox hg))
   refine k5_ (blk_drew BK426.out) (blk_drew BK427.out) (blk_drew BK428.out) (blk_drew BK429.out) (below_drew1 HB.out) ?_
   clear BK426 BK427 BK428 BK429 HB
   intro BK426 BK427 BK428 BK429 HB
   refine start_ (n := 33) (S := fun w' => w'.cell? ⟨gb426, 0, none⟩ = some (.slice A0 l0.length c0) ∧ w'.cell? ⟨gb427, 0, none⟩ = some (.int .i64 a1) ∧ w'.cell? ⟨gb428, 0, none⟩ = some (.int .i64 a2)) (ds := []) (M_ 0 33) (by kernel_rfl) rfl rfl ⟨(blk_cell BK426.out 0).trans rfl, (blk_cell BK427.out 0).trans rfl, (blk_cell BK428.out 0).trans rfl⟩ (fun hHeld => ?_); refine with_tabW impl_StainScan.tab1 impl_StainScan.bits1 (fun HT_ HW_ => ?_)
   generalize w23.drew = w24 at BK426 BK427 BK428 BK429 HB hHeld ⊢
   refine tk3_ 0 10 (M_ 1 32) hHeld ?_
   refine one_ (i := 1) (N := some 11) (M_ 2 31) rfl rfl (one_of HT_.out (by kernel_rfl)) (by decide) (fun K hK => ?_)
   refine goes_ Try.func47 (by kernel_rfl) rfl #[.slice A0 l0.length c0] (by rfl) rfl rfl (Z18) ?_
   with_reducible refine (impl_IsScan.calls k _ _ l0 true _ ?side1 ?side2 A5.out).mono ?_
   (case side1 => exact Z13 HR0.out)
   (case side2 => exact HC0.out)
   rintro e w' ⟨rfl, ⟨nd, rfl⟩⟩
   refine ⟨_, rfl, ?_⟩
   refine hK.out _ _ ⟨(blk_cell BK426.out 0).trans rfl, (blk_cell BK427.out 0).trans rfl, (blk_cell BK428.out 0).trans rfl⟩ (fun hHeld => ?_)
   clear hK K
   refine norm_ (a' := ?_) ?_ ?_
   rotate_left
   ·show Act.put _ (some 11) _ = _
    simp only [Act.put, List.setIfInBounds_toArray, List.set_cons_zero, List.set_cons_succ, i64_w, i32_w]
    rfl
   refine pu_ 2 12 (M_ 3 30) ?_
   refine pu_ 3 13 (M_ 4 29) ?_
   refine tk3_ 4 14 (M_ 5 28) hHeld ?_
   refine pu_ 5 15 (M_ 6 27) ?_
   refine pu_ 6 16 (M_ 7 26) ?_
   refine pu_ 7 17 (M_ 8 25) ?_
   refine tk3_ 8 18 (M_ 9 24) hHeld ?_
   refine tk3_ 9 19 (M_ 10 23) hHeld ?_
   refine pu_ 10 20 (M_ 11 22) ?_
   refine pu_ 11 21 (M_ 12 21) ?_
   refine pu_ 12 22 (M_ 13 20) ?_
   refine pu_ 13 23 (M_ 14 19) ?_
   refine tk3_ 14 24 (M_ 15 18) hHeld ?_
   refine pu_ 15 25 (M_ 16 17) ?_
   refine pu_ 16 26 (M_ 17 16) ?_
   refine pu_ 17 27 (M_ 18 15) ?_
   refine pn_ 18 28 (M_ 19 14) ?_
   refine pn_ 19 29 (M_ 20 13) ?_
   refine pn_ 20 30 (M_ 21 12) ?_
   refine pn_ 21 31 (M_ 22 11) ?_
   refine pn_ 22 32 (M_ 23 10) ?_
   refine pn_ 23 33 (M_ 24 9) ?_
   refine pu_ 24 34 (M_ 25 8) ?_
   refine pu_ 25 35 (M_ 26 7) ?_
   refine pn_ 26 36 (M_ 27 6) ?_
   refine pn_ 27 37 (M_ 28 5) ?_
   refine pu_ 28 38 (M_ 29 4) ?_
   refine pu_ 29 39 (M_ 30 3) ?_
   refine pn_ 30 40 (M_ 31 2) ?_
   refine pn_ 31 41 (M_ 32 1) ?_
   refine pu_ 32 42 (M_ 33 0) ?_
   refine done_ (done_of HT_.out (by kernel_rfl)) ?_
   try go_wp2
   go_ret2
   exact ⟨_, Z11, Z21, Z24⟩
  rw [if_neg c19] at H
  have c19b0 : decide (a2 < 0) = false := decide_eq_false c19
  clear c19
  by_cases c25 : 0 < (l0.length : Int)
  ·rw [if_pos c25] at H
   have c25b0 : decide (0 < (l0.length : Int)) = true := decide_eq_true c25
   have c25b1 : decide (0 < l0.length) = true := decide_eq_true (by omega)
   clear c25
   by_cases c26 : a2 ≥ ((rdOf ByteArray.empty l0 0).size : Int)
   ·rw [if_pos c26] at H
    have c26b0 : decide (((rdOf ByteArray.empty l0 0).size : Int) ≤ a2) = true := decide_eq_true c26
    clear c26
    simp only [Option.some.injEq, Prod.mk.injEq] at H
    obtain ⟨rfl, rfl⟩ := H
    go_enter Try.func7, Try.ntmps7
    try go_wp2_with (first | ((with_reducible refine gate_dst (N := 4) rfl ?_); (try (refine gate_guard (by rfl) ?_; dsimp only)); refine bv_ 4 24 #[.slice A0 l0.length c0] ?_; intro gb426 hg w27 hbox hb; refine k4_ (below_step (Z2) hb) (hbox) ((Z34 : w.heap.size ≤ gb426)) ((Z34 : w.heap.size ≤ gb426)) ?_; clear HB; intro HB BK426 GW426 GE426; clear hb hbox hg) | ((with_reducible refine gate_dst (N := 5) rfl ?_); (try (refine gate_guard (by rfl) ?_; dsimp only)); refine bv_ 5 3 #[.int .i64 a1] ?_; intro gb427 hg w28 hbox hb; refine k7_ (blk_below (g := gb426) (o := .cells #[.slice A0 l0.length c0] 24 (0, 0)) (Z4 BK426.out) hb) (below_step (Z20) hb) (hbox) ((Z66 : w.heap.size ≤ gb427)) ((Z66 : w.heap.size ≤ gb427)) ((Z25 : gb426 ≠ gb427)) ((Z26 : gb427 ≠ gb426)) ?_; clear BK426 HB; intro BK426 HB BK427 GW427 GE427 NB426_427 NB427_426; clear hb hbox hg) | ((with_reducible refine gate_dst (N := 6) rfl ?_); (try (refine gate_guard (by rfl) ?_; dsimp only)); refine bv_ 6 3 #[.int .i64 a2] ?_; intro gb428 hg w29 hbox hb; refine k10_ (blk_below (g := gb426) (o := .cells #[.slice A0 l0.length c0] 24 (0, 0)) (Z4 BK426.out) hb) (blk_below (g := gb427) (o := .cells #[.int .i64 a1] 3 (0, 0)) (Z4 BK427.out) hb) (below_step (Z16) hb) (hbox) ((Z67 : w.heap.size ≤ gb428)) ((Z67 : w.heap.size ≤ gb428)) ((Z25 : gb426 ≠ gb428)) ((Z26 : gb428 ≠ gb426)) ((Z35 : gb427 ≠ gb428)) ((Z36 : gb428 ≠ gb427)) ?_; clear BK426 BK427 HB; intro BK426 BK427 HB BK428 GW428 GE428 NB426_428 NB428_426 NB427_428 NB428_427; clear hb hbox hg) | ((with_reducible refine gate_dst (N := 7) rfl ?_); (try (refine gate_guard (by rfl) ?_; dsimp only)); refine bv_ 7 3 #[.int .i64 a3] ?_; intro gb429 hg w30 hbox hb; refine k13_ (blk_below (g := gb426) (o := .cells #[.slice A0 l0.length c0] 24 (0, 0)) (Z4 BK426.out) hb) (blk_below (g := gb427) (o := .cells #[.int .i64 a1] 3 (0, 0)) (Z4 BK427.out) hb) (blk_below (g := gb428) (o := .cells #[.int .i64 a2] 3 (0, 0)) (Z4 BK428.out) hb) (below_step (Z15) hb) (hbox) ((Z68 : w.heap.size ≤ gb429)) ((Z68 : w.heap.size ≤ gb429)) ((Z25 : gb426 ≠ gb429)) ((Z26 : gb429 ≠ gb426)) ((Z35 : gb427 ≠ gb429)) ((Z36 : gb429 ≠ gb427)) ((Z55 : gb428 ≠ gb429)) ((Z56 : gb429 ≠ gb428)) ?_; clear BK426 BK427 BK428 HB; intro BK426 BK427 BK428 HB BK429 GW429 GE429 NB426_429 NB429_426 NB427_429 NB429_427 NB428_429 NB429_428; clear hb hbox hg))
    refine k5_ (blk_drew BK426.out) (blk_drew BK427.out) (blk_drew BK428.out) (blk_drew BK429.out) (below_drew1 HB.out) ?_
    clear BK426 BK427 BK428 BK429 HB
    intro BK426 BK427 BK428 BK429 HB
    have p431 : 0 ≤ (0 : Int) := (by omega)
    have q431 : 0 < (l0.length : Int) := of_decide_eq_true (Z8)
    obtain ⟨ad431, e431, hx431_0⟩ := Kd.at_string HR0.out 0 p431 q431
    have hw431_0 := hx431_0
    (try rw [show ((0 : Int)).toNat = 0 from rfl] at hw431_0)
    (try rw [show 0 * 1 = 0 from rfl] at hw431_0)
    (try rw [Addr.add_zero'] at hw431_0)
    cases e431
    have qi431 : (0 < l0.length) = True := eq_true (by omega)
    (try rw [show ((0 : Int)).toNat = 0 from rfl] at hx431_0)
    (try rw [Addr.add_zero'] at hx431_0)
    replace hx431_0 := (HB.out.cell (World.block_lt_of_cell? w _ hx431_0)).trans hx431_0
    replace p431 := eq_true p431
    replace q431 := eq_true q431
    refine start_ (n := 33) (S := fun w' => w'.cell? ⟨gb426, 0, none⟩ = some (.slice (some ad431) l0.length c0) ∧ w'.cell? ⟨gb427, 0, none⟩ = some (.int .i64 a1) ∧ w'.cell? ⟨gb428, 0, none⟩ = some (.int .i64 a2) ∧ w'.cell? ad431 = some (.string (rdOf ByteArray.empty l0 0))) (ds := []) (M_ 0 33) (by kernel_rfl) rfl rfl ⟨(blk_cell BK426.out 0).trans rfl, (blk_cell BK427.out 0).trans rfl, (blk_cell BK428.out 0).trans rfl, ((HB.out.cell (World.block_lt_of_cell? w _ hw431_0)).trans hw431_0)⟩ (fun hHeld => ?_); refine with_tabW impl_StainScan.tab1 impl_StainScan.bits1 (fun HT_ HW_ => ?_)
    generalize w30.drew = w31 at BK426 BK427 BK428 BK429 HB hx431_0 hHeld ⊢
    refine tk4_ 0 10 (M_ 1 32) hHeld ?_
    refine one_ (i := 1) (N := some 11) (M_ 2 31) rfl rfl (one_of HT_.out (by kernel_rfl)) (by decide) (fun K hK => ?_)
    refine goes_ Try.func47 (by kernel_rfl) rfl #[.slice (some ad431) l0.length c0] (by rfl) rfl rfl (Z18) ?_
    with_reducible refine (impl_IsScan.calls k _ _ l0 true _ ?side1 ?side2 A5.out).mono ?_
    (case side1 => exact Z13 HR0.out)
    (case side2 => exact HC0.out)
    rintro e w' ⟨rfl, ⟨nd, rfl⟩⟩
    refine ⟨_, rfl, ?_⟩
    refine hK.out _ _ ⟨(blk_cell BK426.out 0).trans rfl, (blk_cell BK427.out 0).trans rfl, (blk_cell BK428.out 0).trans rfl, ((HB.out.cell (World.block_lt_of_cell? w _ hw431_0)).trans hw431_0)⟩ (fun hHeld => ?_)
    clear hK K
    refine norm_ (a' := ?_) ?_ ?_
    rotate_left
    ·show Act.put _ (some 11) _ = _
     simp only [Act.put, List.setIfInBounds_toArray, List.set_cons_zero, List.set_cons_succ, i64_w, i32_w]
     rfl
    refine pu_ 2 12 (M_ 3 30) ?_
    refine pu_ 3 13 (M_ 4 29) ?_
    refine tk4_ 4 14 (M_ 5 28) hHeld ?_
    refine pu_ 5 15 (M_ 6 27) ?_
    refine pu_ 6 16 (M_ 7 26) ?_
    refine pu_ 7 17 (M_ 8 25) ?_
    refine tk4_ 8 18 (M_ 9 24) hHeld ?_
    refine tk4_ 9 19 (M_ 10 23) hHeld ?_
    refine pu_ 10 20 (M_ 11 22) ?_
    refine pu_ 11 21 (M_ 12 21) ?_
    refine pu_ 12 22 (M_ 13 20) ?_
    refine pu_ 13 23 (M_ 14 19) ?_
    refine tk4_ 14 24 (M_ 15 18) hHeld ?_
    refine pu_ 15 25 (M_ 16 17) ?_
    refine pu_ 16 26 (M_ 17 16) ?_
    refine pu_ 17 27 (M_ 18 15) ?_
    refine tk4_ 18 28 (M_ 19 14) hHeld ?_
    refine tk4_ 19 29 (M_ 20 13) hHeld ?_
    refine pu_ 20 30 (M_ 21 12) ?_
    refine tk4_ 21 31 (M_ 22 11) hHeld ?_
    refine pu_ 22 32 (M_ 23 10) ?_
    refine pu_ 23 33 (M_ 24 9) ?_
    refine pu_ 24 34 (M_ 25 8) ?_
    refine pu_ 25 35 (M_ 26 7) ?_
    refine pn_ 26 36 (M_ 27 6) ?_
    refine pn_ 27 37 (M_ 28 5) ?_
    refine pu_ 28 38 (M_ 29 4) ?_
    refine pu_ 29 39 (M_ 30 3) ?_
    refine pn_ 30 40 (M_ 31 2) ?_
    refine pn_ 31 41 (M_ 32 1) ?_
    refine pu_ 32 42 (M_ 33 0) ?_
    refine done_ (done_of HT_.out (by kernel_rfl)) ?_
    try go_wp2
    go_ret2
    exact ⟨_, Z11, Z21, Z24⟩
   rw [if_neg c26] at H
   have c26b0 : decide (((rdOf ByteArray.empty l0 0).size : Int) ≤ a2) = false := decide_eq_false c26
   clear c26
   by_cases c32 : a3 < 1
   ·rw [if_pos c32] at H
    have c32b0 : decide (a3 < 1) = true := decide_eq_true c32
    clear c32
    simp only [Option.some.injEq, Prod.mk.injEq] at H
    obtain ⟨rfl, rfl⟩ := H
    go_enter Try.func7, Try.ntmps7
    try go_wp2_with (first | ((with_reducible refine gate_dst (N := 4) rfl ?_); (try (refine gate_guard (by rfl) ?_; dsimp only)); refine bv_ 4 24 #[.slice A0 l0.length c0] ?_; intro gb426 hg w33 hbox hb; refine k4_ (below_step (Z2) hb) (hbox) ((Z34 : w.heap.size ≤ gb426)) ((Z34 : w.heap.size ≤ gb426)) ?_; clear HB; intro HB BK426 GW426 GE426; clear hb hbox hg) | ((with_reducible refine gate_dst (N := 5) rfl ?_); (try (refine gate_guard (by rfl) ?_; dsimp only)); refine bv_ 5 3 #[.int .i64 a1] ?_; intro gb427 hg w34 hbox hb; refine k7_ (blk_below (g := gb426) (o := .cells #[.slice A0 l0.length c0] 24 (0, 0)) (Z4 BK426.out) hb) (below_step (Z20) hb) (hbox) ((Z66 : w.heap.size ≤ gb427)) ((Z66 : w.heap.size ≤ gb427)) ((Z25 : gb426 ≠ gb427)) ((Z26 : gb427 ≠ gb426)) ?_; clear BK426 HB; intro BK426 HB BK427 GW427 GE427 NB426_427 NB427_426; clear hb hbox hg) | ((with_reducible refine gate_dst (N := 6) rfl ?_); (try (refine gate_guard (by rfl) ?_; dsimp only)); refine bv_ 6 3 #[.int .i64 a2] ?_; intro gb428 hg w35 hbox hb; refine k10_ (blk_below (g := gb426) (o := .cells #[.slice A0 l0.length c0] 24 (0, 0)) (Z4 BK426.out) hb) (blk_below (g := gb427) (o := .cells #[.int .i64 a1] 3 (0, 0)) (Z4 BK427.out) hb) (below_step (Z16) hb) (hbox) ((Z67 : w.heap.size ≤ gb428)) ((Z67 : w.heap.size ≤ gb428)) ((Z25 : gb426 ≠ gb428)) ((Z26 : gb428 ≠ gb426)) ((Z35 : gb427 ≠ gb428)) ((Z36 : gb428 ≠ gb427)) ?_; clear BK426 BK427 HB; intro BK426 BK427 HB BK428 GW428 GE428 NB426_428 NB428_426 NB427_428 NB428_427; clear hb hbox hg) | ((with_reducible refine gate_dst (N := 7) rfl ?_); (try (refine gate_guard (by rfl) ?_; dsimp only)); refine bv_ 7 3 #[.int .i64 a3] ?_; intro gb429 hg w36 hbox hb; refine k13_ (blk_below (g := gb426) (o := .cells #[.slice A0 l0.length c0] 24 (0, 0)) (Z4 BK426.out) hb) (blk_below (g := gb427) (o := .cells #[.int .i64 a1] 3 (0, 0)) (Z4 BK427.out) hb) (blk_below (g := gb428) (o := .cells #[.int .i64 a2] 3 (0, 0)) (Z4 BK428.out) hb) (below_step (Z15) hb) (hbox) ((Z68 : w.heap.size ≤ gb429)) ((Z68 : w.heap.size ≤ gb429)) ((Z25 : gb426 ≠ gb429)) ((Z26 : gb429 ≠ gb426)) ((Z35 : gb427 ≠ gb429)) ((Z36 : gb429 ≠ gb427)) ((Z55 : gb428 ≠ gb429)) ((Z56 : gb429 ≠ gb428)) ?_; clear BK426 BK427 BK428 HB; intro BK426 BK427 BK428 HB BK429 GW429 GE429 NB426_429 NB429_426 NB427_429 NB429_427 NB428_429 NB429_428; clear hb hbox hg))
    refine k5_ (blk_drew BK426.out) (blk_drew BK427.out) (blk_drew BK428.out) (blk_drew BK429.out) (below_drew1 HB.out) ?_
    clear BK426 BK427 BK428 BK429 HB
    intro BK426 BK427 BK428 BK429 HB
    have p431 : 0 ≤ (0 : Int) := (by omega)
    have q431 : 0 < (l0.length : Int) := of_decide_eq_true (Z8)
    obtain ⟨ad431, e431, hx431_0⟩ := Kd.at_string HR0.out 0 p431 q431
    have hw431_0 := hx431_0
    (try rw [show ((0 : Int)).toNat = 0 from rfl] at hw431_0)
    (try rw [show 0 * 1 = 0 from rfl] at hw431_0)
    (try rw [Addr.add_zero'] at hw431_0)
    cases e431
    have qi431 : (0 < l0.length) = True := eq_true (by omega)
    (try rw [show ((0 : Int)).toNat = 0 from rfl] at hx431_0)
    (try rw [Addr.add_zero'] at hx431_0)
    replace hx431_0 := (HB.out.cell (World.block_lt_of_cell? w _ hx431_0)).trans hx431_0
    replace p431 := eq_true p431
    replace q431 := eq_true q431
    refine start_ (n := 33) (S := fun w' => w'.cell? ⟨gb426, 0, none⟩ = some (.slice (some ad431) l0.length c0) ∧ w'.cell? ⟨gb427, 0, none⟩ = some (.int .i64 a1) ∧ w'.cell? ⟨gb428, 0, none⟩ = some (.int .i64 a2) ∧ w'.cell? ⟨gb429, 0, none⟩ = some (.int .i64 a3) ∧ w'.cell? ad431 = some (.string (rdOf ByteArray.empty l0 0))) (ds := []) (M_ 0 33) (by kernel_rfl) rfl rfl ⟨(blk_cell BK426.out 0).trans rfl, (blk_cell BK427.out 0).trans rfl, (blk_cell BK428.out 0).trans rfl, (blk_cell BK429.out 0).trans rfl, ((HB.out.cell (World.block_lt_of_cell? w _ hw431_0)).trans hw431_0)⟩ (fun hHeld => ?_); refine with_tabW impl_StainScan.tab1 impl_StainScan.bits1 (fun HT_ HW_ => ?_)
    generalize w36.drew = w37 at BK426 BK427 BK428 BK429 HB hx431_0 hHeld ⊢
    refine tk5_ 0 10 (M_ 1 32) hHeld ?_
    refine one_ (i := 1) (N := some 11) (M_ 2 31) rfl rfl (one_of HT_.out (by kernel_rfl)) (by decide) (fun K hK => ?_)
    refine goes_ Try.func47 (by kernel_rfl) rfl #[.slice (some ad431) l0.length c0] (by rfl) rfl rfl (Z18) ?_
    with_reducible refine (impl_IsScan.calls k _ _ l0 true _ ?side1 ?side2 A5.out).mono ?_
    (case side1 => exact Z13 HR0.out)
    (case side2 => exact HC0.out)
    rintro e w' ⟨rfl, ⟨nd, rfl⟩⟩
    refine ⟨_, rfl, ?_⟩
    refine hK.out _ _ ⟨(blk_cell BK426.out 0).trans rfl, (blk_cell BK427.out 0).trans rfl, (blk_cell BK428.out 0).trans rfl, (blk_cell BK429.out 0).trans rfl, ((HB.out.cell (World.block_lt_of_cell? w _ hw431_0)).trans hw431_0)⟩ (fun hHeld => ?_)
    clear hK K
    refine norm_ (a' := ?_) ?_ ?_
    rotate_left
    ·show Act.put _ (some 11) _ = _
     simp only [Act.put, List.setIfInBounds_toArray, List.set_cons_zero, List.set_cons_succ, i64_w, i32_w]
     rfl
    refine pu_ 2 12 (M_ 3 30) ?_
    refine pu_ 3 13 (M_ 4 29) ?_
    refine tk5_ 4 14 (M_ 5 28) hHeld ?_
    refine pu_ 5 15 (M_ 6 27) ?_
    refine pu_ 6 16 (M_ 7 26) ?_
    refine pu_ 7 17 (M_ 8 25) ?_
    refine tk5_ 8 18 (M_ 9 24) hHeld ?_
    refine tk5_ 9 19 (M_ 10 23) hHeld ?_
    refine pu_ 10 20 (M_ 11 22) ?_
    refine pu_ 11 21 (M_ 12 21) ?_
    refine pu_ 12 22 (M_ 13 20) ?_
    refine pu_ 13 23 (M_ 14 19) ?_
    refine tk5_ 14 24 (M_ 15 18) hHeld ?_
    refine pu_ 15 25 (M_ 16 17) ?_
    refine pu_ 16 26 (M_ 17 16) ?_
    refine pu_ 17 27 (M_ 18 15) ?_
    refine tk5_ 18 28 (M_ 19 14) hHeld ?_
    refine tk5_ 19 29 (M_ 20 13) hHeld ?_
    refine pu_ 20 30 (M_ 21 12) ?_
    refine tk5_ 21 31 (M_ 22 11) hHeld ?_
    refine pu_ 22 32 (M_ 23 10) ?_
    refine pu_ 23 33 (M_ 24 9) ?_
    refine pu_ 24 34 (M_ 25 8) ?_
    refine pu_ 25 35 (M_ 26 7) ?_
    refine tk5_ 26 36 (M_ 27 6) hHeld ?_
    refine pu_ 27 37 (M_ 28 5) ?_
    refine pu_ 28 38 (M_ 29 4) ?_
    refine pu_ 29 39 (M_ 30 3) ?_
    refine pn_ 30 40 (M_ 31 2) ?_
    refine pn_ 31 41 (M_ 32 1) ?_
    refine pu_ 32 42 (M_ 33 0) ?_
    refine done_ (done_of HT_.out (by kernel_rfl)) ?_
    try go_wp2
    go_ret2
    exact ⟨_, Z11, Z21, Z24⟩
   rw [if_neg c32] at H
   have c32b0 : decide (a3 < 1) = false := decide_eq_false c32
   clear c32
   by_cases c38 : a3 > 10
   ·rw [if_pos c38] at H
    have c38b0 : decide (10 < a3) = true := decide_eq_true c38
    clear c38
    simp only [Option.some.injEq, Prod.mk.injEq] at H
    obtain ⟨rfl, rfl⟩ := H
    go_enter Try.func7, Try.ntmps7
    try go_wp2_with (first | ((with_reducible refine gate_dst (N := 4) rfl ?_); (try (refine gate_guard (by rfl) ?_; dsimp only)); refine bv_ 4 24 #[.slice A0 l0.length c0] ?_; intro gb426 hg w39 hbox hb; refine k4_ (below_step (Z2) hb) (hbox) ((Z34 : w.heap.size ≤ gb426)) ((Z34 : w.heap.size ≤ gb426)) ?_; clear HB; intro HB BK426 GW426 GE426; clear hb hbox hg) | ((with_reducible refine gate_dst (N := 5) rfl ?_); (try (refine gate_guard (by rfl) ?_; dsimp only)); refine bv_ 5 3 #[.int .i64 a1] ?_; intro gb427 hg w40 hbox hb; refine k7_ (blk_below (g := gb426) (o := .cells #[.slice A0 l0.length c0] 24 (0, 0)) (Z4 BK426.out) hb) (below_step (Z20) hb) (hbox) ((Z66 : w.heap.size ≤ gb427)) ((Z66 : w.heap.size ≤ gb427)) ((Z25 : gb426 ≠ gb427)) ((Z26 : gb427 ≠ gb426)) ?_; clear BK426 HB; intro BK426 HB BK427 GW427 GE427 NB426_427 NB427_426; clear hb hbox hg) | ((with_reducible refine gate_dst (N := 6) rfl ?_); (try (refine gate_guard (by rfl) ?_; dsimp only)); refine bv_ 6 3 #[.int .i64 a2] ?_; intro gb428 hg w41 hbox hb; refine k10_ (blk_below (g := gb426) (o := .cells #[.slice A0 l0.length c0] 24 (0, 0)) (Z4 BK426.out) hb) (blk_below (g := gb427) (o := .cells #[.int .i64 a1] 3 (0, 0)) (Z4 BK427.out) hb) (below_step (Z16) hb) (hbox) ((Z67 : w.heap.size ≤ gb428)) ((Z67 : w.heap.size ≤ gb428)) ((Z25 : gb426 ≠ gb428)) ((Z26 : gb428 ≠ gb426)) ((Z35 : gb427 ≠ gb428)) ((Z36 : gb428 ≠ gb427)) ?_; clear BK426 BK427 HB; intro BK426 BK427 HB BK428 GW428 GE428 NB426_428 NB428_426 NB427_428 NB428_427; clear hb hbox hg) | ((with_reducible refine gate_dst (N := 7) rfl ?_); (try (refine gate_guard (by rfl) ?_; dsimp only)); refine bv_ 7 3 #[.int .i64 a3] ?_; intro gb429 hg w42 hbox hb; refine k13_ (blk_below (g := gb426) (o := .cells #[.slice A0 l0.length c0] 24 (0, 0)) (Z4 BK426.out) hb) (blk_below (g := gb427) (o := .cells #[.int .i64 a1] 3 (0, 0)) (Z4 BK427.out) hb) (blk_below (g := gb428) (o := .cells #[.int .i64 a2] 3 (0, 0)) (Z4 BK428.out) hb) (below_step (Z15) hb) (hbox) ((Z68 : w.heap.size ≤ gb429)) ((Z68 : w.heap.size ≤ gb429)) ((Z25 : gb426 ≠ gb429)) ((Z26 : gb429 ≠ gb426)) ((Z35 : gb427 ≠ gb429)) ((Z36 : gb429 ≠ gb427)) ((Z55 : gb428 ≠ gb429)) ((Z56 : gb429 ≠ gb428)) ?_; clear BK426 BK427 BK428 HB; intro BK426 BK427 BK428 HB BK429 GW429 GE429 NB426_429 NB429_426 NB427_429 NB429_427 NB428_429 NB429_428; clear hb hbox hg))
    refine k5_ (blk_drew BK426.out) (blk_drew BK427.out) (blk_drew BK428.out) (blk_drew BK429.out) (below_drew1 HB.out) ?_
    clear BK426 BK427 BK428 BK429 HB
    intro BK426 BK427 BK428 BK429 HB
    have p431 : 0 ≤ (0 : Int) := (by omega)
    have q431 : 0 < (l0.length : Int) := of_decide_eq_true (Z8)
    obtain ⟨ad431, e431, hx431_0⟩ := Kd.at_string HR0.out 0 p431 q431
    have hw431_0 := hx431_0
    (try rw [show ((0 : Int)).toNat = 0 from rfl] at hw431_0)
    (try rw [show 0 * 1 = 0 from rfl] at hw431_0)
    (try rw [Addr.add_zero'] at hw431_0)
    cases e431
    have qi431 : (0 < l0.length) = True := eq_true (by omega)
    (try rw [show ((0 : Int)).toNat = 0 from rfl] at hx431_0)
    (try rw [Addr.add_zero'] at hx431_0)
    replace hx431_0 := (HB.out.cell (World.block_lt_of_cell? w _ hx431_0)).trans hx431_0
    replace p431 := eq_true p431
    replace q431 := eq_true q431
    refine start_ (n := 33) (S := fun w' => w'.cell? ⟨gb426, 0, none⟩ = some (.slice (some ad431) l0.length c0) ∧ w'.cell? ⟨gb427, 0, none⟩ = some (.int .i64 a1) ∧ w'.cell? ⟨gb428, 0, none⟩ = some (.int .i64 a2) ∧ w'.cell? ⟨gb429, 0, none⟩ = some (.int .i64 a3) ∧ w'.cell? ad431 = some (.string (rdOf ByteArray.empty l0 0))) (ds := []) (M_ 0 33) (by kernel_rfl) rfl rfl ⟨(blk_cell BK426.out 0).trans rfl, (blk_cell BK427.out 0).trans rfl, (blk_cell BK428.out 0).trans rfl, (blk_cell BK429.out 0).trans rfl, ((HB.out.cell (World.block_lt_of_cell? w _ hw431_0)).trans hw431_0)⟩ (fun hHeld => ?_); refine with_tabW impl_StainScan.tab1 impl_StainScan.bits1 (fun HT_ HW_ => ?_)
    generalize w42.drew = w43 at BK426 BK427 BK428 BK429 HB hx431_0 hHeld ⊢
    refine tk5_ 0 10 (M_ 1 32) hHeld ?_
    refine one_ (i := 1) (N := some 11) (M_ 2 31) rfl rfl (one_of HT_.out (by kernel_rfl)) (by decide) (fun K hK => ?_)
    refine goes_ Try.func47 (by kernel_rfl) rfl #[.slice (some ad431) l0.length c0] (by rfl) rfl rfl (Z18) ?_
    with_reducible refine (impl_IsScan.calls k _ _ l0 true _ ?side1 ?side2 A5.out).mono ?_
    (case side1 => exact Z13 HR0.out)
    (case side2 => exact HC0.out)
    rintro e w' ⟨rfl, ⟨nd, rfl⟩⟩
    refine ⟨_, rfl, ?_⟩
    refine hK.out _ _ ⟨(blk_cell BK426.out 0).trans rfl, (blk_cell BK427.out 0).trans rfl, (blk_cell BK428.out 0).trans rfl, (blk_cell BK429.out 0).trans rfl, ((HB.out.cell (World.block_lt_of_cell? w _ hw431_0)).trans hw431_0)⟩ (fun hHeld => ?_)
    clear hK K
    refine norm_ (a' := ?_) ?_ ?_
    rotate_left
    ·show Act.put _ (some 11) _ = _
     simp only [Act.put, List.setIfInBounds_toArray, List.set_cons_zero, List.set_cons_succ, i64_w, i32_w]
     rfl
    refine pu_ 2 12 (M_ 3 30) ?_
    refine pu_ 3 13 (M_ 4 29) ?_
    refine tk5_ 4 14 (M_ 5 28) hHeld ?_
    refine pu_ 5 15 (M_ 6 27) ?_
    refine pu_ 6 16 (M_ 7 26) ?_
    refine pu_ 7 17 (M_ 8 25) ?_
    refine tk5_ 8 18 (M_ 9 24) hHeld ?_
    refine tk5_ 9 19 (M_ 10 23) hHeld ?_
    refine pu_ 10 20 (M_ 11 22) ?_
    refine pu_ 11 21 (M_ 12 21) ?_
    refine pu_ 12 22 (M_ 13 20) ?_
    refine pu_ 13 23 (M_ 14 19) ?_
    refine tk5_ 14 24 (M_ 15 18) hHeld ?_
    refine pu_ 15 25 (M_ 16 17) ?_
    refine pu_ 16 26 (M_ 17 16) ?_
    refine pu_ 17 27 (M_ 18 15) ?_
    refine tk5_ 18 28 (M_ 19 14) hHeld ?_
    refine tk5_ 19 29 (M_ 20 13) hHeld ?_
    refine pu_ 20 30 (M_ 21 12) ?_
    refine tk5_ 21 31 (M_ 22 11) hHeld ?_
    refine pu_ 22 32 (M_ 23 10) ?_
    refine pu_ 23 33 (M_ 24 9) ?_
    refine pu_ 24 34 (M_ 25 8) ?_
    refine pu_ 25 35 (M_ 26 7) ?_
    refine tk5_ 26 36 (M_ 27 6) hHeld ?_
    refine pu_ 27 37 (M_ 28 5) ?_
    refine pu_ 28 38 (M_ 29 4) ?_
    refine pu_ 29 39 (M_ 30 3) ?_
    refine tk5_ 30 40 (M_ 31 2) hHeld ?_
    refine pu_ 31 41 (M_ 32 1) ?_
    refine pu_ 32 42 (M_ 33 0) ?_
    refine done_ (done_of HT_.out (by kernel_rfl)) ?_
    try go_wp2
    go_ret2
    exact ⟨_, Z11, Z21, Z24⟩
   rw [if_neg c38] at H
   have c38b0 : decide (10 < a3) = false := decide_eq_false c38
   clear c38
   replace H := Option.bind_eq_some_iff.mp H
   obtain ⟨t433, A440, H⟩ := H
   replace H : (some (t433, true)) = some (r1, r2) := H
   have A44 := Aside0.mk A440
   clear A440
   simp only [Option.some.injEq, Prod.mk.injEq] at H
   obtain ⟨rfl, rfl⟩ := H
   go_enter Try.func7, Try.ntmps7
   try go_wp2_with (first | ((with_reducible refine gate_dst (N := 4) rfl ?_); (try (refine gate_guard (by rfl) ?_; dsimp only)); refine bv_ 4 24 #[.slice A0 l0.length c0] ?_; intro gb426 hg w45 hbox hb; refine k4_ (below_step (Z2) hb) (hbox) ((Z34 : w.heap.size ≤ gb426)) ((Z34 : w.heap.size ≤ gb426)) ?_; clear HB; intro HB BK426 GW426 GE426; clear hb hbox hg) | ((with_reducible refine gate_dst (N := 5) rfl ?_); (try (refine gate_guard (by rfl) ?_; dsimp only)); refine bv_ 5 3 #[.int .i64 a1] ?_; intro gb427 hg w46 hbox hb; refine k7_ (blk_below (g := gb426) (o := .cells #[.slice A0 l0.length c0] 24 (0, 0)) (Z4 BK426.out) hb) (below_step (Z20) hb) (hbox) ((Z66 : w.heap.size ≤ gb427)) ((Z66 : w.heap.size ≤ gb427)) ((Z25 : gb426 ≠ gb427)) ((Z26 : gb427 ≠ gb426)) ?_; clear BK426 HB; intro BK426 HB BK427 GW427 GE427 NB426_427 NB427_426; clear hb hbox hg) | ((with_reducible refine gate_dst (N := 6) rfl ?_); (try (refine gate_guard (by rfl) ?_; dsimp only)); refine bv_ 6 3 #[.int .i64 a2] ?_; intro gb428 hg w47 hbox hb; refine k10_ (blk_below (g := gb426) (o := .cells #[.slice A0 l0.length c0] 24 (0, 0)) (Z4 BK426.out) hb) (blk_below (g := gb427) (o := .cells #[.int .i64 a1] 3 (0, 0)) (Z4 BK427.out) hb) (below_step (Z16) hb) (hbox) ((Z67 : w.heap.size ≤ gb428)) ((Z67 : w.heap.size ≤ gb428)) ((Z25 : gb426 ≠ gb428)) ((Z26 : gb428 ≠ gb426)) ((Z35 : gb427 ≠ gb428)) ((Z36 : gb428 ≠ gb427)) ?_; clear BK426 BK427 HB; intro BK426 BK427 HB BK428 GW428 GE428 NB426_428 NB428_426 NB427_428 NB428_427; clear hb hbox hg) | ((with_reducible refine gate_dst (N := 7) rfl ?_); (try (refine gate_guard (by rfl) ?_; dsimp only)); refine bv_ 7 3 #[.int .i64 a3] ?_; intro gb429 hg w48 hbox hb; refine k13_ (blk_below (g := gb426) (o := .cells #[.slice A0 l0.length c0] 24 (0, 0)) (Z4 BK426.out) hb) (blk_below (g := gb427) (o := .cells #[.int .i64 a1] 3 (0, 0)) (Z4 BK427.out) hb) (blk_below (g := gb428) (o := .cells #[.int .i64 a2] 3 (0, 0)) (Z4 BK428.out) hb) (below_step (Z15) hb) (hbox) ((Z68 : w.heap.size ≤ gb429)) ((Z68 : w.heap.size ≤ gb429)) ((Z25 : gb426 ≠ gb429)) ((Z26 : gb429 ≠ gb426)) ((Z35 : gb427 ≠ gb429)) ((Z36 : gb429 ≠ gb427)) ((Z55 : gb428 ≠ gb429)) ((Z56 : gb429 ≠ gb428)) ?_; clear BK426 BK427 BK428 HB; intro BK426 BK427 BK428 HB BK429 GW429 GE429 NB426_429 NB429_426 NB427_429 NB429_427 NB428_429 NB429_428; clear hb hbox hg))
   refine k5_ (blk_drew BK426.out) (blk_drew BK427.out) (blk_drew BK428.out) (blk_drew BK429.out) (below_drew1 HB.out) ?_
   clear BK426 BK427 BK428 BK429 HB
   intro BK426 BK427 BK428 BK429 HB
   have p431 : 0 ≤ (0 : Int) := (by omega)
   have q431 : 0 < (l0.length : Int) := of_decide_eq_true (Z8)
   obtain ⟨ad431, e431, hx431_0⟩ := Kd.at_string HR0.out 0 p431 q431
   have hw431_0 := hx431_0
   (try rw [show ((0 : Int)).toNat = 0 from rfl] at hw431_0)
   (try rw [show 0 * 1 = 0 from rfl] at hw431_0)
   (try rw [Addr.add_zero'] at hw431_0)
   cases e431
   have qi431 : (0 < l0.length) = True := eq_true (by omega)
   (try rw [show ((0 : Int)).toNat = 0 from rfl] at hx431_0)
   (try rw [Addr.add_zero'] at hx431_0)
   replace hx431_0 := (HB.out.cell (World.block_lt_of_cell? w _ hx431_0)).trans hx431_0
   replace p431 := eq_true p431
   replace q431 := eq_true q431
   refine start_ (n := 33) (S := fun w' => w'.cell? ⟨gb426, 0, none⟩ = some (.slice (some ad431) l0.length c0) ∧ w'.cell? ⟨gb427, 0, none⟩ = some (.int .i64 a1) ∧ w'.cell? ⟨gb428, 0, none⟩ = some (.int .i64 a2) ∧ w'.cell? ⟨gb429, 0, none⟩ = some (.int .i64 a3) ∧ w'.cell? ad431 = some (.string (rdOf ByteArray.empty l0 0))) (ds := []) (M_ 0 33) (by kernel_rfl) rfl rfl ⟨(blk_cell BK426.out 0).trans rfl, (blk_cell BK427.out 0).trans rfl, (blk_cell BK428.out 0).trans rfl, (blk_cell BK429.out 0).trans rfl, ((HB.out.cell (World.block_lt_of_cell? w _ hw431_0)).trans hw431_0)⟩ (fun hHeld => ?_); refine with_tabW impl_StainScan.tab1 impl_StainScan.bits1 (fun HT_ HW_ => ?_)
   generalize w48.drew = w49 at BK426 BK427 BK428 BK429 HB hx431_0 hHeld ⊢
   refine tk5_ 0 10 (M_ 1 32) hHeld ?_
   refine one_ (i := 1) (N := some 11) (M_ 2 31) rfl rfl (one_of HT_.out (by kernel_rfl)) (by decide) (fun K hK => ?_)
   refine goes_ Try.func47 (by kernel_rfl) rfl #[.slice (some ad431) l0.length c0] (by rfl) rfl rfl (Z18) ?_
   with_reducible refine (impl_IsScan.calls k _ _ l0 true _ ?side1 ?side2 A5.out).mono ?_
   (case side1 => exact Z13 HR0.out)
   (case side2 => exact HC0.out)
   rintro e w' ⟨rfl, ⟨nd, rfl⟩⟩
   refine ⟨_, rfl, ?_⟩
   refine hK.out _ _ ⟨(blk_cell BK426.out 0).trans rfl, (blk_cell BK427.out 0).trans rfl, (blk_cell BK428.out 0).trans rfl, (blk_cell BK429.out 0).trans rfl, ((HB.out.cell (World.block_lt_of_cell? w _ hw431_0)).trans hw431_0)⟩ (fun hHeld => ?_)
   clear hK K
   refine norm_ (a' := ?_) ?_ ?_
   rotate_left
   ·show Act.put _ (some 11) _ = _
    simp only [Act.put, List.setIfInBounds_toArray, List.set_cons_zero, List.set_cons_succ, i64_w, i32_w]
    rfl
   refine pu_ 2 12 (M_ 3 30) ?_
   refine pu_ 3 13 (M_ 4 29) ?_
   refine tk5_ 4 14 (M_ 5 28) hHeld ?_
   refine pu_ 5 15 (M_ 6 27) ?_
   refine pu_ 6 16 (M_ 7 26) ?_
   refine pu_ 7 17 (M_ 8 25) ?_
   refine tk5_ 8 18 (M_ 9 24) hHeld ?_
   refine tk5_ 9 19 (M_ 10 23) hHeld ?_
   refine pu_ 10 20 (M_ 11 22) ?_
   refine pu_ 11 21 (M_ 12 21) ?_
   refine pu_ 12 22 (M_ 13 20) ?_
   refine pu_ 13 23 (M_ 14 19) ?_
   refine tk5_ 14 24 (M_ 15 18) hHeld ?_
   refine pu_ 15 25 (M_ 16 17) ?_
   refine pu_ 16 26 (M_ 17 16) ?_
   refine pu_ 17 27 (M_ 18 15) ?_
   refine tk5_ 18 28 (M_ 19 14) hHeld ?_
   refine tk5_ 19 29 (M_ 20 13) hHeld ?_
   refine pu_ 20 30 (M_ 21 12) ?_
   refine tk5_ 21 31 (M_ 22 11) hHeld ?_
   refine pu_ 22 32 (M_ 23 10) ?_
   refine pu_ 23 33 (M_ 24 9) ?_
   refine pu_ 24 34 (M_ 25 8) ?_
   refine pu_ 25 35 (M_ 26 7) ?_
   refine tk5_ 26 36 (M_ 27 6) hHeld ?_
   refine pu_ 27 37 (M_ 28 5) ?_
   refine pu_ 28 38 (M_ 29 4) ?_
   refine pu_ 29 39 (M_ 30 3) ?_
   refine tk5_ 30 40 (M_ 31 2) hHeld ?_
   refine pu_ 31 41 (M_ 32 1) ?_
   refine pu_ 32 42 (M_ 33 0) ?_
   refine done_ (done_of HT_.out (by kernel_rfl)) ?_
   try go_wp2
   (try (rw [drewN_self w49]; generalize hq_ : World.drewN w49 _ = w49; have n0_ : Aside0 (w49.heap[gb426]? = some (.cells #[.slice (some ad431) l0.length c0] 24 (0, 0))) := ⟨by rw [← hq_]; exact Z4 BK426.out⟩; have n1_ : Aside0 (w49.heap[gb427]? = some (.cells #[.int .i64 a1] 3 (0, 0))) := ⟨by rw [← hq_]; exact Z4 BK427.out⟩; have n2_ : Aside0 (w49.heap[gb428]? = some (.cells #[.int .i64 a2] 3 (0, 0))) := ⟨by rw [← hq_]; exact Z4 BK428.out⟩; have n3_ : Aside0 (w49.heap[gb429]? = some (.cells #[.int .i64 a3] 3 (0, 0))) := ⟨by rw [← hq_]; exact Z4 BK429.out⟩; have n4_ : Aside0 (Below w.heap.size w w49) := ⟨by rw [← hq_]; exact Z24⟩; clear BK426 BK427 BK428 BK429 HB hq_; have BK426 := n0_; have BK427 := n1_; have BK428 := n2_; have BK429 := n3_; have HB := n4_; clear n0_ n1_ n2_ n3_ n4_))
   refine k5_ (blk_drew BK426.out) (blk_drew BK427.out) (blk_drew BK428.out) (blk_drew BK429.out) (below_drew1 HB.out) ?_
   clear BK426 BK427 BK428 BK429 HB
   intro BK426 BK427 BK428 BK429 HB
   have p432 : 0 ≤ (0 : Int) := (by omega)
   have q432 : 0 < (l0.length : Int) := of_decide_eq_true (Z8)
   obtain ⟨ad432, e432, hx432_0⟩ := Kd.at_string HR0.out 0 p432 q432
   have hw432_0 := hx432_0
   (try rw [show ((0 : Int)).toNat = 0 from rfl] at hw432_0)
   (try rw [show 0 * 1 = 0 from rfl] at hw432_0)
   (try rw [Addr.add_zero'] at hw432_0)
   obtain rfl : ad431 = ad432 := (by injection e432)
   have qi432 : (0 < l0.length) = True := eq_true (by omega)
   (try rw [show ((0 : Int)).toNat = 0 from rfl] at hx432_0)
   (try rw [Addr.add_zero'] at hx432_0)
   replace hx432_0 := (HB.out.cell (World.block_lt_of_cell? w _ hx432_0)).trans hx432_0
   replace p432 := eq_true p432
   replace q432 := eq_true q432
   refine start_ (n := 10) (S := fun w' => w'.cell? ⟨gb426, 0, none⟩ = some (.slice (some ad431) l0.length c0) ∧ w'.cell? ad431 = some (.string (rdOf ByteArray.empty l0 0))) (ds := []) (M_ 0 10) (by kernel_rfl) rfl rfl ⟨(blk_cell BK426.out 0).trans rfl, ((HB.out.cell (World.block_lt_of_cell? w _ hw432_0)).trans hw432_0)⟩ (fun hHeld => ?_); refine with_tabW impl_StainScan.tab3 impl_StainScan.bits3 (fun HT_ HW_ => ?_)
   generalize w49.drew = w50 at BK426 BK427 BK428 BK429 HB hx432_0 hHeld ⊢
   refine pu_ 6 49 (N_ 10 64) ?_
   refine tk2_ 0 43 (N_ 10 65) hHeld ?_
   refine pu_ 1 44 (N_ 10 67) ?_
   refine tk2_ 2 45 (N_ 10 71) hHeld ?_
   refine pu_ 3 46 (N_ 10 79) ?_
   refine tk2_ 4 47 (N_ 10 95) hHeld ?_
   refine pu_ 5 48 (M_ 7 3) ?_
   refine one_ (i := 7) (N := some 50) (M_ 8 2) rfl rfl (one_of HT_.out (by kernel_rfl)) (by decide) (fun K hK => ?_)
   refine goes_ Try.func48 (by kernel_rfl) rfl #[.int .i64 (l0.length : Int), .int .i64 ((rdOf ByteArray.empty l0 0).size : Int), .func (.func 49) #[] #[.pointer (some ⟨gb427, 0, none⟩), .pointer (some ⟨gb429, 0, none⟩), .pointer (some ⟨gb428, 0, none⟩), .pointer (some ⟨gb426, 0, none⟩)]] (by rfl) rfl rfl (Z18) ?_
   with_reducible refine (impl_drawnW.calls k (l0.length : Int) ((rdOf ByteArray.empty l0 0).size : Int) 49 Try.f49 #[.pointer (some ⟨gb427, 0, none⟩), .pointer (some ⟨gb429, 0, none⟩), .pointer (some ⟨gb428, 0, none⟩), .pointer (some ⟨gb426, 0, none⟩)] Try.func49 (by kernel_rfl) rfl (fun a0_ a1_ => impl_StainScan_1.f a0_ a1_ a1 a3 a2 l0) t433 _ ?side1 A44.out).mono ?_
   (case side1 => intro a0_ a1_ r_ W_ hW_ h_; (try simp only [List.append_toArray, List.cons_append, List.nil_append]); exact (impl_StainScan_1.calls a0_ a1_ gb427 a1 gb429 a3 gb428 a2 gb426 _ _ l0 r_ W_ (Kd.C_below (Z13 HR0.out) hW_) HC0.out (blk_below (g := gb427) (o := .cells #[.int .i64 a1] 3 (0, 0)) (Z4 BK427.out) hW_) (blk_below (g := gb429) (o := .cells #[.int .i64 a3] 3 (0, 0)) (Z4 BK429.out) hW_) (blk_below (g := gb428) (o := .cells #[.int .i64 a2] 3 (0, 0)) (Z4 BK428.out) hW_) (blk_below (g := gb426) (o := .cells #[.slice (some ad431) l0.length c0] 24 (0, 0)) (Z4 BK426.out) hW_) NB427_429.out NB427_428.out NB427_426.out NB429_427.out NB429_428.out NB429_426.out NB428_427.out NB428_429.out NB428_426.out NB426_427.out NB426_429.out NB426_428.out h_).mono (fun e_ w_ h2_ => h2_))
   rintro e w51 ⟨v434, rfl, ho0, hb⟩
   refine ⟨_, rfl, ?_⟩
   refine k6_ (Kd.R_lower ho0 (below_size (Z24))) (blk_below (g := gb426) (o := .cells #[.slice (some ad431) l0.length c0] 24 (0, 0)) (Z4 BK426.out) hb) (blk_below (g := gb427) (o := .cells #[.int .i64 a1] 3 (0, 0)) (Z4 BK427.out) hb) (blk_below (g := gb428) (o := .cells #[.int .i64 a2] 3 (0, 0)) (Z4 BK428.out) hb) (blk_below (g := gb429) (o := .cells #[.int .i64 a3] 3 (0, 0)) (Z4 BK429.out) hb) (below_step (Z24) hb) ?_
   clear BK426 BK427 BK428 BK429 HB
   intro HO435 BK426 BK427 BK428 BK429 HB
   (try clear hb)
   (try clear hb2)
   (try clear hk)
   (try clear hi)
   (try clear ho0)
   refine hK.out _ _ ⟨(blk_cell BK426.out 0).trans rfl, ((HB.out.cell (World.block_lt_of_cell? w _ hw432_0)).trans hw432_0)⟩ (fun hHeld => ?_)
   clear hK K
   refine norm_ (a' := ?_) ?_ ?_
   rotate_left
   ·show Act.put _ (some 50) _ = _
    simp only [Act.put, List.setIfInBounds_toArray, List.set_cons_zero, List.set_cons_succ, i64_w, i32_w]
    rfl
   refine pu_ 8 8 (M_ 9 1) ?_
   refine pu_ 9 9 (M_ 10 0) ?_
   refine done_ (done_of HT_.out (by kernel_rfl)) ?_
   try go_wp2
   go_ret2
   exact ⟨_, Z11, Z1 HO435.out, Z24⟩
  rw [if_neg c25] at H
  exact absurd H (by simp)
 replace c6 := Bool.eq_false_iff.mpr c6
 subst c6
 rw [if_neg (show ¬ (false = true) by decide)] at H
 simp only [Option.some.injEq, Prod.mk.injEq] at H
 obtain ⟨rfl, rfl⟩ := H
 go_enter Try.func7, Try.ntmps7
 try go_wp2_with (first | ((with_reducible refine gate_dst (N := 4) rfl ?_); (try (refine gate_guard (by rfl) ?_; dsimp only)); refine bv_ 4 24 #[.slice A0 l0.length c0] ?_; intro gb426 hg w52 hbox hb; refine k4_ (below_step (Z2) hb) (hbox) ((Z34 : w.heap.size ≤ gb426)) ((Z34 : w.heap.size ≤ gb426)) ?_; clear HB; intro HB BK426 GW426 GE426; clear hb hbox hg) | ((with_reducible refine gate_dst (N := 5) rfl ?_); (try (refine gate_guard (by rfl) ?_; dsimp only)); refine bv_ 5 3 #[.int .i64 a1] ?_; intro gb427 hg w53 hbox hb; refine k7_ (blk_below (g := gb426) (o := .cells #[.slice A0 l0.length c0] 24 (0, 0)) (Z4 BK426.out) hb) (below_step (Z20) hb) (hbox) ((Z66 : w.heap.size ≤ gb427)) ((Z66 : w.heap.size ≤ gb427)) ((Z25 : gb426 ≠ gb427)) ((Z26 : gb427 ≠ gb426)) ?_; clear BK426 HB; intro BK426 HB BK427 GW427 GE427 NB426_427 NB427_426; clear hb hbox hg) | ((with_reducible refine gate_dst (N := 6) rfl ?_); (try (refine gate_guard (by rfl) ?_; dsimp only)); refine bv_ 6 3 #[.int .i64 a2] ?_; intro gb428 hg w54 hbox hb; refine k10_ (blk_below (g := gb426) (o := .cells #[.slice A0 l0.length c0] 24 (0, 0)) (Z4 BK426.out) hb) (blk_below (g := gb427) (o := .cells #[.int .i64 a1] 3 (0, 0)) (Z4 BK427.out) hb) (below_step (Z16) hb) (hbox) ((Z67 : w.heap.size ≤ gb428)) ((Z67 : w.heap.size ≤ gb428)) ((Z25 : gb426 ≠ gb428)) ((Z26 : gb428 ≠ gb426)) ((Z35 : gb427 ≠ gb428)) ((Z36 : gb428 ≠ gb427)) ?_; clear BK426 BK427 HB; intro BK426 BK427 HB BK428 GW428 GE428 NB426_428 NB428_426 NB427_428 NB428_427; clear hb hbox hg) | ((with_reducible refine gate_dst (N := 7) rfl ?_); (try (refine gate_guard (by rfl) ?_; dsimp only)); refine bv_ 7 3 #[.int .i64 a3] ?_; intro gb429 hg w55 hbox hb; refine k13_ (blk_below (g := gb426) (o := .cells #[.slice A0 l0.length c0] 24 (0, 0)) (Z4 BK426.out) hb) (blk_below (g := gb427) (o := .cells #[.int .i64 a1] 3 (0, 0)) (Z4 BK427.out) hb) (blk_below (g := gb428) (o := .cells #[.int .i64 a2] 3 (0, 0)) (Z4 BK428.out) hb) (below_step (Z15) hb) (hbox) ((Z68 : w.heap.size ≤ gb429)) ((Z68 : w.heap.size ≤ gb429)) ((Z25 : gb426 ≠ gb429)) ((Z26 : gb429 ≠ gb426)) ((Z35 : gb427 ≠ gb429)) ((Z36 : gb429 ≠ gb427)) ((Z55 : gb428 ≠ gb429)) ((Z56 : gb429 ≠ gb428)) ?_; clear BK426 BK427 BK428 HB; intro BK426 BK427 BK428 HB BK429 GW429 GE429 NB426_429 NB429_426 NB427_429 NB429_427 NB428_429 NB429_428; clear hb hbox hg))
 refine k5_ (blk_drew BK426.out) (blk_drew BK427.out) (blk_drew BK428.out) (blk_drew BK429.out) (below_drew1 HB.out) ?_
 clear BK426 BK427 BK428 BK429 HB
 intro BK426 BK427 BK428 BK429 HB
 refine start_ (n := 33) (S := fun w' => w'.cell? ⟨gb426, 0, none⟩ = some (.slice A0 l0.length c0)) (ds := []) (M_ 0 33) (by kernel_rfl) rfl rfl ((blk_cell BK426.out 0).trans rfl) (fun hHeld => ?_); refine with_tabW impl_StainScan.tab1 impl_StainScan.bits1 (fun HT_ HW_ => ?_)
 generalize w55.drew = w56 at BK426 BK427 BK428 BK429 HB hHeld ⊢
 refine take_ (i := 0) (N := some 10) (v := ?_) (a' := ?_) (M_ 1 32) rfl rfl (take_ofW HT_.out HW_.out (by kernel_rfl)) (fun _ _ _ h => h) (Or.inl ⟨by rfl, ?_⟩) hHeld ?_ ?_
 rotate_left
 ·intro w' s0
  go_simp
  with_reducible rfl
 rotate_left
 ·exact ka_
 refine one_ (i := 1) (N := some 11) (M_ 2 31) rfl rfl (one_of HT_.out (by kernel_rfl)) (by decide) (fun K hK => ?_)
 refine goes_ Try.func47 (by kernel_rfl) rfl #[.slice A0 l0.length c0] (by rfl) rfl rfl (Z18) ?_
 with_reducible refine (impl_IsScan.calls k _ _ l0 false _ ?side1 ?side2 A5.out).mono ?_
 (case side1 => exact Z13 HR0.out)
 (case side2 => exact HC0.out)
 rintro e w' ⟨rfl, ⟨nd, rfl⟩⟩
 refine ⟨_, rfl, ?_⟩
 refine hK.out _ _ ((blk_cell BK426.out 0).trans rfl) (fun hHeld => ?_)
 clear hK K
 refine norm_ (a' := ?_) ?_ ?_
 rotate_left
 ·show Act.put _ (some 11) _ = _
  simp only [Act.put, List.setIfInBounds_toArray, List.set_cons_zero, List.set_cons_succ, i64_w, i32_w]
  rfl
 refine pu_ 2 12 (M_ 3 30) ?_
 refine pu_ 3 13 (M_ 4 29) ?_
 refine pn_ 4 14 (M_ 5 28) ?_
 refine pn_ 5 15 (M_ 6 27) ?_
 refine pu_ 6 16 (M_ 7 26) ?_
 refine pu_ 7 17 (M_ 8 25) ?_
 refine pn_ 8 18 (M_ 9 24) ?_
 refine pn_ 9 19 (M_ 10 23) ?_
 refine pn_ 10 20 (M_ 11 22) ?_
 refine pn_ 11 21 (M_ 12 21) ?_
 refine pu_ 12 22 (M_ 13 20) ?_
 refine pu_ 13 23 (M_ 14 19) ?_
 refine pn_ 14 24 (M_ 15 18) ?_
 refine pn_ 15 25 (M_ 16 17) ?_
 refine pu_ 16 26 (M_ 17 16) ?_
 refine pu_ 17 27 (M_ 18 15) ?_
 refine pn_ 18 28 (M_ 19 14) ?_
 refine pn_ 19 29 (M_ 20 13) ?_
 refine pn_ 20 30 (M_ 21 12) ?_
 refine pn_ 21 31 (M_ 22 11) ?_
 refine pn_ 22 32 (M_ 23 10) ?_
 refine pn_ 23 33 (M_ 24 9) ?_
 refine pu_ 24 34 (M_ 25 8) ?_
 refine pu_ 25 35 (M_ 26 7) ?_
 refine pn_ 26 36 (M_ 27 6) ?_
 refine pn_ 27 37 (M_ 28 5) ?_
 refine pu_ 28 38 (M_ 29 4) ?_
 refine pu_ 29 39 (M_ 30 3) ?_
 refine pn_ 30 40 (M_ 31 2) ?_
 refine pn_ 31 41 (M_ 32 1) ?_
 refine pu_ 32 42 (M_ 33 0) ?_
 refine done_ (done_of HT_.out (by kernel_rfl)) ?_
 try go_wp2
 go_ret2
 exact ⟨_, Z11, Z21, Z24⟩

end Go.Proofs.Ytmnnmddfmmaohaa.PFnStains
