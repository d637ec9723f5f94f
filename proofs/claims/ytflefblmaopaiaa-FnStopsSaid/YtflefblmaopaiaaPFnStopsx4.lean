-- written by a program of this session: the kit's print, with outer functions of the session's own (wip/ext)
import Derived.Test.YtflefblmaopaiaaPFnStopsx0
import Derived.Test.YtflefblmaopaiaaPFnStopsx2
import Derived.Test.YtflefblmaopaiaaPFnStopsx3
namespace Go.Proofs.Ytflefblmaopaiaa.PFnStops
open Go.RowKit Go.Proofs.YtflefblmaopaiaaW.PrintWords Go.Proofs.YtflefblmaopaiaaW.PrintLast Go.Proofs.YtflefblmaopaiaaW.PrintMore
attribute [local go_sem] max2_int min2_int max_two min_two max_three min_three max_four min_four   -- for this text's walks alone
set_option linter.unusedVariables false
set_option linter.unusedSimpArgs false
theorem mo4_ {p : Prop} (h : p := by repeat' first | (with_reducible first | apply ih0 | apply ih0 | apply ih1 | apply ih1 | apply spec_shGood.mono | apply spec_shGood.mono | exact LeO.refl _ | exact LeO.none _ | refine LeO.ite ?_ ?_ | refine LeO.bind ?_ (fun _ => ?_)) | exact LeO.none _ | refine LeO.ite ?_ ?_ | refine LeO.bind ?_ (fun _ => ?_)) : p := h

/-! ### spec_shSorted: function 52 -/
mutual
def spec_shSorted.l0 : Nat → List (S64) → List (S64) → Int → Int → Option ((List (S64)) × Bool)
 | 0, _, _, _, _ => none
 | k + 1, x4, x8, x9, x10 => if x10 < x9 then (if 0 ≤ x10 then (if x10 < (x8.length : Int) then (spec_shSorted.l1 k x4 (x4.length : Int) x8 x9 x10 ((rd_T64 x8 x10).f0) ((rd_T64 x8 x10).f1) ((rd_T64 x8 x10).f2)) else (none)) else (none)) else ((spec_shGood.f k x4).bind fun t132 => (if t132 = true then (some (x4, true)) else (some (([] : List (S64)), false))))
def spec_shSorted.l1 : Nat → List (S64) → Int → List (S64) → Int → Int → Int → Int → Int → Option ((List (S64)) × Bool)
 | 0, _, _, _, _, _, _, _, _ => none
 | k + 1, x4, x7, x8, x9, x10, x135000, x135001, x135002 => if x7 > 0 then (if 0 ≤ (wrap64 (x7 - 1)) then (if (wrap64 (x7 - 1)) < (x4.length : Int) then ((spec_shBefore.f x135000 x135001 x135002 ((rd_T64 x4 (wrap64 (x7 - 1))).f0) ((rd_T64 x4 (wrap64 (x7 - 1))).f1) ((rd_T64 x4 (wrap64 (x7 - 1))).f2)).bind fun t136 => (if t136 = true then (spec_shSorted.l1 k x4 (wrap64 (x7 - 1)) x8 x9 x10 x135000 x135001 x135002) else ((some (([] : List (S64)) : List (S64))).bind fun y137 => (if 0 ≤ x7 then (if x7 ≤ (x4.length : Int) then ((some (x4.take (x7 : Int).toNat : List (S64))).bind fun y140 => (if y137.length + y140.length < 5864062014805 then ((some (y137 ++ y140 : List (S64))).bind fun y144 => ((some (([(⟨x135000, x135001, x135002⟩ : S64)] : List (S64)) : List (S64))).bind fun y147 => (if y144.length + y147.length < 5864062014805 then ((some (y144 ++ y147 : List (S64))).bind fun y150 => ((some (x4.drop (x7 : Int).toNat : List (S64))).bind fun y153 => (if y150.length + y153.length < 5864062014805 then (spec_shSorted.l0 k (y150 ++ y153) x8 x9 (wrap64 (x10 + 1))) else (none)))) else (none)))) else (none))) else (none)) else (none))))) else (none)) else (none)) else ((some (([] : List (S64)) : List (S64))).bind fun y160 => (if 0 ≤ x7 then (if x7 ≤ (x4.length : Int) then ((some (x4.take (x7 : Int).toNat : List (S64))).bind fun y163 => (if y160.length + y163.length < 5864062014805 then ((some (y160 ++ y163 : List (S64))).bind fun y167 => ((some (([(⟨x135000, x135001, x135002⟩ : S64)] : List (S64)) : List (S64))).bind fun y170 => (if y167.length + y170.length < 5864062014805 then ((some (y167 ++ y170 : List (S64))).bind fun y173 => ((some (x4.drop (x7 : Int).toNat : List (S64))).bind fun y176 => (if y173.length + y176.length < 5864062014805 then (spec_shSorted.l0 k (y173 ++ y176) x8 x9 (wrap64 (x10 + 1))) else (none)))) else (none)))) else (none))) else (none)) else (none)))
end
def spec_shSorted.f (k : Nat) (l0 : List (S64)) : Option ((List (S64)) × Bool) := spec_shSorted.l0 k ([] : List (S64)) l0 (l0.length : Int) 0
theorem spec_shSorted.mono_l : ∀ k, (∀ y0 y1 y2 y3, LeO (spec_shSorted.l0 k y0 y1 y2 y3) (spec_shSorted.l0 (k + 1) y0 y1 y2 y3)) ∧ (∀ y0 y1 y2 y3 y4 y5 y6 y7, LeO (spec_shSorted.l1 k y0 y1 y2 y3 y4 y5 y6 y7) (spec_shSorted.l1 (k + 1) y0 y1 y2 y3 y4 y5 y6 y7))
 | 0 => ⟨fun _ _ _ _ r h => by simp [spec_shSorted.l0] at h, fun _ _ _ _ _ _ _ _ r h => by simp [spec_shSorted.l1] at h⟩
 | k + 1 => by
  obtain ⟨ih0, ih1⟩ := spec_shSorted.mono_l k
  refine ⟨?_, ?_⟩
  ·intro y0 y1 y2 y3
   unfold spec_shSorted.l0
   exact mo4_
  intro y0 y1 y2 y3 y4 y5 y6 y7
  unfold spec_shSorted.l1
  exact mo4_
theorem spec_shSorted.mono : ∀ a0 k, LeO (spec_shSorted.f k a0) (spec_shSorted.f (k + 1) a0) := by
 intro a0 k
 obtain ⟨ih0, ih1⟩ := spec_shSorted.mono_l k
 unfold spec_shSorted.f
 exact mo4_
def spec_shSorted.T6 : Bool × List (List Nat × List Nat) := (true, [([], []), ([0], [0]), ([1], [1]), ([2], [2]), ([2], [2]), ([2], [2]), ([5, 2], [2, 5]), ([4, 6, 2], [2, 4, 6]), ([7, 2], [2, 7]), ([3, 8, 2, 2], [2, 3, 8]), ([2, 9], [2, 9])])
def spec_shSorted.B6 : List Nat := [0, 1, 3, 7, 7, 7, 39, 119, 247, 511, 1023]
theorem spec_shSorted.tab6 : rtab .any (opsOf Try.f52 6) = spec_shSorted.T6 := by kernel_rfl
theorem spec_shSorted.bits6 : waitsOk spec_shSorted.T6.2 spec_shSorted.B6 = true := by kernel_rfl
def spec_shSorted.T8 : Bool × List (List Nat × List Nat) := (true, [([], []), ([], []), ([], []), ([1, 2], [1, 2]), ([0, 3], [0, 3]), ([], []), ([5], [5]), ([4, 6, 4], [4, 6]), ([], []), ([], []), ([8, 9], [8, 9]), ([7, 10, 7], [7, 10]), ([11, 11, 0, 1, 2, 3, 4, 5, 6, 7, 8, 9, 10, 11], [1, 8, 11])])
def spec_shSorted.B8 : List Nat := [0, 0, 0, 6, 15, 0, 32, 127, 0, 0, 768, 2047, 4095]
theorem spec_shSorted.tab8 : rtab .any (opsOf Try.f52 8) = spec_shSorted.T8 := by kernel_rfl
theorem spec_shSorted.bits8 : waitsOk spec_shSorted.T8.2 spec_shSorted.B8 = true := by kernel_rfl
set_option maxHeartbeats 8000000 in
set_option maxRecDepth 100000 in
theorem spec_shSorted.calls (k : Nat) (A0 : Option Addr) (c0 : Nat) (l0 : List (S64)) (r1 : List (S64)) (r2 : Bool) (w : World) (hr0 : Kd.C k64 w A0 l0.length l0) (hc0 : l0.length ≤ c0) (h : spec_shSorted.f k l0 = some (r1, r2)) :
  Calls Try.prog 52 #[.slice A0 l0.length c0] w fun e w' => ∃ v0_ : Value, e = .returned (.tuple #[v0_, .bool r2]) ∧ Kd.R k64 64 w' w.heap.size (fun _ => True) v0_ r1 ∧ Below w.heap.size w w' := by
 have hu64 := Try.underlying64
 have HR0 := Aside0.mk hr0
 have HC0 := Aside0.mk hc0
 clear hr0 hc0
 have HB := Aside0.mk (Below.refl w.heap.size w)
 have H : (spec_shSorted.l0 k ([] : List (S64)) l0 (l0.length : Int) 0) = some (r1, r2) := h
 clear h
 have H' := Aside0.mk H
 clear H
 go_enter Try.func52, Try.ntmps52
 go_wp2
 go_loopg [4, 10] k (fun kq v4 v10 w' => ∃ (x4_1 : List (S64)) (x10_1 : Int), v10 = .int .i64 x10_1 ∧ Aside0 (spec_shSorted.l0 kq x4_1 l0 (l0.length : Int) x10_1 = some (r1, r2)) ∧ Aside0 (kq ≤ k) ∧ Aside0 (Kd.R k64 64 w' w.heap.size (fun _ => True) v4 x4_1) ∧ Aside0 (Below w.heap.size w w'))
 case atStart => exact ⟨(([] : List (S64))), (0), (Z17), H', ⟨Nat.le_refl _⟩, ⟨Z21⟩, ⟨Z3⟩⟩
 case round =>
  clear H'
  obtain ⟨x4_1, x10_1, rfl, HA, HK1, HO_4, HB⟩ := hrel
  cases gk with
  | zero => exact absurd HA.out (by simp [spec_shSorted.l0])
  | succ k1 =>
   have H := HA.out
   clear HA
   simp only [spec_shSorted.l0] at H
   by_cases c2 : x10_1 < (l0.length : Int)
   ·rw [if_pos c2] at H
    have c2b0 : decide (x10_1 < (l0.length : Int)) = true := decide_eq_true c2
    clear c2
    by_cases c3 : 0 ≤ x10_1
    ·rw [if_pos c3] at H
     have c3b0 : decide (0 ≤ x10_1) = true := decide_eq_true c3
     clear c3
     by_cases c4 : x10_1 < (l0.length : Int)
     ·rw [if_pos c4] at H
      have c4b0 : decide (x10_1 < (l0.length : Int)) = true := decide_eq_true c4
      clear c4
      have H' := Aside0.mk H
      clear H
      have p133 : 0 ≤ (x10_1 : Int) := of_decide_eq_true (Z18)
      have q133 : x10_1 < (l0.length : Int) := of_decide_eq_true (Z18)
      obtain ⟨ad133, e133, hx133_0, hx133_1, hx133_2⟩ := at_T64 HR0.out x10_1 p133 q133
      cases e133
      replace hx133_0 := (HB.out.cell (World.block_lt_of_cell? w _ hx133_0)).trans hx133_0
      replace hx133_1 := (HB.out.cell (World.block_lt_of_cell? w _ hx133_1)).trans hx133_1
      replace hx133_2 := (HB.out.cell (World.block_lt_of_cell? w _ hx133_2)).trans hx133_2
      replace p133 := eq_true p133
      replace q133 := eq_true q133
      go_wp2_with (first | ((with_reducible refine gate_dst (N := 6) rfl ?_); refine bv_ 6 64 #[.int .i64 0, .int .i64 0, .int .i64 0] ?_; intro gb134 hg w5 hbox hb; refine k5_ (Kd.R_below (Kd.R_elderB (Z1 HO_4.out) gb134 (Nat.le_of_eq hg.symm)) hb) (below_step (Z3) hb) (hbox) ((Z26 : w.heap.size ≤ gb134)) ((Z26 : w.heap.size ≤ gb134)) ?_; clear HO_4 HB; intro HO_4 HB BK134 GW134 GE134; clear hb hbox hg; obtain ⟨hcz6_0, hcz6_1, hcz6_2, hfz6_0, hfz6_1, hfz6_2⟩ := bx3_ (w := w5) BK134.out; obtain ⟨Ao7, co7, eo7⟩ := Kd.R_slice HO_4.out; subst eo7))
      (try simp only [Act.put, List.setIfInBounds_toArray, List.set_cons_zero, List.set_cons_succ])
      go_loopg [7] k1 (fun kq v7 w' => ∃ (x7_2 : Int), v7 = .int .i64 x7_2 ∧ Aside0 (spec_shSorted.l1 kq x4_1 x7_2 l0 (l0.length : Int) x10_1 ((rd_T64 l0 x10_1).f0) ((rd_T64 l0 x10_1).f1) ((rd_T64 l0 x10_1).f2) = some (r1, r2)) ∧ Aside0 (kq ≤ k1) ∧ Aside0 (Kd.R k64 64 w' w.heap.size (fun k_ => k_ ≠ gb134) (.slice Ao7 x4_1.length co7) x4_1) ∧ Aside0 (w'.heap[gb134]? = some (.cells #[.int .i64 ((rd_T64 l0 x10_1).f0), .int .i64 ((rd_T64 l0 x10_1).f1), .int .i64 ((rd_T64 l0 x10_1).f2)] 64 (0, 0))) ∧ Aside0 (Below w.heap.size w w'))
      case atStart => exact ⟨((x4_1.length : Int)), (Z17), H', ⟨Nat.le_refl _⟩, ⟨by (with_reducible repeat (first | apply Kd.R_alloc | apply Kd.R_drewN | apply Kd.R_drew)); exact Kd.R_mono (Kd.R_far (p := ⟨gb134, 2, none⟩) (Kd.R_far (p := ⟨gb134, 1, none⟩) (Kd.R_far (p := ⟨gb134, 0, none⟩) (Kd.R_mono HO_4.out (fun k_ hk => (⟨hk, hk.2⟩ : _ ∧ k_ ≠ gb134))) (fun _ hk => hk.2) (.int .i64 ((rd_T64 l0 x10_1).f0))) (fun _ hk => hk.2) (.int .i64 ((rd_T64 l0 x10_1).f1))) (fun _ hk => hk.2) (.int .i64 ((rd_T64 l0 x10_1).f2))) (fun _ hk => hk.1.2)⟩, ⟨Z94 BK134.out⟩, ⟨Z12⟩⟩
      case round =>
       clear H'
       (try clear p1); (try clear q1); (try clear hx1); (try clear c2); (try clear c2b0); (try clear p2); (try clear c3); (try clear c3b0); (try clear c4); (try clear c4b0); (try clear c5); (try clear hcz6_0); (try clear hcz6_1); (try clear hcz6_2); (try clear hfz6_0); (try clear hfz6_1); (try clear hfz6_2); (try clear hx133_0); (try clear hx133_1); (try clear hx133_2); (try clear p133); (try clear q133)
       obtain ⟨x7_2, rfl, HA, HK2, HO_4, BK134, HB⟩ := hrel
       cases gk with
       | zero => exact absurd HA.out (by simp [spec_shSorted.l1])
       | succ k2 =>
        have H := HA.out
        clear HA
        simp only [spec_shSorted.l1] at H
        by_cases c8 : x7_2 > 0
        ·rw [if_pos c8] at H
         have c8b0 : decide (0 < x7_2) = true := decide_eq_true c8
         clear c8
         obtain ⟨ji9, hji9⟩ : ∃ j_ : Int, (wrap64 (x7_2 - 1)) = j_ := ⟨_, rfl⟩
         replace H : (if 0 ≤ (ji9) then (if (ji9) < (x4_1.length : Int) then ((spec_shBefore.f ((rd_T64 l0 x10_1).f0) ((rd_T64 l0 x10_1).f1) ((rd_T64 l0 x10_1).f2) ((rd_T64 x4_1 (ji9)).f0) ((rd_T64 x4_1 (ji9)).f1) ((rd_T64 x4_1 (ji9)).f2)).bind fun t136 => (if t136 = true then (spec_shSorted.l1 k2 x4_1 ji9 l0 (l0.length : Int) x10_1 ((rd_T64 l0 x10_1).f0) ((rd_T64 l0 x10_1).f1) ((rd_T64 l0 x10_1).f2)) else ((some (([] : List (S64)) : List (S64))).bind fun y137 => (if 0 ≤ x7_2 then (if x7_2 ≤ (x4_1.length : Int) then ((some (x4_1.take (x7_2 : Int).toNat : List (S64))).bind fun y140 => (if y137.length + y140.length < 5864062014805 then ((some (y137 ++ y140 : List (S64))).bind fun y144 => ((some (([(⟨((rd_T64 l0 x10_1).f0), ((rd_T64 l0 x10_1).f1), ((rd_T64 l0 x10_1).f2)⟩ : S64)] : List (S64)) : List (S64))).bind fun y147 => (if y144.length + y147.length < 5864062014805 then ((some (y144 ++ y147 : List (S64))).bind fun y150 => ((some (x4_1.drop (x7_2 : Int).toNat : List (S64))).bind fun y153 => (if y150.length + y153.length < 5864062014805 then (spec_shSorted.l0 k2 (y150 ++ y153) l0 (l0.length : Int) (wrap64 (x10_1 + 1))) else (none)))) else (none)))) else (none))) else (none)) else (none))))) else (none)) else (none)) = some (r1, r2) := by first | (rw [hji9] at H; exact H) | (simp only [hji9] at H ⊢; exact H)
         have hji9w : (IntKind.i64.wrap (x7_2 - 1)) = ji9 := (i64_w _).trans hji9
         by_cases c10 : 0 ≤ (ji9)
         ·rw [if_pos c10] at H
          have c10b0 : decide (0 ≤ (ji9)) = true := decide_eq_true c10
          clear c10
          by_cases c11 : (ji9) < (x4_1.length : Int)
          ·rw [if_pos c11] at H
           have c11b0 : decide ((ji9) < (x4_1.length : Int)) = true := decide_eq_true c11
           clear c11
           replace H := Option.bind_eq_some_iff.mp H
           obtain ⟨t136, A120, H⟩ := H
           (try dsimp only at H)
           have A12 := Aside0.mk A120
           clear A120
           by_cases c13 : t136 = true
           ·subst c13
            rw [if_pos rfl] at H
            have H' := Aside0.mk H
            clear H
            try go_wp2
            refine k3_ (Kd.R_drew HO_4.out) (blk_drew BK134.out) (below_drew1 HB.out) ?_
            clear HO_4 BK134 HB
            intro HO_4 BK134 HB
            have p135 : 0 ≤ ((ji9) : Int) := of_decide_eq_true (Z18)
            have q135 : (ji9) < (x4_1.length : Int) := of_decide_eq_true (Z18)
            obtain ⟨ad135, e135, hx135_0, hx135_1, hx135_2⟩ := at_T64 (Kd.R_reads' HO_4.out).2.2 (ji9) p135 q135
            cases e135
            replace p135 := eq_true p135
            replace q135 := eq_true q135
            refine start_ (n := 11) (S := fun w' => w'.cell? ⟨gb134, 0, none⟩ = some (.int .i64 ((rd_T64 l0 x10_1).f0)) ∧ w'.cell? ⟨gb134, 1, none⟩ = some (.int .i64 ((rd_T64 l0 x10_1).f1)) ∧ w'.cell? ⟨gb134, 2, none⟩ = some (.int .i64 ((rd_T64 l0 x10_1).f2)) ∧ w'.cell? (ad135.add (((ji9)).toNat * 3)) = some (.int .i64 ((rd_T64 x4_1 (ji9)).f0)) ∧ w'.cell? ⟨(ad135.add (((ji9)).toNat * 3)).block, (ad135.add (((ji9)).toNat * 3)).off + 1, none⟩ = some (.int .i64 ((rd_T64 x4_1 (ji9)).f1)) ∧ w'.cell? ⟨(ad135.add (((ji9)).toNat * 3)).block, (ad135.add (((ji9)).toNat * 3)).off + 2, none⟩ = some (.int .i64 ((rd_T64 x4_1 (ji9)).f2))) (ds := []) (M_ 0 11) (by kernel_rfl) rfl rfl ⟨(blk_cell BK134.out 0).trans rfl, (blk_cell BK134.out 1).trans rfl, (blk_cell BK134.out 2).trans rfl, hx135_0, hx135_1, hx135_2⟩ (fun hHeld => ?_); refine with_tabW spec_shSorted.tab6 spec_shSorted.bits6 (fun HT_ HW_ => ?_)
            generalize wr.drew = w14 at HO_4 BK134 HB hx135_0 hx135_1 hx135_2 hHeld ⊢
            refine pu_ 0 16 (M_ 1 10) ?_
            refine pu_ 1 17 (M_ 2 9) ?_
            refine pu_ 2 18 (M_ 3 8) ?_
            refine pu_ 4 20 (N_ 11 23) ?_
            refine pu_ 5 21 (N_ 11 55) ?_
            refine pu_ 6 22 (N_ 11 119) ?_
            refine pu_ 7 23 (N_ 11 247) ?_
            refine tk6_ 3 19 (M_ 8 3) hHeld ?_
            refine tk6_ 8 24 (M_ 9 2) hHeld ?_
            refine one_ (i := 9) (N := some 25) (M_ 10 1) rfl rfl (one_of HT_.out (by kernel_rfl)) (by decide) (fun K hK => ?_)
            refine goes_ Try.func49 (by kernel_rfl) rfl #[.agg #[.int .i64 ((rd_T64 l0 x10_1).f0), .int .i64 ((rd_T64 l0 x10_1).f1), .int .i64 ((rd_T64 l0 x10_1).f2)], .agg #[.int .i64 ((rd_T64 x4_1 (ji9)).f0), .int .i64 ((rd_T64 x4_1 (ji9)).f1), .int .i64 ((rd_T64 x4_1 (ji9)).f2)]] (by rfl) rfl rfl (Z184) ?_
            with_reducible refine (spec_shBefore.calls ((rd_T64 l0 x10_1).f0) ((rd_T64 l0 x10_1).f1) ((rd_T64 l0 x10_1).f2) ((rd_T64 x4_1 (ji9)).f0) ((rd_T64 x4_1 (ji9)).f1) ((rd_T64 x4_1 (ji9)).f2) true _ A12.out).mono ?_
            rintro e w15 ⟨rfl, hb⟩
            have HS3_ := (hb.cell (World.block_lt_of_cell? _ _ (hHeld.2.2.2.1))).trans (hHeld.2.2.2.1)
            have HS4_ := (hb.cell (World.block_lt_of_cell? _ _ (hHeld.2.2.2.2.1))).trans (hHeld.2.2.2.2.1)
            have HS5_ := (hb.cell (World.block_lt_of_cell? _ _ (hHeld.2.2.2.2.2))).trans (hHeld.2.2.2.2.2)
            refine ⟨_, rfl, ?_⟩
            have n0_ := Aside0.mk (Ya_ HO_4.out)
            have n1_ := Aside0.mk (blk_below (g := gb134) (o := .cells #[.int .i64 ((rd_T64 l0 x10_1).f0), .int .i64 ((rd_T64 l0 x10_1).f1), .int .i64 ((rd_T64 l0 x10_1).f2)] 64 (0, 0)) (Z2 BK134.out) hb)
            have n2_ := Aside0.mk (below_step (Z12) hb)
            clear HO_4
            clear BK134
            clear HB
            have HO_4 := n0_
            have BK134 := n1_
            have HB := n2_
            clear n0_ n1_ n2_
            (try clear hb)
            (try clear hb2)
            (try clear hk)
            (try clear hi)
            refine hK.out _ _ ⟨(blk_cell BK134.out 0).trans rfl, (blk_cell BK134.out 1).trans rfl, (blk_cell BK134.out 2).trans rfl, HS3_, HS4_, HS5_⟩ (fun hHeld => ?_)
            clear hK K
            refine norm_ (a' := ?_) ?_ ?_
            rotate_left
            ·show Act.put _ (some 25) _ = _
             simp only [Act.put, List.setIfInBounds_toArray, List.set_cons_zero, List.set_cons_succ, i64_w, i32_w]
             rfl
            refine pu_ 10 26 (M_ 11 0) ?_
            refine done_ (done_of HT_.out (by kernel_rfl)) ?_
            try go_wp2
            go_roundg k2
            case measure => have := HK1.out; have := HK2.out; omega
            case rel => exact ⟨(ji9), (by first | rfl | (simp; done) | (simp only [← hji9] <;> (first | rfl | simp)) | (simp [*]; done)), H', ⟨Z153 HK1.out⟩, ⟨Z1 HO_4.out⟩, ⟨Z2 BK134.out⟩, ⟨Z12⟩⟩
           replace c13 := Bool.eq_false_iff.mpr c13
           subst c13
           rw [if_neg (show ¬ (false = true) by decide)] at H
           obtain ⟨y137, hy137⟩ : ∃ y_ : List (S64), y_ = (([] : List (S64))) := ⟨_, rfl⟩
           replace H : (if 0 ≤ x7_2 then (if x7_2 ≤ (x4_1.length : Int) then ((some (x4_1.take (x7_2 : Int).toNat : List (S64))).bind fun y140 => (if y137.length + y140.length < 5864062014805 then ((some (y137 ++ y140 : List (S64))).bind fun y144 => ((some (([(⟨((rd_T64 l0 x10_1).f0), ((rd_T64 l0 x10_1).f1), ((rd_T64 l0 x10_1).f2)⟩ : S64)] : List (S64)) : List (S64))).bind fun y147 => (if y144.length + y147.length < 5864062014805 then ((some (y144 ++ y147 : List (S64))).bind fun y150 => ((some (x4_1.drop (x7_2 : Int).toNat : List (S64))).bind fun y153 => (if y150.length + y153.length < 5864062014805 then (spec_shSorted.l0 k2 (y150 ++ y153) l0 (l0.length : Int) (wrap64 (x10_1 + 1))) else (none)))) else (none)))) else (none))) else (none)) else (none)) = some (r1, r2) := by first | (rw [hy137]; with_reducible exact H) | (have H2_ := (Option.bind_some _ _).symm.trans H; rw [hy137]; with_reducible exact H2_) | (have H2_ := (Option.bind_some _ _).symm.trans H; with_reducible exact H2_) | with_reducible exact H | (rw [hy137]; exact H) | exact H
           have Ny137 := Aside0.mk hy137
           clear hy137
           by_cases c16 : 0 ≤ x7_2
           ·rw [if_pos c16] at H
            have c16b0 := eq_true c16
            have c16b1 : decide (0 ≤ x7_2) = true := decide_eq_true c16
            clear c16
            by_cases c17 : x7_2 ≤ (x4_1.length : Int)
            ·rw [if_pos c17] at H
             have c17b0 := eq_true c17
             have c17b1 : decide (x7_2 ≤ (x4_1.length : Int)) = true := decide_eq_true c17
             clear c17
             obtain ⟨y140, hy140⟩ : ∃ y_ : List (S64), y_ = (x4_1.take (x7_2 : Int).toNat) := ⟨_, rfl⟩
             replace H : (if y137.length + y140.length < 5864062014805 then ((some (y137 ++ y140 : List (S64))).bind fun y144 => ((some (([(⟨((rd_T64 l0 x10_1).f0), ((rd_T64 l0 x10_1).f1), ((rd_T64 l0 x10_1).f2)⟩ : S64)] : List (S64)) : List (S64))).bind fun y147 => (if y144.length + y147.length < 5864062014805 then ((some (y144 ++ y147 : List (S64))).bind fun y150 => ((some (x4_1.drop (x7_2 : Int).toNat : List (S64))).bind fun y153 => (if y150.length + y153.length < 5864062014805 then (spec_shSorted.l0 k2 (y150 ++ y153) l0 (l0.length : Int) (wrap64 (x10_1 + 1))) else (none)))) else (none)))) else (none)) = some (r1, r2) := by first | (rw [hy140]; with_reducible exact H) | (have H2_ := (Option.bind_some _ _).symm.trans H; rw [hy140]; with_reducible exact H2_) | (have H2_ := (Option.bind_some _ _).symm.trans H; with_reducible exact H2_) | with_reducible exact H | (rw [hy140]; exact H) | exact H
             have Ny140 := Aside0.mk hy140
             clear hy140
             by_cases c18 : y137.length + y140.length < 5864062014805
             ·rw [if_pos c18] at H
              have LMc18 := Aside0.mk c18
              clear c18
              obtain ⟨y144, hy144⟩ : ∃ y_ : List (S64), y_ = (y137 ++ y140) := ⟨_, rfl⟩
              replace H : ((some (([(⟨((rd_T64 l0 x10_1).f0), ((rd_T64 l0 x10_1).f1), ((rd_T64 l0 x10_1).f2)⟩ : S64)] : List (S64)) : List (S64))).bind fun y147 => (if y144.length + y147.length < 5864062014805 then ((some (y144 ++ y147 : List (S64))).bind fun y150 => ((some (x4_1.drop (x7_2 : Int).toNat : List (S64))).bind fun y153 => (if y150.length + y153.length < 5864062014805 then (spec_shSorted.l0 k2 (y150 ++ y153) l0 (l0.length : Int) (wrap64 (x10_1 + 1))) else (none)))) else (none))) = some (r1, r2) := by first | (rw [hy144]; with_reducible exact H) | (have H2_ := (Option.bind_some _ _).symm.trans H; rw [hy144]; with_reducible exact H2_) | (have H2_ := (Option.bind_some _ _).symm.trans H; with_reducible exact H2_) | with_reducible exact H | (rw [hy144]; exact H) | exact H
              have Ny144 := Aside0.mk hy144
              clear hy144
              obtain ⟨y147, hy147⟩ : ∃ y_ : List (S64), y_ = (([(⟨((rd_T64 l0 x10_1).f0), ((rd_T64 l0 x10_1).f1), ((rd_T64 l0 x10_1).f2)⟩ : S64)] : List (S64))) := ⟨_, rfl⟩
              replace H : (if y144.length + y147.length < 5864062014805 then ((some (y144 ++ y147 : List (S64))).bind fun y150 => ((some (x4_1.drop (x7_2 : Int).toNat : List (S64))).bind fun y153 => (if y150.length + y153.length < 5864062014805 then (spec_shSorted.l0 k2 (y150 ++ y153) l0 (l0.length : Int) (wrap64 (x10_1 + 1))) else (none)))) else (none)) = some (r1, r2) := by first | (rw [hy147]; with_reducible exact H) | (have H2_ := (Option.bind_some _ _).symm.trans H; rw [hy147]; with_reducible exact H2_) | (have H2_ := (Option.bind_some _ _).symm.trans H; with_reducible exact H2_) | with_reducible exact H | (rw [hy147]; exact H) | exact H
              have Ny147 := Aside0.mk hy147
              clear hy147
              by_cases c19 : y144.length + y147.length < 5864062014805
              ·rw [if_pos c19] at H
               have LMc19 := Aside0.mk c19
               clear c19
               obtain ⟨y150, hy150⟩ : ∃ y_ : List (S64), y_ = (y144 ++ y147) := ⟨_, rfl⟩
               replace H : ((some (x4_1.drop (x7_2 : Int).toNat : List (S64))).bind fun y153 => (if y150.length + y153.length < 5864062014805 then (spec_shSorted.l0 k2 (y150 ++ y153) l0 (l0.length : Int) (wrap64 (x10_1 + 1))) else (none))) = some (r1, r2) := by first | (rw [hy150]; with_reducible exact H) | (have H2_ := (Option.bind_some _ _).symm.trans H; rw [hy150]; with_reducible exact H2_) | (have H2_ := (Option.bind_some _ _).symm.trans H; with_reducible exact H2_) | with_reducible exact H | (rw [hy150]; exact H) | exact H
               have Ny150 := Aside0.mk hy150
               clear hy150
               have c20b0 := eq_true (of_decide_eq_true (Z18) : 0 ≤ x7_2)
               have c21b0 := eq_true (of_decide_eq_true (Z18) : x7_2 ≤ (x4_1.length : Int))
               obtain ⟨y153, hy153⟩ : ∃ y_ : List (S64), y_ = (x4_1.drop (x7_2 : Int).toNat) := ⟨_, rfl⟩
               replace H : (if y150.length + y153.length < 5864062014805 then (spec_shSorted.l0 k2 (y150 ++ y153) l0 (l0.length : Int) (wrap64 (x10_1 + 1))) else (none)) = some (r1, r2) := by first | (rw [hy153]; with_reducible exact H) | (have H2_ := (Option.bind_some _ _).symm.trans H; rw [hy153]; with_reducible exact H2_) | (have H2_ := (Option.bind_some _ _).symm.trans H; with_reducible exact H2_) | with_reducible exact H | (rw [hy153]; exact H) | exact H
               have Ny153 := Aside0.mk hy153
               clear hy153
               by_cases c22 : y150.length + y153.length < 5864062014805
               ·rw [if_pos c22] at H
                have LMc22 := Aside0.mk c22
                clear c22
                obtain ⟨y157, hy157⟩ : ∃ y_ : List (S64), y_ = (y150 ++ y153) := ⟨_, rfl⟩
                replace H : (spec_shSorted.l0 k2 y157 l0 (l0.length : Int) (wrap64 (x10_1 + 1))) = some (r1, r2) := by first | (rw [hy157]; with_reducible exact H) | (have H2_ := (Option.bind_some _ _).symm.trans H; rw [hy157]; with_reducible exact H2_) | (have H2_ := (Option.bind_some _ _).symm.trans H; with_reducible exact H2_) | with_reducible exact H | (rw [hy157]; exact H) | exact H
                have Ny157 := Aside0.mk hy157
                clear hy157
                have H' := Aside0.mk H
                clear H
                try go_wp2
                refine k3_ (Kd.R_drew HO_4.out) (blk_drew BK134.out) (below_drew1 HB.out) ?_
                clear HO_4 BK134 HB
                intro HO_4 BK134 HB
                have p135 : 0 ≤ ((ji9) : Int) := of_decide_eq_true (Z18)
                have q135 : (ji9) < (x4_1.length : Int) := of_decide_eq_true (Z18)
                obtain ⟨ad135, e135, hx135_0, hx135_1, hx135_2⟩ := at_T64 (Kd.R_reads' HO_4.out).2.2 (ji9) p135 q135
                cases e135
                replace p135 := eq_true p135
                replace q135 := eq_true q135
                refine start_ (n := 11) (S := fun w' => w'.cell? ⟨gb134, 0, none⟩ = some (.int .i64 ((rd_T64 l0 x10_1).f0)) ∧ w'.cell? ⟨gb134, 1, none⟩ = some (.int .i64 ((rd_T64 l0 x10_1).f1)) ∧ w'.cell? ⟨gb134, 2, none⟩ = some (.int .i64 ((rd_T64 l0 x10_1).f2)) ∧ w'.cell? (ad135.add (((ji9)).toNat * 3)) = some (.int .i64 ((rd_T64 x4_1 (ji9)).f0)) ∧ w'.cell? ⟨(ad135.add (((ji9)).toNat * 3)).block, (ad135.add (((ji9)).toNat * 3)).off + 1, none⟩ = some (.int .i64 ((rd_T64 x4_1 (ji9)).f1)) ∧ w'.cell? ⟨(ad135.add (((ji9)).toNat * 3)).block, (ad135.add (((ji9)).toNat * 3)).off + 2, none⟩ = some (.int .i64 ((rd_T64 x4_1 (ji9)).f2))) (ds := []) (M_ 0 11) (by kernel_rfl) rfl rfl ⟨(blk_cell BK134.out 0).trans rfl, (blk_cell BK134.out 1).trans rfl, (blk_cell BK134.out 2).trans rfl, hx135_0, hx135_1, hx135_2⟩ (fun hHeld => ?_); refine with_tabW spec_shSorted.tab6 spec_shSorted.bits6 (fun HT_ HW_ => ?_)
                generalize wr.drew = w23 at HO_4 BK134 HB hx135_0 hx135_1 hx135_2 hHeld ⊢
                refine pu_ 0 16 (M_ 1 10) ?_
                refine pu_ 1 17 (M_ 2 9) ?_
                refine pu_ 2 18 (M_ 3 8) ?_
                refine pu_ 4 20 (N_ 11 23) ?_
                refine pu_ 5 21 (N_ 11 55) ?_
                refine pu_ 6 22 (N_ 11 119) ?_
                refine pu_ 7 23 (N_ 11 247) ?_
                refine tk6_ 3 19 (M_ 8 3) hHeld ?_
                refine tk6_ 8 24 (M_ 9 2) hHeld ?_
                refine one_ (i := 9) (N := some 25) (M_ 10 1) rfl rfl (one_of HT_.out (by kernel_rfl)) (by decide) (fun K hK => ?_)
                refine goes_ Try.func49 (by kernel_rfl) rfl #[.agg #[.int .i64 ((rd_T64 l0 x10_1).f0), .int .i64 ((rd_T64 l0 x10_1).f1), .int .i64 ((rd_T64 l0 x10_1).f2)], .agg #[.int .i64 ((rd_T64 x4_1 (ji9)).f0), .int .i64 ((rd_T64 x4_1 (ji9)).f1), .int .i64 ((rd_T64 x4_1 (ji9)).f2)]] (by rfl) rfl rfl (Z184) ?_
                with_reducible refine (spec_shBefore.calls ((rd_T64 l0 x10_1).f0) ((rd_T64 l0 x10_1).f1) ((rd_T64 l0 x10_1).f2) ((rd_T64 x4_1 (ji9)).f0) ((rd_T64 x4_1 (ji9)).f1) ((rd_T64 x4_1 (ji9)).f2) false _ A12.out).mono ?_
                rintro e w24 ⟨rfl, hb⟩
                have HS3_ := (hb.cell (World.block_lt_of_cell? _ _ (hHeld.2.2.2.1))).trans (hHeld.2.2.2.1)
                have HS4_ := (hb.cell (World.block_lt_of_cell? _ _ (hHeld.2.2.2.2.1))).trans (hHeld.2.2.2.2.1)
                have HS5_ := (hb.cell (World.block_lt_of_cell? _ _ (hHeld.2.2.2.2.2))).trans (hHeld.2.2.2.2.2)
                refine ⟨_, rfl, ?_⟩
                have n0_ := Aside0.mk (Ya_ HO_4.out)
                have n1_ := Aside0.mk (blk_below (g := gb134) (o := .cells #[.int .i64 ((rd_T64 l0 x10_1).f0), .int .i64 ((rd_T64 l0 x10_1).f1), .int .i64 ((rd_T64 l0 x10_1).f2)] 64 (0, 0)) (Z2 BK134.out) hb)
                have n2_ := Aside0.mk (below_step (Z12) hb)
                clear HO_4
                clear BK134
                clear HB
                have HO_4 := n0_
                have BK134 := n1_
                have HB := n2_
                clear n0_ n1_ n2_
                (try clear hb)
                (try clear hb2)
                (try clear hk)
                (try clear hi)
                refine hK.out _ _ ⟨(blk_cell BK134.out 0).trans rfl, (blk_cell BK134.out 1).trans rfl, (blk_cell BK134.out 2).trans rfl, HS3_, HS4_, HS5_⟩ (fun hHeld => ?_)
                clear hK K
                refine norm_ (a' := ?_) ?_ ?_
                rotate_left
                ·show Act.put _ (some 25) _ = _
                 simp only [Act.put, List.setIfInBounds_toArray, List.set_cons_zero, List.set_cons_succ, i64_w, i32_w]
                 rfl
                refine pu_ 10 26 (M_ 11 0) ?_
                refine done_ (done_of HT_.out (by kernel_rfl)) ?_
                try go_wp2
                refine k3_ (Kd.R_drew HO_4.out) (blk_drew BK134.out) (below_drew1 HB.out) ?_
                clear HO_4 BK134 HB
                intro HO_4 BK134 HB
                have q26 : (x7_2 : Int) ≤ ((x4_1.length : Int) : Int) := of_decide_eq_true (Z18)
                obtain ⟨i026, hi026, _, hsz26, _⟩ := info_parts info64
                have hroom26 : x4_1.length ≤ co7 := (Kd.R_reads' HO_4.out).2.1
                have hC26 : Kd.C k64 _ (some ad135) x4_1.length x4_1 := (Kd.R_reads' HO_4.out).2.2
                have hcut26 := cut_to (P := Try.prog) 23 64 .i64 Try.underlying23 hi026 (some ad135) x4_1.length co7 x7_2 (of_decide_eq_true (Z18)) q26 hroom26
                have hr26 := Kd.C_take (m := (x7_2 : Int).toNat) hC26 (by omega)
                have hy26 : y140.length = (x7_2 : Int).toNat := (by rw [Ny140.out, List.length_take]; omega)
                rw [← Ny140.out] at hr26
                rw [← hy26] at hcut26
                have HR143 := Aside0.mk hr26
                have HC143 := Aside0.mk (show y140.length ≤ co7 from by omega)
                clear hr26 hC26 hroom26 hi026 hsz26
                have KY26 := Aside0.mk hy26
                clear hy26
                have KL26 := Aside0.mk (show (x7_2 : Int).toNat ≤ x4_1.length from by omega)
                replace q26 := eq_true q26
                have q27 : (x7_2 : Int) ≤ ((x4_1.length : Int) : Int) := of_decide_eq_true (Z18)
                obtain ⟨i027, hi027, _, hsz27, _⟩ := info_parts info64
                have hroom27 : x4_1.length ≤ co7 := (Kd.R_reads' HO_4.out).2.1
                have hC27 : Kd.C k64 _ (some ad135) x4_1.length x4_1 := (Kd.R_reads' HO_4.out).2.2
                have q027 : (0 : Int) ≤ (x7_2 : Int) := of_decide_eq_true (Z18)
                have hcut27 := cut_from (P := Try.prog) 23 64 .i64 Try.underlying23 hi027 3 hsz27 (some ad135) x4_1.length co7 x7_2 q027 q27
                have hr27 := Kd.C_drop (m := (x7_2 : Int).toNat) (c := co7) hC27 (by omega) hroom27
                obtain ⟨A27, hA27⟩ : ∃ A1, A1 = (if co7 = (x7_2 : Int).toNat then (some ad135) else ((some ad135) : Option Addr).map (·.add ((x7_2 : Int).toNat * 3))) := ⟨_, rfl⟩
                obtain ⟨c27, hc27⟩ : ∃ c1, c1 = co7 - (x7_2 : Int).toNat := ⟨_, rfl⟩
                have hy27 : y153.length = x4_1.length - (x7_2 : Int).toNat := (by rw [Ny153.out, List.length_drop] <;> omega)
                rw [show (x4_1).drop (x7_2 : Int).toNat = y153 from Ny153.out.symm] at hr27
                replace hr27 : Kd.C k64 _ A27 y153.length y153 := (by rw [hA27]; exact hr27)
                rw [← hy27, ← hA27, ← hc27] at hcut27
                have HR156 := Aside0.mk hr27
                have HC156 := Aside0.mk (show y153.length ≤ c27 from by rw [hy27, hc27]; exact Nat.sub_le_sub_right hroom27 _)
                clear hr27 hC27 hroom27 hi027 hsz27 hc27
                have KY27 := Aside0.mk hy27
                have KA27 := Aside0.mk hA27
                clear hy27 hA27
                have KL27 := Aside0.mk (show (x7_2 : Int).toNat ≤ x4_1.length from by omega)
                replace q27 := eq_true q27
                refine start_ (n := 13) (S := fun w' => w'.cell? ⟨gb134, 0, none⟩ = some (.int .i64 ((rd_T64 l0 x10_1).f0)) ∧ w'.cell? ⟨gb134, 1, none⟩ = some (.int .i64 ((rd_T64 l0 x10_1).f1)) ∧ w'.cell? ⟨gb134, 2, none⟩ = some (.int .i64 ((rd_T64 l0 x10_1).f2))) (ds := []) (M_ 0 13) (by kernel_rfl) rfl rfl ⟨(blk_cell BK134.out 0).trans rfl, (blk_cell BK134.out 1).trans rfl, (blk_cell BK134.out 2).trans rfl⟩ (fun hHeld => ?_); refine with_tabW spec_shSorted.tab8 spec_shSorted.bits8 (fun HT_ HW_ => ?_)
                generalize w24.drew = w25 at HO_4 BK134 HB HR143 HR156 hHeld ⊢
                refine pu_ 1 30 (N_ 13 2) ?_
                refine pu_ 2 31 (N_ 13 6) ?_
                refine pu_ 3 32 (N_ 13 14) ?_
                refine pu_ 8 37 (N_ 13 270) ?_
                refine pu_ 9 38 (N_ 13 782) ?_
                refine pu_ 10 39 (N_ 13 1806) ?_
                refine tk3_ 5 34 (N_ 13 1838) hHeld ?_
                refine join_ (σ := Value × Value × Value) 3 (N_ 13 1919) (fun s_ => [(29, s_.1), (33, s_.2.1), (35, s_.2.2)]) (fun s_ w' => (w'.cell? ⟨gb134, 0, none⟩ = some (.int .i64 ((rd_T64 l0 x10_1).f0)) ∧ w'.cell? ⟨gb134, 1, none⟩ = some (.int .i64 ((rd_T64 l0 x10_1).f1)) ∧ w'.cell? ⟨gb134, 2, none⟩ = some (.int .i64 ((rd_T64 l0 x10_1).f2))) ∧ (Kd.R k64 64 w' w.heap.size (fun k_ => some k_ ≠ (s_.2.2 : Value).ownBlock ∧ some k_ ≠ (.slice (some ad135) x4_1.length co7 : Value).ownBlock ∧ k_ ≠ gb134) s_.2.1 y144) ∧ (Kd.R k64 64 w' w.heap.size (fun k_ => some k_ ≠ (s_.2.1 : Value).ownBlock ∧ some k_ ≠ (.slice (some ad135) x4_1.length co7 : Value).ownBlock ∧ k_ ≠ gb134) s_.2.2 y147) ∧ (Kd.R k64 64 w' w.heap.size (fun k_ => some k_ ≠ (s_.2.1 : Value).ownBlock ∧ some k_ ≠ (s_.2.2 : Value).ownBlock ∧ k_ ≠ gb134) (.slice (some ad135) x4_1.length co7) x4_1) ∧ (w'.heap[gb134]? = some (.cells #[.int .i64 ((rd_T64 l0 x10_1).f0), .int .i64 ((rd_T64 l0 x10_1).f1), .int .i64 ((rd_T64 l0 x10_1).f2)] 64 (0, 0))) ∧ (Below w.heap.size w w')) ?_ ?_
                rotate_left
                ·intro hCont
                 refine two_ (i := 0) (j := 6) (Ni := some 29) (Nj := some 35) (N_ 13 1839) (N_ 13 1902) rfl rfl rfl rfl (two_of HT_.out (by kernel_rfl)) (by decide) (by decide) (fun K hK => ?_) (fun K hK => ?_)
                 ·skip
                  refine Kd.R_lit_step k64 _ 64 ?hg (N := 29) ?hd (xs := ([] : List (S64))) (inner := []) (ok := fun _ => True) (okp := fun _ => True) ?hr ?hp (fun _ hk => hk) trivial (Below.refl _ _) (Nat.le_refl _) (by simp) ?_; (case hd => rfl); (case hg => rfl); (case hr => exact Z100); (case hp => exact (Reps.none _ _))
                  intro v138 w28 ho29 hb hg_ hnew_
                  clear hg_ hnew_
                  (first | rw [← Ny137.out] at ho29 | (simp only [Int.reduceToNat] at ho29; rw [← Ny137.out] at ho29))
                  have n0_ := Aside0.mk (Kd.R_elder' (Z1 HO_4.out) (Kd.R_base ho29) hb)
                  have n1_ := Aside0.mk (Kd.R_lower (Kd.R_newB (Kd.R_new' ho29 (Yd_ HO_4.out)) (g := gb134) (o := .cells #[.int .i64 ((rd_T64 l0 x10_1).f0), .int .i64 ((rd_T64 l0 x10_1).f1), .int .i64 ((rd_T64 l0 x10_1).f2)] 64 (0, 0)) (Z2 BK134.out)) (below_size (Z12)))
                  have n2_ := Aside0.mk (blk_below (g := gb134) (o := .cells #[.int .i64 ((rd_T64 l0 x10_1).f0), .int .i64 ((rd_T64 l0 x10_1).f1), .int .i64 ((rd_T64 l0 x10_1).f2)] 64 (0, 0)) (Z2 BK134.out) hb)
                  have n3_ := Aside0.mk (Kd.C_below (Z24 HR143.out) hb)
                  have n4_ := Aside0.mk (Kd.C_below (Z24 HR156.out) hb)
                  have n5_ := Aside0.mk (below_step (Z12) hb)
                  clear HO_4
                  clear BK134
                  clear HR143
                  clear HR156
                  clear HB
                  have HO_4 := n0_
                  have HO139 := n1_
                  have BK134 := n2_
                  have HR143 := n3_
                  have HR156 := n4_
                  have HB := n5_
                  clear n0_ n1_ n2_ n3_ n4_ n5_
                  clear hb ho29
                  refine hK.out _ _ ⟨(blk_cell BK134.out 0).trans rfl, (blk_cell BK134.out 1).trans rfl, (blk_cell BK134.out 2).trans rfl⟩ (fun hHeld => ?_)
                  clear hK K
                  refine norm_ (a' := ?_) ?_ ?_
                  rotate_left
                  ·show Act.put _ (some 29) _ = _
                   simp only [Act.put, List.setIfInBounds_toArray, List.set_cons_zero, List.set_cons_succ, i64_w, i32_w]
                   rfl
                  refine two_ (i := 4) (j := 6) (Ni := some 33) (Nj := some 35) (N_ 13 1855) (N_ 13 1903) rfl rfl rfl rfl (two_of HT_.out (by kernel_rfl)) (by decide) (by decide) (fun K hK => ?_) (fun K hK => ?_)
                  ·skip
                   refine Kd.R_append_rows_step k64 (w0 := w) w.heap.size (by rfl) (.tmp 29) (.tmp 32) 23 64 (.agg #[(.int .i64 0), (.int .i64 0), (.int .i64 0)]) 24 rfl Try.underlying23 info64 rfl (by decide) (by omega) v138 y137 y140 _ _ _ (fun k_ => some k_ ≠ (.slice (some ad135) x4_1.length co7 : Value).ownBlock ∧ k_ ≠ gb134) (fun _ => False) rfl rfl ?aO ?aR (fun _ _ h => h) (fun _ h => h.elim) ?aF ?aB ?aS ?aL ?_
                   (case aR => exact Z114 HR143.out)
                   (case aB => exact Z12)
                   (case aF => exact (fun k_ hk => ⟨Kd.fresh' (Yd_ HO_4.out) k_ hk, Kd.freshB (g := gb134) (o := .cells #[.int .i64 ((rd_T64 l0 x10_1).f0), .int .i64 ((rd_T64 l0 x10_1).f1), .int .i64 ((rd_T64 l0 x10_1).f2)] 64 (0, 0)) (Z2 BK134.out) k_ hk⟩))
                   (case aO => exact Z134 HO139.out)
                   (case aS => exact (below_size (Z12)))
                   (case aL => have := LMc18.out; omega)
                   intro v145 w30 ho hb hg hat
                   rw [← Ny144.out] at ho
                   have n0_ := Aside0.mk (Kd.R_after (ok := (fun k_ => k_ ≠ gb134)) (Z1 HO_4.out) hg hat)
                   have n1_ := Aside0.mk (blk_grown (g := gb134) (o := .cells #[.int .i64 ((rd_T64 l0 x10_1).f0), .int .i64 ((rd_T64 l0 x10_1).f1), .int .i64 ((rd_T64 l0 x10_1).f2)] 64 (0, 0)) (Z2 BK134.out) hg (Kd.R_away HO139.out (fun _ hk => hk.2)))
                   have n2_ := Aside0.mk (hb)
                   have n3_ := Aside0.mk ((show Kd.C k64 w30 (some ad135) y140.length y140 from by rw [Ny140.out]; exact Kd.C_take (m := (x7_2 : Int).toNat) ((Kd.R_reads' (Kd.R_after (ok := (fun k_ => k_ ≠ gb134)) (Z1 HO_4.out) hg hat)).2.2) KL26.out))
                   have n4_ := Aside0.mk ((show Kd.C k64 w30 A27 y153.length y153 from by rw [Ny153.out, KA27.out]; exact Kd.C_drop (m := (x7_2 : Int).toNat) (c := co7) ((Kd.R_reads' (Kd.R_after (ok := (fun k_ => k_ ≠ gb134)) (Z1 HO_4.out) hg hat)).2.2) KL27.out ((Kd.R_reads' (Kd.R_after (ok := (fun k_ => k_ ≠ gb134)) (Z1 HO_4.out) hg hat)).2.1)))
                   have n5_ := Aside0.mk (ho)
                   clear HO_4
                   clear BK134
                   clear HB
                   clear HR143
                   clear HR156
                   clear HO139
                   have HO_4 := n0_
                   have BK134 := n1_
                   have HB := n2_
                   have HR143 := n3_
                   have HR156 := n4_
                   have HO146 := n5_
                   clear n0_ n1_ n2_ n3_ n4_ n5_
                   clear ho hb hg hat
                   refine hK.out _ _ ⟨(blk_cell BK134.out 0).trans rfl, (blk_cell BK134.out 1).trans rfl, (blk_cell BK134.out 2).trans rfl⟩ (fun hHeld => ?_)
                   clear hK K
                   refine norm_ (a' := ?_) ?_ ?_
                   rotate_left
                   ·show Act.put _ (some 33) _ = _
                    simp only [Act.put, List.setIfInBounds_toArray, List.set_cons_zero, List.set_cons_succ, i64_w, i32_w]
                    rfl
                   refine one_ (i := 6) (N := some 35) (N_ 13 1919) rfl rfl (one_of HT_.out (by kernel_rfl)) (by decide) (fun K hK => ?_)
                   refine Kd.R_lit_step k64 _ 64 ?hg (N := 35) ?hd (xs := ([(⟨((rd_T64 l0 x10_1).f0), ((rd_T64 l0 x10_1).f1), ((rd_T64 l0 x10_1).f2)⟩ : S64)] : List (S64))) (inner := [.int .i64 ((rd_T64 l0 x10_1).f0), .int .i64 ((rd_T64 l0 x10_1).f1), .int .i64 ((rd_T64 l0 x10_1).f2)]) (ok := fun _ => True) (okp := fun _ => True) ?hr ?hp (fun _ hk => hk) trivial (Below.refl _ _) (Nat.le_refl _) (by simp) ?_; (case hd => rfl); (case hg => rfl); (case hr => exact Z100); (case hp => exact (Reps.c3 (show Kd.M k64 _ _ _ (⟨((rd_T64 l0 x10_1).f0), ((rd_T64 l0 x10_1).f1), ((rd_T64 l0 x10_1).f2)⟩ : S64) [.int .i64 ((rd_T64 l0 x10_1).f0), .int .i64 ((rd_T64 l0 x10_1).f1), .int .i64 ((rd_T64 l0 x10_1).f2)] from (k64_mkM _ _ _ (⟨((rd_T64 l0 x10_1).f0), ((rd_T64 l0 x10_1).f1), ((rd_T64 l0 x10_1).f2)⟩ : S64) )) (Reps.none _ _)))
                   intro v148 w31 ho32 hb hg_ hnew_
                   clear hg_ hnew_
                   (first | rw [← Ny147.out] at ho32 | (simp only [Int.reduceToNat] at ho32; rw [← Ny147.out] at ho32))
                   have n0_ := Aside0.mk (Kd.R_elder' (Z1 HO_4.out) (Kd.R_base ho32) hb)
                   have n1_ := Aside0.mk (Kd.R_elder' (Z1 HO146.out) (Kd.R_base ho32) hb)
                   have n2_ := Aside0.mk (Kd.R_lower (Kd.R_newB (Kd.R_new' (Kd.R_new' ho32 (Yd_ HO_4.out)) (Yd_ HO146.out)) (g := gb134) (o := .cells #[.int .i64 ((rd_T64 l0 x10_1).f0), .int .i64 ((rd_T64 l0 x10_1).f1), .int .i64 ((rd_T64 l0 x10_1).f2)] 64 (0, 0)) (Z2 BK134.out)) (below_size (Z12)))
                   have n3_ := Aside0.mk (blk_below (g := gb134) (o := .cells #[.int .i64 ((rd_T64 l0 x10_1).f0), .int .i64 ((rd_T64 l0 x10_1).f1), .int .i64 ((rd_T64 l0 x10_1).f2)] 64 (0, 0)) (Z2 BK134.out) hb)
                   have n4_ := Aside0.mk (Kd.C_below (Z24 HR143.out) hb)
                   have n5_ := Aside0.mk (Kd.C_below (Z24 HR156.out) hb)
                   have n6_ := Aside0.mk (below_step (Z12) hb)
                   clear HO_4
                   clear HO146
                   clear BK134
                   clear HR143
                   clear HR156
                   clear HB
                   have HO_4 := n0_
                   have HO146 := n1_
                   have HO149 := n2_
                   have BK134 := n3_
                   have HR143 := n4_
                   have HR156 := n5_
                   have HB := n6_
                   clear n0_ n1_ n2_ n3_ n4_ n5_ n6_
                   clear hb ho32
                   refine hK.out _ _ ⟨(blk_cell BK134.out 0).trans rfl, (blk_cell BK134.out 1).trans rfl, (blk_cell BK134.out 2).trans rfl⟩ (fun hHeld => ?_)
                   clear hK K
                   refine norm_ (a' := ?_) ?_ ?_
                   rotate_left
                   ·show Act.put _ (some 35) _ = _
                    simp only [Act.put, List.setIfInBounds_toArray, List.set_cons_zero, List.set_cons_succ, i64_w, i32_w]
                    rfl
                   exact norm_ (Z109) (hCont (v138, v145, v148) _ ⟨hHeld, (Z101 HO146.out), (Z223 HO149.out), (Z193), (Z2 BK134.out), (Z12)⟩)
                  skip
                  refine Kd.R_lit_step k64 _ 64 ?hg (N := 35) ?hd (xs := ([(⟨((rd_T64 l0 x10_1).f0), ((rd_T64 l0 x10_1).f1), ((rd_T64 l0 x10_1).f2)⟩ : S64)] : List (S64))) (inner := [.int .i64 ((rd_T64 l0 x10_1).f0), .int .i64 ((rd_T64 l0 x10_1).f1), .int .i64 ((rd_T64 l0 x10_1).f2)]) (ok := fun _ => True) (okp := fun _ => True) ?hr ?hp (fun _ hk => hk) trivial (Below.refl _ _) (Nat.le_refl _) (by simp) ?_; (case hd => rfl); (case hg => rfl); (case hr => exact Z100); (case hp => exact (Reps.c3 (show Kd.M k64 _ _ _ (⟨((rd_T64 l0 x10_1).f0), ((rd_T64 l0 x10_1).f1), ((rd_T64 l0 x10_1).f2)⟩ : S64) [.int .i64 ((rd_T64 l0 x10_1).f0), .int .i64 ((rd_T64 l0 x10_1).f1), .int .i64 ((rd_T64 l0 x10_1).f2)] from (k64_mkM _ _ _ (⟨((rd_T64 l0 x10_1).f0), ((rd_T64 l0 x10_1).f1), ((rd_T64 l0 x10_1).f2)⟩ : S64) )) (Reps.none _ _)))
                  intro v148 w30 ho31 hb hg_ hnew_
                  clear hg_ hnew_
                  (first | rw [← Ny147.out] at ho31 | (simp only [Int.reduceToNat] at ho31; rw [← Ny147.out] at ho31))
                  have n0_ := Aside0.mk (Kd.R_elder' (Z1 HO_4.out) (Kd.R_base ho31) hb)
                  have n1_ := Aside0.mk (Kd.R_elder' (Z1 HO139.out) (Kd.R_base ho31) hb)
                  have n2_ := Aside0.mk (Kd.R_lower (Kd.R_newB (Kd.R_new' (Kd.R_new' ho31 (Yd_ HO_4.out)) (Yd_ HO139.out)) (g := gb134) (o := .cells #[.int .i64 ((rd_T64 l0 x10_1).f0), .int .i64 ((rd_T64 l0 x10_1).f1), .int .i64 ((rd_T64 l0 x10_1).f2)] 64 (0, 0)) (Z2 BK134.out)) (below_size (Z12)))
                  have n3_ := Aside0.mk (blk_below (g := gb134) (o := .cells #[.int .i64 ((rd_T64 l0 x10_1).f0), .int .i64 ((rd_T64 l0 x10_1).f1), .int .i64 ((rd_T64 l0 x10_1).f2)] 64 (0, 0)) (Z2 BK134.out) hb)
                  have n4_ := Aside0.mk (Kd.C_below (Z24 HR143.out) hb)
                  have n5_ := Aside0.mk (Kd.C_below (Z24 HR156.out) hb)
                  have n6_ := Aside0.mk (below_step (Z12) hb)
                  clear HO_4
                  clear HO139
                  clear BK134
                  clear HR143
                  clear HR156
                  clear HB
                  have HO_4 := n0_
                  have HO139 := n1_
                  have HO149 := n2_
                  have BK134 := n3_
                  have HR143 := n4_
                  have HR156 := n5_
                  have HB := n6_
                  clear n0_ n1_ n2_ n3_ n4_ n5_ n6_
                  clear hb ho31
                  refine hK.out _ _ ⟨(blk_cell BK134.out 0).trans rfl, (blk_cell BK134.out 1).trans rfl, (blk_cell BK134.out 2).trans rfl⟩ (fun hHeld => ?_)
                  clear hK K
                  refine norm_ (a' := ?_) ?_ ?_
                  rotate_left
                  ·show Act.put _ (some 35) _ = _
                   simp only [Act.put, List.setIfInBounds_toArray, List.set_cons_zero, List.set_cons_succ, i64_w, i32_w]
                   rfl
                  refine one_ (i := 4) (N := some 33) (N_ 13 1919) rfl rfl (one_of HT_.out (by kernel_rfl)) (by decide) (fun K hK => ?_)
                  refine Kd.R_append_rows_step k64 (w0 := w) w.heap.size (by rfl) (.tmp 29) (.tmp 32) 23 64 (.agg #[(.int .i64 0), (.int .i64 0), (.int .i64 0)]) 24 rfl Try.underlying23 info64 rfl (by decide) (by omega) v138 y137 y140 _ _ _ (fun k_ => some k_ ≠ (.slice (some ad135) x4_1.length co7 : Value).ownBlock ∧ some k_ ≠ (v148 : Value).ownBlock ∧ k_ ≠ gb134) (fun _ => False) rfl rfl ?aO ?aR (fun _ _ h => h) (fun _ h => h.elim) ?aF ?aB ?aS ?aL ?_
                  (case aR => exact Z114 HR143.out)
                  (case aB => exact Z12)
                  (case aF => exact (fun k_ hk => ⟨Kd.fresh' (Yd_ HO_4.out) k_ hk, Kd.fresh' (Yd_ HO149.out) k_ hk, Kd.freshB (g := gb134) (o := .cells #[.int .i64 ((rd_T64 l0 x10_1).f0), .int .i64 ((rd_T64 l0 x10_1).f1), .int .i64 ((rd_T64 l0 x10_1).f2)] 64 (0, 0)) (Z2 BK134.out) k_ hk⟩))
                  (case aO => exact Z224 HO139.out)
                  (case aS => exact (below_size (Z12)))
                  (case aL => have := LMc18.out; omega)
                  intro v145 w32 ho hb hg hat
                  rw [← Ny144.out] at ho
                  have n0_ := Aside0.mk (Kd.R_after (ok := (fun k_ => some k_ ≠ (v148 : Value).ownBlock ∧ k_ ≠ gb134)) (Z107) hg hat)
                  have n1_ := Aside0.mk (blk_grown (g := gb134) (o := .cells #[.int .i64 ((rd_T64 l0 x10_1).f0), .int .i64 ((rd_T64 l0 x10_1).f1), .int .i64 ((rd_T64 l0 x10_1).f2)] 64 (0, 0)) (Z2 BK134.out) hg (Kd.R_away HO139.out (fun _ hk => hk.1.2)))
                  have n2_ := Aside0.mk (Kd.R_after (ok := (fun k_ => some k_ ≠ (.slice (some ad135) x4_1.length co7 : Value).ownBlock ∧ k_ ≠ gb134)) (Z225 HO149.out) hg hat)
                  have n3_ := Aside0.mk (hb)
                  have n4_ := Aside0.mk ((show Kd.C k64 w32 (some ad135) y140.length y140 from by rw [Ny140.out]; exact Kd.C_take (m := (x7_2 : Int).toNat) ((Kd.R_reads' (Kd.R_after (ok := (fun k_ => some k_ ≠ (v148 : Value).ownBlock ∧ k_ ≠ gb134)) (Z107) hg hat)).2.2) KL26.out))
                  have n5_ := Aside0.mk ((show Kd.C k64 w32 A27 y153.length y153 from by rw [Ny153.out, KA27.out]; exact Kd.C_drop (m := (x7_2 : Int).toNat) (c := co7) ((Kd.R_reads' (Kd.R_after (ok := (fun k_ => some k_ ≠ (v148 : Value).ownBlock ∧ k_ ≠ gb134)) (Z107) hg hat)).2.2) KL27.out ((Kd.R_reads' (Kd.R_after (ok := (fun k_ => some k_ ≠ (v148 : Value).ownBlock ∧ k_ ≠ gb134)) (Z107) hg hat)).2.1)))
                  have n6_ := Aside0.mk (ho)
                  clear HO_4
                  clear BK134
                  clear HO149
                  clear HB
                  clear HR143
                  clear HR156
                  clear HO139
                  have HO_4 := n0_
                  have BK134 := n1_
                  have HO149 := n2_
                  have HB := n3_
                  have HR143 := n4_
                  have HR156 := n5_
                  have HO146 := n6_
                  clear n0_ n1_ n2_ n3_ n4_ n5_ n6_
                  clear ho hb hg hat
                  refine hK.out _ _ ⟨(blk_cell BK134.out 0).trans rfl, (blk_cell BK134.out 1).trans rfl, (blk_cell BK134.out 2).trans rfl⟩ (fun hHeld => ?_)
                  clear hK K
                  refine norm_ (a' := ?_) ?_ ?_
                  rotate_left
                  ·show Act.put _ (some 33) _ = _
                   simp only [Act.put, List.setIfInBounds_toArray, List.set_cons_zero, List.set_cons_succ, i64_w, i32_w]
                   rfl
                  exact norm_ (Z109) (hCont (v138, v145, v148) _ ⟨hHeld, (Z124 HO146.out), (Z101 HO149.out), (Z101 HO_4.out), (Z2 BK134.out), (Z12)⟩)
                 skip
                 refine Kd.R_lit_step k64 _ 64 ?hg (N := 35) ?hd (xs := ([(⟨((rd_T64 l0 x10_1).f0), ((rd_T64 l0 x10_1).f1), ((rd_T64 l0 x10_1).f2)⟩ : S64)] : List (S64))) (inner := [.int .i64 ((rd_T64 l0 x10_1).f0), .int .i64 ((rd_T64 l0 x10_1).f1), .int .i64 ((rd_T64 l0 x10_1).f2)]) (ok := fun _ => True) (okp := fun _ => True) ?hr ?hp (fun _ hk => hk) trivial (Below.refl _ _) (Nat.le_refl _) (by simp) ?_; (case hd => rfl); (case hg => rfl); (case hr => exact Z100); (case hp => exact (Reps.c3 (show Kd.M k64 _ _ _ (⟨((rd_T64 l0 x10_1).f0), ((rd_T64 l0 x10_1).f1), ((rd_T64 l0 x10_1).f2)⟩ : S64) [.int .i64 ((rd_T64 l0 x10_1).f0), .int .i64 ((rd_T64 l0 x10_1).f1), .int .i64 ((rd_T64 l0 x10_1).f2)] from (k64_mkM _ _ _ (⟨((rd_T64 l0 x10_1).f0), ((rd_T64 l0 x10_1).f1), ((rd_T64 l0 x10_1).f2)⟩ : S64) )) (Reps.none _ _)))
                 intro v148 w28 ho29 hb hg_ hnew_
                 clear hg_ hnew_
                 (first | rw [← Ny147.out] at ho29 | (simp only [Int.reduceToNat] at ho29; rw [← Ny147.out] at ho29))
                 have n0_ := Aside0.mk (Kd.R_elder' (Z1 HO_4.out) (Kd.R_base ho29) hb)
                 have n1_ := Aside0.mk (Kd.R_lower (Kd.R_newB (Kd.R_new' ho29 (Yd_ HO_4.out)) (g := gb134) (o := .cells #[.int .i64 ((rd_T64 l0 x10_1).f0), .int .i64 ((rd_T64 l0 x10_1).f1), .int .i64 ((rd_T64 l0 x10_1).f2)] 64 (0, 0)) (Z2 BK134.out)) (below_size (Z12)))
                 have n2_ := Aside0.mk (blk_below (g := gb134) (o := .cells #[.int .i64 ((rd_T64 l0 x10_1).f0), .int .i64 ((rd_T64 l0 x10_1).f1), .int .i64 ((rd_T64 l0 x10_1).f2)] 64 (0, 0)) (Z2 BK134.out) hb)
                 have n3_ := Aside0.mk (Kd.C_below (Z24 HR143.out) hb)
                 have n4_ := Aside0.mk (Kd.C_below (Z24 HR156.out) hb)
                 have n5_ := Aside0.mk (below_step (Z12) hb)
                 clear HO_4
                 clear BK134
                 clear HR143
                 clear HR156
                 clear HB
                 have HO_4 := n0_
                 have HO149 := n1_
                 have BK134 := n2_
                 have HR143 := n3_
                 have HR156 := n4_
                 have HB := n5_
                 clear n0_ n1_ n2_ n3_ n4_ n5_
                 clear hb ho29
                 refine hK.out _ _ ⟨(blk_cell BK134.out 0).trans rfl, (blk_cell BK134.out 1).trans rfl, (blk_cell BK134.out 2).trans rfl⟩ (fun hHeld => ?_)
                 clear hK K
                 refine norm_ (a' := ?_) ?_ ?_
                 rotate_left
                 ·show Act.put _ (some 35) _ = _
                  simp only [Act.put, List.setIfInBounds_toArray, List.set_cons_zero, List.set_cons_succ, i64_w, i32_w]
                  rfl
                 refine one_ (i := 0) (N := some 29) (N_ 13 1903) rfl rfl (one_of HT_.out (by kernel_rfl)) (by decide) (fun K hK => ?_)
                 refine Kd.R_lit_step k64 _ 64 ?hg (N := 29) ?hd (xs := ([] : List (S64))) (inner := []) (ok := fun _ => True) (okp := fun _ => True) ?hr ?hp (fun _ hk => hk) trivial (Below.refl _ _) (Nat.le_refl _) (by simp) ?_; (case hd => rfl); (case hg => rfl); (case hr => exact Z100); (case hp => exact (Reps.none _ _))
                 intro v138 w30 ho31 hb hg_ hnew_
                 clear hg_ hnew_
                 (first | rw [← Ny137.out] at ho31 | (simp only [Int.reduceToNat] at ho31; rw [← Ny137.out] at ho31))
                 have n0_ := Aside0.mk (Kd.R_elder' (Z1 HO_4.out) (Kd.R_base ho31) hb)
                 have n1_ := Aside0.mk (Kd.R_elder' (Z1 HO149.out) (Kd.R_base ho31) hb)
                 have n2_ := Aside0.mk (Kd.R_lower (Kd.R_newB (Kd.R_new' (Kd.R_new' ho31 (Yd_ HO_4.out)) (Yd_ HO149.out)) (g := gb134) (o := .cells #[.int .i64 ((rd_T64 l0 x10_1).f0), .int .i64 ((rd_T64 l0 x10_1).f1), .int .i64 ((rd_T64 l0 x10_1).f2)] 64 (0, 0)) (Z2 BK134.out)) (below_size (Z12)))
                 have n3_ := Aside0.mk (blk_below (g := gb134) (o := .cells #[.int .i64 ((rd_T64 l0 x10_1).f0), .int .i64 ((rd_T64 l0 x10_1).f1), .int .i64 ((rd_T64 l0 x10_1).f2)] 64 (0, 0)) (Z2 BK134.out) hb)
                 have n4_ := Aside0.mk (Kd.C_below (Z24 HR143.out) hb)
                 have n5_ := Aside0.mk (Kd.C_below (Z24 HR156.out) hb)
                 have n6_ := Aside0.mk (below_step (Z12) hb)
                 clear HO_4
                 clear HO149
                 clear BK134
                 clear HR143
                 clear HR156
                 clear HB
                 have HO_4 := n0_
                 have HO149 := n1_
                 have HO139 := n2_
                 have BK134 := n3_
                 have HR143 := n4_
                 have HR156 := n5_
                 have HB := n6_
                 clear n0_ n1_ n2_ n3_ n4_ n5_ n6_
                 clear hb ho31
                 refine hK.out _ _ ⟨(blk_cell BK134.out 0).trans rfl, (blk_cell BK134.out 1).trans rfl, (blk_cell BK134.out 2).trans rfl⟩ (fun hHeld => ?_)
                 clear hK K
                 refine norm_ (a' := ?_) ?_ ?_
                 rotate_left
                 ·show Act.put _ (some 29) _ = _
                  simp only [Act.put, List.setIfInBounds_toArray, List.set_cons_zero, List.set_cons_succ, i64_w, i32_w]
                  rfl
                 refine one_ (i := 4) (N := some 33) (N_ 13 1919) rfl rfl (one_of HT_.out (by kernel_rfl)) (by decide) (fun K hK => ?_)
                 refine Kd.R_append_rows_step k64 (w0 := w) w.heap.size (by rfl) (.tmp 29) (.tmp 32) 23 64 (.agg #[(.int .i64 0), (.int .i64 0), (.int .i64 0)]) 24 rfl Try.underlying23 info64 rfl (by decide) (by omega) v138 y137 y140 _ _ _ (fun k_ => some k_ ≠ (.slice (some ad135) x4_1.length co7 : Value).ownBlock ∧ some k_ ≠ (v148 : Value).ownBlock ∧ k_ ≠ gb134) (fun _ => False) rfl rfl ?aO ?aR (fun _ _ h => h) (fun _ h => h.elim) ?aF ?aB ?aS ?aL ?_
                 (case aR => exact Z114 HR143.out)
                 (case aB => exact Z12)
                 (case aF => exact (fun k_ hk => ⟨Kd.fresh' (Yd_ HO_4.out) k_ hk, Kd.fresh' (Yd_ HO149.out) k_ hk, Kd.freshB (g := gb134) (o := .cells #[.int .i64 ((rd_T64 l0 x10_1).f0), .int .i64 ((rd_T64 l0 x10_1).f1), .int .i64 ((rd_T64 l0 x10_1).f2)] 64 (0, 0)) (Z2 BK134.out) k_ hk⟩))
                 (case aO => exact Z122 HO139.out)
                 (case aS => exact (below_size (Z12)))
                 (case aL => have := LMc18.out; omega)
                 intro v145 w32 ho hb hg hat
                 rw [← Ny144.out] at ho
                 have n0_ := Aside0.mk (Kd.R_after (ok := (fun k_ => some k_ ≠ (v148 : Value).ownBlock ∧ k_ ≠ gb134)) (Z108) hg hat)
                 have n1_ := Aside0.mk (blk_grown (g := gb134) (o := .cells #[.int .i64 ((rd_T64 l0 x10_1).f0), .int .i64 ((rd_T64 l0 x10_1).f1), .int .i64 ((rd_T64 l0 x10_1).f2)] 64 (0, 0)) (Z2 BK134.out) hg (Kd.R_away HO139.out (fun _ hk => hk.2)))
                 have n2_ := Aside0.mk (Kd.R_after (ok := (fun k_ => some k_ ≠ (.slice (some ad135) x4_1.length co7 : Value).ownBlock ∧ k_ ≠ gb134)) (Z226 HO149.out) hg hat)
                 have n3_ := Aside0.mk (hb)
                 have n4_ := Aside0.mk ((show Kd.C k64 w32 (some ad135) y140.length y140 from by rw [Ny140.out]; exact Kd.C_take (m := (x7_2 : Int).toNat) ((Kd.R_reads' (Kd.R_after (ok := (fun k_ => some k_ ≠ (v148 : Value).ownBlock ∧ k_ ≠ gb134)) (Z108) hg hat)).2.2) KL26.out))
                 have n5_ := Aside0.mk ((show Kd.C k64 w32 A27 y153.length y153 from by rw [Ny153.out, KA27.out]; exact Kd.C_drop (m := (x7_2 : Int).toNat) (c := co7) ((Kd.R_reads' (Kd.R_after (ok := (fun k_ => some k_ ≠ (v148 : Value).ownBlock ∧ k_ ≠ gb134)) (Z108) hg hat)).2.2) KL27.out ((Kd.R_reads' (Kd.R_after (ok := (fun k_ => some k_ ≠ (v148 : Value).ownBlock ∧ k_ ≠ gb134)) (Z108) hg hat)).2.1)))
                 have n6_ := Aside0.mk (ho)
                 clear HO_4
                 clear BK134
                 clear HO149
                 clear HB
                 clear HR143
                 clear HR156
                 clear HO139
                 have HO_4 := n0_
                 have BK134 := n1_
                 have HO149 := n2_
                 have HB := n3_
                 have HR143 := n4_
                 have HR156 := n5_
                 have HO146 := n6_
                 clear n0_ n1_ n2_ n3_ n4_ n5_ n6_
                 clear ho hb hg hat
                 refine hK.out _ _ ⟨(blk_cell BK134.out 0).trans rfl, (blk_cell BK134.out 1).trans rfl, (blk_cell BK134.out 2).trans rfl⟩ (fun hHeld => ?_)
                 clear hK K
                 refine norm_ (a' := ?_) ?_ ?_
                 rotate_left
                 ·show Act.put _ (some 33) _ = _
                  simp only [Act.put, List.setIfInBounds_toArray, List.set_cons_zero, List.set_cons_succ, i64_w, i32_w]
                  rfl
                 exact norm_ (Z109) (hCont (v138, v145, v148) _ ⟨hHeld, (Z124 HO146.out), (Z101 HO149.out), (Z101 HO_4.out), (Z2 BK134.out), (Z12)⟩)
                rintro ⟨v138, v145, v148⟩ w33 ⟨hS_, h0_, h1_, h2_, h3_, h4_⟩
                have n0_ : Aside0 (Kd.R k64 64 w33 w.heap.size (fun k_ => some k_ ≠ (v148 : Value).ownBlock ∧ some k_ ≠ (.slice (some ad135) x4_1.length co7 : Value).ownBlock ∧ k_ ≠ gb134) v145 y144) := ⟨h0_⟩
                have n1_ : Aside0 (Kd.R k64 64 w33 w.heap.size (fun k_ => some k_ ≠ (v145 : Value).ownBlock ∧ some k_ ≠ (.slice (some ad135) x4_1.length co7 : Value).ownBlock ∧ k_ ≠ gb134) v148 y147) := ⟨h1_⟩
                have n2_ : Aside0 (Kd.R k64 64 w33 w.heap.size (fun k_ => some k_ ≠ (v145 : Value).ownBlock ∧ some k_ ≠ (v148 : Value).ownBlock ∧ k_ ≠ gb134) (.slice (some ad135) x4_1.length co7) x4_1) := ⟨h2_⟩
                have n3_ : Aside0 (w33.heap[gb134]? = some (.cells #[.int .i64 ((rd_T64 l0 x10_1).f0), .int .i64 ((rd_T64 l0 x10_1).f1), .int .i64 ((rd_T64 l0 x10_1).f2)] 64 (0, 0))) := ⟨h3_⟩
                have n4_ : Aside0 (Below w.heap.size w w33) := ⟨h4_⟩
                clear HO_4
                clear BK134
                clear HB
                clear h0_ h1_ h2_ h3_ h4_
                have HO146 := n0_
                have HO149 := n1_
                have HO_4 := n2_
                have BK134 := n3_
                have HB := n4_
                clear n0_ n1_ n2_ n3_ n4_
                have hHeld : w33.cell? ⟨gb134, 0, none⟩ = some (.int .i64 ((rd_T64 l0 x10_1).f0)) ∧ w33.cell? ⟨gb134, 1, none⟩ = some (.int .i64 ((rd_T64 l0 x10_1).f1)) ∧ w33.cell? ⟨gb134, 2, none⟩ = some (.int .i64 ((rd_T64 l0 x10_1).f2)) := hS_
                have n_ := Aside0.mk (show Kd.C k64 _ (some ad135) y140.length y140 from by rw [Ny140.out]; exact Kd.C_take (m := (x7_2 : Int).toNat) ((Kd.R_reads' HO_4.out).2.2) KL26.out)
                (try clear HR143)
                have HR143 := n_
                clear n_
                have n_ := Aside0.mk (show Kd.C k64 _ A27 y153.length y153 from by rw [Ny153.out, KA27.out]; exact Kd.C_drop (m := (x7_2 : Int).toNat) (c := co7) ((Kd.R_reads' HO_4.out).2.2) KL27.out ((Kd.R_reads' HO_4.out).2.1))
                (try clear HR156)
                have HR156 := n_
                clear n_
                obtain ⟨Ao35, co35, eo35⟩ := Kd.R_slice HO149.out
                (first | subst eo35 | (injection eo35 with f1_ f2_ f3_; have f4_ := f1_.symm; have f5_ := f3_.symm; clear f1_ f2_ f3_; subst f4_; subst f5_))
                refine norm_ (a' := ?_) ?_ ?_
                rotate_left
                ·simp only [putAll, Act.put, List.setIfInBounds_toArray, List.set_cons_zero, List.set_cons_succ]
                 rfl
                refine one_ (i := 7) (N := some 36) (M_ 11 2) rfl rfl (one_of HT_.out (by kernel_rfl)) (by decide) (fun K hK => ?_)
                refine Kd.R_append_rows_step k64 (w0 := w) w.heap.size (by rfl) (.tmp 33) (.tmp 35) 23 64 (.agg #[(.int .i64 0), (.int .i64 0), (.int .i64 0)]) 24 rfl Try.underlying23 info64 rfl (by decide) (by omega) v145 y144 y147 _ _ _ (fun k_ => some k_ ≠ (.slice (some ad135) x4_1.length co7 : Value).ownBlock ∧ some k_ ≠ (.slice Ao35 y147.length co35 : Value).ownBlock ∧ k_ ≠ gb134) (fun _ => False) rfl rfl ?aO ?aR (fun _ _ h => h) (fun _ h => h.elim) ?aF ?aB ?aS ?aL ?_
                (case aR => exact Z7 HO149.out)
                (case aB => exact Z12)
                (case aF => exact (fun k_ hk => ⟨Kd.fresh' (Yd_ HO_4.out) k_ hk, Kd.fresh' (Yd_ HO149.out) k_ hk, Kd.freshB (g := gb134) (o := .cells #[.int .i64 ((rd_T64 l0 x10_1).f0), .int .i64 ((rd_T64 l0 x10_1).f1), .int .i64 ((rd_T64 l0 x10_1).f2)] 64 (0, 0)) (Z2 BK134.out) k_ hk⟩))
                (case aO => exact Z124 HO146.out)
                (case aS => exact (below_size (Z12)))
                (case aL => have := LMc19.out; omega)
                intro v151 w34 ho hb hg hat
                rw [← Ny150.out] at ho
                have n0_ := Aside0.mk (Kd.R_after (ok := (fun k_ => some k_ ≠ (.slice Ao35 y147.length co35 : Value).ownBlock ∧ k_ ≠ gb134)) (Z102 HO_4.out) hg hat)
                have n1_ := Aside0.mk (blk_grown (g := gb134) (o := .cells #[.int .i64 ((rd_T64 l0 x10_1).f0), .int .i64 ((rd_T64 l0 x10_1).f1), .int .i64 ((rd_T64 l0 x10_1).f2)] 64 (0, 0)) (Z2 BK134.out) hg (Kd.R_away HO146.out (fun _ hk => hk.2.2)))
                have n2_ := Aside0.mk (Kd.R_after (ok := (fun k_ => some k_ ≠ (.slice (some ad135) x4_1.length co7 : Value).ownBlock ∧ k_ ≠ gb134)) (Z102 HO149.out) hg hat)
                have n3_ := Aside0.mk (hb)
                have n4_ := Aside0.mk ((show Kd.C k64 w34 (some ad135) y140.length y140 from by rw [Ny140.out]; exact Kd.C_take (m := (x7_2 : Int).toNat) ((Kd.R_reads' (Kd.R_after (ok := (fun k_ => some k_ ≠ (.slice Ao35 y147.length co35 : Value).ownBlock ∧ k_ ≠ gb134)) (Z102 HO_4.out) hg hat)).2.2) KL26.out))
                have n5_ := Aside0.mk ((show Kd.C k64 w34 A27 y153.length y153 from by rw [Ny153.out, KA27.out]; exact Kd.C_drop (m := (x7_2 : Int).toNat) (c := co7) ((Kd.R_reads' (Kd.R_after (ok := (fun k_ => some k_ ≠ (.slice Ao35 y147.length co35 : Value).ownBlock ∧ k_ ≠ gb134)) (Z102 HO_4.out) hg hat)).2.2) KL27.out ((Kd.R_reads' (Kd.R_after (ok := (fun k_ => some k_ ≠ (.slice Ao35 y147.length co35 : Value).ownBlock ∧ k_ ≠ gb134)) (Z102 HO_4.out) hg hat)).2.1)))
                have n6_ := Aside0.mk (ho)
                clear HO_4
                clear BK134
                clear HO149
                clear HB
                clear HR143
                clear HR156
                clear HO146
                have HO_4 := n0_
                have BK134 := n1_
                have HO149 := n2_
                have HB := n3_
                have HR143 := n4_
                have HR156 := n5_
                have HO152 := n6_
                clear n0_ n1_ n2_ n3_ n4_ n5_ n6_
                clear ho hb hg hat
                refine hK.out _ _ ⟨(blk_cell BK134.out 0).trans rfl, (blk_cell BK134.out 1).trans rfl, (blk_cell BK134.out 2).trans rfl⟩ (fun hHeld => ?_)
                clear hK K
                refine norm_ (a' := ?_) ?_ ?_
                rotate_left
                ·show Act.put _ (some 36) _ = _
                 simp only [Act.put, List.setIfInBounds_toArray, List.set_cons_zero, List.set_cons_succ, i64_w, i32_w]
                 rfl
                refine one_ (i := 11) (N := some 40) (M_ 12 1) rfl rfl (one_of HT_.out (by kernel_rfl)) (by decide) (fun K hK => ?_)
                refine Kd.R_append_rows_step k64 (w0 := w) w.heap.size (by rfl) (.tmp 36) (.tmp 39) 23 64 (.agg #[(.int .i64 0), (.int .i64 0), (.int .i64 0)]) 24 rfl Try.underlying23 info64 rfl (by decide) (by omega) v151 y150 y153 _ _ _ (fun k_ => some k_ ≠ (.slice (some ad135) x4_1.length co7 : Value).ownBlock ∧ some k_ ≠ (.slice Ao35 y147.length co35 : Value).ownBlock ∧ k_ ≠ gb134) (fun _ => False) rfl rfl ?aO ?aR (fun _ _ h => h) (fun _ h => h.elim) ?aF ?aB ?aS ?aL ?_
                (case aR => exact Z114 HR156.out)
                (case aB => exact Z12)
                (case aF => exact (fun k_ hk => ⟨Kd.fresh' (Yd_ HO_4.out) k_ hk, Kd.fresh' (Yd_ HO149.out) k_ hk, Kd.freshB (g := gb134) (o := .cells #[.int .i64 ((rd_T64 l0 x10_1).f0), .int .i64 ((rd_T64 l0 x10_1).f1), .int .i64 ((rd_T64 l0 x10_1).f2)] 64 (0, 0)) (Z2 BK134.out) k_ hk⟩))
                (case aO => exact Z1 HO152.out)
                (case aS => exact (below_size (Z12)))
                (case aL => have := LMc22.out; omega)
                intro v158 w36 ho hb hg hat
                rw [← Ny157.out] at ho
                have n0_ := Aside0.mk (Kd.R_after (ok := (fun k_ => some k_ ≠ (.slice Ao35 y147.length co35 : Value).ownBlock ∧ k_ ≠ gb134)) (Z1 HO_4.out) hg hat)
                have n1_ := Aside0.mk (blk_grown (g := gb134) (o := .cells #[.int .i64 ((rd_T64 l0 x10_1).f0), .int .i64 ((rd_T64 l0 x10_1).f1), .int .i64 ((rd_T64 l0 x10_1).f2)] 64 (0, 0)) (Z2 BK134.out) hg (Kd.R_away HO152.out (fun _ hk => hk.2.2)))
                have n2_ := Aside0.mk (Kd.R_after (ok := (fun k_ => some k_ ≠ (.slice (some ad135) x4_1.length co7 : Value).ownBlock ∧ k_ ≠ gb134)) (Z1 HO149.out) hg hat)
                have n3_ := Aside0.mk (hb)
                have n4_ := Aside0.mk ((show Kd.C k64 w36 (some ad135) y140.length y140 from by rw [Ny140.out]; exact Kd.C_take (m := (x7_2 : Int).toNat) ((Kd.R_reads' (Kd.R_after (ok := (fun k_ => some k_ ≠ (.slice Ao35 y147.length co35 : Value).ownBlock ∧ k_ ≠ gb134)) (Z1 HO_4.out) hg hat)).2.2) KL26.out))
                have n5_ := Aside0.mk ((show Kd.C k64 w36 A27 y153.length y153 from by rw [Ny153.out, KA27.out]; exact Kd.C_drop (m := (x7_2 : Int).toNat) (c := co7) ((Kd.R_reads' (Kd.R_after (ok := (fun k_ => some k_ ≠ (.slice Ao35 y147.length co35 : Value).ownBlock ∧ k_ ≠ gb134)) (Z1 HO_4.out) hg hat)).2.2) KL27.out ((Kd.R_reads' (Kd.R_after (ok := (fun k_ => some k_ ≠ (.slice Ao35 y147.length co35 : Value).ownBlock ∧ k_ ≠ gb134)) (Z1 HO_4.out) hg hat)).2.1)))
                have n6_ := Aside0.mk (ho)
                clear HO_4
                clear BK134
                clear HO149
                clear HB
                clear HR143
                clear HR156
                clear HO152
                have HO_4 := n0_
                have BK134 := n1_
                have HO149 := n2_
                have HB := n3_
                have HR143 := n4_
                have HR156 := n5_
                have HO159 := n6_
                clear n0_ n1_ n2_ n3_ n4_ n5_ n6_
                clear ho hb hg hat
                refine hK.out _ _ ⟨(blk_cell BK134.out 0).trans rfl, (blk_cell BK134.out 1).trans rfl, (blk_cell BK134.out 2).trans rfl⟩ (fun hHeld => ?_)
                clear hK K
                refine norm_ (a' := ?_) ?_ ?_
                rotate_left
                ·show Act.put _ (some 40) _ = _
                 simp only [Act.put, List.setIfInBounds_toArray, List.set_cons_zero, List.set_cons_succ, i64_w, i32_w]
                 rfl
                refine pu_ 12 4 (M_ 13 0) ?_
                refine done_ (done_of HT_.out (by kernel_rfl)) ?_
                try go_wp2
                go_roundg k2
                case measure => have := HK1.out; have := HK2.out; omega
                case rel => exact ⟨(y157), (wrap64 (x10_1 + 1)), (Z17), H', ⟨Z153 HK1.out⟩, ⟨Z103 HO159.out⟩, ⟨Z12⟩⟩
               rw [if_neg c22] at H
               exact absurd H (by simp)
              rw [if_neg c19] at H
              exact absurd H (by simp)
             rw [if_neg c18] at H
             exact absurd H (by simp)
            rw [if_neg c17] at H
            exact absurd H (by simp)
           rw [if_neg c16] at H
           exact absurd H (by simp)
          rw [if_neg c11] at H
          exact absurd H (by simp)
         rw [if_neg c10] at H
         exact absurd H (by simp)
        rw [if_neg c8] at H
        have c8b0 : decide (0 < x7_2) = false := decide_eq_false c8
        clear c8
        obtain ⟨y160, hy160⟩ : ∃ y_ : List (S64), y_ = (([] : List (S64))) := ⟨_, rfl⟩
        replace H : (if 0 ≤ x7_2 then (if x7_2 ≤ (x4_1.length : Int) then ((some (x4_1.take (x7_2 : Int).toNat : List (S64))).bind fun y163 => (if y160.length + y163.length < 5864062014805 then ((some (y160 ++ y163 : List (S64))).bind fun y167 => ((some (([(⟨((rd_T64 l0 x10_1).f0), ((rd_T64 l0 x10_1).f1), ((rd_T64 l0 x10_1).f2)⟩ : S64)] : List (S64)) : List (S64))).bind fun y170 => (if y167.length + y170.length < 5864062014805 then ((some (y167 ++ y170 : List (S64))).bind fun y173 => ((some (x4_1.drop (x7_2 : Int).toNat : List (S64))).bind fun y176 => (if y173.length + y176.length < 5864062014805 then (spec_shSorted.l0 k2 (y173 ++ y176) l0 (l0.length : Int) (wrap64 (x10_1 + 1))) else (none)))) else (none)))) else (none))) else (none)) else (none)) = some (r1, r2) := by first | (rw [hy160]; with_reducible exact H) | (have H2_ := (Option.bind_some _ _).symm.trans H; rw [hy160]; with_reducible exact H2_) | (have H2_ := (Option.bind_some _ _).symm.trans H; with_reducible exact H2_) | with_reducible exact H | (rw [hy160]; exact H) | exact H
        have Ny160 := Aside0.mk hy160
        clear hy160
        by_cases c37 : 0 ≤ x7_2
        ·rw [if_pos c37] at H
         have c37b0 := eq_true c37
         have c37b1 : decide (0 ≤ x7_2) = true := decide_eq_true c37
         clear c37
         by_cases c38 : x7_2 ≤ (x4_1.length : Int)
         ·rw [if_pos c38] at H
          have c38b0 := eq_true c38
          have c38b1 : decide (x7_2 ≤ (x4_1.length : Int)) = true := decide_eq_true c38
          clear c38
          obtain ⟨y163, hy163⟩ : ∃ y_ : List (S64), y_ = (x4_1.take (x7_2 : Int).toNat) := ⟨_, rfl⟩
          replace H : (if y160.length + y163.length < 5864062014805 then ((some (y160 ++ y163 : List (S64))).bind fun y167 => ((some (([(⟨((rd_T64 l0 x10_1).f0), ((rd_T64 l0 x10_1).f1), ((rd_T64 l0 x10_1).f2)⟩ : S64)] : List (S64)) : List (S64))).bind fun y170 => (if y167.length + y170.length < 5864062014805 then ((some (y167 ++ y170 : List (S64))).bind fun y173 => ((some (x4_1.drop (x7_2 : Int).toNat : List (S64))).bind fun y176 => (if y173.length + y176.length < 5864062014805 then (spec_shSorted.l0 k2 (y173 ++ y176) l0 (l0.length : Int) (wrap64 (x10_1 + 1))) else (none)))) else (none)))) else (none)) = some (r1, r2) := by first | (rw [hy163]; with_reducible exact H) | (have H2_ := (Option.bind_some _ _).symm.trans H; rw [hy163]; with_reducible exact H2_) | (have H2_ := (Option.bind_some _ _).symm.trans H; with_reducible exact H2_) | with_reducible exact H | (rw [hy163]; exact H) | exact H
          have Ny163 := Aside0.mk hy163
          clear hy163
          by_cases c39 : y160.length + y163.length < 5864062014805
          ·rw [if_pos c39] at H
           have LMc39 := Aside0.mk c39
           clear c39
           obtain ⟨y167, hy167⟩ : ∃ y_ : List (S64), y_ = (y160 ++ y163) := ⟨_, rfl⟩
           replace H : ((some (([(⟨((rd_T64 l0 x10_1).f0), ((rd_T64 l0 x10_1).f1), ((rd_T64 l0 x10_1).f2)⟩ : S64)] : List (S64)) : List (S64))).bind fun y170 => (if y167.length + y170.length < 5864062014805 then ((some (y167 ++ y170 : List (S64))).bind fun y173 => ((some (x4_1.drop (x7_2 : Int).toNat : List (S64))).bind fun y176 => (if y173.length + y176.length < 5864062014805 then (spec_shSorted.l0 k2 (y173 ++ y176) l0 (l0.length : Int) (wrap64 (x10_1 + 1))) else (none)))) else (none))) = some (r1, r2) := by first | (rw [hy167]; with_reducible exact H) | (have H2_ := (Option.bind_some _ _).symm.trans H; rw [hy167]; with_reducible exact H2_) | (have H2_ := (Option.bind_some _ _).symm.trans H; with_reducible exact H2_) | with_reducible exact H | (rw [hy167]; exact H) | exact H
           have Ny167 := Aside0.mk hy167
           clear hy167
           obtain ⟨y170, hy170⟩ : ∃ y_ : List (S64), y_ = (([(⟨((rd_T64 l0 x10_1).f0), ((rd_T64 l0 x10_1).f1), ((rd_T64 l0 x10_1).f2)⟩ : S64)] : List (S64))) := ⟨_, rfl⟩
           replace H : (if y167.length + y170.length < 5864062014805 then ((some (y167 ++ y170 : List (S64))).bind fun y173 => ((some (x4_1.drop (x7_2 : Int).toNat : List (S64))).bind fun y176 => (if y173.length + y176.length < 5864062014805 then (spec_shSorted.l0 k2 (y173 ++ y176) l0 (l0.length : Int) (wrap64 (x10_1 + 1))) else (none)))) else (none)) = some (r1, r2) := by first | (rw [hy170]; with_reducible exact H) | (have H2_ := (Option.bind_some _ _).symm.trans H; rw [hy170]; with_reducible exact H2_) | (have H2_ := (Option.bind_some _ _).symm.trans H; with_reducible exact H2_) | with_reducible exact H | (rw [hy170]; exact H) | exact H
           have Ny170 := Aside0.mk hy170
           clear hy170
           by_cases c40 : y167.length + y170.length < 5864062014805
           ·rw [if_pos c40] at H
            have LMc40 := Aside0.mk c40
            clear c40
            obtain ⟨y173, hy173⟩ : ∃ y_ : List (S64), y_ = (y167 ++ y170) := ⟨_, rfl⟩
            replace H : ((some (x4_1.drop (x7_2 : Int).toNat : List (S64))).bind fun y176 => (if y173.length + y176.length < 5864062014805 then (spec_shSorted.l0 k2 (y173 ++ y176) l0 (l0.length : Int) (wrap64 (x10_1 + 1))) else (none))) = some (r1, r2) := by first | (rw [hy173]; with_reducible exact H) | (have H2_ := (Option.bind_some _ _).symm.trans H; rw [hy173]; with_reducible exact H2_) | (have H2_ := (Option.bind_some _ _).symm.trans H; with_reducible exact H2_) | with_reducible exact H | (rw [hy173]; exact H) | exact H
            have Ny173 := Aside0.mk hy173
            clear hy173
            have c41b0 := eq_true (of_decide_eq_true (Z18) : 0 ≤ x7_2)
            have c42b0 := eq_true (of_decide_eq_true (Z18) : x7_2 ≤ (x4_1.length : Int))
            obtain ⟨y176, hy176⟩ : ∃ y_ : List (S64), y_ = (x4_1.drop (x7_2 : Int).toNat) := ⟨_, rfl⟩
            replace H : (if y173.length + y176.length < 5864062014805 then (spec_shSorted.l0 k2 (y173 ++ y176) l0 (l0.length : Int) (wrap64 (x10_1 + 1))) else (none)) = some (r1, r2) := by first | (rw [hy176]; with_reducible exact H) | (have H2_ := (Option.bind_some _ _).symm.trans H; rw [hy176]; with_reducible exact H2_) | (have H2_ := (Option.bind_some _ _).symm.trans H; with_reducible exact H2_) | with_reducible exact H | (rw [hy176]; exact H) | exact H
            have Ny176 := Aside0.mk hy176
            clear hy176
            by_cases c43 : y173.length + y176.length < 5864062014805
            ·rw [if_pos c43] at H
             have LMc43 := Aside0.mk c43
             clear c43
             obtain ⟨y180, hy180⟩ : ∃ y_ : List (S64), y_ = (y173 ++ y176) := ⟨_, rfl⟩
             replace H : (spec_shSorted.l0 k2 y180 l0 (l0.length : Int) (wrap64 (x10_1 + 1))) = some (r1, r2) := by first | (rw [hy180]; with_reducible exact H) | (have H2_ := (Option.bind_some _ _).symm.trans H; rw [hy180]; with_reducible exact H2_) | (have H2_ := (Option.bind_some _ _).symm.trans H; with_reducible exact H2_) | with_reducible exact H | (rw [hy180]; exact H) | exact H
             have Ny180 := Aside0.mk hy180
             clear hy180
             have H' := Aside0.mk H
             clear H
             try go_wp2
             refine k3_ (Kd.R_drew HO_4.out) (blk_drew BK134.out) (below_drew1 HB.out) ?_
             clear HO_4 BK134 HB
             intro HO_4 BK134 HB
             refine start_ (n := 11) (S := fun w' => True) (ds := []) (M_ 0 11) (by kernel_rfl) rfl rfl trivial (fun hHeld => ?_); refine with_tabW spec_shSorted.tab6 spec_shSorted.bits6 (fun HT_ HW_ => ?_)
             generalize wr.drew = w44 at HO_4 BK134 HB hHeld ⊢
             refine pu_ 0 16 (M_ 1 10) ?_
             refine pu_ 1 17 (M_ 2 9) ?_
             refine pu_ 2 18 (M_ 3 8) ?_
             refine pn_ 3 19 (M_ 4 7) ?_
             refine pn_ 4 20 (M_ 5 6) ?_
             refine pn_ 5 21 (M_ 6 5) ?_
             refine pn_ 6 22 (M_ 7 4) ?_
             refine pn_ 7 23 (M_ 8 3) ?_
             refine pn_ 8 24 (M_ 9 2) ?_
             refine pn_ 9 25 (M_ 10 1) ?_
             refine pu_ 10 26 (M_ 11 0) ?_
             refine done_ (done_of HT_.out (by kernel_rfl)) ?_
             try go_wp2
             refine k3_ (Kd.R_drew HO_4.out) (blk_drew BK134.out) (below_drew1 HB.out) ?_
             clear HO_4 BK134 HB
             intro HO_4 BK134 HB
             have q46 : (x7_2 : Int) ≤ ((x4_1.length : Int) : Int) := of_decide_eq_true (Z18)
             obtain ⟨i046, hi046, _, hsz46, _⟩ := info_parts info64
             have hroom46 : x4_1.length ≤ co7 := (Kd.R_reads' HO_4.out).2.1
             have hC46 : Kd.C k64 _ Ao7 x4_1.length x4_1 := (Kd.R_reads' HO_4.out).2.2
             have hcut46 := cut_to (P := Try.prog) 23 64 .i64 Try.underlying23 hi046 Ao7 x4_1.length co7 x7_2 (of_decide_eq_true (Z18)) q46 hroom46
             have hr46 := Kd.C_take (m := (x7_2 : Int).toNat) hC46 (by omega)
             have hy46 : y163.length = (x7_2 : Int).toNat := (by rw [Ny163.out, List.length_take]; omega)
             rw [← Ny163.out] at hr46
             rw [← hy46] at hcut46
             have HR166 := Aside0.mk hr46
             have HC166 := Aside0.mk (show y163.length ≤ co7 from by omega)
             clear hr46 hC46 hroom46 hi046 hsz46
             have KY46 := Aside0.mk hy46
             clear hy46
             have KL46 := Aside0.mk (show (x7_2 : Int).toNat ≤ x4_1.length from by omega)
             replace q46 := eq_true q46
             have q47 : (x7_2 : Int) ≤ ((x4_1.length : Int) : Int) := of_decide_eq_true (Z18)
             obtain ⟨i047, hi047, _, hsz47, _⟩ := info_parts info64
             have hroom47 : x4_1.length ≤ co7 := (Kd.R_reads' HO_4.out).2.1
             have hC47 : Kd.C k64 _ Ao7 x4_1.length x4_1 := (Kd.R_reads' HO_4.out).2.2
             have q047 : (0 : Int) ≤ (x7_2 : Int) := of_decide_eq_true (Z18)
             have hcut47 := cut_from (P := Try.prog) 23 64 .i64 Try.underlying23 hi047 3 hsz47 Ao7 x4_1.length co7 x7_2 q047 q47
             have hr47 := Kd.C_drop (m := (x7_2 : Int).toNat) (c := co7) hC47 (by omega) hroom47
             obtain ⟨A47, hA47⟩ : ∃ A1, A1 = (if co7 = (x7_2 : Int).toNat then Ao7 else (Ao7 : Option Addr).map (·.add ((x7_2 : Int).toNat * 3))) := ⟨_, rfl⟩
             obtain ⟨c47, hc47⟩ : ∃ c1, c1 = co7 - (x7_2 : Int).toNat := ⟨_, rfl⟩
             have hy47 : y176.length = x4_1.length - (x7_2 : Int).toNat := (by rw [Ny176.out, List.length_drop] <;> omega)
             rw [show (x4_1).drop (x7_2 : Int).toNat = y176 from Ny176.out.symm] at hr47
             replace hr47 : Kd.C k64 _ A47 y176.length y176 := (by rw [hA47]; exact hr47)
             rw [← hy47, ← hA47, ← hc47] at hcut47
             have HR179 := Aside0.mk hr47
             have HC179 := Aside0.mk (show y176.length ≤ c47 from by rw [hy47, hc47]; exact Nat.sub_le_sub_right hroom47 _)
             clear hr47 hC47 hroom47 hi047 hsz47 hc47
             have KY47 := Aside0.mk hy47
             have KA47 := Aside0.mk hA47
             clear hy47 hA47
             have KL47 := Aside0.mk (show (x7_2 : Int).toNat ≤ x4_1.length from by omega)
             replace q47 := eq_true q47
             refine start_ (n := 13) (S := fun w' => w'.cell? ⟨gb134, 0, none⟩ = some (.int .i64 ((rd_T64 l0 x10_1).f0)) ∧ w'.cell? ⟨gb134, 1, none⟩ = some (.int .i64 ((rd_T64 l0 x10_1).f1)) ∧ w'.cell? ⟨gb134, 2, none⟩ = some (.int .i64 ((rd_T64 l0 x10_1).f2))) (ds := []) (M_ 0 13) (by kernel_rfl) rfl rfl ⟨(blk_cell BK134.out 0).trans rfl, (blk_cell BK134.out 1).trans rfl, (blk_cell BK134.out 2).trans rfl⟩ (fun hHeld => ?_); refine with_tabW spec_shSorted.tab8 spec_shSorted.bits8 (fun HT_ HW_ => ?_)
             generalize w44.drew = w45 at HO_4 BK134 HB HR166 HR179 hHeld ⊢
             refine pu_ 1 30 (N_ 13 2) ?_
             refine pu_ 2 31 (N_ 13 6) ?_
             refine pu_ 3 32 (N_ 13 14) ?_
             refine pu_ 8 37 (N_ 13 270) ?_
             refine pu_ 9 38 (N_ 13 782) ?_
             refine pu_ 10 39 (N_ 13 1806) ?_
             refine tk3_ 5 34 (N_ 13 1838) hHeld ?_
             refine join_ (σ := Value × Value × Value) 3 (N_ 13 1919) (fun s_ => [(29, s_.1), (33, s_.2.1), (35, s_.2.2)]) (fun s_ w' => (w'.cell? ⟨gb134, 0, none⟩ = some (.int .i64 ((rd_T64 l0 x10_1).f0)) ∧ w'.cell? ⟨gb134, 1, none⟩ = some (.int .i64 ((rd_T64 l0 x10_1).f1)) ∧ w'.cell? ⟨gb134, 2, none⟩ = some (.int .i64 ((rd_T64 l0 x10_1).f2))) ∧ (Kd.R k64 64 w' w.heap.size (fun k_ => some k_ ≠ (s_.2.2 : Value).ownBlock ∧ some k_ ≠ (.slice Ao7 x4_1.length co7 : Value).ownBlock ∧ k_ ≠ gb134) s_.2.1 y167) ∧ (Kd.R k64 64 w' w.heap.size (fun k_ => some k_ ≠ (s_.2.1 : Value).ownBlock ∧ some k_ ≠ (.slice Ao7 x4_1.length co7 : Value).ownBlock ∧ k_ ≠ gb134) s_.2.2 y170) ∧ (Kd.R k64 64 w' w.heap.size (fun k_ => some k_ ≠ (s_.2.1 : Value).ownBlock ∧ some k_ ≠ (s_.2.2 : Value).ownBlock ∧ k_ ≠ gb134) (.slice Ao7 x4_1.length co7) x4_1) ∧ (w'.heap[gb134]? = some (.cells #[.int .i64 ((rd_T64 l0 x10_1).f0), .int .i64 ((rd_T64 l0 x10_1).f1), .int .i64 ((rd_T64 l0 x10_1).f2)] 64 (0, 0))) ∧ (Below w.heap.size w w')) ?_ ?_
             rotate_left
             ·intro hCont
              refine two_ (i := 0) (j := 6) (Ni := some 29) (Nj := some 35) (N_ 13 1839) (N_ 13 1902) rfl rfl rfl rfl (two_of HT_.out (by kernel_rfl)) (by decide) (by decide) (fun K hK => ?_) (fun K hK => ?_)
              ·skip
               refine Kd.R_lit_step k64 _ 64 ?hg (N := 29) ?hd (xs := ([] : List (S64))) (inner := []) (ok := fun _ => True) (okp := fun _ => True) ?hr ?hp (fun _ hk => hk) trivial (Below.refl _ _) (Nat.le_refl _) (by simp) ?_; (case hd => rfl); (case hg => rfl); (case hr => exact Z100); (case hp => exact (Reps.none _ _))
               intro v161 w48 ho49 hb hg_ hnew_
               clear hg_ hnew_
               (first | rw [← Ny160.out] at ho49 | (simp only [Int.reduceToNat] at ho49; rw [← Ny160.out] at ho49))
               have n0_ := Aside0.mk (Kd.R_elder' (Z1 HO_4.out) (Kd.R_base ho49) hb)
               have n1_ := Aside0.mk (Kd.R_lower (Kd.R_newB (Kd.R_new' ho49 (Yd_ HO_4.out)) (g := gb134) (o := .cells #[.int .i64 ((rd_T64 l0 x10_1).f0), .int .i64 ((rd_T64 l0 x10_1).f1), .int .i64 ((rd_T64 l0 x10_1).f2)] 64 (0, 0)) (Z2 BK134.out)) (below_size (Z12)))
               have n2_ := Aside0.mk (blk_below (g := gb134) (o := .cells #[.int .i64 ((rd_T64 l0 x10_1).f0), .int .i64 ((rd_T64 l0 x10_1).f1), .int .i64 ((rd_T64 l0 x10_1).f2)] 64 (0, 0)) (Z2 BK134.out) hb)
               have n3_ := Aside0.mk (Kd.C_below (Z24 HR166.out) hb)
               have n4_ := Aside0.mk (Kd.C_below (Z24 HR179.out) hb)
               have n5_ := Aside0.mk (below_step (Z12) hb)
               clear HO_4
               clear BK134
               clear HR166
               clear HR179
               clear HB
               have HO_4 := n0_
               have HO162 := n1_
               have BK134 := n2_
               have HR166 := n3_
               have HR179 := n4_
               have HB := n5_
               clear n0_ n1_ n2_ n3_ n4_ n5_
               clear hb ho49
               refine hK.out _ _ ⟨(blk_cell BK134.out 0).trans rfl, (blk_cell BK134.out 1).trans rfl, (blk_cell BK134.out 2).trans rfl⟩ (fun hHeld => ?_)
               clear hK K
               refine norm_ (a' := ?_) ?_ ?_
               rotate_left
               ·show Act.put _ (some 29) _ = _
                simp only [Act.put, List.setIfInBounds_toArray, List.set_cons_zero, List.set_cons_succ, i64_w, i32_w]
                rfl
               refine two_ (i := 4) (j := 6) (Ni := some 33) (Nj := some 35) (N_ 13 1855) (N_ 13 1903) rfl rfl rfl rfl (two_of HT_.out (by kernel_rfl)) (by decide) (by decide) (fun K hK => ?_) (fun K hK => ?_)
               ·skip
                refine Kd.R_append_rows_step k64 (w0 := w) w.heap.size (by rfl) (.tmp 29) (.tmp 32) 23 64 (.agg #[(.int .i64 0), (.int .i64 0), (.int .i64 0)]) 24 rfl Try.underlying23 info64 rfl (by decide) (by omega) v161 y160 y163 _ _ _ (fun k_ => some k_ ≠ (.slice Ao7 x4_1.length co7 : Value).ownBlock ∧ k_ ≠ gb134) (fun _ => False) rfl rfl ?aO ?aR (fun _ _ h => h) (fun _ h => h.elim) ?aF ?aB ?aS ?aL ?_
                (case aR => exact Z114 HR166.out)
                (case aB => exact Z12)
                (case aF => exact (fun k_ hk => ⟨Kd.fresh' (Yd_ HO_4.out) k_ hk, Kd.freshB (g := gb134) (o := .cells #[.int .i64 ((rd_T64 l0 x10_1).f0), .int .i64 ((rd_T64 l0 x10_1).f1), .int .i64 ((rd_T64 l0 x10_1).f2)] 64 (0, 0)) (Z2 BK134.out) k_ hk⟩))
                (case aO => exact Z134 HO162.out)
                (case aS => exact (below_size (Z12)))
                (case aL => have := LMc39.out; omega)
                intro v168 w50 ho hb hg hat
                rw [← Ny167.out] at ho
                have n0_ := Aside0.mk (Kd.R_after (ok := (fun k_ => k_ ≠ gb134)) (Z1 HO_4.out) hg hat)
                have n1_ := Aside0.mk (blk_grown (g := gb134) (o := .cells #[.int .i64 ((rd_T64 l0 x10_1).f0), .int .i64 ((rd_T64 l0 x10_1).f1), .int .i64 ((rd_T64 l0 x10_1).f2)] 64 (0, 0)) (Z2 BK134.out) hg (Kd.R_away HO162.out (fun _ hk => hk.2)))
                have n2_ := Aside0.mk (hb)
                have n3_ := Aside0.mk ((show Kd.C k64 w50 Ao7 y163.length y163 from by rw [Ny163.out]; exact Kd.C_take (m := (x7_2 : Int).toNat) ((Kd.R_reads' (Kd.R_after (ok := (fun k_ => k_ ≠ gb134)) (Z1 HO_4.out) hg hat)).2.2) KL46.out))
                have n4_ := Aside0.mk ((show Kd.C k64 w50 A47 y176.length y176 from by rw [Ny176.out, KA47.out]; exact Kd.C_drop (m := (x7_2 : Int).toNat) (c := co7) ((Kd.R_reads' (Kd.R_after (ok := (fun k_ => k_ ≠ gb134)) (Z1 HO_4.out) hg hat)).2.2) KL47.out ((Kd.R_reads' (Kd.R_after (ok := (fun k_ => k_ ≠ gb134)) (Z1 HO_4.out) hg hat)).2.1)))
                have n5_ := Aside0.mk (ho)
                clear HO_4
                clear BK134
                clear HB
                clear HR166
                clear HR179
                clear HO162
                have HO_4 := n0_
                have BK134 := n1_
                have HB := n2_
                have HR166 := n3_
                have HR179 := n4_
                have HO169 := n5_
                clear n0_ n1_ n2_ n3_ n4_ n5_
                clear ho hb hg hat
                refine hK.out _ _ ⟨(blk_cell BK134.out 0).trans rfl, (blk_cell BK134.out 1).trans rfl, (blk_cell BK134.out 2).trans rfl⟩ (fun hHeld => ?_)
                clear hK K
                refine norm_ (a' := ?_) ?_ ?_
                rotate_left
                ·show Act.put _ (some 33) _ = _
                 simp only [Act.put, List.setIfInBounds_toArray, List.set_cons_zero, List.set_cons_succ, i64_w, i32_w]
                 rfl
                refine one_ (i := 6) (N := some 35) (N_ 13 1919) rfl rfl (one_of HT_.out (by kernel_rfl)) (by decide) (fun K hK => ?_)
                refine Kd.R_lit_step k64 _ 64 ?hg (N := 35) ?hd (xs := ([(⟨((rd_T64 l0 x10_1).f0), ((rd_T64 l0 x10_1).f1), ((rd_T64 l0 x10_1).f2)⟩ : S64)] : List (S64))) (inner := [.int .i64 ((rd_T64 l0 x10_1).f0), .int .i64 ((rd_T64 l0 x10_1).f1), .int .i64 ((rd_T64 l0 x10_1).f2)]) (ok := fun _ => True) (okp := fun _ => True) ?hr ?hp (fun _ hk => hk) trivial (Below.refl _ _) (Nat.le_refl _) (by simp) ?_; (case hd => rfl); (case hg => rfl); (case hr => exact Z100); (case hp => exact (Reps.c3 (show Kd.M k64 _ _ _ (⟨((rd_T64 l0 x10_1).f0), ((rd_T64 l0 x10_1).f1), ((rd_T64 l0 x10_1).f2)⟩ : S64) [.int .i64 ((rd_T64 l0 x10_1).f0), .int .i64 ((rd_T64 l0 x10_1).f1), .int .i64 ((rd_T64 l0 x10_1).f2)] from (k64_mkM _ _ _ (⟨((rd_T64 l0 x10_1).f0), ((rd_T64 l0 x10_1).f1), ((rd_T64 l0 x10_1).f2)⟩ : S64) )) (Reps.none _ _)))
                intro v171 w51 ho52 hb hg_ hnew_
                clear hg_ hnew_
                (first | rw [← Ny170.out] at ho52 | (simp only [Int.reduceToNat] at ho52; rw [← Ny170.out] at ho52))
                have n0_ := Aside0.mk (Kd.R_elder' (Z1 HO_4.out) (Kd.R_base ho52) hb)
                have n1_ := Aside0.mk (Kd.R_elder' (Z1 HO169.out) (Kd.R_base ho52) hb)
                have n2_ := Aside0.mk (Kd.R_lower (Kd.R_newB (Kd.R_new' (Kd.R_new' ho52 (Yd_ HO_4.out)) (Yd_ HO169.out)) (g := gb134) (o := .cells #[.int .i64 ((rd_T64 l0 x10_1).f0), .int .i64 ((rd_T64 l0 x10_1).f1), .int .i64 ((rd_T64 l0 x10_1).f2)] 64 (0, 0)) (Z2 BK134.out)) (below_size (Z12)))
                have n3_ := Aside0.mk (blk_below (g := gb134) (o := .cells #[.int .i64 ((rd_T64 l0 x10_1).f0), .int .i64 ((rd_T64 l0 x10_1).f1), .int .i64 ((rd_T64 l0 x10_1).f2)] 64 (0, 0)) (Z2 BK134.out) hb)
                have n4_ := Aside0.mk (Kd.C_below (Z24 HR166.out) hb)
                have n5_ := Aside0.mk (Kd.C_below (Z24 HR179.out) hb)
                have n6_ := Aside0.mk (below_step (Z12) hb)
                clear HO_4
                clear HO169
                clear BK134
                clear HR166
                clear HR179
                clear HB
                have HO_4 := n0_
                have HO169 := n1_
                have HO172 := n2_
                have BK134 := n3_
                have HR166 := n4_
                have HR179 := n5_
                have HB := n6_
                clear n0_ n1_ n2_ n3_ n4_ n5_ n6_
                clear hb ho52
                refine hK.out _ _ ⟨(blk_cell BK134.out 0).trans rfl, (blk_cell BK134.out 1).trans rfl, (blk_cell BK134.out 2).trans rfl⟩ (fun hHeld => ?_)
                clear hK K
                refine norm_ (a' := ?_) ?_ ?_
                rotate_left
                ·show Act.put _ (some 35) _ = _
                 simp only [Act.put, List.setIfInBounds_toArray, List.set_cons_zero, List.set_cons_succ, i64_w, i32_w]
                 rfl
                exact norm_ (Z109) (hCont (v161, v168, v171) _ ⟨hHeld, (Z101 HO169.out), (Z223 HO172.out), (Z193), (Z2 BK134.out), (Z12)⟩)
               skip
               refine Kd.R_lit_step k64 _ 64 ?hg (N := 35) ?hd (xs := ([(⟨((rd_T64 l0 x10_1).f0), ((rd_T64 l0 x10_1).f1), ((rd_T64 l0 x10_1).f2)⟩ : S64)] : List (S64))) (inner := [.int .i64 ((rd_T64 l0 x10_1).f0), .int .i64 ((rd_T64 l0 x10_1).f1), .int .i64 ((rd_T64 l0 x10_1).f2)]) (ok := fun _ => True) (okp := fun _ => True) ?hr ?hp (fun _ hk => hk) trivial (Below.refl _ _) (Nat.le_refl _) (by simp) ?_; (case hd => rfl); (case hg => rfl); (case hr => exact Z100); (case hp => exact (Reps.c3 (show Kd.M k64 _ _ _ (⟨((rd_T64 l0 x10_1).f0), ((rd_T64 l0 x10_1).f1), ((rd_T64 l0 x10_1).f2)⟩ : S64) [.int .i64 ((rd_T64 l0 x10_1).f0), .int .i64 ((rd_T64 l0 x10_1).f1), .int .i64 ((rd_T64 l0 x10_1).f2)] from (k64_mkM _ _ _ (⟨((rd_T64 l0 x10_1).f0), ((rd_T64 l0 x10_1).f1), ((rd_T64 l0 x10_1).f2)⟩ : S64) )) (Reps.none _ _)))
               intro v171 w50 ho51 hb hg_ hnew_
               clear hg_ hnew_
               (first | rw [← Ny170.out] at ho51 | (simp only [Int.reduceToNat] at ho51; rw [← Ny170.out] at ho51))
               have n0_ := Aside0.mk (Kd.R_elder' (Z1 HO_4.out) (Kd.R_base ho51) hb)
               have n1_ := Aside0.mk (Kd.R_elder' (Z1 HO162.out) (Kd.R_base ho51) hb)
               have n2_ := Aside0.mk (Kd.R_lower (Kd.R_newB (Kd.R_new' (Kd.R_new' ho51 (Yd_ HO_4.out)) (Yd_ HO162.out)) (g := gb134) (o := .cells #[.int .i64 ((rd_T64 l0 x10_1).f0), .int .i64 ((rd_T64 l0 x10_1).f1), .int .i64 ((rd_T64 l0 x10_1).f2)] 64 (0, 0)) (Z2 BK134.out)) (below_size (Z12)))
               have n3_ := Aside0.mk (blk_below (g := gb134) (o := .cells #[.int .i64 ((rd_T64 l0 x10_1).f0), .int .i64 ((rd_T64 l0 x10_1).f1), .int .i64 ((rd_T64 l0 x10_1).f2)] 64 (0, 0)) (Z2 BK134.out) hb)
               have n4_ := Aside0.mk (Kd.C_below (Z24 HR166.out) hb)
               have n5_ := Aside0.mk (Kd.C_below (Z24 HR179.out) hb)
               have n6_ := Aside0.mk (below_step (Z12) hb)
               clear HO_4
               clear HO162
               clear BK134
               clear HR166
               clear HR179
               clear HB
               have HO_4 := n0_
               have HO162 := n1_
               have HO172 := n2_
               have BK134 := n3_
               have HR166 := n4_
               have HR179 := n5_
               have HB := n6_
               clear n0_ n1_ n2_ n3_ n4_ n5_ n6_
               clear hb ho51
               refine hK.out _ _ ⟨(blk_cell BK134.out 0).trans rfl, (blk_cell BK134.out 1).trans rfl, (blk_cell BK134.out 2).trans rfl⟩ (fun hHeld => ?_)
               clear hK K
               refine norm_ (a' := ?_) ?_ ?_
               rotate_left
               ·show Act.put _ (some 35) _ = _
                simp only [Act.put, List.setIfInBounds_toArray, List.set_cons_zero, List.set_cons_succ, i64_w, i32_w]
                rfl
               refine one_ (i := 4) (N := some 33) (N_ 13 1919) rfl rfl (one_of HT_.out (by kernel_rfl)) (by decide) (fun K hK => ?_)
               refine Kd.R_append_rows_step k64 (w0 := w) w.heap.size (by rfl) (.tmp 29) (.tmp 32) 23 64 (.agg #[(.int .i64 0), (.int .i64 0), (.int .i64 0)]) 24 rfl Try.underlying23 info64 rfl (by decide) (by omega) v161 y160 y163 _ _ _ (fun k_ => some k_ ≠ (.slice Ao7 x4_1.length co7 : Value).ownBlock ∧ some k_ ≠ (v171 : Value).ownBlock ∧ k_ ≠ gb134) (fun _ => False) rfl rfl ?aO ?aR (fun _ _ h => h) (fun _ h => h.elim) ?aF ?aB ?aS ?aL ?_
               (case aR => exact Z114 HR166.out)
               (case aB => exact Z12)
               (case aF => exact (fun k_ hk => ⟨Kd.fresh' (Yd_ HO_4.out) k_ hk, Kd.fresh' (Yd_ HO172.out) k_ hk, Kd.freshB (g := gb134) (o := .cells #[.int .i64 ((rd_T64 l0 x10_1).f0), .int .i64 ((rd_T64 l0 x10_1).f1), .int .i64 ((rd_T64 l0 x10_1).f2)] 64 (0, 0)) (Z2 BK134.out) k_ hk⟩))
               (case aO => exact Z224 HO162.out)
               (case aS => exact (below_size (Z12)))
               (case aL => have := LMc39.out; omega)
               intro v168 w52 ho hb hg hat
               rw [← Ny167.out] at ho
               have n0_ := Aside0.mk (Kd.R_after (ok := (fun k_ => some k_ ≠ (v171 : Value).ownBlock ∧ k_ ≠ gb134)) (Z107) hg hat)
               have n1_ := Aside0.mk (blk_grown (g := gb134) (o := .cells #[.int .i64 ((rd_T64 l0 x10_1).f0), .int .i64 ((rd_T64 l0 x10_1).f1), .int .i64 ((rd_T64 l0 x10_1).f2)] 64 (0, 0)) (Z2 BK134.out) hg (Kd.R_away HO162.out (fun _ hk => hk.1.2)))
               have n2_ := Aside0.mk (Kd.R_after (ok := (fun k_ => some k_ ≠ (.slice Ao7 x4_1.length co7 : Value).ownBlock ∧ k_ ≠ gb134)) (Z225 HO172.out) hg hat)
               have n3_ := Aside0.mk (hb)
               have n4_ := Aside0.mk ((show Kd.C k64 w52 Ao7 y163.length y163 from by rw [Ny163.out]; exact Kd.C_take (m := (x7_2 : Int).toNat) ((Kd.R_reads' (Kd.R_after (ok := (fun k_ => some k_ ≠ (v171 : Value).ownBlock ∧ k_ ≠ gb134)) (Z107) hg hat)).2.2) KL46.out))
               have n5_ := Aside0.mk ((show Kd.C k64 w52 A47 y176.length y176 from by rw [Ny176.out, KA47.out]; exact Kd.C_drop (m := (x7_2 : Int).toNat) (c := co7) ((Kd.R_reads' (Kd.R_after (ok := (fun k_ => some k_ ≠ (v171 : Value).ownBlock ∧ k_ ≠ gb134)) (Z107) hg hat)).2.2) KL47.out ((Kd.R_reads' (Kd.R_after (ok := (fun k_ => some k_ ≠ (v171 : Value).ownBlock ∧ k_ ≠ gb134)) (Z107) hg hat)).2.1)))
               have n6_ := Aside0.mk (ho)
               clear HO_4
               clear BK134
               clear HO172
               clear HB
               clear HR166
               clear HR179
               clear HO162
               have HO_4 := n0_
               have BK134 := n1_
               have HO172 := n2_
               have HB := n3_
               have HR166 := n4_
               have HR179 := n5_
               have HO169 := n6_
               clear n0_ n1_ n2_ n3_ n4_ n5_ n6_
               clear ho hb hg hat
               refine hK.out _ _ ⟨(blk_cell BK134.out 0).trans rfl, (blk_cell BK134.out 1).trans rfl, (blk_cell BK134.out 2).trans rfl⟩ (fun hHeld => ?_)
               clear hK K
               refine norm_ (a' := ?_) ?_ ?_
               rotate_left
               ·show Act.put _ (some 33) _ = _
                simp only [Act.put, List.setIfInBounds_toArray, List.set_cons_zero, List.set_cons_succ, i64_w, i32_w]
                rfl
               exact norm_ (Z109) (hCont (v161, v168, v171) _ ⟨hHeld, (Z124 HO169.out), (Z101 HO172.out), (Z101 HO_4.out), (Z2 BK134.out), (Z12)⟩)
              skip
              refine Kd.R_lit_step k64 _ 64 ?hg (N := 35) ?hd (xs := ([(⟨((rd_T64 l0 x10_1).f0), ((rd_T64 l0 x10_1).f1), ((rd_T64 l0 x10_1).f2)⟩ : S64)] : List (S64))) (inner := [.int .i64 ((rd_T64 l0 x10_1).f0), .int .i64 ((rd_T64 l0 x10_1).f1), .int .i64 ((rd_T64 l0 x10_1).f2)]) (ok := fun _ => True) (okp := fun _ => True) ?hr ?hp (fun _ hk => hk) trivial (Below.refl _ _) (Nat.le_refl _) (by simp) ?_; (case hd => rfl); (case hg => rfl); (case hr => exact Z100); (case hp => exact (Reps.c3 (show Kd.M k64 _ _ _ (⟨((rd_T64 l0 x10_1).f0), ((rd_T64 l0 x10_1).f1), ((rd_T64 l0 x10_1).f2)⟩ : S64) [.int .i64 ((rd_T64 l0 x10_1).f0), .int .i64 ((rd_T64 l0 x10_1).f1), .int .i64 ((rd_T64 l0 x10_1).f2)] from (k64_mkM _ _ _ (⟨((rd_T64 l0 x10_1).f0), ((rd_T64 l0 x10_1).f1), ((rd_T64 l0 x10_1).f2)⟩ : S64) )) (Reps.none _ _)))
              intro v171 w48 ho49 hb hg_ hnew_
              clear hg_ hnew_
              (first | rw [← Ny170.out] at ho49 | (simp only [Int.reduceToNat] at ho49; rw [← Ny170.out] at ho49))
              have n0_ := Aside0.mk (Kd.R_elder' (Z1 HO_4.out) (Kd.R_base ho49) hb)
              have n1_ := Aside0.mk (Kd.R_lower (Kd.R_newB (Kd.R_new' ho49 (Yd_ HO_4.out)) (g := gb134) (o := .cells #[.int .i64 ((rd_T64 l0 x10_1).f0), .int .i64 ((rd_T64 l0 x10_1).f1), .int .i64 ((rd_T64 l0 x10_1).f2)] 64 (0, 0)) (Z2 BK134.out)) (below_size (Z12)))
              have n2_ := Aside0.mk (blk_below (g := gb134) (o := .cells #[.int .i64 ((rd_T64 l0 x10_1).f0), .int .i64 ((rd_T64 l0 x10_1).f1), .int .i64 ((rd_T64 l0 x10_1).f2)] 64 (0, 0)) (Z2 BK134.out) hb)
              have n3_ := Aside0.mk (Kd.C_below (Z24 HR166.out) hb)
              have n4_ := Aside0.mk (Kd.C_below (Z24 HR179.out) hb)
              have n5_ := Aside0.mk (below_step (Z12) hb)
              clear HO_4
              clear BK134
              clear HR166
              clear HR179
              clear HB
              have HO_4 := n0_
              have HO172 := n1_
              have BK134 := n2_
              have HR166 := n3_
              have HR179 := n4_
              have HB := n5_
              clear n0_ n1_ n2_ n3_ n4_ n5_
              clear hb ho49
              refine hK.out _ _ ⟨(blk_cell BK134.out 0).trans rfl, (blk_cell BK134.out 1).trans rfl, (blk_cell BK134.out 2).trans rfl⟩ (fun hHeld => ?_)
              clear hK K
              refine norm_ (a' := ?_) ?_ ?_
              rotate_left
              ·show Act.put _ (some 35) _ = _
               simp only [Act.put, List.setIfInBounds_toArray, List.set_cons_zero, List.set_cons_succ, i64_w, i32_w]
               rfl
              refine one_ (i := 0) (N := some 29) (N_ 13 1903) rfl rfl (one_of HT_.out (by kernel_rfl)) (by decide) (fun K hK => ?_)
              refine Kd.R_lit_step k64 _ 64 ?hg (N := 29) ?hd (xs := ([] : List (S64))) (inner := []) (ok := fun _ => True) (okp := fun _ => True) ?hr ?hp (fun _ hk => hk) trivial (Below.refl _ _) (Nat.le_refl _) (by simp) ?_; (case hd => rfl); (case hg => rfl); (case hr => exact Z100); (case hp => exact (Reps.none _ _))
              intro v161 w50 ho51 hb hg_ hnew_
              clear hg_ hnew_
              (first | rw [← Ny160.out] at ho51 | (simp only [Int.reduceToNat] at ho51; rw [← Ny160.out] at ho51))
              have n0_ := Aside0.mk (Kd.R_elder' (Z1 HO_4.out) (Kd.R_base ho51) hb)
              have n1_ := Aside0.mk (Kd.R_elder' (Z1 HO172.out) (Kd.R_base ho51) hb)
              have n2_ := Aside0.mk (Kd.R_lower (Kd.R_newB (Kd.R_new' (Kd.R_new' ho51 (Yd_ HO_4.out)) (Yd_ HO172.out)) (g := gb134) (o := .cells #[.int .i64 ((rd_T64 l0 x10_1).f0), .int .i64 ((rd_T64 l0 x10_1).f1), .int .i64 ((rd_T64 l0 x10_1).f2)] 64 (0, 0)) (Z2 BK134.out)) (below_size (Z12)))
              have n3_ := Aside0.mk (blk_below (g := gb134) (o := .cells #[.int .i64 ((rd_T64 l0 x10_1).f0), .int .i64 ((rd_T64 l0 x10_1).f1), .int .i64 ((rd_T64 l0 x10_1).f2)] 64 (0, 0)) (Z2 BK134.out) hb)
              have n4_ := Aside0.mk (Kd.C_below (Z24 HR166.out) hb)
              have n5_ := Aside0.mk (Kd.C_below (Z24 HR179.out) hb)
              have n6_ := Aside0.mk (below_step (Z12) hb)
              clear HO_4
              clear HO172
              clear BK134
              clear HR166
              clear HR179
              clear HB
              have HO_4 := n0_
              have HO172 := n1_
              have HO162 := n2_
              have BK134 := n3_
              have HR166 := n4_
              have HR179 := n5_
              have HB := n6_
              clear n0_ n1_ n2_ n3_ n4_ n5_ n6_
              clear hb ho51
              refine hK.out _ _ ⟨(blk_cell BK134.out 0).trans rfl, (blk_cell BK134.out 1).trans rfl, (blk_cell BK134.out 2).trans rfl⟩ (fun hHeld => ?_)
              clear hK K
              refine norm_ (a' := ?_) ?_ ?_
              rotate_left
              ·show Act.put _ (some 29) _ = _
               simp only [Act.put, List.setIfInBounds_toArray, List.set_cons_zero, List.set_cons_succ, i64_w, i32_w]
               rfl
              refine one_ (i := 4) (N := some 33) (N_ 13 1919) rfl rfl (one_of HT_.out (by kernel_rfl)) (by decide) (fun K hK => ?_)
              refine Kd.R_append_rows_step k64 (w0 := w) w.heap.size (by rfl) (.tmp 29) (.tmp 32) 23 64 (.agg #[(.int .i64 0), (.int .i64 0), (.int .i64 0)]) 24 rfl Try.underlying23 info64 rfl (by decide) (by omega) v161 y160 y163 _ _ _ (fun k_ => some k_ ≠ (.slice Ao7 x4_1.length co7 : Value).ownBlock ∧ some k_ ≠ (v171 : Value).ownBlock ∧ k_ ≠ gb134) (fun _ => False) rfl rfl ?aO ?aR (fun _ _ h => h) (fun _ h => h.elim) ?aF ?aB ?aS ?aL ?_
              (case aR => exact Z114 HR166.out)
              (case aB => exact Z12)
              (case aF => exact (fun k_ hk => ⟨Kd.fresh' (Yd_ HO_4.out) k_ hk, Kd.fresh' (Yd_ HO172.out) k_ hk, Kd.freshB (g := gb134) (o := .cells #[.int .i64 ((rd_T64 l0 x10_1).f0), .int .i64 ((rd_T64 l0 x10_1).f1), .int .i64 ((rd_T64 l0 x10_1).f2)] 64 (0, 0)) (Z2 BK134.out) k_ hk⟩))
              (case aO => exact Z122 HO162.out)
              (case aS => exact (below_size (Z12)))
              (case aL => have := LMc39.out; omega)
              intro v168 w52 ho hb hg hat
              rw [← Ny167.out] at ho
              have n0_ := Aside0.mk (Kd.R_after (ok := (fun k_ => some k_ ≠ (v171 : Value).ownBlock ∧ k_ ≠ gb134)) (Z108) hg hat)
              have n1_ := Aside0.mk (blk_grown (g := gb134) (o := .cells #[.int .i64 ((rd_T64 l0 x10_1).f0), .int .i64 ((rd_T64 l0 x10_1).f1), .int .i64 ((rd_T64 l0 x10_1).f2)] 64 (0, 0)) (Z2 BK134.out) hg (Kd.R_away HO162.out (fun _ hk => hk.2)))
              have n2_ := Aside0.mk (Kd.R_after (ok := (fun k_ => some k_ ≠ (.slice Ao7 x4_1.length co7 : Value).ownBlock ∧ k_ ≠ gb134)) (Z226 HO172.out) hg hat)
              have n3_ := Aside0.mk (hb)
              have n4_ := Aside0.mk ((show Kd.C k64 w52 Ao7 y163.length y163 from by rw [Ny163.out]; exact Kd.C_take (m := (x7_2 : Int).toNat) ((Kd.R_reads' (Kd.R_after (ok := (fun k_ => some k_ ≠ (v171 : Value).ownBlock ∧ k_ ≠ gb134)) (Z108) hg hat)).2.2) KL46.out))
              have n5_ := Aside0.mk ((show Kd.C k64 w52 A47 y176.length y176 from by rw [Ny176.out, KA47.out]; exact Kd.C_drop (m := (x7_2 : Int).toNat) (c := co7) ((Kd.R_reads' (Kd.R_after (ok := (fun k_ => some k_ ≠ (v171 : Value).ownBlock ∧ k_ ≠ gb134)) (Z108) hg hat)).2.2) KL47.out ((Kd.R_reads' (Kd.R_after (ok := (fun k_ => some k_ ≠ (v171 : Value).ownBlock ∧ k_ ≠ gb134)) (Z108) hg hat)).2.1)))
              have n6_ := Aside0.mk (ho)
              clear HO_4
              clear BK134
              clear HO172
              clear HB
              clear HR166
              clear HR179
              clear HO162
              have HO_4 := n0_
              have BK134 := n1_
              have HO172 := n2_
              have HB := n3_
              have HR166 := n4_
              have HR179 := n5_
              have HO169 := n6_
              clear n0_ n1_ n2_ n3_ n4_ n5_ n6_
              clear ho hb hg hat
              refine hK.out _ _ ⟨(blk_cell BK134.out 0).trans rfl, (blk_cell BK134.out 1).trans rfl, (blk_cell BK134.out 2).trans rfl⟩ (fun hHeld => ?_)
              clear hK K
              refine norm_ (a' := ?_) ?_ ?_
              rotate_left
              ·show Act.put _ (some 33) _ = _
               simp only [Act.put, List.setIfInBounds_toArray, List.set_cons_zero, List.set_cons_succ, i64_w, i32_w]
               rfl
              exact norm_ (Z109) (hCont (v161, v168, v171) _ ⟨hHeld, (Z124 HO169.out), (Z101 HO172.out), (Z101 HO_4.out), (Z2 BK134.out), (Z12)⟩)
             rintro ⟨v161, v168, v171⟩ w53 ⟨hS_, h0_, h1_, h2_, h3_, h4_⟩
             have n0_ : Aside0 (Kd.R k64 64 w53 w.heap.size (fun k_ => some k_ ≠ (v171 : Value).ownBlock ∧ some k_ ≠ (.slice Ao7 x4_1.length co7 : Value).ownBlock ∧ k_ ≠ gb134) v168 y167) := ⟨h0_⟩
             have n1_ : Aside0 (Kd.R k64 64 w53 w.heap.size (fun k_ => some k_ ≠ (v168 : Value).ownBlock ∧ some k_ ≠ (.slice Ao7 x4_1.length co7 : Value).ownBlock ∧ k_ ≠ gb134) v171 y170) := ⟨h1_⟩
             have n2_ : Aside0 (Kd.R k64 64 w53 w.heap.size (fun k_ => some k_ ≠ (v168 : Value).ownBlock ∧ some k_ ≠ (v171 : Value).ownBlock ∧ k_ ≠ gb134) (.slice Ao7 x4_1.length co7) x4_1) := ⟨h2_⟩
             have n3_ : Aside0 (w53.heap[gb134]? = some (.cells #[.int .i64 ((rd_T64 l0 x10_1).f0), .int .i64 ((rd_T64 l0 x10_1).f1), .int .i64 ((rd_T64 l0 x10_1).f2)] 64 (0, 0))) := ⟨h3_⟩
             have n4_ : Aside0 (Below w.heap.size w w53) := ⟨h4_⟩
             clear HO_4
             clear BK134
             clear HB
             clear h0_ h1_ h2_ h3_ h4_
             have HO169 := n0_
             have HO172 := n1_
             have HO_4 := n2_
             have BK134 := n3_
             have HB := n4_
             clear n0_ n1_ n2_ n3_ n4_
             have hHeld : w53.cell? ⟨gb134, 0, none⟩ = some (.int .i64 ((rd_T64 l0 x10_1).f0)) ∧ w53.cell? ⟨gb134, 1, none⟩ = some (.int .i64 ((rd_T64 l0 x10_1).f1)) ∧ w53.cell? ⟨gb134, 2, none⟩ = some (.int .i64 ((rd_T64 l0 x10_1).f2)) := hS_
             have n_ := Aside0.mk (show Kd.C k64 _ Ao7 y163.length y163 from by rw [Ny163.out]; exact Kd.C_take (m := (x7_2 : Int).toNat) ((Kd.R_reads' HO_4.out).2.2) KL46.out)
             (try clear HR166)
             have HR166 := n_
             clear n_
             have n_ := Aside0.mk (show Kd.C k64 _ A47 y176.length y176 from by rw [Ny176.out, KA47.out]; exact Kd.C_drop (m := (x7_2 : Int).toNat) (c := co7) ((Kd.R_reads' HO_4.out).2.2) KL47.out ((Kd.R_reads' HO_4.out).2.1))
             (try clear HR179)
             have HR179 := n_
             clear n_
             obtain ⟨Ao55, co55, eo55⟩ := Kd.R_slice HO172.out
             (first | subst eo55 | (injection eo55 with f1_ f2_ f3_; have f4_ := f1_.symm; have f5_ := f3_.symm; clear f1_ f2_ f3_; subst f4_; subst f5_))
             refine norm_ (a' := ?_) ?_ ?_
             rotate_left
             ·simp only [putAll, Act.put, List.setIfInBounds_toArray, List.set_cons_zero, List.set_cons_succ]
              rfl
             refine one_ (i := 7) (N := some 36) (M_ 11 2) rfl rfl (one_of HT_.out (by kernel_rfl)) (by decide) (fun K hK => ?_)
             refine Kd.R_append_rows_step k64 (w0 := w) w.heap.size (by rfl) (.tmp 33) (.tmp 35) 23 64 (.agg #[(.int .i64 0), (.int .i64 0), (.int .i64 0)]) 24 rfl Try.underlying23 info64 rfl (by decide) (by omega) v168 y167 y170 _ _ _ (fun k_ => some k_ ≠ (.slice Ao7 x4_1.length co7 : Value).ownBlock ∧ some k_ ≠ (.slice Ao55 y170.length co55 : Value).ownBlock ∧ k_ ≠ gb134) (fun _ => False) rfl rfl ?aO ?aR (fun _ _ h => h) (fun _ h => h.elim) ?aF ?aB ?aS ?aL ?_
             (case aR => exact Z7 HO172.out)
             (case aB => exact Z12)
             (case aF => exact (fun k_ hk => ⟨Kd.fresh' (Yd_ HO_4.out) k_ hk, Kd.fresh' (Yd_ HO172.out) k_ hk, Kd.freshB (g := gb134) (o := .cells #[.int .i64 ((rd_T64 l0 x10_1).f0), .int .i64 ((rd_T64 l0 x10_1).f1), .int .i64 ((rd_T64 l0 x10_1).f2)] 64 (0, 0)) (Z2 BK134.out) k_ hk⟩))
             (case aO => exact Z124 HO169.out)
             (case aS => exact (below_size (Z12)))
             (case aL => have := LMc40.out; omega)
             intro v174 w54 ho hb hg hat
             rw [← Ny173.out] at ho
             have n0_ := Aside0.mk (Kd.R_after (ok := (fun k_ => some k_ ≠ (.slice Ao55 y170.length co55 : Value).ownBlock ∧ k_ ≠ gb134)) (Z102 HO_4.out) hg hat)
             have n1_ := Aside0.mk (blk_grown (g := gb134) (o := .cells #[.int .i64 ((rd_T64 l0 x10_1).f0), .int .i64 ((rd_T64 l0 x10_1).f1), .int .i64 ((rd_T64 l0 x10_1).f2)] 64 (0, 0)) (Z2 BK134.out) hg (Kd.R_away HO169.out (fun _ hk => hk.2.2)))
             have n2_ := Aside0.mk (Kd.R_after (ok := (fun k_ => some k_ ≠ (.slice Ao7 x4_1.length co7 : Value).ownBlock ∧ k_ ≠ gb134)) (Z102 HO172.out) hg hat)
             have n3_ := Aside0.mk (hb)
             have n4_ := Aside0.mk ((show Kd.C k64 w54 Ao7 y163.length y163 from by rw [Ny163.out]; exact Kd.C_take (m := (x7_2 : Int).toNat) ((Kd.R_reads' (Kd.R_after (ok := (fun k_ => some k_ ≠ (.slice Ao55 y170.length co55 : Value).ownBlock ∧ k_ ≠ gb134)) (Z102 HO_4.out) hg hat)).2.2) KL46.out))
             have n5_ := Aside0.mk ((show Kd.C k64 w54 A47 y176.length y176 from by rw [Ny176.out, KA47.out]; exact Kd.C_drop (m := (x7_2 : Int).toNat) (c := co7) ((Kd.R_reads' (Kd.R_after (ok := (fun k_ => some k_ ≠ (.slice Ao55 y170.length co55 : Value).ownBlock ∧ k_ ≠ gb134)) (Z102 HO_4.out) hg hat)).2.2) KL47.out ((Kd.R_reads' (Kd.R_after (ok := (fun k_ => some k_ ≠ (.slice Ao55 y170.length co55 : Value).ownBlock ∧ k_ ≠ gb134)) (Z102 HO_4.out) hg hat)).2.1)))
             have n6_ := Aside0.mk (ho)
             clear HO_4
             clear BK134
             clear HO172
             clear HB
             clear HR166
             clear HR179
             clear HO169
             have HO_4 := n0_
             have BK134 := n1_
             have HO172 := n2_
             have HB := n3_
             have HR166 := n4_
             have HR179 := n5_
             have HO175 := n6_
             clear n0_ n1_ n2_ n3_ n4_ n5_ n6_
             clear ho hb hg hat
             refine hK.out _ _ ⟨(blk_cell BK134.out 0).trans rfl, (blk_cell BK134.out 1).trans rfl, (blk_cell BK134.out 2).trans rfl⟩ (fun hHeld => ?_)
             clear hK K
             refine norm_ (a' := ?_) ?_ ?_
             rotate_left
             ·show Act.put _ (some 36) _ = _
              simp only [Act.put, List.setIfInBounds_toArray, List.set_cons_zero, List.set_cons_succ, i64_w, i32_w]
              rfl
             refine one_ (i := 11) (N := some 40) (M_ 12 1) rfl rfl (one_of HT_.out (by kernel_rfl)) (by decide) (fun K hK => ?_)
             refine Kd.R_append_rows_step k64 (w0 := w) w.heap.size (by rfl) (.tmp 36) (.tmp 39) 23 64 (.agg #[(.int .i64 0), (.int .i64 0), (.int .i64 0)]) 24 rfl Try.underlying23 info64 rfl (by decide) (by omega) v174 y173 y176 _ _ _ (fun k_ => some k_ ≠ (.slice Ao7 x4_1.length co7 : Value).ownBlock ∧ some k_ ≠ (.slice Ao55 y170.length co55 : Value).ownBlock ∧ k_ ≠ gb134) (fun _ => False) rfl rfl ?aO ?aR (fun _ _ h => h) (fun _ h => h.elim) ?aF ?aB ?aS ?aL ?_
             (case aR => exact Z114 HR179.out)
             (case aB => exact Z12)
             (case aF => exact (fun k_ hk => ⟨Kd.fresh' (Yd_ HO_4.out) k_ hk, Kd.fresh' (Yd_ HO172.out) k_ hk, Kd.freshB (g := gb134) (o := .cells #[.int .i64 ((rd_T64 l0 x10_1).f0), .int .i64 ((rd_T64 l0 x10_1).f1), .int .i64 ((rd_T64 l0 x10_1).f2)] 64 (0, 0)) (Z2 BK134.out) k_ hk⟩))
             (case aO => exact Z1 HO175.out)
             (case aS => exact (below_size (Z12)))
             (case aL => have := LMc43.out; omega)
             intro v181 w56 ho hb hg hat
             rw [← Ny180.out] at ho
             have n0_ := Aside0.mk (Kd.R_after (ok := (fun k_ => some k_ ≠ (.slice Ao55 y170.length co55 : Value).ownBlock ∧ k_ ≠ gb134)) (Z1 HO_4.out) hg hat)
             have n1_ := Aside0.mk (blk_grown (g := gb134) (o := .cells #[.int .i64 ((rd_T64 l0 x10_1).f0), .int .i64 ((rd_T64 l0 x10_1).f1), .int .i64 ((rd_T64 l0 x10_1).f2)] 64 (0, 0)) (Z2 BK134.out) hg (Kd.R_away HO175.out (fun _ hk => hk.2.2)))
             have n2_ := Aside0.mk (Kd.R_after (ok := (fun k_ => some k_ ≠ (.slice Ao7 x4_1.length co7 : Value).ownBlock ∧ k_ ≠ gb134)) (Z1 HO172.out) hg hat)
             have n3_ := Aside0.mk (hb)
             have n4_ := Aside0.mk ((show Kd.C k64 w56 Ao7 y163.length y163 from by rw [Ny163.out]; exact Kd.C_take (m := (x7_2 : Int).toNat) ((Kd.R_reads' (Kd.R_after (ok := (fun k_ => some k_ ≠ (.slice Ao55 y170.length co55 : Value).ownBlock ∧ k_ ≠ gb134)) (Z1 HO_4.out) hg hat)).2.2) KL46.out))
             have n5_ := Aside0.mk ((show Kd.C k64 w56 A47 y176.length y176 from by rw [Ny176.out, KA47.out]; exact Kd.C_drop (m := (x7_2 : Int).toNat) (c := co7) ((Kd.R_reads' (Kd.R_after (ok := (fun k_ => some k_ ≠ (.slice Ao55 y170.length co55 : Value).ownBlock ∧ k_ ≠ gb134)) (Z1 HO_4.out) hg hat)).2.2) KL47.out ((Kd.R_reads' (Kd.R_after (ok := (fun k_ => some k_ ≠ (.slice Ao55 y170.length co55 : Value).ownBlock ∧ k_ ≠ gb134)) (Z1 HO_4.out) hg hat)).2.1)))
             have n6_ := Aside0.mk (ho)
             clear HO_4
             clear BK134
             clear HO172
             clear HB
             clear HR166
             clear HR179
             clear HO175
             have HO_4 := n0_
             have BK134 := n1_
             have HO172 := n2_
             have HB := n3_
             have HR166 := n4_
             have HR179 := n5_
             have HO182 := n6_
             clear n0_ n1_ n2_ n3_ n4_ n5_ n6_
             clear ho hb hg hat
             refine hK.out _ _ ⟨(blk_cell BK134.out 0).trans rfl, (blk_cell BK134.out 1).trans rfl, (blk_cell BK134.out 2).trans rfl⟩ (fun hHeld => ?_)
             clear hK K
             refine norm_ (a' := ?_) ?_ ?_
             rotate_left
             ·show Act.put _ (some 40) _ = _
              simp only [Act.put, List.setIfInBounds_toArray, List.set_cons_zero, List.set_cons_succ, i64_w, i32_w]
              rfl
             refine pu_ 12 4 (M_ 13 0) ?_
             refine done_ (done_of HT_.out (by kernel_rfl)) ?_
             try go_wp2
             go_roundg k2
             case measure => have := HK1.out; have := HK2.out; omega
             case rel => exact ⟨(y180), (wrap64 (x10_1 + 1)), (Z17), H', ⟨Z153 HK1.out⟩, ⟨Z103 HO182.out⟩, ⟨Z12⟩⟩
            rw [if_neg c43] at H
            exact absurd H (by simp)
           rw [if_neg c40] at H
           exact absurd H (by simp)
          rw [if_neg c39] at H
          exact absurd H (by simp)
         rw [if_neg c38] at H
         exact absurd H (by simp)
        rw [if_neg c37] at H
        exact absurd H (by simp)
     rw [if_neg c4] at H
     exact absurd H (by simp)
    rw [if_neg c3] at H
    exact absurd H (by simp)
   rw [if_neg c2] at H
   have c2b0 : decide (x10_1 < (l0.length : Int)) = false := decide_eq_false c2
   clear c2
   replace H := Option.bind_eq_some_iff.mp H
   obtain ⟨t132, A570, H⟩ := H
   (try dsimp only at H)
   have A57 := Aside0.mk A570
   clear A570
   by_cases c58 : t132 = true
   ·subst c58
    rw [if_pos rfl] at H
    simp only [Option.some.injEq, Prod.mk.injEq] at H
    obtain ⟨rfl, rfl⟩ := H
    obtain ⟨Ao59, co59, eo59⟩ := Kd.R_slice HO_4.out
    subst eo59
    go_wp2_with (first | ((with_reducible refine gate_callee (f := 38) rfl ?_); refine gl_ 43 Try.func38 #[.slice Ao59 x4_1.length co59] ?_; (with_reducible refine (spec_shGood.calls k1 _ _ x4_1 true _ ?_ ?_ A57.out).mono ?_); exact Z7 HO_4.out; exact (Kd.R_reads' HO_4.out).2.1; rintro e w60 ⟨rfl, hb⟩; refine ⟨_, rfl, ?_⟩; refine k2_ (Ya_ HO_4.out) (below_step (Z3) hb) ?_; clear HO_4 HB; intro HO_4 HB; (try clear hb)))
    go_ret2
    exact ⟨_, Z11, Z1 HO_4.out, Z3⟩
   replace c58 := Bool.eq_false_iff.mpr c58
   subst c58
   rw [if_neg (show ¬ (false = true) by decide)] at H
   simp only [Option.some.injEq, Prod.mk.injEq] at H
   obtain ⟨rfl, rfl⟩ := H
   obtain ⟨Ao61, co61, eo61⟩ := Kd.R_slice HO_4.out
   subst eo61
   go_wp2_with (first | ((with_reducible refine gate_callee (f := 38) rfl ?_); refine gl_ 43 Try.func38 #[.slice Ao61 x4_1.length co61] ?_; (with_reducible refine (spec_shGood.calls k1 _ _ x4_1 false _ ?_ ?_ A57.out).mono ?_); exact Z7 HO_4.out; exact (Kd.R_reads' HO_4.out).2.1; rintro e w62 ⟨rfl, hb⟩; refine ⟨_, rfl, ?_⟩; refine k2_ (Ya_ HO_4.out) (below_step (Z3) hb) ?_; clear HO_4 HB; intro HO_4 HB; (try clear hb)))
   go_ret2
   exact ⟨_, Z11, Z21, Z3⟩

end Go.Proofs.Ytflefblmaopaiaa.PFnStops
