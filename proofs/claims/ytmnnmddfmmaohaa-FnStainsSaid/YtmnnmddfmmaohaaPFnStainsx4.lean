-- written by a program of this session: the kit's print, with outer functions of the session's own (wip/ext)
import Derived.Test.YtmnnmddfmmaohaaPFnStainsx0
import Derived.Test.YtmnnmddfmmaohaaPFnStainsx2
import Derived.Test.YtmnnmddfmmaohaaPFnStainsx3
namespace Go.Proofs.Ytmnnmddfmmaohaa.PFnStains
open Go.RowKit Go.Proofs.YtmnnmddfmmaohaaW.PrintWords Go.Proofs.YtmnnmddfmmaohaaW.PrintLast Go.Proofs.YtmnnmddfmmaohaaW.PrintMore
attribute [local go_sem] max2_int min2_int max_two min_two max_three min_three max_four min_four   -- for this text's walks alone
set_option linter.unusedVariables false
set_option linter.unusedSimpArgs false
theorem mo4_ {p : Prop} (h : p := by repeat' first | (with_reducible first | apply ih0 | apply ih0 | apply ih1 | apply ih1 | apply spec_shGood.mono | apply spec_shGood.mono | exact LeO.refl _ | exact LeO.none _ | refine LeO.ite ?_ ?_ | refine LeO.bind ?_ (fun _ => ?_)) | exact LeO.none _ | refine LeO.ite ?_ ?_ | refine LeO.bind ?_ (fun _ => ?_)) : p := h

/-! ### spec_shSorted: function 103 -/
mutual
def spec_shSorted.l0 : Nat → List (S90) → List (S90) → Int → Int → Option ((List (S90)) × Bool)
 | 0, _, _, _, _ => none
 | k + 1, x4, x8, x9, x10 => if x10 < x9 then (if 0 ≤ x10 then (if x10 < (x8.length : Int) then (spec_shSorted.l1 k x4 (x4.length : Int) x8 x9 x10 ((rd_T90 x8 x10).f0) ((rd_T90 x8 x10).f1) ((rd_T90 x8 x10).f2)) else (none)) else (none)) else ((spec_shGood.f k x4).bind fun t184 => (if t184 = true then (some (x4, true)) else (some (([] : List (S90)), false))))
def spec_shSorted.l1 : Nat → List (S90) → Int → List (S90) → Int → Int → Int → Int → Int → Option ((List (S90)) × Bool)
 | 0, _, _, _, _, _, _, _, _ => none
 | k + 1, x4, x7, x8, x9, x10, x187000, x187001, x187002 => if x7 > 0 then (if 0 ≤ (wrap64 (x7 - 1)) then (if (wrap64 (x7 - 1)) < (x4.length : Int) then ((spec_shBefore.f x187000 x187001 x187002 ((rd_T90 x4 (wrap64 (x7 - 1))).f0) ((rd_T90 x4 (wrap64 (x7 - 1))).f1) ((rd_T90 x4 (wrap64 (x7 - 1))).f2)).bind fun t188 => (if t188 = true then (spec_shSorted.l1 k x4 (wrap64 (x7 - 1)) x8 x9 x10 x187000 x187001 x187002) else ((some (([] : List (S90)) : List (S90))).bind fun y189 => (if 0 ≤ x7 then (if x7 ≤ (x4.length : Int) then ((some (x4.take (x7 : Int).toNat : List (S90))).bind fun y192 => (if y189.length + y192.length < 5864062014805 then ((some (y189 ++ y192 : List (S90))).bind fun y196 => ((some (([(⟨x187000, x187001, x187002⟩ : S90)] : List (S90)) : List (S90))).bind fun y199 => (if y196.length + y199.length < 5864062014805 then ((some (y196 ++ y199 : List (S90))).bind fun y202 => ((some (x4.drop (x7 : Int).toNat : List (S90))).bind fun y205 => (if y202.length + y205.length < 5864062014805 then (spec_shSorted.l0 k (y202 ++ y205) x8 x9 (wrap64 (x10 + 1))) else (none)))) else (none)))) else (none))) else (none)) else (none))))) else (none)) else (none)) else ((some (([] : List (S90)) : List (S90))).bind fun y212 => (if 0 ≤ x7 then (if x7 ≤ (x4.length : Int) then ((some (x4.take (x7 : Int).toNat : List (S90))).bind fun y215 => (if y212.length + y215.length < 5864062014805 then ((some (y212 ++ y215 : List (S90))).bind fun y219 => ((some (([(⟨x187000, x187001, x187002⟩ : S90)] : List (S90)) : List (S90))).bind fun y222 => (if y219.length + y222.length < 5864062014805 then ((some (y219 ++ y222 : List (S90))).bind fun y225 => ((some (x4.drop (x7 : Int).toNat : List (S90))).bind fun y228 => (if y225.length + y228.length < 5864062014805 then (spec_shSorted.l0 k (y225 ++ y228) x8 x9 (wrap64 (x10 + 1))) else (none)))) else (none)))) else (none))) else (none)) else (none)))
end
def spec_shSorted.f (k : Nat) (l0 : List (S90)) : Option ((List (S90)) × Bool) := spec_shSorted.l0 k ([] : List (S90)) l0 (l0.length : Int) 0
theorem spec_shSorted.mono_l : ∀ k, (∀ y0 y1 y2 y3, LeO (spec_shSorted.l0 k y0 y1 y2 y3) (spec_shSorted.l0 (k + 1) y0 y1 y2 y3)) ∧ (∀ y0 y1 y2 y3 y4 y5 y6 y7, LeO (spec_shSorted.l1 k y0 y1 y2 y3 y4 y5 y6 y7) (spec_shSorted.l1 (k + 1) y0 y1 y2 y3 y4 y5 y6 y7))
 | 0 => ⟨fun _ _ _ _ r h => by simp [spec_shSorted.l0] at h, fun _ _ _ _ _ _ _ _ r h => by simp [spec_shSorted.l1] at h⟩
 | k + 1 => by
  obtain ⟨ih0, ih1⟩ := spec_shSorted.mono_l k
  refine ⟨?_, ?_⟩
  ·intro y0 y1 y2 y3
   unfold spec_shSorted.l0
   exact mo4_
  intro y0 y1 y2 y3 y4 y5 y6 y7
  unfold spec_shSorted.l1
  exact mo4_
theorem spec_shSorted.mono : ∀ a0 k, LeO (spec_shSorted.f k a0) (spec_shSorted.f (k + 1) a0) := by
 intro a0 k
 obtain ⟨ih0, ih1⟩ := spec_shSorted.mono_l k
 unfold spec_shSorted.f
 exact mo4_
def spec_shSorted.T6 : Bool × List (List Nat × List Nat) := (true, [([], []), ([0], [0]), ([1], [1]), ([2], [2]), ([2], [2]), ([2], [2]), ([5, 2], [2, 5]), ([4, 6, 2], [2, 4, 6]), ([7, 2], [2, 7]), ([3, 8, 2, 2], [2, 3, 8]), ([2, 9], [2, 9])])
def spec_shSorted.B6 : List Nat := [0, 1, 3, 7, 7, 7, 39, 119, 247, 511, 1023]
theorem spec_shSorted.tab6 : rtab .any (opsOf Try.f103 6) = spec_shSorted.T6 := by kernel_rfl
theorem spec_shSorted.bits6 : waitsOk spec_shSorted.T6.2 spec_shSorted.B6 = true := by kernel_rfl
def spec_shSorted.T8 : Bool × List (List Nat × List Nat) := (true, [([], []), ([], []), ([], []), ([1, 2], [1, 2]), ([0, 3], [0, 3]), ([], []), ([5], [5]), ([4, 6, 4], [4, 6]), ([], []), ([], []), ([8, 9], [8, 9]), ([7, 10, 7], [7, 10]), ([11, 11, 0, 1, 2, 3, 4, 5, 6, 7, 8, 9, 10, 11], [1, 8, 11])])
def spec_shSorted.B8 : List Nat := [0, 0, 0, 6, 15, 0, 32, 127, 0, 0, 768, 2047, 4095]
theorem spec_shSorted.tab8 : rtab .any (opsOf Try.f103 8) = spec_shSorted.T8 := by kernel_rfl
theorem spec_shSorted.bits8 : waitsOk spec_shSorted.T8.2 spec_shSorted.B8 = true := by kernel_rfl
set_option maxHeartbeats 8000000 in
set_option maxRecDepth 100000 in
theorem spec_shSorted.calls (k : Nat) (A0 : Option Addr) (c0 : Nat) (l0 : List (S90)) (r1 : List (S90)) (r2 : Bool) (w : World) (hr0 : Kd.C k90 w A0 l0.length l0) (hc0 : l0.length ≤ c0) (h : spec_shSorted.f k l0 = some (r1, r2)) :
  Calls Try.prog 103 #[.slice A0 l0.length c0] w fun e w' => ∃ v0_ : Value, e = .returned (.tuple #[v0_, .bool r2]) ∧ Kd.R k90 90 w' w.heap.size (fun _ => True) v0_ r1 ∧ Below w.heap.size w w' := by
 have hu90 := Try.underlying90
 have HR0 := Aside0.mk hr0
 have HC0 := Aside0.mk hc0
 clear hr0 hc0
 have HB := Aside0.mk (Below.refl w.heap.size w)
 have H : (spec_shSorted.l0 k ([] : List (S90)) l0 (l0.length : Int) 0) = some (r1, r2) := h
 clear h
 have H' := Aside0.mk H
 clear H
 go_enter Try.func103, Try.ntmps103
 go_wp2
 go_loopg [4, 10] k (fun kq v4 v10 w' => ∃ (x4_1 : List (S90)) (x10_1 : Int), v10 = .int .i64 x10_1 ∧ Aside0 (spec_shSorted.l0 kq x4_1 l0 (l0.length : Int) x10_1 = some (r1, r2)) ∧ Aside0 (kq ≤ k) ∧ Aside0 (Kd.R k90 90 w' w.heap.size (fun _ => True) v4 x4_1) ∧ Aside0 (Below w.heap.size w w'))
 case atStart => exact ⟨(([] : List (S90))), (0), (Z10), H', ⟨Nat.le_refl _⟩, ⟨Z21⟩, ⟨Z2⟩⟩
 case round =>
  clear H'
  (try clear c1)
  obtain ⟨x4_1, x10_1, rfl, HA, HK1, HO_4, HB⟩ := hrel
  cases gk with
  | zero => exact absurd HA.out (by simp [spec_shSorted.l0])
  | succ k1 =>
   have H := HA.out
   clear HA
   simp only [spec_shSorted.l0] at H
   by_cases c2 : x10_1 < (l0.length : Int)
   ·rw [if_pos c2] at H
    have c2b0 : decide (x10_1 < (l0.length : Int)) = true := decide_eq_true c2
    clear c2
    by_cases c3 : 0 ≤ x10_1
    ·rw [if_pos c3] at H
     have c3b0 : decide (0 ≤ x10_1) = true := decide_eq_true c3
     clear c3
     by_cases c4 : x10_1 < (l0.length : Int)
     ·rw [if_pos c4] at H
      have c4b0 : decide (x10_1 < (l0.length : Int)) = true := decide_eq_true c4
      clear c4
      have H' := Aside0.mk H
      clear H
      have p185 : 0 ≤ (x10_1 : Int) := of_decide_eq_true (Z8)
      have q185 : x10_1 < (l0.length : Int) := of_decide_eq_true (Z8)
      obtain ⟨ad185, e185, hx185_0, hx185_1, hx185_2⟩ := at_T90 HR0.out x10_1 p185 q185
      cases e185
      replace hx185_0 := (HB.out.cell (World.block_lt_of_cell? w _ hx185_0)).trans hx185_0
      replace hx185_1 := (HB.out.cell (World.block_lt_of_cell? w _ hx185_1)).trans hx185_1
      replace hx185_2 := (HB.out.cell (World.block_lt_of_cell? w _ hx185_2)).trans hx185_2
      replace p185 := eq_true p185
      replace q185 := eq_true q185
      go_wp2_with (first | ((with_reducible refine gate_dst (N := 6) rfl ?_); refine bv_ 6 90 #[.int .i64 0, .int .i64 0, .int .i64 0] ?_; intro gb186 hg w5 hbox hb; refine k5_ (Kd.R_below (Kd.R_elderB (Z1 HO_4.out) gb186 (Nat.le_of_eq hg.symm)) hb) (below_step (Z2) hb) (hbox) ((Z34 : w.heap.size ≤ gb186)) ((Z34 : w.heap.size ≤ gb186)) ?_; clear HO_4 HB; intro HO_4 HB BK186 GW186 GE186; clear hb hbox hg; obtain ⟨hcz6_0, hcz6_1, hcz6_2, hfz6_0, hfz6_1, hfz6_2⟩ := bx3_ (w := w5) BK186.out; obtain ⟨Ao7, co7, eo7⟩ := Kd.R_slice HO_4.out; subst eo7))
      go_loopg [7] k1 (fun kq v7 w' => ∃ (x7_2 : Int), v7 = .int .i64 x7_2 ∧ Aside0 (spec_shSorted.l1 kq x4_1 x7_2 l0 (l0.length : Int) x10_1 ((rd_T90 l0 x10_1).f0) ((rd_T90 l0 x10_1).f1) ((rd_T90 l0 x10_1).f2) = some (r1, r2)) ∧ Aside0 (kq ≤ k1) ∧ Aside0 (Kd.R k90 90 w' w.heap.size (fun k_ => k_ ≠ gb186) (.slice Ao7 x4_1.length co7) x4_1) ∧ Aside0 (w'.heap[gb186]? = some (.cells #[.int .i64 ((rd_T90 l0 x10_1).f0), .int .i64 ((rd_T90 l0 x10_1).f1), .int .i64 ((rd_T90 l0 x10_1).f2)] 90 (0, 0))) ∧ Aside0 (Below w.heap.size w w'))
      case atStart => exact ⟨((x4_1.length : Int)), (Z10), H', ⟨Nat.le_refl _⟩, ⟨by (with_reducible repeat (first | apply Kd.R_alloc | apply Kd.R_drewN | apply Kd.R_drew)); exact Kd.R_mono (Kd.R_far (p := ⟨gb186, 2, none⟩) (Kd.R_far (p := ⟨gb186, 1, none⟩) (Kd.R_far (p := ⟨gb186, 0, none⟩) (Kd.R_mono HO_4.out (fun k_ hk => (⟨hk, hk.2⟩ : _ ∧ k_ ≠ gb186))) (fun _ hk => hk.2) (.int .i64 ((rd_T90 l0 x10_1).f0))) (fun _ hk => hk.2) (.int .i64 ((rd_T90 l0 x10_1).f1))) (fun _ hk => hk.2) (.int .i64 ((rd_T90 l0 x10_1).f2))) (fun _ hk => hk.1.2)⟩, ⟨Z57 BK186.out⟩, ⟨Z12⟩⟩
      case round =>
       clear H'
       (try clear p1); (try clear q1); (try clear hx1); (try clear c2); (try clear c2b0); (try clear p2); (try clear c3); (try clear c3b0); (try clear c4); (try clear c4b0); (try clear hcz6_0); (try clear hcz6_1); (try clear hcz6_2); (try clear hfz6_0); (try clear hfz6_1); (try clear hfz6_2); (try clear hx185_0); (try clear hx185_1); (try clear hx185_2); (try clear p185); (try clear q185)
       obtain ⟨x7_2, rfl, HA, HK2, HO_4, BK186, HB⟩ := hrel
       cases gk with
       | zero => exact absurd HA.out (by simp [spec_shSorted.l1])
       | succ k2 =>
        have H := HA.out
        clear HA
        simp only [spec_shSorted.l1] at H
        by_cases c8 : x7_2 > 0
        ·rw [if_pos c8] at H
         have c8b0 : decide (0 < x7_2) = true := decide_eq_true c8
         clear c8
         obtain ⟨ji9, hji9⟩ : ∃ j_ : Int, (wrap64 (x7_2 - 1)) = j_ := ⟨_, rfl⟩
         replace H : (if 0 ≤ (ji9) then (if (ji9) < (x4_1.length : Int) then ((spec_shBefore.f ((rd_T90 l0 x10_1).f0) ((rd_T90 l0 x10_1).f1) ((rd_T90 l0 x10_1).f2) ((rd_T90 x4_1 (ji9)).f0) ((rd_T90 x4_1 (ji9)).f1) ((rd_T90 x4_1 (ji9)).f2)).bind fun t188 => (if t188 = true then (spec_shSorted.l1 k2 x4_1 ji9 l0 (l0.length : Int) x10_1 ((rd_T90 l0 x10_1).f0) ((rd_T90 l0 x10_1).f1) ((rd_T90 l0 x10_1).f2)) else ((some (([] : List (S90)) : List (S90))).bind fun y189 => (if 0 ≤ x7_2 then (if x7_2 ≤ (x4_1.length : Int) then ((some (x4_1.take (x7_2 : Int).toNat : List (S90))).bind fun y192 => (if y189.length + y192.length < 5864062014805 then ((some (y189 ++ y192 : List (S90))).bind fun y196 => ((some (([(⟨((rd_T90 l0 x10_1).f0), ((rd_T90 l0 x10_1).f1), ((rd_T90 l0 x10_1).f2)⟩ : S90)] : List (S90)) : List (S90))).bind fun y199 => (if y196.length + y199.length < 5864062014805 then ((some (y196 ++ y199 : List (S90))).bind fun y202 => ((some (x4_1.drop (x7_2 : Int).toNat : List (S90))).bind fun y205 => (if y202.length + y205.length < 5864062014805 then (spec_shSorted.l0 k2 (y202 ++ y205) l0 (l0.length : Int) (wrap64 (x10_1 + 1))) else (none)))) else (none)))) else (none))) else (none)) else (none))))) else (none)) else (none)) = some (r1, r2) := by first | (rw [hji9] at H; exact H) | (simp only [hji9] at H ⊢; exact H)
         have hji9w : (IntKind.i64.wrap (x7_2 - 1)) = ji9 := (i64_w _).trans hji9
         by_cases c10 : 0 ≤ (ji9)
         ·rw [if_pos c10] at H
          have c10b0 : decide (0 ≤ (ji9)) = true := decide_eq_true c10
          clear c10
          by_cases c11 : (ji9) < (x4_1.length : Int)
          ·rw [if_pos c11] at H
           have c11b0 : decide ((ji9) < (x4_1.length : Int)) = true := decide_eq_true c11
           clear c11
           replace H := Option.bind_eq_some_iff.mp H
           obtain ⟨t188, A120, H⟩ := H
           (try dsimp only at H)
           have A12 := Aside0.mk A120
           clear A120
           by_cases c13 : t188 = true
           ·subst c13
            rw [if_pos rfl] at H
            have H' := Aside0.mk H
            clear H
            try go_wp2
            refine k3_ (Kd.R_drew HO_4.out) (blk_drew BK186.out) (below_drew1 HB.out) ?_
            clear HO_4 BK186 HB
            intro HO_4 BK186 HB
            have p187 : 0 ≤ ((ji9) : Int) := of_decide_eq_true (Z8)
            have q187 : (ji9) < (x4_1.length : Int) := of_decide_eq_true (Z8)
            obtain ⟨ad187, e187, hx187_0, hx187_1, hx187_2⟩ := at_T90 (Kd.R_reads' HO_4.out).2.2 (ji9) p187 q187
            cases e187
            replace p187 := eq_true p187
            replace q187 := eq_true q187
            refine start_ (n := 11) (S := fun w' => w'.cell? ⟨gb186, 0, none⟩ = some (.int .i64 ((rd_T90 l0 x10_1).f0)) ∧ w'.cell? ⟨gb186, 1, none⟩ = some (.int .i64 ((rd_T90 l0 x10_1).f1)) ∧ w'.cell? ⟨gb186, 2, none⟩ = some (.int .i64 ((rd_T90 l0 x10_1).f2)) ∧ w'.cell? (ad187.add (((ji9)).toNat * 3)) = some (.int .i64 ((rd_T90 x4_1 (ji9)).f0)) ∧ w'.cell? ⟨(ad187.add (((ji9)).toNat * 3)).block, (ad187.add (((ji9)).toNat * 3)).off + 1, none⟩ = some (.int .i64 ((rd_T90 x4_1 (ji9)).f1)) ∧ w'.cell? ⟨(ad187.add (((ji9)).toNat * 3)).block, (ad187.add (((ji9)).toNat * 3)).off + 2, none⟩ = some (.int .i64 ((rd_T90 x4_1 (ji9)).f2))) (ds := []) (M_ 0 11) (by kernel_rfl) rfl rfl ⟨(blk_cell BK186.out 0).trans rfl, (blk_cell BK186.out 1).trans rfl, (blk_cell BK186.out 2).trans rfl, hx187_0, hx187_1, hx187_2⟩ (fun hHeld => ?_); refine with_tabW spec_shSorted.tab6 spec_shSorted.bits6 (fun HT_ HW_ => ?_)
            generalize wr.drew = w14 at HO_4 BK186 HB hx187_0 hx187_1 hx187_2 hHeld ⊢
            refine pu_ 0 16 (M_ 1 10) ?_
            refine pu_ 1 17 (M_ 2 9) ?_
            refine pu_ 2 18 (M_ 3 8) ?_
            refine pu_ 4 20 (N_ 11 23) ?_
            refine pu_ 5 21 (N_ 11 55) ?_
            refine pu_ 6 22 (N_ 11 119) ?_
            refine pu_ 7 23 (N_ 11 247) ?_
            refine tk6_ 3 19 (M_ 8 3) hHeld ?_
            refine tk6_ 8 24 (M_ 9 2) hHeld ?_
            refine one_ (i := 9) (N := some 25) (M_ 10 1) rfl rfl (one_of HT_.out (by kernel_rfl)) (by decide) (fun K hK => ?_)
            refine goes_ Try.func109 (by kernel_rfl) rfl #[.agg #[.int .i64 ((rd_T90 l0 x10_1).f0), .int .i64 ((rd_T90 l0 x10_1).f1), .int .i64 ((rd_T90 l0 x10_1).f2)], .agg #[.int .i64 ((rd_T90 x4_1 (ji9)).f0), .int .i64 ((rd_T90 x4_1 (ji9)).f1), .int .i64 ((rd_T90 x4_1 (ji9)).f2)]] (by rfl) rfl rfl (Z91) ?_
            with_reducible refine (spec_shBefore.calls ((rd_T90 l0 x10_1).f0) ((rd_T90 l0 x10_1).f1) ((rd_T90 l0 x10_1).f2) ((rd_T90 x4_1 (ji9)).f0) ((rd_T90 x4_1 (ji9)).f1) ((rd_T90 x4_1 (ji9)).f2) true _ A12.out).mono ?_
            rintro e w15 ⟨rfl, hb⟩
            have HS3_ := (hb.cell (World.block_lt_of_cell? _ _ (hHeld.2.2.2.1))).trans (hHeld.2.2.2.1)
            have HS4_ := (hb.cell (World.block_lt_of_cell? _ _ (hHeld.2.2.2.2.1))).trans (hHeld.2.2.2.2.1)
            have HS5_ := (hb.cell (World.block_lt_of_cell? _ _ (hHeld.2.2.2.2.2))).trans (hHeld.2.2.2.2.2)
            refine ⟨_, rfl, ?_⟩
            have n0_ := Aside0.mk (Kd.R_below (Z1 HO_4.out) hb)
            have n1_ := Aside0.mk (blk_below (g := gb186) (o := .cells #[.int .i64 ((rd_T90 l0 x10_1).f0), .int .i64 ((rd_T90 l0 x10_1).f1), .int .i64 ((rd_T90 l0 x10_1).f2)] 90 (0, 0)) (Z4 BK186.out) hb)
            have n2_ := Aside0.mk (below_step (Z12) hb)
            clear HO_4
            clear BK186
            clear HB
            have HO_4 := n0_
            have BK186 := n1_
            have HB := n2_
            clear n0_ n1_ n2_
            (try clear hb)
            (try clear hb2)
            (try clear hk)
            (try clear hi)
            refine hK.out _ _ ⟨(blk_cell BK186.out 0).trans rfl, (blk_cell BK186.out 1).trans rfl, (blk_cell BK186.out 2).trans rfl, HS3_, HS4_, HS5_⟩ (fun hHeld => ?_)
            clear hK K
            refine norm_ (a' := ?_) ?_ ?_
            rotate_left
            ·show Act.put _ (some 25) _ = _
             simp only [Act.put, List.setIfInBounds_toArray, List.set_cons_zero, List.set_cons_succ, i64_w, i32_w]
             rfl
            refine pu_ 10 26 (M_ 11 0) ?_
            refine done_ (done_of HT_.out (by kernel_rfl)) ?_
            try go_wp2
            go_roundg k2
            case measure => have := HK1.out; have := HK2.out; omega
            case rel => exact ⟨(ji9), (by first | rfl | (simp; done) | (simp only [← hji9] <;> (first | rfl | simp)) | (simp [*]; done)), H', ⟨Z47⟩, ⟨Z1 HO_4.out⟩, ⟨Z4 BK186.out⟩, ⟨Z12⟩⟩
           replace c13 := Bool.eq_false_iff.mpr c13
           subst c13
           rw [if_neg (show ¬ (false = true) by decide)] at H
           obtain ⟨y189, hy189⟩ : ∃ y_ : List (S90), y_ = (([] : List (S90))) := ⟨_, rfl⟩
           replace H : (if 0 ≤ x7_2 then (if x7_2 ≤ (x4_1.length : Int) then ((some (x4_1.take (x7_2 : Int).toNat : List (S90))).bind fun y192 => (if y189.length + y192.length < 5864062014805 then ((some (y189 ++ y192 : List (S90))).bind fun y196 => ((some (([(⟨((rd_T90 l0 x10_1).f0), ((rd_T90 l0 x10_1).f1), ((rd_T90 l0 x10_1).f2)⟩ : S90)] : List (S90)) : List (S90))).bind fun y199 => (if y196.length + y199.length < 5864062014805 then ((some (y196 ++ y199 : List (S90))).bind fun y202 => ((some (x4_1.drop (x7_2 : Int).toNat : List (S90))).bind fun y205 => (if y202.length + y205.length < 5864062014805 then (spec_shSorted.l0 k2 (y202 ++ y205) l0 (l0.length : Int) (wrap64 (x10_1 + 1))) else (none)))) else (none)))) else (none))) else (none)) else (none)) = some (r1, r2) := by first | (rw [hy189]; with_reducible exact H) | (have H2_ := (Option.bind_some _ _).symm.trans H; rw [hy189]; with_reducible exact H2_) | (have H2_ := (Option.bind_some _ _).symm.trans H; with_reducible exact H2_) | with_reducible exact H | (rw [hy189]; exact H) | exact H
           have Ny189 := Aside0.mk hy189
           clear hy189
           by_cases c16 : 0 ≤ x7_2
           ·rw [if_pos c16] at H
            have c16b0 := eq_true c16
            have c16b1 : decide (0 ≤ x7_2) = true := decide_eq_true c16
            clear c16
            by_cases c17 : x7_2 ≤ (x4_1.length : Int)
            ·rw [if_pos c17] at H
             have c17b0 := eq_true c17
             have c17b1 : decide (x7_2 ≤ (x4_1.length : Int)) = true := decide_eq_true c17
             clear c17
             obtain ⟨y192, hy192⟩ : ∃ y_ : List (S90), y_ = (x4_1.take (x7_2 : Int).toNat) := ⟨_, rfl⟩
             replace H : (if y189.length + y192.length < 5864062014805 then ((some (y189 ++ y192 : List (S90))).bind fun y196 => ((some (([(⟨((rd_T90 l0 x10_1).f0), ((rd_T90 l0 x10_1).f1), ((rd_T90 l0 x10_1).f2)⟩ : S90)] : List (S90)) : List (S90))).bind fun y199 => (if y196.length + y199.length < 5864062014805 then ((some (y196 ++ y199 : List (S90))).bind fun y202 => ((some (x4_1.drop (x7_2 : Int).toNat : List (S90))).bind fun y205 => (if y202.length + y205.length < 5864062014805 then (spec_shSorted.l0 k2 (y202 ++ y205) l0 (l0.length : Int) (wrap64 (x10_1 + 1))) else (none)))) else (none)))) else (none)) = some (r1, r2) := by first | (rw [hy192]; with_reducible exact H) | (have H2_ := (Option.bind_some _ _).symm.trans H; rw [hy192]; with_reducible exact H2_) | (have H2_ := (Option.bind_some _ _).symm.trans H; with_reducible exact H2_) | with_reducible exact H | (rw [hy192]; exact H) | exact H
             have Ny192 := Aside0.mk hy192
             clear hy192
             by_cases c18 : y189.length + y192.length < 5864062014805
             ·rw [if_pos c18] at H
              have LMc18 := Aside0.mk c18
              clear c18
              obtain ⟨y196, hy196⟩ : ∃ y_ : List (S90), y_ = (y189 ++ y192) := ⟨_, rfl⟩
              replace H : ((some (([(⟨((rd_T90 l0 x10_1).f0), ((rd_T90 l0 x10_1).f1), ((rd_T90 l0 x10_1).f2)⟩ : S90)] : List (S90)) : List (S90))).bind fun y199 => (if y196.length + y199.length < 5864062014805 then ((some (y196 ++ y199 : List (S90))).bind fun y202 => ((some (x4_1.drop (x7_2 : Int).toNat : List (S90))).bind fun y205 => (if y202.length + y205.length < 5864062014805 then (spec_shSorted.l0 k2 (y202 ++ y205) l0 (l0.length : Int) (wrap64 (x10_1 + 1))) else (none)))) else (none))) = some (r1, r2) := by first | (rw [hy196]; with_reducible exact H) | (have H2_ := (Option.bind_some _ _).symm.trans H; rw [hy196]; with_reducible exact H2_) | (have H2_ := (Option.bind_some _ _).symm.trans H; with_reducible exact H2_) | with_reducible exact H | (rw [hy196]; exact H) | exact H
              have Ny196 := Aside0.mk hy196
              clear hy196
              obtain ⟨y199, hy199⟩ : ∃ y_ : List (S90), y_ = (([(⟨((rd_T90 l0 x10_1).f0), ((rd_T90 l0 x10_1).f1), ((rd_T90 l0 x10_1).f2)⟩ : S90)] : List (S90))) := ⟨_, rfl⟩
              replace H : (if y196.length + y199.length < 5864062014805 then ((some (y196 ++ y199 : List (S90))).bind fun y202 => ((some (x4_1.drop (x7_2 : Int).toNat : List (S90))).bind fun y205 => (if y202.length + y205.length < 5864062014805 then (spec_shSorted.l0 k2 (y202 ++ y205) l0 (l0.length : Int) (wrap64 (x10_1 + 1))) else (none)))) else (none)) = some (r1, r2) := by first | (rw [hy199]; with_reducible exact H) | (have H2_ := (Option.bind_some _ _).symm.trans H; rw [hy199]; with_reducible exact H2_) | (have H2_ := (Option.bind_some _ _).symm.trans H; with_reducible exact H2_) | with_reducible exact H | (rw [hy199]; exact H) | exact H
              have Ny199 := Aside0.mk hy199
              clear hy199
              by_cases c19 : y196.length + y199.length < 5864062014805
              ·rw [if_pos c19] at H
               have LMc19 := Aside0.mk c19
               clear c19
               obtain ⟨y202, hy202⟩ : ∃ y_ : List (S90), y_ = (y196 ++ y199) := ⟨_, rfl⟩
               replace H : ((some (x4_1.drop (x7_2 : Int).toNat : List (S90))).bind fun y205 => (if y202.length + y205.length < 5864062014805 then (spec_shSorted.l0 k2 (y202 ++ y205) l0 (l0.length : Int) (wrap64 (x10_1 + 1))) else (none))) = some (r1, r2) := by first | (rw [hy202]; with_reducible exact H) | (have H2_ := (Option.bind_some _ _).symm.trans H; rw [hy202]; with_reducible exact H2_) | (have H2_ := (Option.bind_some _ _).symm.trans H; with_reducible exact H2_) | with_reducible exact H | (rw [hy202]; exact H) | exact H
               have Ny202 := Aside0.mk hy202
               clear hy202
               have c20b0 := eq_true (of_decide_eq_true (Z8) : 0 ≤ x7_2)
               have c21b0 := eq_true (of_decide_eq_true (Z8) : x7_2 ≤ (x4_1.length : Int))
               obtain ⟨y205, hy205⟩ : ∃ y_ : List (S90), y_ = (x4_1.drop (x7_2 : Int).toNat) := ⟨_, rfl⟩
               replace H : (if y202.length + y205.length < 5864062014805 then (spec_shSorted.l0 k2 (y202 ++ y205) l0 (l0.length : Int) (wrap64 (x10_1 + 1))) else (none)) = some (r1, r2) := by first | (rw [hy205]; with_reducible exact H) | (have H2_ := (Option.bind_some _ _).symm.trans H; rw [hy205]; with_reducible exact H2_) | (have H2_ := (Option.bind_some _ _).symm.trans H; with_reducible exact H2_) | with_reducible exact H | (rw [hy205]; exact H) | exact H
               have Ny205 := Aside0.mk hy205
               clear hy205
               by_cases c22 : y202.length + y205.length < 5864062014805
               ·rw [if_pos c22] at H
                have LMc22 := Aside0.mk c22
                clear c22
                obtain ⟨y209, hy209⟩ : ∃ y_ : List (S90), y_ = (y202 ++ y205) := ⟨_, rfl⟩
                replace H : (spec_shSorted.l0 k2 y209 l0 (l0.length : Int) (wrap64 (x10_1 + 1))) = some (r1, r2) := by first | (rw [hy209]; with_reducible exact H) | (have H2_ := (Option.bind_some _ _).symm.trans H; rw [hy209]; with_reducible exact H2_) | (have H2_ := (Option.bind_some _ _).symm.trans H; with_reducible exact H2_) | with_reducible exact H | (rw [hy209]; exact H) | exact H
                have Ny209 := Aside0.mk hy209
                clear hy209
                have H' := Aside0.mk H
                clear H
                try go_wp2
                refine k3_ (Kd.R_drew HO_4.out) (blk_drew BK186.out) (below_drew1 HB.out) ?_
                clear HO_4 BK186 HB
                intro HO_4 BK186 HB
                have p187 : 0 ≤ ((ji9) : Int) := of_decide_eq_true (Z8)
                have q187 : (ji9) < (x4_1.length : Int) := of_decide_eq_true (Z8)
                obtain ⟨ad187, e187, hx187_0, hx187_1, hx187_2⟩ := at_T90 (Kd.R_reads' HO_4.out).2.2 (ji9) p187 q187
                cases e187
                replace p187 := eq_true p187
                replace q187 := eq_true q187
                refine start_ (n := 11) (S := fun w' => w'.cell? ⟨gb186, 0, none⟩ = some (.int .i64 ((rd_T90 l0 x10_1).f0)) ∧ w'.cell? ⟨gb186, 1, none⟩ = some (.int .i64 ((rd_T90 l0 x10_1).f1)) ∧ w'.cell? ⟨gb186, 2, none⟩ = some (.int .i64 ((rd_T90 l0 x10_1).f2)) ∧ w'.cell? (ad187.add (((ji9)).toNat * 3)) = some (.int .i64 ((rd_T90 x4_1 (ji9)).f0)) ∧ w'.cell? ⟨(ad187.add (((ji9)).toNat * 3)).block, (ad187.add (((ji9)).toNat * 3)).off + 1, none⟩ = some (.int .i64 ((rd_T90 x4_1 (ji9)).f1)) ∧ w'.cell? ⟨(ad187.add (((ji9)).toNat * 3)).block, (ad187.add (((ji9)).toNat * 3)).off + 2, none⟩ = some (.int .i64 ((rd_T90 x4_1 (ji9)).f2))) (ds := []) (M_ 0 11) (by kernel_rfl) rfl rfl ⟨(blk_cell BK186.out 0).trans rfl, (blk_cell BK186.out 1).trans rfl, (blk_cell BK186.out 2).trans rfl, hx187_0, hx187_1, hx187_2⟩ (fun hHeld => ?_); refine with_tabW spec_shSorted.tab6 spec_shSorted.bits6 (fun HT_ HW_ => ?_)
                generalize wr.drew = w23 at HO_4 BK186 HB hx187_0 hx187_1 hx187_2 hHeld ⊢
                refine pu_ 0 16 (M_ 1 10) ?_
                refine pu_ 1 17 (M_ 2 9) ?_
                refine pu_ 2 18 (M_ 3 8) ?_
                refine pu_ 4 20 (N_ 11 23) ?_
                refine pu_ 5 21 (N_ 11 55) ?_
                refine pu_ 6 22 (N_ 11 119) ?_
                refine pu_ 7 23 (N_ 11 247) ?_
                refine tk6_ 3 19 (M_ 8 3) hHeld ?_
                refine tk6_ 8 24 (M_ 9 2) hHeld ?_
                refine one_ (i := 9) (N := some 25) (M_ 10 1) rfl rfl (one_of HT_.out (by kernel_rfl)) (by decide) (fun K hK => ?_)
                refine goes_ Try.func109 (by kernel_rfl) rfl #[.agg #[.int .i64 ((rd_T90 l0 x10_1).f0), .int .i64 ((rd_T90 l0 x10_1).f1), .int .i64 ((rd_T90 l0 x10_1).f2)], .agg #[.int .i64 ((rd_T90 x4_1 (ji9)).f0), .int .i64 ((rd_T90 x4_1 (ji9)).f1), .int .i64 ((rd_T90 x4_1 (ji9)).f2)]] (by rfl) rfl rfl (Z91) ?_
                with_reducible refine (spec_shBefore.calls ((rd_T90 l0 x10_1).f0) ((rd_T90 l0 x10_1).f1) ((rd_T90 l0 x10_1).f2) ((rd_T90 x4_1 (ji9)).f0) ((rd_T90 x4_1 (ji9)).f1) ((rd_T90 x4_1 (ji9)).f2) false _ A12.out).mono ?_
                rintro e w24 ⟨rfl, hb⟩
                have HS3_ := (hb.cell (World.block_lt_of_cell? _ _ (hHeld.2.2.2.1))).trans (hHeld.2.2.2.1)
                have HS4_ := (hb.cell (World.block_lt_of_cell? _ _ (hHeld.2.2.2.2.1))).trans (hHeld.2.2.2.2.1)
                have HS5_ := (hb.cell (World.block_lt_of_cell? _ _ (hHeld.2.2.2.2.2))).trans (hHeld.2.2.2.2.2)
                refine ⟨_, rfl, ?_⟩
                have n0_ := Aside0.mk (Kd.R_below (Z1 HO_4.out) hb)
                have n1_ := Aside0.mk (blk_below (g := gb186) (o := .cells #[.int .i64 ((rd_T90 l0 x10_1).f0), .int .i64 ((rd_T90 l0 x10_1).f1), .int .i64 ((rd_T90 l0 x10_1).f2)] 90 (0, 0)) (Z4 BK186.out) hb)
                have n2_ := Aside0.mk (below_step (Z12) hb)
                clear HO_4
                clear BK186
                clear HB
                have HO_4 := n0_
                have BK186 := n1_
                have HB := n2_
                clear n0_ n1_ n2_
                (try clear hb)
                (try clear hb2)
                (try clear hk)
                (try clear hi)
                refine hK.out _ _ ⟨(blk_cell BK186.out 0).trans rfl, (blk_cell BK186.out 1).trans rfl, (blk_cell BK186.out 2).trans rfl, HS3_, HS4_, HS5_⟩ (fun hHeld => ?_)
                clear hK K
                refine norm_ (a' := ?_) ?_ ?_
                rotate_left
                ·show Act.put _ (some 25) _ = _
                 simp only [Act.put, List.setIfInBounds_toArray, List.set_cons_zero, List.set_cons_succ, i64_w, i32_w]
                 rfl
                refine pu_ 10 26 (M_ 11 0) ?_
                refine done_ (done_of HT_.out (by kernel_rfl)) ?_
                try go_wp2
                refine k3_ (Kd.R_drew HO_4.out) (blk_drew BK186.out) (below_drew1 HB.out) ?_
                clear HO_4 BK186 HB
                intro HO_4 BK186 HB
                have q26 : (x7_2 : Int) ≤ ((x4_1.length : Int) : Int) := of_decide_eq_true (Z8)
                obtain ⟨i026, hi026, _, hsz26, _⟩ := info_parts info90
                have hroom26 : x4_1.length ≤ co7 := (Kd.R_reads' HO_4.out).2.1
                have hC26 : Kd.C k90 _ (some ad187) x4_1.length x4_1 := (Kd.R_reads' HO_4.out).2.2
                have hcut26 := cut_to (P := Try.prog) 42 90 .i64 Try.underlying42 hi026 (some ad187) x4_1.length co7 x7_2 (of_decide_eq_true (Z8)) q26 hroom26
                have hr26 := Kd.C_take (m := (x7_2 : Int).toNat) hC26 (by omega)
                have hy26 : y192.length = (x7_2 : Int).toNat := (by rw [Ny192.out, List.length_take]; omega)
                rw [← Ny192.out] at hr26
                rw [← hy26] at hcut26
                have HR195 := Aside0.mk hr26
                have HC195 := Aside0.mk (show y192.length ≤ co7 from by omega)
                clear hr26 hC26 hroom26 hi026 hsz26
                have KY26 := Aside0.mk hy26
                clear hy26
                have KL26 := Aside0.mk (show (x7_2 : Int).toNat ≤ x4_1.length from by omega)
                replace q26 := eq_true q26
                have q27 : (x7_2 : Int) ≤ ((x4_1.length : Int) : Int) := of_decide_eq_true (Z8)
                obtain ⟨i027, hi027, _, hsz27, _⟩ := info_parts info90
                have hroom27 : x4_1.length ≤ co7 := (Kd.R_reads' HO_4.out).2.1
                have hC27 : Kd.C k90 _ (some ad187) x4_1.length x4_1 := (Kd.R_reads' HO_4.out).2.2
                have q027 : (0 : Int) ≤ (x7_2 : Int) := of_decide_eq_true (Z8)
                have hcut27 := cut_from (P := Try.prog) 42 90 .i64 Try.underlying42 hi027 3 hsz27 (some ad187) x4_1.length co7 x7_2 q027 q27
                have hr27 := Kd.C_drop (m := (x7_2 : Int).toNat) (c := co7) hC27 (by omega) hroom27
                obtain ⟨A27, hA27⟩ : ∃ A1, A1 = (if co7 = (x7_2 : Int).toNat then (some ad187) else ((some ad187) : Option Addr).map (·.add ((x7_2 : Int).toNat * 3))) := ⟨_, rfl⟩
                obtain ⟨c27, hc27⟩ : ∃ c1, c1 = co7 - (x7_2 : Int).toNat := ⟨_, rfl⟩
                have hy27 : y205.length = x4_1.length - (x7_2 : Int).toNat := (by rw [Ny205.out, List.length_drop] <;> omega)
                rw [show (x4_1).drop (x7_2 : Int).toNat = y205 from Ny205.out.symm] at hr27
                replace hr27 : Kd.C k90 _ A27 y205.length y205 := (by rw [hA27]; exact hr27)
                rw [← hy27, ← hA27, ← hc27] at hcut27
                have HR208 := Aside0.mk hr27
                have HC208 := Aside0.mk (show y205.length ≤ c27 from by rw [hy27, hc27]; exact Nat.sub_le_sub_right hroom27 _)
                clear hr27 hC27 hroom27 hi027 hsz27 hc27
                have KY27 := Aside0.mk hy27
                have KA27 := Aside0.mk hA27
                clear hy27 hA27
                have KL27 := Aside0.mk (show (x7_2 : Int).toNat ≤ x4_1.length from by omega)
                replace q27 := eq_true q27
                refine start_ (n := 13) (S := fun w' => w'.cell? ⟨gb186, 0, none⟩ = some (.int .i64 ((rd_T90 l0 x10_1).f0)) ∧ w'.cell? ⟨gb186, 1, none⟩ = some (.int .i64 ((rd_T90 l0 x10_1).f1)) ∧ w'.cell? ⟨gb186, 2, none⟩ = some (.int .i64 ((rd_T90 l0 x10_1).f2))) (ds := []) (M_ 0 13) (by kernel_rfl) rfl rfl ⟨(blk_cell BK186.out 0).trans rfl, (blk_cell BK186.out 1).trans rfl, (blk_cell BK186.out 2).trans rfl⟩ (fun hHeld => ?_); refine with_tabW spec_shSorted.tab8 spec_shSorted.bits8 (fun HT_ HW_ => ?_)
                generalize w24.drew = w25 at HO_4 BK186 HB HR195 HR208 hHeld ⊢
                refine pu_ 1 30 (N_ 13 2) ?_
                refine pu_ 2 31 (N_ 13 6) ?_
                refine pu_ 3 32 (N_ 13 14) ?_
                refine pu_ 8 37 (N_ 13 270) ?_
                refine pu_ 9 38 (N_ 13 782) ?_
                refine pu_ 10 39 (N_ 13 1806) ?_
                refine tk3_ 5 34 (N_ 13 1838) hHeld ?_
                refine join_ (σ := Value × Value × Value) 3 (N_ 13 1919) (fun s_ => [(29, s_.1), (33, s_.2.1), (35, s_.2.2)]) (fun s_ w' => (w'.cell? ⟨gb186, 0, none⟩ = some (.int .i64 ((rd_T90 l0 x10_1).f0)) ∧ w'.cell? ⟨gb186, 1, none⟩ = some (.int .i64 ((rd_T90 l0 x10_1).f1)) ∧ w'.cell? ⟨gb186, 2, none⟩ = some (.int .i64 ((rd_T90 l0 x10_1).f2))) ∧ (Kd.R k90 90 w' w.heap.size (fun k_ => some k_ ≠ (s_.2.2 : Value).ownBlock ∧ some k_ ≠ (.slice (some ad187) x4_1.length co7 : Value).ownBlock ∧ k_ ≠ gb186) s_.2.1 y196) ∧ (Kd.R k90 90 w' w.heap.size (fun k_ => some k_ ≠ (s_.2.1 : Value).ownBlock ∧ some k_ ≠ (.slice (some ad187) x4_1.length co7 : Value).ownBlock ∧ k_ ≠ gb186) s_.2.2 y199) ∧ (Kd.R k90 90 w' w.heap.size (fun k_ => some k_ ≠ (s_.2.1 : Value).ownBlock ∧ some k_ ≠ (s_.2.2 : Value).ownBlock ∧ k_ ≠ gb186) (.slice (some ad187) x4_1.length co7) x4_1) ∧ (w'.heap[gb186]? = some (.cells #[.int .i64 ((rd_T90 l0 x10_1).f0), .int .i64 ((rd_T90 l0 x10_1).f1), .int .i64 ((rd_T90 l0 x10_1).f2)] 90 (0, 0))) ∧ (Below w.heap.size w w')) ?_ ?_
                rotate_left
                ·intro hCont
                 refine two_ (i := 0) (j := 6) (Ni := some 29) (Nj := some 35) (N_ 13 1839) (N_ 13 1902) rfl rfl rfl rfl (two_of HT_.out (by kernel_rfl)) (by decide) (by decide) (fun K hK => ?_) (fun K hK => ?_)
                 ·skip
                  refine Kd.R_lit_step k90 _ 90 ?hg (N := 29) ?hd (xs := ([] : List (S90))) (inner := []) (ok := fun _ => True) (okp := fun _ => True) ?hr ?hp (fun _ hk => hk) trivial (Below.refl _ _) (Nat.le_refl _) (by simp) ?_; (case hd => rfl); (case hg => rfl); (case hr => exact Z44); (case hp => exact (Reps.none _ _))
                  intro v190 w28 ho29 hb hg_ hnew_
                  clear hg_ hnew_
                  (first | rw [← Ny189.out] at ho29 | (simp only [Int.reduceToNat] at ho29; rw [← Ny189.out] at ho29))
                  have n0_ := Aside0.mk (Kd.R_elder' (Z1 HO_4.out) (Kd.R_base ho29) hb)
                  have n1_ := Aside0.mk (Kd.R_lower (Kd.R_newB (Kd.R_new' ho29 (Kd.R_lt (Z1 HO_4.out))) (g := gb186) (o := .cells #[.int .i64 ((rd_T90 l0 x10_1).f0), .int .i64 ((rd_T90 l0 x10_1).f1), .int .i64 ((rd_T90 l0 x10_1).f2)] 90 (0, 0)) (Z4 BK186.out)) (below_size (Z12)))
                  have n2_ := Aside0.mk (blk_below (g := gb186) (o := .cells #[.int .i64 ((rd_T90 l0 x10_1).f0), .int .i64 ((rd_T90 l0 x10_1).f1), .int .i64 ((rd_T90 l0 x10_1).f2)] 90 (0, 0)) (Z4 BK186.out) hb)
                  have n3_ := Aside0.mk (Kd.C_below (Z14 HR195.out) hb)
                  have n4_ := Aside0.mk (Kd.C_below (Z14 HR208.out) hb)
                  have n5_ := Aside0.mk (below_step (Z12) hb)
                  clear HO_4
                  clear BK186
                  clear HR195
                  clear HR208
                  clear HB
                  have HO_4 := n0_
                  have HO191 := n1_
                  have BK186 := n2_
                  have HR195 := n3_
                  have HR208 := n4_
                  have HB := n5_
                  clear n0_ n1_ n2_ n3_ n4_ n5_
                  clear hb ho29
                  refine hK.out _ _ ⟨(blk_cell BK186.out 0).trans rfl, (blk_cell BK186.out 1).trans rfl, (blk_cell BK186.out 2).trans rfl⟩ (fun hHeld => ?_)
                  clear hK K
                  refine norm_ (a' := ?_) ?_ ?_
                  rotate_left
                  ·show Act.put _ (some 29) _ = _
                   simp only [Act.put, List.setIfInBounds_toArray, List.set_cons_zero, List.set_cons_succ, i64_w, i32_w]
                   rfl
                  refine two_ (i := 4) (j := 6) (Ni := some 33) (Nj := some 35) (N_ 13 1855) (N_ 13 1903) rfl rfl rfl rfl (two_of HT_.out (by kernel_rfl)) (by decide) (by decide) (fun K hK => ?_) (fun K hK => ?_)
                  ·skip
                   refine Kd.R_append_rows_step k90 (w0 := w) w.heap.size (by rfl) (.tmp 29) (.tmp 32) 42 90 (.agg #[(.int .i64 0), (.int .i64 0), (.int .i64 0)]) 24 rfl Try.underlying42 info90 rfl (by decide) (by omega) v190 y189 y192 _ _ _ (fun k_ => some k_ ≠ (.slice (some ad187) x4_1.length co7 : Value).ownBlock ∧ k_ ≠ gb186) (fun _ => False) rfl rfl ?aO ?aR (fun _ _ h => h) (fun _ h => h.elim) ?aF ?aB ?aS ?aL ?_
                   (case aR => exact Z38 HR195.out)
                   (case aB => exact Z12)
                   (case aF => exact (fun k_ hk => ⟨Kd.fresh' (Kd.R_lt (Z1 HO_4.out)) k_ hk, Kd.freshB (g := gb186) (o := .cells #[.int .i64 ((rd_T90 l0 x10_1).f0), .int .i64 ((rd_T90 l0 x10_1).f1), .int .i64 ((rd_T90 l0 x10_1).f2)] 90 (0, 0)) (Z4 BK186.out) k_ hk⟩))
                   (case aO => exact Z43 HO191.out)
                   (case aS => exact (below_size (Z12)))
                   (case aL => have := LMc18.out; omega)
                   intro v197 w30 ho hb hg hat
                   rw [← Ny196.out] at ho
                   have n0_ := Aside0.mk (Kd.R_after (ok := (fun k_ => k_ ≠ gb186)) (Z1 HO_4.out) hg hat)
                   have n1_ := Aside0.mk (blk_grown (g := gb186) (o := .cells #[.int .i64 ((rd_T90 l0 x10_1).f0), .int .i64 ((rd_T90 l0 x10_1).f1), .int .i64 ((rd_T90 l0 x10_1).f2)] 90 (0, 0)) (Z4 BK186.out) hg (Kd.R_away HO191.out (fun _ hk => hk.2)))
                   have n2_ := Aside0.mk (hb)
                   have n3_ := Aside0.mk ((show Kd.C k90 w30 (some ad187) y192.length y192 from by rw [Ny192.out]; exact Kd.C_take (m := (x7_2 : Int).toNat) ((Kd.R_reads' (Kd.R_after (ok := (fun k_ => k_ ≠ gb186)) (Z1 HO_4.out) hg hat)).2.2) KL26.out))
                   have n4_ := Aside0.mk ((show Kd.C k90 w30 A27 y205.length y205 from by rw [Ny205.out, KA27.out]; exact Kd.C_drop (m := (x7_2 : Int).toNat) (c := co7) ((Kd.R_reads' (Kd.R_after (ok := (fun k_ => k_ ≠ gb186)) (Z1 HO_4.out) hg hat)).2.2) KL27.out ((Kd.R_reads' (Kd.R_after (ok := (fun k_ => k_ ≠ gb186)) (Z1 HO_4.out) hg hat)).2.1)))
                   have n5_ := Aside0.mk (ho)
                   clear HO_4
                   clear BK186
                   clear HB
                   clear HR195
                   clear HR208
                   clear HO191
                   have HO_4 := n0_
                   have BK186 := n1_
                   have HB := n2_
                   have HR195 := n3_
                   have HR208 := n4_
                   have HO198 := n5_
                   clear n0_ n1_ n2_ n3_ n4_ n5_
                   clear ho hb hg hat
                   refine hK.out _ _ ⟨(blk_cell BK186.out 0).trans rfl, (blk_cell BK186.out 1).trans rfl, (blk_cell BK186.out 2).trans rfl⟩ (fun hHeld => ?_)
                   clear hK K
                   refine norm_ (a' := ?_) ?_ ?_
                   rotate_left
                   ·show Act.put _ (some 33) _ = _
                    simp only [Act.put, List.setIfInBounds_toArray, List.set_cons_zero, List.set_cons_succ, i64_w, i32_w]
                    rfl
                   refine one_ (i := 6) (N := some 35) (N_ 13 1919) rfl rfl (one_of HT_.out (by kernel_rfl)) (by decide) (fun K hK => ?_)
                   refine Kd.R_lit_step k90 _ 90 ?hg (N := 35) ?hd (xs := ([(⟨((rd_T90 l0 x10_1).f0), ((rd_T90 l0 x10_1).f1), ((rd_T90 l0 x10_1).f2)⟩ : S90)] : List (S90))) (inner := [.int .i64 ((rd_T90 l0 x10_1).f0), .int .i64 ((rd_T90 l0 x10_1).f1), .int .i64 ((rd_T90 l0 x10_1).f2)]) (ok := fun _ => True) (okp := fun _ => True) ?hr ?hp (fun _ hk => hk) trivial (Below.refl _ _) (Nat.le_refl _) (by simp) ?_; (case hd => rfl); (case hg => rfl); (case hr => exact Z44); (case hp => exact (Reps.c3 (show Kd.M k90 _ _ _ (⟨((rd_T90 l0 x10_1).f0), ((rd_T90 l0 x10_1).f1), ((rd_T90 l0 x10_1).f2)⟩ : S90) [.int .i64 ((rd_T90 l0 x10_1).f0), .int .i64 ((rd_T90 l0 x10_1).f1), .int .i64 ((rd_T90 l0 x10_1).f2)] from (k90_mkM _ _ _ (⟨((rd_T90 l0 x10_1).f0), ((rd_T90 l0 x10_1).f1), ((rd_T90 l0 x10_1).f2)⟩ : S90) )) (Reps.none _ _)))
                   intro v200 w31 ho32 hb hg_ hnew_
                   clear hg_ hnew_
                   (first | rw [← Ny199.out] at ho32 | (simp only [Int.reduceToNat] at ho32; rw [← Ny199.out] at ho32))
                   have n0_ := Aside0.mk (Kd.R_elder' (Z1 HO_4.out) (Kd.R_base ho32) hb)
                   have n1_ := Aside0.mk (Kd.R_elder' (Z1 HO198.out) (Kd.R_base ho32) hb)
                   have n2_ := Aside0.mk (Kd.R_lower (Kd.R_newB (Kd.R_new' (Kd.R_new' ho32 (Kd.R_lt (Z1 HO_4.out))) (Kd.R_lt (Z1 HO198.out))) (g := gb186) (o := .cells #[.int .i64 ((rd_T90 l0 x10_1).f0), .int .i64 ((rd_T90 l0 x10_1).f1), .int .i64 ((rd_T90 l0 x10_1).f2)] 90 (0, 0)) (Z4 BK186.out)) (below_size (Z12)))
                   have n3_ := Aside0.mk (blk_below (g := gb186) (o := .cells #[.int .i64 ((rd_T90 l0 x10_1).f0), .int .i64 ((rd_T90 l0 x10_1).f1), .int .i64 ((rd_T90 l0 x10_1).f2)] 90 (0, 0)) (Z4 BK186.out) hb)
                   have n4_ := Aside0.mk (Kd.C_below (Z14 HR195.out) hb)
                   have n5_ := Aside0.mk (Kd.C_below (Z14 HR208.out) hb)
                   have n6_ := Aside0.mk (below_step (Z12) hb)
                   clear HO_4
                   clear HO198
                   clear BK186
                   clear HR195
                   clear HR208
                   clear HB
                   have HO_4 := n0_
                   have HO198 := n1_
                   have HO201 := n2_
                   have BK186 := n3_
                   have HR195 := n4_
                   have HR208 := n5_
                   have HB := n6_
                   clear n0_ n1_ n2_ n3_ n4_ n5_ n6_
                   clear hb ho32
                   refine hK.out _ _ ⟨(blk_cell BK186.out 0).trans rfl, (blk_cell BK186.out 1).trans rfl, (blk_cell BK186.out 2).trans rfl⟩ (fun hHeld => ?_)
                   clear hK K
                   refine norm_ (a' := ?_) ?_ ?_
                   rotate_left
                   ·show Act.put _ (some 35) _ = _
                    simp only [Act.put, List.setIfInBounds_toArray, List.set_cons_zero, List.set_cons_succ, i64_w, i32_w]
                    rfl
                   exact norm_ (Z54) (hCont (v190, v197, v200) _ ⟨hHeld, (Z45 HO198.out), (Z104 HO201.out), (Z95), (Z4 BK186.out), (Z12)⟩)
                  skip
                  refine Kd.R_lit_step k90 _ 90 ?hg (N := 35) ?hd (xs := ([(⟨((rd_T90 l0 x10_1).f0), ((rd_T90 l0 x10_1).f1), ((rd_T90 l0 x10_1).f2)⟩ : S90)] : List (S90))) (inner := [.int .i64 ((rd_T90 l0 x10_1).f0), .int .i64 ((rd_T90 l0 x10_1).f1), .int .i64 ((rd_T90 l0 x10_1).f2)]) (ok := fun _ => True) (okp := fun _ => True) ?hr ?hp (fun _ hk => hk) trivial (Below.refl _ _) (Nat.le_refl _) (by simp) ?_; (case hd => rfl); (case hg => rfl); (case hr => exact Z44); (case hp => exact (Reps.c3 (show Kd.M k90 _ _ _ (⟨((rd_T90 l0 x10_1).f0), ((rd_T90 l0 x10_1).f1), ((rd_T90 l0 x10_1).f2)⟩ : S90) [.int .i64 ((rd_T90 l0 x10_1).f0), .int .i64 ((rd_T90 l0 x10_1).f1), .int .i64 ((rd_T90 l0 x10_1).f2)] from (k90_mkM _ _ _ (⟨((rd_T90 l0 x10_1).f0), ((rd_T90 l0 x10_1).f1), ((rd_T90 l0 x10_1).f2)⟩ : S90) )) (Reps.none _ _)))
                  intro v200 w30 ho31 hb hg_ hnew_
                  clear hg_ hnew_
                  (first | rw [← Ny199.out] at ho31 | (simp only [Int.reduceToNat] at ho31; rw [← Ny199.out] at ho31))
                  have n0_ := Aside0.mk (Kd.R_elder' (Z1 HO_4.out) (Kd.R_base ho31) hb)
                  have n1_ := Aside0.mk (Kd.R_elder' (Z1 HO191.out) (Kd.R_base ho31) hb)
                  have n2_ := Aside0.mk (Kd.R_lower (Kd.R_newB (Kd.R_new' (Kd.R_new' ho31 (Kd.R_lt (Z1 HO_4.out))) (Kd.R_lt (Z1 HO191.out))) (g := gb186) (o := .cells #[.int .i64 ((rd_T90 l0 x10_1).f0), .int .i64 ((rd_T90 l0 x10_1).f1), .int .i64 ((rd_T90 l0 x10_1).f2)] 90 (0, 0)) (Z4 BK186.out)) (below_size (Z12)))
                  have n3_ := Aside0.mk (blk_below (g := gb186) (o := .cells #[.int .i64 ((rd_T90 l0 x10_1).f0), .int .i64 ((rd_T90 l0 x10_1).f1), .int .i64 ((rd_T90 l0 x10_1).f2)] 90 (0, 0)) (Z4 BK186.out) hb)
                  have n4_ := Aside0.mk (Kd.C_below (Z14 HR195.out) hb)
                  have n5_ := Aside0.mk (Kd.C_below (Z14 HR208.out) hb)
                  have n6_ := Aside0.mk (below_step (Z12) hb)
                  clear HO_4
                  clear HO191
                  clear BK186
                  clear HR195
                  clear HR208
                  clear HB
                  have HO_4 := n0_
                  have HO191 := n1_
                  have HO201 := n2_
                  have BK186 := n3_
                  have HR195 := n4_
                  have HR208 := n5_
                  have HB := n6_
                  clear n0_ n1_ n2_ n3_ n4_ n5_ n6_
                  clear hb ho31
                  refine hK.out _ _ ⟨(blk_cell BK186.out 0).trans rfl, (blk_cell BK186.out 1).trans rfl, (blk_cell BK186.out 2).trans rfl⟩ (fun hHeld => ?_)
                  clear hK K
                  refine norm_ (a' := ?_) ?_ ?_
                  rotate_left
                  ·show Act.put _ (some 35) _ = _
                   simp only [Act.put, List.setIfInBounds_toArray, List.set_cons_zero, List.set_cons_succ, i64_w, i32_w]
                   rfl
                  refine one_ (i := 4) (N := some 33) (N_ 13 1919) rfl rfl (one_of HT_.out (by kernel_rfl)) (by decide) (fun K hK => ?_)
                  refine Kd.R_append_rows_step k90 (w0 := w) w.heap.size (by rfl) (.tmp 29) (.tmp 32) 42 90 (.agg #[(.int .i64 0), (.int .i64 0), (.int .i64 0)]) 24 rfl Try.underlying42 info90 rfl (by decide) (by omega) v190 y189 y192 _ _ _ (fun k_ => some k_ ≠ (.slice (some ad187) x4_1.length co7 : Value).ownBlock ∧ some k_ ≠ (v200 : Value).ownBlock ∧ k_ ≠ gb186) (fun _ => False) rfl rfl ?aO ?aR (fun _ _ h => h) (fun _ h => h.elim) ?aF ?aB ?aS ?aL ?_
                  (case aR => exact Z38 HR195.out)
                  (case aB => exact Z12)
                  (case aF => exact (fun k_ hk => ⟨Kd.fresh' (Kd.R_lt (Z1 HO_4.out)) k_ hk, Kd.fresh' (Kd.R_lt (Z1 HO201.out)) k_ hk, Kd.freshB (g := gb186) (o := .cells #[.int .i64 ((rd_T90 l0 x10_1).f0), .int .i64 ((rd_T90 l0 x10_1).f1), .int .i64 ((rd_T90 l0 x10_1).f2)] 90 (0, 0)) (Z4 BK186.out) k_ hk⟩))
                  (case aO => exact Z105 HO191.out)
                  (case aS => exact (below_size (Z12)))
                  (case aL => have := LMc18.out; omega)
                  intro v197 w32 ho hb hg hat
                  rw [← Ny196.out] at ho
                  have n0_ := Aside0.mk (Kd.R_after (ok := (fun k_ => some k_ ≠ (v200 : Value).ownBlock ∧ k_ ≠ gb186)) (Z48) hg hat)
                  have n1_ := Aside0.mk (blk_grown (g := gb186) (o := .cells #[.int .i64 ((rd_T90 l0 x10_1).f0), .int .i64 ((rd_T90 l0 x10_1).f1), .int .i64 ((rd_T90 l0 x10_1).f2)] 90 (0, 0)) (Z4 BK186.out) hg (Kd.R_away HO191.out (fun _ hk => hk.1.2)))
                  have n2_ := Aside0.mk (Kd.R_after (ok := (fun k_ => some k_ ≠ (.slice (some ad187) x4_1.length co7 : Value).ownBlock ∧ k_ ≠ gb186)) (Z106 HO201.out) hg hat)
                  have n3_ := Aside0.mk (hb)
                  have n4_ := Aside0.mk ((show Kd.C k90 w32 (some ad187) y192.length y192 from by rw [Ny192.out]; exact Kd.C_take (m := (x7_2 : Int).toNat) ((Kd.R_reads' (Kd.R_after (ok := (fun k_ => some k_ ≠ (v200 : Value).ownBlock ∧ k_ ≠ gb186)) (Z48) hg hat)).2.2) KL26.out))
                  have n5_ := Aside0.mk ((show Kd.C k90 w32 A27 y205.length y205 from by rw [Ny205.out, KA27.out]; exact Kd.C_drop (m := (x7_2 : Int).toNat) (c := co7) ((Kd.R_reads' (Kd.R_after (ok := (fun k_ => some k_ ≠ (v200 : Value).ownBlock ∧ k_ ≠ gb186)) (Z48) hg hat)).2.2) KL27.out ((Kd.R_reads' (Kd.R_after (ok := (fun k_ => some k_ ≠ (v200 : Value).ownBlock ∧ k_ ≠ gb186)) (Z48) hg hat)).2.1)))
                  have n6_ := Aside0.mk (ho)
                  clear HO_4
                  clear BK186
                  clear HO201
                  clear HB
                  clear HR195
                  clear HR208
                  clear HO191
                  have HO_4 := n0_
                  have BK186 := n1_
                  have HO201 := n2_
                  have HB := n3_
                  have HR195 := n4_
                  have HR208 := n5_
                  have HO198 := n6_
                  clear n0_ n1_ n2_ n3_ n4_ n5_ n6_
                  clear ho hb hg hat
                  refine hK.out _ _ ⟨(blk_cell BK186.out 0).trans rfl, (blk_cell BK186.out 1).trans rfl, (blk_cell BK186.out 2).trans rfl⟩ (fun hHeld => ?_)
                  clear hK K
                  refine norm_ (a' := ?_) ?_ ?_
                  rotate_left
                  ·show Act.put _ (some 33) _ = _
                   simp only [Act.put, List.setIfInBounds_toArray, List.set_cons_zero, List.set_cons_succ, i64_w, i32_w]
                   rfl
                  exact norm_ (Z54) (hCont (v190, v197, v200) _ ⟨hHeld, (Z58 HO198.out), (Z45 HO201.out), (Z45 HO_4.out), (Z4 BK186.out), (Z12)⟩)
                 skip
                 refine Kd.R_lit_step k90 _ 90 ?hg (N := 35) ?hd (xs := ([(⟨((rd_T90 l0 x10_1).f0), ((rd_T90 l0 x10_1).f1), ((rd_T90 l0 x10_1).f2)⟩ : S90)] : List (S90))) (inner := [.int .i64 ((rd_T90 l0 x10_1).f0), .int .i64 ((rd_T90 l0 x10_1).f1), .int .i64 ((rd_T90 l0 x10_1).f2)]) (ok := fun _ => True) (okp := fun _ => True) ?hr ?hp (fun _ hk => hk) trivial (Below.refl _ _) (Nat.le_refl _) (by simp) ?_; (case hd => rfl); (case hg => rfl); (case hr => exact Z44); (case hp => exact (Reps.c3 (show Kd.M k90 _ _ _ (⟨((rd_T90 l0 x10_1).f0), ((rd_T90 l0 x10_1).f1), ((rd_T90 l0 x10_1).f2)⟩ : S90) [.int .i64 ((rd_T90 l0 x10_1).f0), .int .i64 ((rd_T90 l0 x10_1).f1), .int .i64 ((rd_T90 l0 x10_1).f2)] from (k90_mkM _ _ _ (⟨((rd_T90 l0 x10_1).f0), ((rd_T90 l0 x10_1).f1), ((rd_T90 l0 x10_1).f2)⟩ : S90) )) (Reps.none _ _)))
                 intro v200 w28 ho29 hb hg_ hnew_
                 clear hg_ hnew_
                 (first | rw [← Ny199.out] at ho29 | (simp only [Int.reduceToNat] at ho29; rw [← Ny199.out] at ho29))
                 have n0_ := Aside0.mk (Kd.R_elder' (Z1 HO_4.out) (Kd.R_base ho29) hb)
                 have n1_ := Aside0.mk (Kd.R_lower (Kd.R_newB (Kd.R_new' ho29 (Kd.R_lt (Z1 HO_4.out))) (g := gb186) (o := .cells #[.int .i64 ((rd_T90 l0 x10_1).f0), .int .i64 ((rd_T90 l0 x10_1).f1), .int .i64 ((rd_T90 l0 x10_1).f2)] 90 (0, 0)) (Z4 BK186.out)) (below_size (Z12)))
                 have n2_ := Aside0.mk (blk_below (g := gb186) (o := .cells #[.int .i64 ((rd_T90 l0 x10_1).f0), .int .i64 ((rd_T90 l0 x10_1).f1), .int .i64 ((rd_T90 l0 x10_1).f2)] 90 (0, 0)) (Z4 BK186.out) hb)
                 have n3_ := Aside0.mk (Kd.C_below (Z14 HR195.out) hb)
                 have n4_ := Aside0.mk (Kd.C_below (Z14 HR208.out) hb)
                 have n5_ := Aside0.mk (below_step (Z12) hb)
                 clear HO_4
                 clear BK186
                 clear HR195
                 clear HR208
                 clear HB
                 have HO_4 := n0_
                 have HO201 := n1_
                 have BK186 := n2_
                 have HR195 := n3_
                 have HR208 := n4_
                 have HB := n5_
                 clear n0_ n1_ n2_ n3_ n4_ n5_
                 clear hb ho29
                 refine hK.out _ _ ⟨(blk_cell BK186.out 0).trans rfl, (blk_cell BK186.out 1).trans rfl, (blk_cell BK186.out 2).trans rfl⟩ (fun hHeld => ?_)
                 clear hK K
                 refine norm_ (a' := ?_) ?_ ?_
                 rotate_left
                 ·show Act.put _ (some 35) _ = _
                  simp only [Act.put, List.setIfInBounds_toArray, List.set_cons_zero, List.set_cons_succ, i64_w, i32_w]
                  rfl
                 refine one_ (i := 0) (N := some 29) (N_ 13 1903) rfl rfl (one_of HT_.out (by kernel_rfl)) (by decide) (fun K hK => ?_)
                 refine Kd.R_lit_step k90 _ 90 ?hg (N := 29) ?hd (xs := ([] : List (S90))) (inner := []) (ok := fun _ => True) (okp := fun _ => True) ?hr ?hp (fun _ hk => hk) trivial (Below.refl _ _) (Nat.le_refl _) (by simp) ?_; (case hd => rfl); (case hg => rfl); (case hr => exact Z44); (case hp => exact (Reps.none _ _))
                 intro v190 w30 ho31 hb hg_ hnew_
                 clear hg_ hnew_
                 (first | rw [← Ny189.out] at ho31 | (simp only [Int.reduceToNat] at ho31; rw [← Ny189.out] at ho31))
                 have n0_ := Aside0.mk (Kd.R_elder' (Z1 HO_4.out) (Kd.R_base ho31) hb)
                 have n1_ := Aside0.mk (Kd.R_elder' (Z1 HO201.out) (Kd.R_base ho31) hb)
                 have n2_ := Aside0.mk (Kd.R_lower (Kd.R_newB (Kd.R_new' (Kd.R_new' ho31 (Kd.R_lt (Z1 HO_4.out))) (Kd.R_lt (Z1 HO201.out))) (g := gb186) (o := .cells #[.int .i64 ((rd_T90 l0 x10_1).f0), .int .i64 ((rd_T90 l0 x10_1).f1), .int .i64 ((rd_T90 l0 x10_1).f2)] 90 (0, 0)) (Z4 BK186.out)) (below_size (Z12)))
                 have n3_ := Aside0.mk (blk_below (g := gb186) (o := .cells #[.int .i64 ((rd_T90 l0 x10_1).f0), .int .i64 ((rd_T90 l0 x10_1).f1), .int .i64 ((rd_T90 l0 x10_1).f2)] 90 (0, 0)) (Z4 BK186.out) hb)
                 have n4_ := Aside0.mk (Kd.C_below (Z14 HR195.out) hb)
                 have n5_ := Aside0.mk (Kd.C_below (Z14 HR208.out) hb)
                 have n6_ := Aside0.mk (below_step (Z12) hb)
                 clear HO_4
                 clear HO201
                 clear BK186
                 clear HR195
                 clear HR208
                 clear HB
                 have HO_4 := n0_
                 have HO201 := n1_
                 have HO191 := n2_
                 have BK186 := n3_
                 have HR195 := n4_
                 have HR208 := n5_
                 have HB := n6_
                 clear n0_ n1_ n2_ n3_ n4_ n5_ n6_
                 clear hb ho31
                 refine hK.out _ _ ⟨(blk_cell BK186.out 0).trans rfl, (blk_cell BK186.out 1).trans rfl, (blk_cell BK186.out 2).trans rfl⟩ (fun hHeld => ?_)
                 clear hK K
                 refine norm_ (a' := ?_) ?_ ?_
                 rotate_left
                 ·show Act.put _ (some 29) _ = _
                  simp only [Act.put, List.setIfInBounds_toArray, List.set_cons_zero, List.set_cons_succ, i64_w, i32_w]
                  rfl
                 refine one_ (i := 4) (N := some 33) (N_ 13 1919) rfl rfl (one_of HT_.out (by kernel_rfl)) (by decide) (fun K hK => ?_)
                 refine Kd.R_append_rows_step k90 (w0 := w) w.heap.size (by rfl) (.tmp 29) (.tmp 32) 42 90 (.agg #[(.int .i64 0), (.int .i64 0), (.int .i64 0)]) 24 rfl Try.underlying42 info90 rfl (by decide) (by omega) v190 y189 y192 _ _ _ (fun k_ => some k_ ≠ (.slice (some ad187) x4_1.length co7 : Value).ownBlock ∧ some k_ ≠ (v200 : Value).ownBlock ∧ k_ ≠ gb186) (fun _ => False) rfl rfl ?aO ?aR (fun _ _ h => h) (fun _ h => h.elim) ?aF ?aB ?aS ?aL ?_
                 (case aR => exact Z38 HR195.out)
                 (case aB => exact Z12)
                 (case aF => exact (fun k_ hk => ⟨Kd.fresh' (Kd.R_lt (Z1 HO_4.out)) k_ hk, Kd.fresh' (Kd.R_lt (Z1 HO201.out)) k_ hk, Kd.freshB (g := gb186) (o := .cells #[.int .i64 ((rd_T90 l0 x10_1).f0), .int .i64 ((rd_T90 l0 x10_1).f1), .int .i64 ((rd_T90 l0 x10_1).f2)] 90 (0, 0)) (Z4 BK186.out) k_ hk⟩))
                 (case aO => exact Z31 HO191.out)
                 (case aS => exact (below_size (Z12)))
                 (case aL => have := LMc18.out; omega)
                 intro v197 w32 ho hb hg hat
                 rw [← Ny196.out] at ho
                 have n0_ := Aside0.mk (Kd.R_after (ok := (fun k_ => some k_ ≠ (v200 : Value).ownBlock ∧ k_ ≠ gb186)) (Z49) hg hat)
                 have n1_ := Aside0.mk (blk_grown (g := gb186) (o := .cells #[.int .i64 ((rd_T90 l0 x10_1).f0), .int .i64 ((rd_T90 l0 x10_1).f1), .int .i64 ((rd_T90 l0 x10_1).f2)] 90 (0, 0)) (Z4 BK186.out) hg (Kd.R_away HO191.out (fun _ hk => hk.2)))
                 have n2_ := Aside0.mk (Kd.R_after (ok := (fun k_ => some k_ ≠ (.slice (some ad187) x4_1.length co7 : Value).ownBlock ∧ k_ ≠ gb186)) (Z107 HO201.out) hg hat)
                 have n3_ := Aside0.mk (hb)
                 have n4_ := Aside0.mk ((show Kd.C k90 w32 (some ad187) y192.length y192 from by rw [Ny192.out]; exact Kd.C_take (m := (x7_2 : Int).toNat) ((Kd.R_reads' (Kd.R_after (ok := (fun k_ => some k_ ≠ (v200 : Value).ownBlock ∧ k_ ≠ gb186)) (Z49) hg hat)).2.2) KL26.out))
                 have n5_ := Aside0.mk ((show Kd.C k90 w32 A27 y205.length y205 from by rw [Ny205.out, KA27.out]; exact Kd.C_drop (m := (x7_2 : Int).toNat) (c := co7) ((Kd.R_reads' (Kd.R_after (ok := (fun k_ => some k_ ≠ (v200 : Value).ownBlock ∧ k_ ≠ gb186)) (Z49) hg hat)).2.2) KL27.out ((Kd.R_reads' (Kd.R_after (ok := (fun k_ => some k_ ≠ (v200 : Value).ownBlock ∧ k_ ≠ gb186)) (Z49) hg hat)).2.1)))
                 have n6_ := Aside0.mk (ho)
                 clear HO_4
                 clear BK186
                 clear HO201
                 clear HB
                 clear HR195
                 clear HR208
                 clear HO191
                 have HO_4 := n0_
                 have BK186 := n1_
                 have HO201 := n2_
                 have HB := n3_
                 have HR195 := n4_
                 have HR208 := n5_
                 have HO198 := n6_
                 clear n0_ n1_ n2_ n3_ n4_ n5_ n6_
                 clear ho hb hg hat
                 refine hK.out _ _ ⟨(blk_cell BK186.out 0).trans rfl, (blk_cell BK186.out 1).trans rfl, (blk_cell BK186.out 2).trans rfl⟩ (fun hHeld => ?_)
                 clear hK K
                 refine norm_ (a' := ?_) ?_ ?_
                 rotate_left
                 ·show Act.put _ (some 33) _ = _
                  simp only [Act.put, List.setIfInBounds_toArray, List.set_cons_zero, List.set_cons_succ, i64_w, i32_w]
                  rfl
                 exact norm_ (Z54) (hCont (v190, v197, v200) _ ⟨hHeld, (Z58 HO198.out), (Z45 HO201.out), (Z45 HO_4.out), (Z4 BK186.out), (Z12)⟩)
                rintro ⟨v190, v197, v200⟩ w33 ⟨hS_, h0_, h1_, h2_, h3_, h4_⟩
                have n0_ : Aside0 (Kd.R k90 90 w33 w.heap.size (fun k_ => some k_ ≠ (v200 : Value).ownBlock ∧ some k_ ≠ (.slice (some ad187) x4_1.length co7 : Value).ownBlock ∧ k_ ≠ gb186) v197 y196) := ⟨h0_⟩
                have n1_ : Aside0 (Kd.R k90 90 w33 w.heap.size (fun k_ => some k_ ≠ (v197 : Value).ownBlock ∧ some k_ ≠ (.slice (some ad187) x4_1.length co7 : Value).ownBlock ∧ k_ ≠ gb186) v200 y199) := ⟨h1_⟩
                have n2_ : Aside0 (Kd.R k90 90 w33 w.heap.size (fun k_ => some k_ ≠ (v197 : Value).ownBlock ∧ some k_ ≠ (v200 : Value).ownBlock ∧ k_ ≠ gb186) (.slice (some ad187) x4_1.length co7) x4_1) := ⟨h2_⟩
                have n3_ : Aside0 (w33.heap[gb186]? = some (.cells #[.int .i64 ((rd_T90 l0 x10_1).f0), .int .i64 ((rd_T90 l0 x10_1).f1), .int .i64 ((rd_T90 l0 x10_1).f2)] 90 (0, 0))) := ⟨h3_⟩
                have n4_ : Aside0 (Below w.heap.size w w33) := ⟨h4_⟩
                clear HO_4
                clear BK186
                clear HB
                clear h0_ h1_ h2_ h3_ h4_
                have HO198 := n0_
                have HO201 := n1_
                have HO_4 := n2_
                have BK186 := n3_
                have HB := n4_
                clear n0_ n1_ n2_ n3_ n4_
                have hHeld : w33.cell? ⟨gb186, 0, none⟩ = some (.int .i64 ((rd_T90 l0 x10_1).f0)) ∧ w33.cell? ⟨gb186, 1, none⟩ = some (.int .i64 ((rd_T90 l0 x10_1).f1)) ∧ w33.cell? ⟨gb186, 2, none⟩ = some (.int .i64 ((rd_T90 l0 x10_1).f2)) := hS_
                have n_ := Aside0.mk (show Kd.C k90 _ (some ad187) y192.length y192 from by rw [Ny192.out]; exact Kd.C_take (m := (x7_2 : Int).toNat) ((Kd.R_reads' HO_4.out).2.2) KL26.out)
                (try clear HR195)
                have HR195 := n_
                clear n_
                have n_ := Aside0.mk (show Kd.C k90 _ A27 y205.length y205 from by rw [Ny205.out, KA27.out]; exact Kd.C_drop (m := (x7_2 : Int).toNat) (c := co7) ((Kd.R_reads' HO_4.out).2.2) KL27.out ((Kd.R_reads' HO_4.out).2.1))
                (try clear HR208)
                have HR208 := n_
                clear n_
                obtain ⟨Ao35, co35, eo35⟩ := Kd.R_slice HO201.out
                (first | subst eo35 | (injection eo35 with f1_ f2_ f3_; have f4_ := f1_.symm; have f5_ := f3_.symm; clear f1_ f2_ f3_; subst f4_; subst f5_))
                refine norm_ (a' := ?_) ?_ ?_
                rotate_left
                ·simp only [putAll, Act.put, List.setIfInBounds_toArray, List.set_cons_zero, List.set_cons_succ]
                 rfl
                refine one_ (i := 7) (N := some 36) (M_ 11 2) rfl rfl (one_of HT_.out (by kernel_rfl)) (by decide) (fun K hK => ?_)
                refine Kd.R_append_rows_step k90 (w0 := w) w.heap.size (by rfl) (.tmp 33) (.tmp 35) 42 90 (.agg #[(.int .i64 0), (.int .i64 0), (.int .i64 0)]) 24 rfl Try.underlying42 info90 rfl (by decide) (by omega) v197 y196 y199 _ _ _ (fun k_ => some k_ ≠ (.slice (some ad187) x4_1.length co7 : Value).ownBlock ∧ some k_ ≠ (.slice Ao35 y199.length co35 : Value).ownBlock ∧ k_ ≠ gb186) (fun _ => False) rfl rfl ?aO ?aR (fun _ _ h => h) (fun _ h => h.elim) ?aF ?aB ?aS ?aL ?_
                (case aR => exact Z5 HO201.out)
                (case aB => exact Z12)
                (case aF => exact (fun k_ hk => ⟨Kd.fresh' (Kd.R_lt (Z1 HO_4.out)) k_ hk, Kd.fresh' (Kd.R_lt (Z1 HO201.out)) k_ hk, Kd.freshB (g := gb186) (o := .cells #[.int .i64 ((rd_T90 l0 x10_1).f0), .int .i64 ((rd_T90 l0 x10_1).f1), .int .i64 ((rd_T90 l0 x10_1).f2)] 90 (0, 0)) (Z4 BK186.out) k_ hk⟩))
                (case aO => exact Z58 HO198.out)
                (case aS => exact (below_size (Z12)))
                (case aL => have := LMc19.out; omega)
                intro v203 w34 ho hb hg hat
                rw [← Ny202.out] at ho
                have n0_ := Aside0.mk (Kd.R_after (ok := (fun k_ => some k_ ≠ (.slice Ao35 y199.length co35 : Value).ownBlock ∧ k_ ≠ gb186)) (Z46 HO_4.out) hg hat)
                have n1_ := Aside0.mk (blk_grown (g := gb186) (o := .cells #[.int .i64 ((rd_T90 l0 x10_1).f0), .int .i64 ((rd_T90 l0 x10_1).f1), .int .i64 ((rd_T90 l0 x10_1).f2)] 90 (0, 0)) (Z4 BK186.out) hg (Kd.R_away HO198.out (fun _ hk => hk.2.2)))
                have n2_ := Aside0.mk (Kd.R_after (ok := (fun k_ => some k_ ≠ (.slice (some ad187) x4_1.length co7 : Value).ownBlock ∧ k_ ≠ gb186)) (Z46 HO201.out) hg hat)
                have n3_ := Aside0.mk (hb)
                have n4_ := Aside0.mk ((show Kd.C k90 w34 (some ad187) y192.length y192 from by rw [Ny192.out]; exact Kd.C_take (m := (x7_2 : Int).toNat) ((Kd.R_reads' (Kd.R_after (ok := (fun k_ => some k_ ≠ (.slice Ao35 y199.length co35 : Value).ownBlock ∧ k_ ≠ gb186)) (Z46 HO_4.out) hg hat)).2.2) KL26.out))
                have n5_ := Aside0.mk ((show Kd.C k90 w34 A27 y205.length y205 from by rw [Ny205.out, KA27.out]; exact Kd.C_drop (m := (x7_2 : Int).toNat) (c := co7) ((Kd.R_reads' (Kd.R_after (ok := (fun k_ => some k_ ≠ (.slice Ao35 y199.length co35 : Value).ownBlock ∧ k_ ≠ gb186)) (Z46 HO_4.out) hg hat)).2.2) KL27.out ((Kd.R_reads' (Kd.R_after (ok := (fun k_ => some k_ ≠ (.slice Ao35 y199.length co35 : Value).ownBlock ∧ k_ ≠ gb186)) (Z46 HO_4.out) hg hat)).2.1)))
                have n6_ := Aside0.mk (ho)
                clear HO_4
                clear BK186
                clear HO201
                clear HB
                clear HR195
                clear HR208
                clear HO198
                have HO_4 := n0_
                have BK186 := n1_
                have HO201 := n2_
                have HB := n3_
                have HR195 := n4_
                have HR208 := n5_
                have HO204 := n6_
                clear n0_ n1_ n2_ n3_ n4_ n5_ n6_
                clear ho hb hg hat
                refine hK.out _ _ ⟨(blk_cell BK186.out 0).trans rfl, (blk_cell BK186.out 1).trans rfl, (blk_cell BK186.out 2).trans rfl⟩ (fun hHeld => ?_)
                clear hK K
                refine norm_ (a' := ?_) ?_ ?_
                rotate_left
                ·show Act.put _ (some 36) _ = _
                 simp only [Act.put, List.setIfInBounds_toArray, List.set_cons_zero, List.set_cons_succ, i64_w, i32_w]
                 rfl
                refine one_ (i := 11) (N := some 40) (M_ 12 1) rfl rfl (one_of HT_.out (by kernel_rfl)) (by decide) (fun K hK => ?_)
                refine Kd.R_append_rows_step k90 (w0 := w) w.heap.size (by rfl) (.tmp 36) (.tmp 39) 42 90 (.agg #[(.int .i64 0), (.int .i64 0), (.int .i64 0)]) 24 rfl Try.underlying42 info90 rfl (by decide) (by omega) v203 y202 y205 _ _ _ (fun k_ => some k_ ≠ (.slice (some ad187) x4_1.length co7 : Value).ownBlock ∧ some k_ ≠ (.slice Ao35 y199.length co35 : Value).ownBlock ∧ k_ ≠ gb186) (fun _ => False) rfl rfl ?aO ?aR (fun _ _ h => h) (fun _ h => h.elim) ?aF ?aB ?aS ?aL ?_
                (case aR => exact Z38 HR208.out)
                (case aB => exact Z12)
                (case aF => exact (fun k_ hk => ⟨Kd.fresh' (Kd.R_lt (Z1 HO_4.out)) k_ hk, Kd.fresh' (Kd.R_lt (Z1 HO201.out)) k_ hk, Kd.freshB (g := gb186) (o := .cells #[.int .i64 ((rd_T90 l0 x10_1).f0), .int .i64 ((rd_T90 l0 x10_1).f1), .int .i64 ((rd_T90 l0 x10_1).f2)] 90 (0, 0)) (Z4 BK186.out) k_ hk⟩))
                (case aO => exact Z1 HO204.out)
                (case aS => exact (below_size (Z12)))
                (case aL => have := LMc22.out; omega)
                intro v210 w36 ho hb hg hat
                rw [← Ny209.out] at ho
                have n0_ := Aside0.mk (Kd.R_after (ok := (fun k_ => some k_ ≠ (.slice Ao35 y199.length co35 : Value).ownBlock ∧ k_ ≠ gb186)) (Z1 HO_4.out) hg hat)
                have n1_ := Aside0.mk (blk_grown (g := gb186) (o := .cells #[.int .i64 ((rd_T90 l0 x10_1).f0), .int .i64 ((rd_T90 l0 x10_1).f1), .int .i64 ((rd_T90 l0 x10_1).f2)] 90 (0, 0)) (Z4 BK186.out) hg (Kd.R_away HO204.out (fun _ hk => hk.2.2)))
                have n2_ := Aside0.mk (Kd.R_after (ok := (fun k_ => some k_ ≠ (.slice (some ad187) x4_1.length co7 : Value).ownBlock ∧ k_ ≠ gb186)) (Z1 HO201.out) hg hat)
                have n3_ := Aside0.mk (hb)
                have n4_ := Aside0.mk ((show Kd.C k90 w36 (some ad187) y192.length y192 from by rw [Ny192.out]; exact Kd.C_take (m := (x7_2 : Int).toNat) ((Kd.R_reads' (Kd.R_after (ok := (fun k_ => some k_ ≠ (.slice Ao35 y199.length co35 : Value).ownBlock ∧ k_ ≠ gb186)) (Z1 HO_4.out) hg hat)).2.2) KL26.out))
                have n5_ := Aside0.mk ((show Kd.C k90 w36 A27 y205.length y205 from by rw [Ny205.out, KA27.out]; exact Kd.C_drop (m := (x7_2 : Int).toNat) (c := co7) ((Kd.R_reads' (Kd.R_after (ok := (fun k_ => some k_ ≠ (.slice Ao35 y199.length co35 : Value).ownBlock ∧ k_ ≠ gb186)) (Z1 HO_4.out) hg hat)).2.2) KL27.out ((Kd.R_reads' (Kd.R_after (ok := (fun k_ => some k_ ≠ (.slice Ao35 y199.length co35 : Value).ownBlock ∧ k_ ≠ gb186)) (Z1 HO_4.out) hg hat)).2.1)))
                have n6_ := Aside0.mk (ho)
                clear HO_4
                clear BK186
                clear HO201
                clear HB
                clear HR195
                clear HR208
                clear HO204
                have HO_4 := n0_
                have BK186 := n1_
                have HO201 := n2_
                have HB := n3_
                have HR195 := n4_
                have HR208 := n5_
                have HO211 := n6_
                clear n0_ n1_ n2_ n3_ n4_ n5_ n6_
                clear ho hb hg hat
                refine hK.out _ _ ⟨(blk_cell BK186.out 0).trans rfl, (blk_cell BK186.out 1).trans rfl, (blk_cell BK186.out 2).trans rfl⟩ (fun hHeld => ?_)
                clear hK K
                refine norm_ (a' := ?_) ?_ ?_
                rotate_left
                ·show Act.put _ (some 40) _ = _
                 simp only [Act.put, List.setIfInBounds_toArray, List.set_cons_zero, List.set_cons_succ, i64_w, i32_w]
                 rfl
                refine pu_ 12 4 (M_ 13 0) ?_
                refine done_ (done_of HT_.out (by kernel_rfl)) ?_
                try go_wp2
                go_roundg k2
                case measure => have := HK1.out; have := HK2.out; omega
                case rel => exact ⟨(y209), (wrap64 (x10_1 + 1)), (Z10), H', ⟨Z47⟩, ⟨Z50 HO211.out⟩, ⟨Z12⟩⟩
               rw [if_neg c22] at H
               exact absurd H (by simp)
              rw [if_neg c19] at H
              exact absurd H (by simp)
             rw [if_neg c18] at H
             exact absurd H (by simp)
            rw [if_neg c17] at H
            exact absurd H (by simp)
           rw [if_neg c16] at H
           exact absurd H (by simp)
          rw [if_neg c11] at H
          exact absurd H (by simp)
         rw [if_neg c10] at H
         exact absurd H (by simp)
        rw [if_neg c8] at H
        have c8b0 : decide (0 < x7_2) = false := decide_eq_false c8
        clear c8
        obtain ⟨y212, hy212⟩ : ∃ y_ : List (S90), y_ = (([] : List (S90))) := ⟨_, rfl⟩
        replace H : (if 0 ≤ x7_2 then (if x7_2 ≤ (x4_1.length : Int) then ((some (x4_1.take (x7_2 : Int).toNat : List (S90))).bind fun y215 => (if y212.length + y215.length < 5864062014805 then ((some (y212 ++ y215 : List (S90))).bind fun y219 => ((some (([(⟨((rd_T90 l0 x10_1).f0), ((rd_T90 l0 x10_1).f1), ((rd_T90 l0 x10_1).f2)⟩ : S90)] : List (S90)) : List (S90))).bind fun y222 => (if y219.length + y222.length < 5864062014805 then ((some (y219 ++ y222 : List (S90))).bind fun y225 => ((some (x4_1.drop (x7_2 : Int).toNat : List (S90))).bind fun y228 => (if y225.length + y228.length < 5864062014805 then (spec_shSorted.l0 k2 (y225 ++ y228) l0 (l0.length : Int) (wrap64 (x10_1 + 1))) else (none)))) else (none)))) else (none))) else (none)) else (none)) = some (r1, r2) := by first | (rw [hy212]; with_reducible exact H) | (have H2_ := (Option.bind_some _ _).symm.trans H; rw [hy212]; with_reducible exact H2_) | (have H2_ := (Option.bind_some _ _).symm.trans H; with_reducible exact H2_) | with_reducible exact H | (rw [hy212]; exact H) | exact H
        have Ny212 := Aside0.mk hy212
        clear hy212
        by_cases c37 : 0 ≤ x7_2
        ·rw [if_pos c37] at H
         have c37b0 := eq_true c37
         have c37b1 : decide (0 ≤ x7_2) = true := decide_eq_true c37
         clear c37
         by_cases c38 : x7_2 ≤ (x4_1.length : Int)
         ·rw [if_pos c38] at H
          have c38b0 := eq_true c38
          have c38b1 : decide (x7_2 ≤ (x4_1.length : Int)) = true := decide_eq_true c38
          clear c38
          obtain ⟨y215, hy215⟩ : ∃ y_ : List (S90), y_ = (x4_1.take (x7_2 : Int).toNat) := ⟨_, rfl⟩
          replace H : (if y212.length + y215.length < 5864062014805 then ((some (y212 ++ y215 : List (S90))).bind fun y219 => ((some (([(⟨((rd_T90 l0 x10_1).f0), ((rd_T90 l0 x10_1).f1), ((rd_T90 l0 x10_1).f2)⟩ : S90)] : List (S90)) : List (S90))).bind fun y222 => (if y219.length + y222.length < 5864062014805 then ((some (y219 ++ y222 : List (S90))).bind fun y225 => ((some (x4_1.drop (x7_2 : Int).toNat : List (S90))).bind fun y228 => (if y225.length + y228.length < 5864062014805 then (spec_shSorted.l0 k2 (y225 ++ y228) l0 (l0.length : Int) (wrap64 (x10_1 + 1))) else (none)))) else (none)))) else (none)) = some (r1, r2) := by first | (rw [hy215]; with_reducible exact H) | (have H2_ := (Option.bind_some _ _).symm.trans H; rw [hy215]; with_reducible exact H2_) | (have H2_ := (Option.bind_some _ _).symm.trans H; with_reducible exact H2_) | with_reducible exact H | (rw [hy215]; exact H) | exact H
          have Ny215 := Aside0.mk hy215
          clear hy215
          by_cases c39 : y212.length + y215.length < 5864062014805
          ·rw [if_pos c39] at H
           have LMc39 := Aside0.mk c39
           clear c39
           obtain ⟨y219, hy219⟩ : ∃ y_ : List (S90), y_ = (y212 ++ y215) := ⟨_, rfl⟩
           replace H : ((some (([(⟨((rd_T90 l0 x10_1).f0), ((rd_T90 l0 x10_1).f1), ((rd_T90 l0 x10_1).f2)⟩ : S90)] : List (S90)) : List (S90))).bind fun y222 => (if y219.length + y222.length < 5864062014805 then ((some (y219 ++ y222 : List (S90))).bind fun y225 => ((some (x4_1.drop (x7_2 : Int).toNat : List (S90))).bind fun y228 => (if y225.length + y228.length < 5864062014805 then (spec_shSorted.l0 k2 (y225 ++ y228) l0 (l0.length : Int) (wrap64 (x10_1 + 1))) else (none)))) else (none))) = some (r1, r2) := by first | (rw [hy219]; with_reducible exact H) | (have H2_ := (Option.bind_some _ _).symm.trans H; rw [hy219]; with_reducible exact H2_) | (have H2_ := (Option.bind_some _ _).symm.trans H; with_reducible exact H2_) | with_reducible exact H | (rw [hy219]; exact H) | exact H
           have Ny219 := Aside0.mk hy219
           clear hy219
           obtain ⟨y222, hy222⟩ : ∃ y_ : List (S90), y_ = (([(⟨((rd_T90 l0 x10_1).f0), ((rd_T90 l0 x10_1).f1), ((rd_T90 l0 x10_1).f2)⟩ : S90)] : List (S90))) := ⟨_, rfl⟩
           replace H : (if y219.length + y222.length < 5864062014805 then ((some (y219 ++ y222 : List (S90))).bind fun y225 => ((some (x4_1.drop (x7_2 : Int).toNat : List (S90))).bind fun y228 => (if y225.length + y228.length < 5864062014805 then (spec_shSorted.l0 k2 (y225 ++ y228) l0 (l0.length : Int) (wrap64 (x10_1 + 1))) else (none)))) else (none)) = some (r1, r2) := by first | (rw [hy222]; with_reducible exact H) | (have H2_ := (Option.bind_some _ _).symm.trans H; rw [hy222]; with_reducible exact H2_) | (have H2_ := (Option.bind_some _ _).symm.trans H; with_reducible exact H2_) | with_reducible exact H | (rw [hy222]; exact H) | exact H
           have Ny222 := Aside0.mk hy222
           clear hy222
           by_cases c40 : y219.length + y222.length < 5864062014805
           ·rw [if_pos c40] at H
            have LMc40 := Aside0.mk c40
            clear c40
            obtain ⟨y225, hy225⟩ : ∃ y_ : List (S90), y_ = (y219 ++ y222) := ⟨_, rfl⟩
            replace H : ((some (x4_1.drop (x7_2 : Int).toNat : List (S90))).bind fun y228 => (if y225.length + y228.length < 5864062014805 then (spec_shSorted.l0 k2 (y225 ++ y228) l0 (l0.length : Int) (wrap64 (x10_1 + 1))) else (none))) = some (r1, r2) := by first | (rw [hy225]; with_reducible exact H) | (have H2_ := (Option.bind_some _ _).symm.trans H; rw [hy225]; with_reducible exact H2_) | (have H2_ := (Option.bind_some _ _).symm.trans H; with_reducible exact H2_) | with_reducible exact H | (rw [hy225]; exact H) | exact H
            have Ny225 := Aside0.mk hy225
            clear hy225
            have c41b0 := eq_true (of_decide_eq_true (Z8) : 0 ≤ x7_2)
            have c42b0 := eq_true (of_decide_eq_true (Z8) : x7_2 ≤ (x4_1.length : Int))
            obtain ⟨y228, hy228⟩ : ∃ y_ : List (S90), y_ = (x4_1.drop (x7_2 : Int).toNat) := ⟨_, rfl⟩
            replace H : (if y225.length + y228.length < 5864062014805 then (spec_shSorted.l0 k2 (y225 ++ y228) l0 (l0.length : Int) (wrap64 (x10_1 + 1))) else (none)) = some (r1, r2) := by first | (rw [hy228]; with_reducible exact H) | (have H2_ := (Option.bind_some _ _).symm.trans H; rw [hy228]; with_reducible exact H2_) | (have H2_ := (Option.bind_some _ _).symm.trans H; with_reducible exact H2_) | with_reducible exact H | (rw [hy228]; exact H) | exact H
            have Ny228 := Aside0.mk hy228
            clear hy228
            by_cases c43 : y225.length + y228.length < 5864062014805
            ·rw [if_pos c43] at H
             have LMc43 := Aside0.mk c43
             clear c43
             obtain ⟨y232, hy232⟩ : ∃ y_ : List (S90), y_ = (y225 ++ y228) := ⟨_, rfl⟩
             replace H : (spec_shSorted.l0 k2 y232 l0 (l0.length : Int) (wrap64 (x10_1 + 1))) = some (r1, r2) := by first | (rw [hy232]; with_reducible exact H) | (have H2_ := (Option.bind_some _ _).symm.trans H; rw [hy232]; with_reducible exact H2_) | (have H2_ := (Option.bind_some _ _).symm.trans H; with_reducible exact H2_) | with_reducible exact H | (rw [hy232]; exact H) | exact H
             have Ny232 := Aside0.mk hy232
             clear hy232
             have H' := Aside0.mk H
             clear H
             try go_wp2
             refine k3_ (Kd.R_drew HO_4.out) (blk_drew BK186.out) (below_drew1 HB.out) ?_
             clear HO_4 BK186 HB
             intro HO_4 BK186 HB
             refine start_ (n := 11) (S := fun w' => True) (ds := []) (M_ 0 11) (by kernel_rfl) rfl rfl trivial (fun hHeld => ?_); refine with_tabW spec_shSorted.tab6 spec_shSorted.bits6 (fun HT_ HW_ => ?_)
             generalize wr.drew = w44 at HO_4 BK186 HB hHeld ⊢
             refine pu_ 0 16 (M_ 1 10) ?_
             refine pu_ 1 17 (M_ 2 9) ?_
             refine pu_ 2 18 (M_ 3 8) ?_
             refine pn_ 3 19 (M_ 4 7) ?_
             refine pn_ 4 20 (M_ 5 6) ?_
             refine pn_ 5 21 (M_ 6 5) ?_
             refine pn_ 6 22 (M_ 7 4) ?_
             refine pn_ 7 23 (M_ 8 3) ?_
             refine pn_ 8 24 (M_ 9 2) ?_
             refine pn_ 9 25 (M_ 10 1) ?_
             refine pu_ 10 26 (M_ 11 0) ?_
             refine done_ (done_of HT_.out (by kernel_rfl)) ?_
             try go_wp2
             refine k3_ (Kd.R_drew HO_4.out) (blk_drew BK186.out) (below_drew1 HB.out) ?_
             clear HO_4 BK186 HB
             intro HO_4 BK186 HB
             have q46 : (x7_2 : Int) ≤ ((x4_1.length : Int) : Int) := of_decide_eq_true (Z8)
             obtain ⟨i046, hi046, _, hsz46, _⟩ := info_parts info90
             have hroom46 : x4_1.length ≤ co7 := (Kd.R_reads' HO_4.out).2.1
             have hC46 : Kd.C k90 _ Ao7 x4_1.length x4_1 := (Kd.R_reads' HO_4.out).2.2
             have hcut46 := cut_to (P := Try.prog) 42 90 .i64 Try.underlying42 hi046 Ao7 x4_1.length co7 x7_2 (of_decide_eq_true (Z8)) q46 hroom46
             have hr46 := Kd.C_take (m := (x7_2 : Int).toNat) hC46 (by omega)
             have hy46 : y215.length = (x7_2 : Int).toNat := (by rw [Ny215.out, List.length_take]; omega)
             rw [← Ny215.out] at hr46
             rw [← hy46] at hcut46
             have HR218 := Aside0.mk hr46
             have HC218 := Aside0.mk (show y215.length ≤ co7 from by omega)
             clear hr46 hC46 hroom46 hi046 hsz46
             have KY46 := Aside0.mk hy46
             clear hy46
             have KL46 := Aside0.mk (show (x7_2 : Int).toNat ≤ x4_1.length from by omega)
             replace q46 := eq_true q46
             have q47 : (x7_2 : Int) ≤ ((x4_1.length : Int) : Int) := of_decide_eq_true (Z8)
             obtain ⟨i047, hi047, _, hsz47, _⟩ := info_parts info90
             have hroom47 : x4_1.length ≤ co7 := (Kd.R_reads' HO_4.out).2.1
             have hC47 : Kd.C k90 _ Ao7 x4_1.length x4_1 := (Kd.R_reads' HO_4.out).2.2
             have q047 : (0 : Int) ≤ (x7_2 : Int) := of_decide_eq_true (Z8)
             have hcut47 := cut_from (P := Try.prog) 42 90 .i64 Try.underlying42 hi047 3 hsz47 Ao7 x4_1.length co7 x7_2 q047 q47
             have hr47 := Kd.C_drop (m := (x7_2 : Int).toNat) (c := co7) hC47 (by omega) hroom47
             obtain ⟨A47, hA47⟩ : ∃ A1, A1 = (if co7 = (x7_2 : Int).toNat then Ao7 else (Ao7 : Option Addr).map (·.add ((x7_2 : Int).toNat * 3))) := ⟨_, rfl⟩
             obtain ⟨c47, hc47⟩ : ∃ c1, c1 = co7 - (x7_2 : Int).toNat := ⟨_, rfl⟩
             have hy47 : y228.length = x4_1.length - (x7_2 : Int).toNat := (by rw [Ny228.out, List.length_drop] <;> omega)
             rw [show (x4_1).drop (x7_2 : Int).toNat = y228 from Ny228.out.symm] at hr47
             replace hr47 : Kd.C k90 _ A47 y228.length y228 := (by rw [hA47]; exact hr47)
             rw [← hy47, ← hA47, ← hc47] at hcut47
             have HR231 := Aside0.mk hr47
             have HC231 := Aside0.mk (show y228.length ≤ c47 from by rw [hy47, hc47]; exact Nat.sub_le_sub_right hroom47 _)
             clear hr47 hC47 hroom47 hi047 hsz47 hc47
             have KY47 := Aside0.mk hy47
             have KA47 := Aside0.mk hA47
             clear hy47 hA47
             have KL47 := Aside0.mk (show (x7_2 : Int).toNat ≤ x4_1.length from by omega)
             replace q47 := eq_true q47
             refine start_ (n := 13) (S := fun w' => w'.cell? ⟨gb186, 0, none⟩ = some (.int .i64 ((rd_T90 l0 x10_1).f0)) ∧ w'.cell? ⟨gb186, 1, none⟩ = some (.int .i64 ((rd_T90 l0 x10_1).f1)) ∧ w'.cell? ⟨gb186, 2, none⟩ = some (.int .i64 ((rd_T90 l0 x10_1).f2))) (ds := []) (M_ 0 13) (by kernel_rfl) rfl rfl ⟨(blk_cell BK186.out 0).trans rfl, (blk_cell BK186.out 1).trans rfl, (blk_cell BK186.out 2).trans rfl⟩ (fun hHeld => ?_); refine with_tabW spec_shSorted.tab8 spec_shSorted.bits8 (fun HT_ HW_ => ?_)
             generalize w44.drew = w45 at HO_4 BK186 HB HR218 HR231 hHeld ⊢
             refine pu_ 1 30 (N_ 13 2) ?_
             refine pu_ 2 31 (N_ 13 6) ?_
             refine pu_ 3 32 (N_ 13 14) ?_
             refine pu_ 8 37 (N_ 13 270) ?_
             refine pu_ 9 38 (N_ 13 782) ?_
             refine pu_ 10 39 (N_ 13 1806) ?_
             refine tk3_ 5 34 (N_ 13 1838) hHeld ?_
             refine join_ (σ := Value × Value × Value) 3 (N_ 13 1919) (fun s_ => [(29, s_.1), (33, s_.2.1), (35, s_.2.2)]) (fun s_ w' => (w'.cell? ⟨gb186, 0, none⟩ = some (.int .i64 ((rd_T90 l0 x10_1).f0)) ∧ w'.cell? ⟨gb186, 1, none⟩ = some (.int .i64 ((rd_T90 l0 x10_1).f1)) ∧ w'.cell? ⟨gb186, 2, none⟩ = some (.int .i64 ((rd_T90 l0 x10_1).f2))) ∧ (Kd.R k90 90 w' w.heap.size (fun k_ => some k_ ≠ (s_.2.2 : Value).ownBlock ∧ some k_ ≠ (.slice Ao7 x4_1.length co7 : Value).ownBlock ∧ k_ ≠ gb186) s_.2.1 y219) ∧ (Kd.R k90 90 w' w.heap.size (fun k_ => some k_ ≠ (s_.2.1 : Value).ownBlock ∧ some k_ ≠ (.slice Ao7 x4_1.length co7 : Value).ownBlock ∧ k_ ≠ gb186) s_.2.2 y222) ∧ (Kd.R k90 90 w' w.heap.size (fun k_ => some k_ ≠ (s_.2.1 : Value).ownBlock ∧ some k_ ≠ (s_.2.2 : Value).ownBlock ∧ k_ ≠ gb186) (.slice Ao7 x4_1.length co7) x4_1) ∧ (w'.heap[gb186]? = some (.cells #[.int .i64 ((rd_T90 l0 x10_1).f0), .int .i64 ((rd_T90 l0 x10_1).f1), .int .i64 ((rd_T90 l0 x10_1).f2)] 90 (0, 0))) ∧ (Below w.heap.size w w')) ?_ ?_
             rotate_left
             ·intro hCont
              refine two_ (i := 0) (j := 6) (Ni := some 29) (Nj := some 35) (N_ 13 1839) (N_ 13 1902) rfl rfl rfl rfl (two_of HT_.out (by kernel_rfl)) (by decide) (by decide) (fun K hK => ?_) (fun K hK => ?_)
              ·skip
               refine Kd.R_lit_step k90 _ 90 ?hg (N := 29) ?hd (xs := ([] : List (S90))) (inner := []) (ok := fun _ => True) (okp := fun _ => True) ?hr ?hp (fun _ hk => hk) trivial (Below.refl _ _) (Nat.le_refl _) (by simp) ?_; (case hd => rfl); (case hg => rfl); (case hr => exact Z44); (case hp => exact (Reps.none _ _))
               intro v213 w48 ho49 hb hg_ hnew_
               clear hg_ hnew_
               (first | rw [← Ny212.out] at ho49 | (simp only [Int.reduceToNat] at ho49; rw [← Ny212.out] at ho49))
               have n0_ := Aside0.mk (Kd.R_elder' (Z1 HO_4.out) (Kd.R_base ho49) hb)
               have n1_ := Aside0.mk (Kd.R_lower (Kd.R_newB (Kd.R_new' ho49 (Kd.R_lt (Z1 HO_4.out))) (g := gb186) (o := .cells #[.int .i64 ((rd_T90 l0 x10_1).f0), .int .i64 ((rd_T90 l0 x10_1).f1), .int .i64 ((rd_T90 l0 x10_1).f2)] 90 (0, 0)) (Z4 BK186.out)) (below_size (Z12)))
               have n2_ := Aside0.mk (blk_below (g := gb186) (o := .cells #[.int .i64 ((rd_T90 l0 x10_1).f0), .int .i64 ((rd_T90 l0 x10_1).f1), .int .i64 ((rd_T90 l0 x10_1).f2)] 90 (0, 0)) (Z4 BK186.out) hb)
               have n3_ := Aside0.mk (Kd.C_below (Z14 HR218.out) hb)
               have n4_ := Aside0.mk (Kd.C_below (Z14 HR231.out) hb)
               have n5_ := Aside0.mk (below_step (Z12) hb)
               clear HO_4
               clear BK186
               clear HR218
               clear HR231
               clear HB
               have HO_4 := n0_
               have HO214 := n1_
               have BK186 := n2_
               have HR218 := n3_
               have HR231 := n4_
               have HB := n5_
               clear n0_ n1_ n2_ n3_ n4_ n5_
               clear hb ho49
               refine hK.out _ _ ⟨(blk_cell BK186.out 0).trans rfl, (blk_cell BK186.out 1).trans rfl, (blk_cell BK186.out 2).trans rfl⟩ (fun hHeld => ?_)
               clear hK K
               refine norm_ (a' := ?_) ?_ ?_
               rotate_left
               ·show Act.put _ (some 29) _ = _
                simp only [Act.put, List.setIfInBounds_toArray, List.set_cons_zero, List.set_cons_succ, i64_w, i32_w]
                rfl
               refine two_ (i := 4) (j := 6) (Ni := some 33) (Nj := some 35) (N_ 13 1855) (N_ 13 1903) rfl rfl rfl rfl (two_of HT_.out (by kernel_rfl)) (by decide) (by decide) (fun K hK => ?_) (fun K hK => ?_)
               ·skip
                refine Kd.R_append_rows_step k90 (w0 := w) w.heap.size (by rfl) (.tmp 29) (.tmp 32) 42 90 (.agg #[(.int .i64 0), (.int .i64 0), (.int .i64 0)]) 24 rfl Try.underlying42 info90 rfl (by decide) (by omega) v213 y212 y215 _ _ _ (fun k_ => some k_ ≠ (.slice Ao7 x4_1.length co7 : Value).ownBlock ∧ k_ ≠ gb186) (fun _ => False) rfl rfl ?aO ?aR (fun _ _ h => h) (fun _ h => h.elim) ?aF ?aB ?aS ?aL ?_
                (case aR => exact Z38 HR218.out)
                (case aB => exact Z12)
                (case aF => exact (fun k_ hk => ⟨Kd.fresh' (Kd.R_lt (Z1 HO_4.out)) k_ hk, Kd.freshB (g := gb186) (o := .cells #[.int .i64 ((rd_T90 l0 x10_1).f0), .int .i64 ((rd_T90 l0 x10_1).f1), .int .i64 ((rd_T90 l0 x10_1).f2)] 90 (0, 0)) (Z4 BK186.out) k_ hk⟩))
                (case aO => exact Z43 HO214.out)
                (case aS => exact (below_size (Z12)))
                (case aL => have := LMc39.out; omega)
                intro v220 w50 ho hb hg hat
                rw [← Ny219.out] at ho
                have n0_ := Aside0.mk (Kd.R_after (ok := (fun k_ => k_ ≠ gb186)) (Z1 HO_4.out) hg hat)
                have n1_ := Aside0.mk (blk_grown (g := gb186) (o := .cells #[.int .i64 ((rd_T90 l0 x10_1).f0), .int .i64 ((rd_T90 l0 x10_1).f1), .int .i64 ((rd_T90 l0 x10_1).f2)] 90 (0, 0)) (Z4 BK186.out) hg (Kd.R_away HO214.out (fun _ hk => hk.2)))
                have n2_ := Aside0.mk (hb)
                have n3_ := Aside0.mk ((show Kd.C k90 w50 Ao7 y215.length y215 from by rw [Ny215.out]; exact Kd.C_take (m := (x7_2 : Int).toNat) ((Kd.R_reads' (Kd.R_after (ok := (fun k_ => k_ ≠ gb186)) (Z1 HO_4.out) hg hat)).2.2) KL46.out))
                have n4_ := Aside0.mk ((show Kd.C k90 w50 A47 y228.length y228 from by rw [Ny228.out, KA47.out]; exact Kd.C_drop (m := (x7_2 : Int).toNat) (c := co7) ((Kd.R_reads' (Kd.R_after (ok := (fun k_ => k_ ≠ gb186)) (Z1 HO_4.out) hg hat)).2.2) KL47.out ((Kd.R_reads' (Kd.R_after (ok := (fun k_ => k_ ≠ gb186)) (Z1 HO_4.out) hg hat)).2.1)))
                have n5_ := Aside0.mk (ho)
                clear HO_4
                clear BK186
                clear HB
                clear HR218
                clear HR231
                clear HO214
                have HO_4 := n0_
                have BK186 := n1_
                have HB := n2_
                have HR218 := n3_
                have HR231 := n4_
                have HO221 := n5_
                clear n0_ n1_ n2_ n3_ n4_ n5_
                clear ho hb hg hat
                refine hK.out _ _ ⟨(blk_cell BK186.out 0).trans rfl, (blk_cell BK186.out 1).trans rfl, (blk_cell BK186.out 2).trans rfl⟩ (fun hHeld => ?_)
                clear hK K
                refine norm_ (a' := ?_) ?_ ?_
                rotate_left
                ·show Act.put _ (some 33) _ = _
                 simp only [Act.put, List.setIfInBounds_toArray, List.set_cons_zero, List.set_cons_succ, i64_w, i32_w]
                 rfl
                refine one_ (i := 6) (N := some 35) (N_ 13 1919) rfl rfl (one_of HT_.out (by kernel_rfl)) (by decide) (fun K hK => ?_)
                refine Kd.R_lit_step k90 _ 90 ?hg (N := 35) ?hd (xs := ([(⟨((rd_T90 l0 x10_1).f0), ((rd_T90 l0 x10_1).f1), ((rd_T90 l0 x10_1).f2)⟩ : S90)] : List (S90))) (inner := [.int .i64 ((rd_T90 l0 x10_1).f0), .int .i64 ((rd_T90 l0 x10_1).f1), .int .i64 ((rd_T90 l0 x10_1).f2)]) (ok := fun _ => True) (okp := fun _ => True) ?hr ?hp (fun _ hk => hk) trivial (Below.refl _ _) (Nat.le_refl _) (by simp) ?_; (case hd => rfl); (case hg => rfl); (case hr => exact Z44); (case hp => exact (Reps.c3 (show Kd.M k90 _ _ _ (⟨((rd_T90 l0 x10_1).f0), ((rd_T90 l0 x10_1).f1), ((rd_T90 l0 x10_1).f2)⟩ : S90) [.int .i64 ((rd_T90 l0 x10_1).f0), .int .i64 ((rd_T90 l0 x10_1).f1), .int .i64 ((rd_T90 l0 x10_1).f2)] from (k90_mkM _ _ _ (⟨((rd_T90 l0 x10_1).f0), ((rd_T90 l0 x10_1).f1), ((rd_T90 l0 x10_1).f2)⟩ : S90) )) (Reps.none _ _)))
                intro v223 w51 ho52 hb hg_ hnew_
                clear hg_ hnew_
                (first | rw [← Ny222.out] at ho52 | (simp only [Int.reduceToNat] at ho52; rw [← Ny222.out] at ho52))
                have n0_ := Aside0.mk (Kd.R_elder' (Z1 HO_4.out) (Kd.R_base ho52) hb)
                have n1_ := Aside0.mk (Kd.R_elder' (Z1 HO221.out) (Kd.R_base ho52) hb)
                have n2_ := Aside0.mk (Kd.R_lower (Kd.R_newB (Kd.R_new' (Kd.R_new' ho52 (Kd.R_lt (Z1 HO_4.out))) (Kd.R_lt (Z1 HO221.out))) (g := gb186) (o := .cells #[.int .i64 ((rd_T90 l0 x10_1).f0), .int .i64 ((rd_T90 l0 x10_1).f1), .int .i64 ((rd_T90 l0 x10_1).f2)] 90 (0, 0)) (Z4 BK186.out)) (below_size (Z12)))
                have n3_ := Aside0.mk (blk_below (g := gb186) (o := .cells #[.int .i64 ((rd_T90 l0 x10_1).f0), .int .i64 ((rd_T90 l0 x10_1).f1), .int .i64 ((rd_T90 l0 x10_1).f2)] 90 (0, 0)) (Z4 BK186.out) hb)
                have n4_ := Aside0.mk (Kd.C_below (Z14 HR218.out) hb)
                have n5_ := Aside0.mk (Kd.C_below (Z14 HR231.out) hb)
                have n6_ := Aside0.mk (below_step (Z12) hb)
                clear HO_4
                clear HO221
                clear BK186
                clear HR218
                clear HR231
                clear HB
                have HO_4 := n0_
                have HO221 := n1_
                have HO224 := n2_
                have BK186 := n3_
                have HR218 := n4_
                have HR231 := n5_
                have HB := n6_
                clear n0_ n1_ n2_ n3_ n4_ n5_ n6_
                clear hb ho52
                refine hK.out _ _ ⟨(blk_cell BK186.out 0).trans rfl, (blk_cell BK186.out 1).trans rfl, (blk_cell BK186.out 2).trans rfl⟩ (fun hHeld => ?_)
                clear hK K
                refine norm_ (a' := ?_) ?_ ?_
                rotate_left
                ·show Act.put _ (some 35) _ = _
                 simp only [Act.put, List.setIfInBounds_toArray, List.set_cons_zero, List.set_cons_succ, i64_w, i32_w]
                 rfl
                exact norm_ (Z54) (hCont (v213, v220, v223) _ ⟨hHeld, (Z45 HO221.out), (Z104 HO224.out), (Z95), (Z4 BK186.out), (Z12)⟩)
               skip
               refine Kd.R_lit_step k90 _ 90 ?hg (N := 35) ?hd (xs := ([(⟨((rd_T90 l0 x10_1).f0), ((rd_T90 l0 x10_1).f1), ((rd_T90 l0 x10_1).f2)⟩ : S90)] : List (S90))) (inner := [.int .i64 ((rd_T90 l0 x10_1).f0), .int .i64 ((rd_T90 l0 x10_1).f1), .int .i64 ((rd_T90 l0 x10_1).f2)]) (ok := fun _ => True) (okp := fun _ => True) ?hr ?hp (fun _ hk => hk) trivial (Below.refl _ _) (Nat.le_refl _) (by simp) ?_; (case hd => rfl); (case hg => rfl); (case hr => exact Z44); (case hp => exact (Reps.c3 (show Kd.M k90 _ _ _ (⟨((rd_T90 l0 x10_1).f0), ((rd_T90 l0 x10_1).f1), ((rd_T90 l0 x10_1).f2)⟩ : S90) [.int .i64 ((rd_T90 l0 x10_1).f0), .int .i64 ((rd_T90 l0 x10_1).f1), .int .i64 ((rd_T90 l0 x10_1).f2)] from (k90_mkM _ _ _ (⟨((rd_T90 l0 x10_1).f0), ((rd_T90 l0 x10_1).f1), ((rd_T90 l0 x10_1).f2)⟩ : S90) )) (Reps.none _ _)))
               intro v223 w50 ho51 hb hg_ hnew_
               clear hg_ hnew_
               (first | rw [← Ny222.out] at ho51 | (simp only [Int.reduceToNat] at ho51; rw [← Ny222.out] at ho51))
               have n0_ := Aside0.mk (Kd.R_elder' (Z1 HO_4.out) (Kd.R_base ho51) hb)
               have n1_ := Aside0.mk (Kd.R_elder' (Z1 HO214.out) (Kd.R_base ho51) hb)
               have n2_ := Aside0.mk (Kd.R_lower (Kd.R_newB (Kd.R_new' (Kd.R_new' ho51 (Kd.R_lt (Z1 HO_4.out))) (Kd.R_lt (Z1 HO214.out))) (g := gb186) (o := .cells #[.int .i64 ((rd_T90 l0 x10_1).f0), .int .i64 ((rd_T90 l0 x10_1).f1), .int .i64 ((rd_T90 l0 x10_1).f2)] 90 (0, 0)) (Z4 BK186.out)) (below_size (Z12)))
               have n3_ := Aside0.mk (blk_below (g := gb186) (o := .cells #[.int .i64 ((rd_T90 l0 x10_1).f0), .int .i64 ((rd_T90 l0 x10_1).f1), .int .i64 ((rd_T90 l0 x10_1).f2)] 90 (0, 0)) (Z4 BK186.out) hb)
               have n4_ := Aside0.mk (Kd.C_below (Z14 HR218.out) hb)
               have n5_ := Aside0.mk (Kd.C_below (Z14 HR231.out) hb)
               have n6_ := Aside0.mk (below_step (Z12) hb)
               clear HO_4
               clear HO214
               clear BK186
               clear HR218
               clear HR231
               clear HB
               have HO_4 := n0_
               have HO214 := n1_
               have HO224 := n2_
               have BK186 := n3_
               have HR218 := n4_
               have HR231 := n5_
               have HB := n6_
               clear n0_ n1_ n2_ n3_ n4_ n5_ n6_
               clear hb ho51
               refine hK.out _ _ ⟨(blk_cell BK186.out 0).trans rfl, (blk_cell BK186.out 1).trans rfl, (blk_cell BK186.out 2).trans rfl⟩ (fun hHeld => ?_)
               clear hK K
               refine norm_ (a' := ?_) ?_ ?_
               rotate_left
               ·show Act.put _ (some 35) _ = _
                simp only [Act.put, List.setIfInBounds_toArray, List.set_cons_zero, List.set_cons_succ, i64_w, i32_w]
                rfl
               refine one_ (i := 4) (N := some 33) (N_ 13 1919) rfl rfl (one_of HT_.out (by kernel_rfl)) (by decide) (fun K hK => ?_)
               refine Kd.R_append_rows_step k90 (w0 := w) w.heap.size (by rfl) (.tmp 29) (.tmp 32) 42 90 (.agg #[(.int .i64 0), (.int .i64 0), (.int .i64 0)]) 24 rfl Try.underlying42 info90 rfl (by decide) (by omega) v213 y212 y215 _ _ _ (fun k_ => some k_ ≠ (.slice Ao7 x4_1.length co7 : Value).ownBlock ∧ some k_ ≠ (v223 : Value).ownBlock ∧ k_ ≠ gb186) (fun _ => False) rfl rfl ?aO ?aR (fun _ _ h => h) (fun _ h => h.elim) ?aF ?aB ?aS ?aL ?_
               (case aR => exact Z38 HR218.out)
               (case aB => exact Z12)
               (case aF => exact (fun k_ hk => ⟨Kd.fresh' (Kd.R_lt (Z1 HO_4.out)) k_ hk, Kd.fresh' (Kd.R_lt (Z1 HO224.out)) k_ hk, Kd.freshB (g := gb186) (o := .cells #[.int .i64 ((rd_T90 l0 x10_1).f0), .int .i64 ((rd_T90 l0 x10_1).f1), .int .i64 ((rd_T90 l0 x10_1).f2)] 90 (0, 0)) (Z4 BK186.out) k_ hk⟩))
               (case aO => exact Z105 HO214.out)
               (case aS => exact (below_size (Z12)))
               (case aL => have := LMc39.out; omega)
               intro v220 w52 ho hb hg hat
               rw [← Ny219.out] at ho
               have n0_ := Aside0.mk (Kd.R_after (ok := (fun k_ => some k_ ≠ (v223 : Value).ownBlock ∧ k_ ≠ gb186)) (Z48) hg hat)
               have n1_ := Aside0.mk (blk_grown (g := gb186) (o := .cells #[.int .i64 ((rd_T90 l0 x10_1).f0), .int .i64 ((rd_T90 l0 x10_1).f1), .int .i64 ((rd_T90 l0 x10_1).f2)] 90 (0, 0)) (Z4 BK186.out) hg (Kd.R_away HO214.out (fun _ hk => hk.1.2)))
               have n2_ := Aside0.mk (Kd.R_after (ok := (fun k_ => some k_ ≠ (.slice Ao7 x4_1.length co7 : Value).ownBlock ∧ k_ ≠ gb186)) (Z106 HO224.out) hg hat)
               have n3_ := Aside0.mk (hb)
               have n4_ := Aside0.mk ((show Kd.C k90 w52 Ao7 y215.length y215 from by rw [Ny215.out]; exact Kd.C_take (m := (x7_2 : Int).toNat) ((Kd.R_reads' (Kd.R_after (ok := (fun k_ => some k_ ≠ (v223 : Value).ownBlock ∧ k_ ≠ gb186)) (Z48) hg hat)).2.2) KL46.out))
               have n5_ := Aside0.mk ((show Kd.C k90 w52 A47 y228.length y228 from by rw [Ny228.out, KA47.out]; exact Kd.C_drop (m := (x7_2 : Int).toNat) (c := co7) ((Kd.R_reads' (Kd.R_after (ok := (fun k_ => some k_ ≠ (v223 : Value).ownBlock ∧ k_ ≠ gb186)) (Z48) hg hat)).2.2) KL47.out ((Kd.R_reads' (Kd.R_after (ok := (fun k_ => some k_ ≠ (v223 : Value).ownBlock ∧ k_ ≠ gb186)) (Z48) hg hat)).2.1)))
               have n6_ := Aside0.mk (ho)
               clear HO_4
               clear BK186
               clear HO224
               clear HB
               clear HR218
               clear HR231
               clear HO214
               have HO_4 := n0_
               have BK186 := n1_
               have HO224 := n2_
               have HB := n3_
               have HR218 := n4_
               have HR231 := n5_
               have HO221 := n6_
               clear n0_ n1_ n2_ n3_ n4_ n5_ n6_
               clear ho hb hg hat
               refine hK.out _ _ ⟨(blk_cell BK186.out 0).trans rfl, (blk_cell BK186.out 1).trans rfl, (blk_cell BK186.out 2).trans rfl⟩ (fun hHeld => ?_)
               clear hK K
               refine norm_ (a' := ?_) ?_ ?_
               rotate_left
               ·show Act.put _ (some 33) _ = _
                simp only [Act.put, List.setIfInBounds_toArray, List.set_cons_zero, List.set_cons_succ, i64_w, i32_w]
                rfl
               exact norm_ (Z54) (hCont (v213, v220, v223) _ ⟨hHeld, (Z58 HO221.out), (Z45 HO224.out), (Z45 HO_4.out), (Z4 BK186.out), (Z12)⟩)
              skip
              refine Kd.R_lit_step k90 _ 90 ?hg (N := 35) ?hd (xs := ([(⟨((rd_T90 l0 x10_1).f0), ((rd_T90 l0 x10_1).f1), ((rd_T90 l0 x10_1).f2)⟩ : S90)] : List (S90))) (inner := [.int .i64 ((rd_T90 l0 x10_1).f0), .int .i64 ((rd_T90 l0 x10_1).f1), .int .i64 ((rd_T90 l0 x10_1).f2)]) (ok := fun _ => True) (okp := fun _ => True) ?hr ?hp (fun _ hk => hk) trivial (Below.refl _ _) (Nat.le_refl _) (by simp) ?_; (case hd => rfl); (case hg => rfl); (case hr => exact Z44); (case hp => exact (Reps.c3 (show Kd.M k90 _ _ _ (⟨((rd_T90 l0 x10_1).f0), ((rd_T90 l0 x10_1).f1), ((rd_T90 l0 x10_1).f2)⟩ : S90) [.int .i64 ((rd_T90 l0 x10_1).f0), .int .i64 ((rd_T90 l0 x10_1).f1), .int .i64 ((rd_T90 l0 x10_1).f2)] from (k90_mkM _ _ _ (⟨((rd_T90 l0 x10_1).f0), ((rd_T90 l0 x10_1).f1), ((rd_T90 l0 x10_1).f2)⟩ : S90) )) (Reps.none _ _)))
              intro v223 w48 ho49 hb hg_ hnew_
              clear hg_ hnew_
              (first | rw [← Ny222.out] at ho49 | (simp only [Int.reduceToNat] at ho49; rw [← Ny222.out] at ho49))
              have n0_ := Aside0.mk (Kd.R_elder' (Z1 HO_4.out) (Kd.R_base ho49) hb)
              have n1_ := Aside0.mk (Kd.R_lower (Kd.R_newB (Kd.R_new' ho49 (Kd.R_lt (Z1 HO_4.out))) (g := gb186) (o := .cells #[.int .i64 ((rd_T90 l0 x10_1).f0), .int .i64 ((rd_T90 l0 x10_1).f1), .int .i64 ((rd_T90 l0 x10_1).f2)] 90 (0, 0)) (Z4 BK186.out)) (below_size (Z12)))
              have n2_ := Aside0.mk (blk_below (g := gb186) (o := .cells #[.int .i64 ((rd_T90 l0 x10_1).f0), .int .i64 ((rd_T90 l0 x10_1).f1), .int .i64 ((rd_T90 l0 x10_1).f2)] 90 (0, 0)) (Z4 BK186.out) hb)
              have n3_ := Aside0.mk (Kd.C_below (Z14 HR218.out) hb)
              have n4_ := Aside0.mk (Kd.C_below (Z14 HR231.out) hb)
              have n5_ := Aside0.mk (below_step (Z12) hb)
              clear HO_4
              clear BK186
              clear HR218
              clear HR231
              clear HB
              have HO_4 := n0_
              have HO224 := n1_
              have BK186 := n2_
              have HR218 := n3_
              have HR231 := n4_
              have HB := n5_
              clear n0_ n1_ n2_ n3_ n4_ n5_
              clear hb ho49
              refine hK.out _ _ ⟨(blk_cell BK186.out 0).trans rfl, (blk_cell BK186.out 1).trans rfl, (blk_cell BK186.out 2).trans rfl⟩ (fun hHeld => ?_)
              clear hK K
              refine norm_ (a' := ?_) ?_ ?_
              rotate_left
              ·show Act.put _ (some 35) _ = _
               simp only [Act.put, List.setIfInBounds_toArray, List.set_cons_zero, List.set_cons_succ, i64_w, i32_w]
               rfl
              refine one_ (i := 0) (N := some 29) (N_ 13 1903) rfl rfl (one_of HT_.out (by kernel_rfl)) (by decide) (fun K hK => ?_)
              refine Kd.R_lit_step k90 _ 90 ?hg (N := 29) ?hd (xs := ([] : List (S90))) (inner := []) (ok := fun _ => True) (okp := fun _ => True) ?hr ?hp (fun _ hk => hk) trivial (Below.refl _ _) (Nat.le_refl _) (by simp) ?_; (case hd => rfl); (case hg => rfl); (case hr => exact Z44); (case hp => exact (Reps.none _ _))
              intro v213 w50 ho51 hb hg_ hnew_
              clear hg_ hnew_
              (first | rw [← Ny212.out] at ho51 | (simp only [Int.reduceToNat] at ho51; rw [← Ny212.out] at ho51))
              have n0_ := Aside0.mk (Kd.R_elder' (Z1 HO_4.out) (Kd.R_base ho51) hb)
              have n1_ := Aside0.mk (Kd.R_elder' (Z1 HO224.out) (Kd.R_base ho51) hb)
              have n2_ := Aside0.mk (Kd.R_lower (Kd.R_newB (Kd.R_new' (Kd.R_new' ho51 (Kd.R_lt (Z1 HO_4.out))) (Kd.R_lt (Z1 HO224.out))) (g := gb186) (o := .cells #[.int .i64 ((rd_T90 l0 x10_1).f0), .int .i64 ((rd_T90 l0 x10_1).f1), .int .i64 ((rd_T90 l0 x10_1).f2)] 90 (0, 0)) (Z4 BK186.out)) (below_size (Z12)))
              have n3_ := Aside0.mk (blk_below (g := gb186) (o := .cells #[.int .i64 ((rd_T90 l0 x10_1).f0), .int .i64 ((rd_T90 l0 x10_1).f1), .int .i64 ((rd_T90 l0 x10_1).f2)] 90 (0, 0)) (Z4 BK186.out) hb)
              have n4_ := Aside0.mk (Kd.C_below (Z14 HR218.out) hb)
              have n5_ := Aside0.mk (Kd.C_below (Z14 HR231.out) hb)
              have n6_ := Aside0.mk (below_step (Z12) hb)
              clear HO_4
              clear HO224
              clear BK186
              clear HR218
              clear HR231
              clear HB
              have HO_4 := n0_
              have HO224 := n1_
              have HO214 := n2_
              have BK186 := n3_
              have HR218 := n4_
              have HR231 := n5_
              have HB := n6_
              clear n0_ n1_ n2_ n3_ n4_ n5_ n6_
              clear hb ho51
              refine hK.out _ _ ⟨(blk_cell BK186.out 0).trans rfl, (blk_cell BK186.out 1).trans rfl, (blk_cell BK186.out 2).trans rfl⟩ (fun hHeld => ?_)
              clear hK K
              refine norm_ (a' := ?_) ?_ ?_
              rotate_left
              ·show Act.put _ (some 29) _ = _
               simp only [Act.put, List.setIfInBounds_toArray, List.set_cons_zero, List.set_cons_succ, i64_w, i32_w]
               rfl
              refine one_ (i := 4) (N := some 33) (N_ 13 1919) rfl rfl (one_of HT_.out (by kernel_rfl)) (by decide) (fun K hK => ?_)
              refine Kd.R_append_rows_step k90 (w0 := w) w.heap.size (by rfl) (.tmp 29) (.tmp 32) 42 90 (.agg #[(.int .i64 0), (.int .i64 0), (.int .i64 0)]) 24 rfl Try.underlying42 info90 rfl (by decide) (by omega) v213 y212 y215 _ _ _ (fun k_ => some k_ ≠ (.slice Ao7 x4_1.length co7 : Value).ownBlock ∧ some k_ ≠ (v223 : Value).ownBlock ∧ k_ ≠ gb186) (fun _ => False) rfl rfl ?aO ?aR (fun _ _ h => h) (fun _ h => h.elim) ?aF ?aB ?aS ?aL ?_
              (case aR => exact Z38 HR218.out)
              (case aB => exact Z12)
              (case aF => exact (fun k_ hk => ⟨Kd.fresh' (Kd.R_lt (Z1 HO_4.out)) k_ hk, Kd.fresh' (Kd.R_lt (Z1 HO224.out)) k_ hk, Kd.freshB (g := gb186) (o := .cells #[.int .i64 ((rd_T90 l0 x10_1).f0), .int .i64 ((rd_T90 l0 x10_1).f1), .int .i64 ((rd_T90 l0 x10_1).f2)] 90 (0, 0)) (Z4 BK186.out) k_ hk⟩))
              (case aO => exact Z31 HO214.out)
              (case aS => exact (below_size (Z12)))
              (case aL => have := LMc39.out; omega)
              intro v220 w52 ho hb hg hat
              rw [← Ny219.out] at ho
              have n0_ := Aside0.mk (Kd.R_after (ok := (fun k_ => some k_ ≠ (v223 : Value).ownBlock ∧ k_ ≠ gb186)) (Z49) hg hat)
              have n1_ := Aside0.mk (blk_grown (g := gb186) (o := .cells #[.int .i64 ((rd_T90 l0 x10_1).f0), .int .i64 ((rd_T90 l0 x10_1).f1), .int .i64 ((rd_T90 l0 x10_1).f2)] 90 (0, 0)) (Z4 BK186.out) hg (Kd.R_away HO214.out (fun _ hk => hk.2)))
              have n2_ := Aside0.mk (Kd.R_after (ok := (fun k_ => some k_ ≠ (.slice Ao7 x4_1.length co7 : Value).ownBlock ∧ k_ ≠ gb186)) (Z107 HO224.out) hg hat)
              have n3_ := Aside0.mk (hb)
              have n4_ := Aside0.mk ((show Kd.C k90 w52 Ao7 y215.length y215 from by rw [Ny215.out]; exact Kd.C_take (m := (x7_2 : Int).toNat) ((Kd.R_reads' (Kd.R_after (ok := (fun k_ => some k_ ≠ (v223 : Value).ownBlock ∧ k_ ≠ gb186)) (Z49) hg hat)).2.2) KL46.out))
              have n5_ := Aside0.mk ((show Kd.C k90 w52 A47 y228.length y228 from by rw [Ny228.out, KA47.out]; exact Kd.C_drop (m := (x7_2 : Int).toNat) (c := co7) ((Kd.R_reads' (Kd.R_after (ok := (fun k_ => some k_ ≠ (v223 : Value).ownBlock ∧ k_ ≠ gb186)) (Z49) hg hat)).2.2) KL47.out ((Kd.R_reads' (Kd.R_after (ok := (fun k_ => some k_ ≠ (v223 : Value).ownBlock ∧ k_ ≠ gb186)) (Z49) hg hat)).2.1)))
              have n6_ := Aside0.mk (ho)
              clear HO_4
              clear BK186
              clear HO224
              clear HB
              clear HR218
              clear HR231
              clear HO214
              have HO_4 := n0_
              have BK186 := n1_
              have HO224 := n2_
              have HB := n3_
              have HR218 := n4_
              have HR231 := n5_
              have HO221 := n6_
              clear n0_ n1_ n2_ n3_ n4_ n5_ n6_
              clear ho hb hg hat
              refine hK.out _ _ ⟨(blk_cell BK186.out 0).trans rfl, (blk_cell BK186.out 1).trans rfl, (blk_cell BK186.out 2).trans rfl⟩ (fun hHeld => ?_)
              clear hK K
              refine norm_ (a' := ?_) ?_ ?_
              rotate_left
              ·show Act.put _ (some 33) _ = _
               simp only [Act.put, List.setIfInBounds_toArray, List.set_cons_zero, List.set_cons_succ, i64_w, i32_w]
               rfl
              exact norm_ (Z54) (hCont (v213, v220, v223) _ ⟨hHeld, (Z58 HO221.out), (Z45 HO224.out), (Z45 HO_4.out), (Z4 BK186.out), (Z12)⟩)
             rintro ⟨v213, v220, v223⟩ w53 ⟨hS_, h0_, h1_, h2_, h3_, h4_⟩
             have n0_ : Aside0 (Kd.R k90 90 w53 w.heap.size (fun k_ => some k_ ≠ (v223 : Value).ownBlock ∧ some k_ ≠ (.slice Ao7 x4_1.length co7 : Value).ownBlock ∧ k_ ≠ gb186) v220 y219) := ⟨h0_⟩
             have n1_ : Aside0 (Kd.R k90 90 w53 w.heap.size (fun k_ => some k_ ≠ (v220 : Value).ownBlock ∧ some k_ ≠ (.slice Ao7 x4_1.length co7 : Value).ownBlock ∧ k_ ≠ gb186) v223 y222) := ⟨h1_⟩
             have n2_ : Aside0 (Kd.R k90 90 w53 w.heap.size (fun k_ => some k_ ≠ (v220 : Value).ownBlock ∧ some k_ ≠ (v223 : Value).ownBlock ∧ k_ ≠ gb186) (.slice Ao7 x4_1.length co7) x4_1) := ⟨h2_⟩
             have n3_ : Aside0 (w53.heap[gb186]? = some (.cells #[.int .i64 ((rd_T90 l0 x10_1).f0), .int .i64 ((rd_T90 l0 x10_1).f1), .int .i64 ((rd_T90 l0 x10_1).f2)] 90 (0, 0))) := ⟨h3_⟩
             have n4_ : Aside0 (Below w.heap.size w w53) := ⟨h4_⟩
             clear HO_4
             clear BK186
             clear HB
             clear h0_ h1_ h2_ h3_ h4_
             have HO221 := n0_
             have HO224 := n1_
             have HO_4 := n2_
             have BK186 := n3_
             have HB := n4_
             clear n0_ n1_ n2_ n3_ n4_
             have hHeld : w53.cell? ⟨gb186, 0, none⟩ = some (.int .i64 ((rd_T90 l0 x10_1).f0)) ∧ w53.cell? ⟨gb186, 1, none⟩ = some (.int .i64 ((rd_T90 l0 x10_1).f1)) ∧ w53.cell? ⟨gb186, 2, none⟩ = some (.int .i64 ((rd_T90 l0 x10_1).f2)) := hS_
             have n_ := Aside0.mk (show Kd.C k90 _ Ao7 y215.length y215 from by rw [Ny215.out]; exact Kd.C_take (m := (x7_2 : Int).toNat) ((Kd.R_reads' HO_4.out).2.2) KL46.out)
             (try clear HR218)
             have HR218 := n_
             clear n_
             have n_ := Aside0.mk (show Kd.C k90 _ A47 y228.length y228 from by rw [Ny228.out, KA47.out]; exact Kd.C_drop (m := (x7_2 : Int).toNat) (c := co7) ((Kd.R_reads' HO_4.out).2.2) KL47.out ((Kd.R_reads' HO_4.out).2.1))
             (try clear HR231)
             have HR231 := n_
             clear n_
             obtain ⟨Ao55, co55, eo55⟩ := Kd.R_slice HO224.out
             (first | subst eo55 | (injection eo55 with f1_ f2_ f3_; have f4_ := f1_.symm; have f5_ := f3_.symm; clear f1_ f2_ f3_; subst f4_; subst f5_))
             refine norm_ (a' := ?_) ?_ ?_
             rotate_left
             ·simp only [putAll, Act.put, List.setIfInBounds_toArray, List.set_cons_zero, List.set_cons_succ]
              rfl
             refine one_ (i := 7) (N := some 36) (M_ 11 2) rfl rfl (one_of HT_.out (by kernel_rfl)) (by decide) (fun K hK => ?_)
             refine Kd.R_append_rows_step k90 (w0 := w) w.heap.size (by rfl) (.tmp 33) (.tmp 35) 42 90 (.agg #[(.int .i64 0), (.int .i64 0), (.int .i64 0)]) 24 rfl Try.underlying42 info90 rfl (by decide) (by omega) v220 y219 y222 _ _ _ (fun k_ => some k_ ≠ (.slice Ao7 x4_1.length co7 : Value).ownBlock ∧ some k_ ≠ (.slice Ao55 y222.length co55 : Value).ownBlock ∧ k_ ≠ gb186) (fun _ => False) rfl rfl ?aO ?aR (fun _ _ h => h) (fun _ h => h.elim) ?aF ?aB ?aS ?aL ?_
             (case aR => exact Z5 HO224.out)
             (case aB => exact Z12)
             (case aF => exact (fun k_ hk => ⟨Kd.fresh' (Kd.R_lt (Z1 HO_4.out)) k_ hk, Kd.fresh' (Kd.R_lt (Z1 HO224.out)) k_ hk, Kd.freshB (g := gb186) (o := .cells #[.int .i64 ((rd_T90 l0 x10_1).f0), .int .i64 ((rd_T90 l0 x10_1).f1), .int .i64 ((rd_T90 l0 x10_1).f2)] 90 (0, 0)) (Z4 BK186.out) k_ hk⟩))
             (case aO => exact Z58 HO221.out)
             (case aS => exact (below_size (Z12)))
             (case aL => have := LMc40.out; omega)
             intro v226 w54 ho hb hg hat
             rw [← Ny225.out] at ho
             have n0_ := Aside0.mk (Kd.R_after (ok := (fun k_ => some k_ ≠ (.slice Ao55 y222.length co55 : Value).ownBlock ∧ k_ ≠ gb186)) (Z46 HO_4.out) hg hat)
             have n1_ := Aside0.mk (blk_grown (g := gb186) (o := .cells #[.int .i64 ((rd_T90 l0 x10_1).f0), .int .i64 ((rd_T90 l0 x10_1).f1), .int .i64 ((rd_T90 l0 x10_1).f2)] 90 (0, 0)) (Z4 BK186.out) hg (Kd.R_away HO221.out (fun _ hk => hk.2.2)))
             have n2_ := Aside0.mk (Kd.R_after (ok := (fun k_ => some k_ ≠ (.slice Ao7 x4_1.length co7 : Value).ownBlock ∧ k_ ≠ gb186)) (Z46 HO224.out) hg hat)
             have n3_ := Aside0.mk (hb)
             have n4_ := Aside0.mk ((show Kd.C k90 w54 Ao7 y215.length y215 from by rw [Ny215.out]; exact Kd.C_take (m := (x7_2 : Int).toNat) ((Kd.R_reads' (Kd.R_after (ok := (fun k_ => some k_ ≠ (.slice Ao55 y222.length co55 : Value).ownBlock ∧ k_ ≠ gb186)) (Z46 HO_4.out) hg hat)).2.2) KL46.out))
             have n5_ := Aside0.mk ((show Kd.C k90 w54 A47 y228.length y228 from by rw [Ny228.out, KA47.out]; exact Kd.C_drop (m := (x7_2 : Int).toNat) (c := co7) ((Kd.R_reads' (Kd.R_after (ok := (fun k_ => some k_ ≠ (.slice Ao55 y222.length co55 : Value).ownBlock ∧ k_ ≠ gb186)) (Z46 HO_4.out) hg hat)).2.2) KL47.out ((Kd.R_reads' (Kd.R_after (ok := (fun k_ => some k_ ≠ (.slice Ao55 y222.length co55 : Value).ownBlock ∧ k_ ≠ gb186)) (Z46 HO_4.out) hg hat)).2.1)))
             have n6_ := Aside0.mk (ho)
             clear HO_4
             clear BK186
             clear HO224
             clear HB
             clear HR218
             clear HR231
             clear HO221
             have HO_4 := n0_
             have BK186 := n1_
             have HO224 := n2_
             have HB := n3_
             have HR218 := n4_
             have HR231 := n5_
             have HO227 := n6_
             clear n0_ n1_ n2_ n3_ n4_ n5_ n6_
             clear ho hb hg hat
             refine hK.out _ _ ⟨(blk_cell BK186.out 0).trans rfl, (blk_cell BK186.out 1).trans rfl, (blk_cell BK186.out 2).trans rfl⟩ (fun hHeld => ?_)
             clear hK K
             refine norm_ (a' := ?_) ?_ ?_
             rotate_left
             ·show Act.put _ (some 36) _ = _
              simp only [Act.put, List.setIfInBounds_toArray, List.set_cons_zero, List.set_cons_succ, i64_w, i32_w]
              rfl
             refine one_ (i := 11) (N := some 40) (M_ 12 1) rfl rfl (one_of HT_.out (by kernel_rfl)) (by decide) (fun K hK => ?_)
             refine Kd.R_append_rows_step k90 (w0 := w) w.heap.size (by rfl) (.tmp 36) (.tmp 39) 42 90 (.agg #[(.int .i64 0), (.int .i64 0), (.int .i64 0)]) 24 rfl Try.underlying42 info90 rfl (by decide) (by omega) v226 y225 y228 _ _ _ (fun k_ => some k_ ≠ (.slice Ao7 x4_1.length co7 : Value).ownBlock ∧ some k_ ≠ (.slice Ao55 y222.length co55 : Value).ownBlock ∧ k_ ≠ gb186) (fun _ => False) rfl rfl ?aO ?aR (fun _ _ h => h) (fun _ h => h.elim) ?aF ?aB ?aS ?aL ?_
             (case aR => exact Z38 HR231.out)
             (case aB => exact Z12)
             (case aF => exact (fun k_ hk => ⟨Kd.fresh' (Kd.R_lt (Z1 HO_4.out)) k_ hk, Kd.fresh' (Kd.R_lt (Z1 HO224.out)) k_ hk, Kd.freshB (g := gb186) (o := .cells #[.int .i64 ((rd_T90 l0 x10_1).f0), .int .i64 ((rd_T90 l0 x10_1).f1), .int .i64 ((rd_T90 l0 x10_1).f2)] 90 (0, 0)) (Z4 BK186.out) k_ hk⟩))
             (case aO => exact Z1 HO227.out)
             (case aS => exact (below_size (Z12)))
             (case aL => have := LMc43.out; omega)
             intro v233 w56 ho hb hg hat
             rw [← Ny232.out] at ho
             have n0_ := Aside0.mk (Kd.R_after (ok := (fun k_ => some k_ ≠ (.slice Ao55 y222.length co55 : Value).ownBlock ∧ k_ ≠ gb186)) (Z1 HO_4.out) hg hat)
             have n1_ := Aside0.mk (blk_grown (g := gb186) (o := .cells #[.int .i64 ((rd_T90 l0 x10_1).f0), .int .i64 ((rd_T90 l0 x10_1).f1), .int .i64 ((rd_T90 l0 x10_1).f2)] 90 (0, 0)) (Z4 BK186.out) hg (Kd.R_away HO227.out (fun _ hk => hk.2.2)))
             have n2_ := Aside0.mk (Kd.R_after (ok := (fun k_ => some k_ ≠ (.slice Ao7 x4_1.length co7 : Value).ownBlock ∧ k_ ≠ gb186)) (Z1 HO224.out) hg hat)
             have n3_ := Aside0.mk (hb)
             have n4_ := Aside0.mk ((show Kd.C k90 w56 Ao7 y215.length y215 from by rw [Ny215.out]; exact Kd.C_take (m := (x7_2 : Int).toNat) ((Kd.R_reads' (Kd.R_after (ok := (fun k_ => some k_ ≠ (.slice Ao55 y222.length co55 : Value).ownBlock ∧ k_ ≠ gb186)) (Z1 HO_4.out) hg hat)).2.2) KL46.out))
             have n5_ := Aside0.mk ((show Kd.C k90 w56 A47 y228.length y228 from by rw [Ny228.out, KA47.out]; exact Kd.C_drop (m := (x7_2 : Int).toNat) (c := co7) ((Kd.R_reads' (Kd.R_after (ok := (fun k_ => some k_ ≠ (.slice Ao55 y222.length co55 : Value).ownBlock ∧ k_ ≠ gb186)) (Z1 HO_4.out) hg hat)).2.2) KL47.out ((Kd.R_reads' (Kd.R_after (ok := (fun k_ => some k_ ≠ (.slice Ao55 y222.length co55 : Value).ownBlock ∧ k_ ≠ gb186)) (Z1 HO_4.out) hg hat)).2.1)))
             have n6_ := Aside0.mk (ho)
             clear HO_4
             clear BK186
             clear HO224
             clear HB
             clear HR218
             clear HR231
             clear HO227
             have HO_4 := n0_
             have BK186 := n1_
             have HO224 := n2_
             have HB := n3_
             have HR218 := n4_
             have HR231 := n5_
             have HO234 := n6_
             clear n0_ n1_ n2_ n3_ n4_ n5_ n6_
             clear ho hb hg hat
             refine hK.out _ _ ⟨(blk_cell BK186.out 0).trans rfl, (blk_cell BK186.out 1).trans rfl, (blk_cell BK186.out 2).trans rfl⟩ (fun hHeld => ?_)
             clear hK K
             refine norm_ (a' := ?_) ?_ ?_
             rotate_left
             ·show Act.put _ (some 40) _ = _
              simp only [Act.put, List.setIfInBounds_toArray, List.set_cons_zero, List.set_cons_succ, i64_w, i32_w]
              rfl
             refine pu_ 12 4 (M_ 13 0) ?_
             refine done_ (done_of HT_.out (by kernel_rfl)) ?_
             try go_wp2
             go_roundg k2
             case measure => have := HK1.out; have := HK2.out; omega
             case rel => exact ⟨(y232), (wrap64 (x10_1 + 1)), (Z10), H', ⟨Z47⟩, ⟨Z50 HO234.out⟩, ⟨Z12⟩⟩
            rw [if_neg c43] at H
            exact absurd H (by simp)
           rw [if_neg c40] at H
           exact absurd H (by simp)
          rw [if_neg c39] at H
          exact absurd H (by simp)
         rw [if_neg c38] at H
         exact absurd H (by simp)
        rw [if_neg c37] at H
        exact absurd H (by simp)
     rw [if_neg c4] at H
     exact absurd H (by simp)
    rw [if_neg c3] at H
    exact absurd H (by simp)
   rw [if_neg c2] at H
   have c2b0 : decide (x10_1 < (l0.length : Int)) = false := decide_eq_false c2
   clear c2
   replace H := Option.bind_eq_some_iff.mp H
   obtain ⟨t184, A570, H⟩ := H
   (try dsimp only at H)
   have A57 := Aside0.mk A570
   clear A570
   by_cases c58 : t184 = true
   ·subst c58
    rw [if_pos rfl] at H
    simp only [Option.some.injEq, Prod.mk.injEq] at H
    obtain ⟨rfl, rfl⟩ := H
    obtain ⟨Ao59, co59, eo59⟩ := Kd.R_slice HO_4.out
    subst eo59
    go_wp2_with (first | ((with_reducible refine gate_callee (f := 84) rfl ?_); refine gl_ 43 Try.func84 #[.slice Ao59 x4_1.length co59] ?_; (with_reducible refine (spec_shGood.calls k1 _ _ x4_1 true _ ?_ ?_ A57.out).mono ?_); exact Z5 HO_4.out; exact (Kd.R_reads' HO_4.out).2.1; rintro e w60 ⟨rfl, hb⟩; refine ⟨_, rfl, ?_⟩; refine k2_ (Kd.R_below (Z1 HO_4.out) hb) (below_step (Z2) hb) ?_; clear HO_4 HB; intro HO_4 HB; (try clear hb)))
    go_ret2
    exact ⟨_, Z11, Z1 HO_4.out, Z2⟩
   replace c58 := Bool.eq_false_iff.mpr c58
   subst c58
   rw [if_neg (show ¬ (false = true) by decide)] at H
   simp only [Option.some.injEq, Prod.mk.injEq] at H
   obtain ⟨rfl, rfl⟩ := H
   obtain ⟨Ao61, co61, eo61⟩ := Kd.R_slice HO_4.out
   subst eo61
   go_wp2_with (first | ((with_reducible refine gate_callee (f := 84) rfl ?_); refine gl_ 43 Try.func84 #[.slice Ao61 x4_1.length co61] ?_; (with_reducible refine (spec_shGood.calls k1 _ _ x4_1 false _ ?_ ?_ A57.out).mono ?_); exact Z5 HO_4.out; exact (Kd.R_reads' HO_4.out).2.1; rintro e w62 ⟨rfl, hb⟩; refine ⟨_, rfl, ?_⟩; refine k2_ (Kd.R_below (Z1 HO_4.out) hb) (below_step (Z2) hb) ?_; clear HO_4 HB; intro HO_4 HB; (try clear hb)))
   go_ret2
   exact ⟨_, Z11, Z21, Z2⟩

end Go.Proofs.Ytmnnmddfmmaohaa.PFnStains
