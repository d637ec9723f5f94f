-- written by a program of this session: the kit's print, with outer functions of the session's own (wip/ext)
import Derived.Test.YtmnnmddfmmaohaaPFnPunchJobsx0
import Derived.Test.YtmnnmddfmmaohaaPFnPunchJobsx5
import Derived.Test.YtmnnmddfmmaohaaPFnPunchJobsx14
namespace Go.Proofs.Ytmnnmddfmmaohaa.PFnPunchJobs
open Go.RowKit Go.Proofs.YtmnnmddfmmaohaaW.PrintWords Go.Proofs.YtmnnmddfmmaohaaW.PrintLast Go.Proofs.YtmnnmddfmmaohaaW.PrintMore
attribute [local go_sem] max2_int min2_int max_two min_two max_three min_three max_four min_four   -- for this text's walks alone
set_option linter.unusedVariables false
set_option linter.unusedSimpArgs false
theorem mo15_ {p : Prop} (h : p := by repeat' first | (with_reducible first | apply ih0 | apply ih0 | apply ih1 | apply ih1 | apply ih2 | apply ih2 | apply ih3 | apply ih3 | apply ih4 | apply ih4 | apply ih5 | apply ih5 | apply spec_puGood.mono | apply spec_puGood.mono | apply spec_shSorted.mono | apply spec_shSorted.mono | exact LeO.refl _ | exact LeO.none _ | refine LeO.ite ?_ ?_ | refine LeO.bind ?_ (fun _ => ?_)) | exact LeO.none _ | refine LeO.ite ?_ ?_ | refine LeO.bind ?_ (fun _ => ?_)) : p := h

/-! ### spec_PunchedBy: function 76 -/
mutual
def spec_PunchedBy.l0 : Nat → List (S103) → List (S90) → Int → Option ((List (S90)) × Bool)
 | 0, _, _, _ => none
 | k + 1, x0, x4, x5 => if x5 < 20 then (if 2001 ≤ 281474976710656 then (spec_PunchedBy.l1 k x0 x4 x5 (List.replicate 2001 false) x0 (x0.length : Int) 0) else (none)) else ((spec_shSorted.f k x4).bind fun Ee => (some (Ee.1, Ee.2)))
def spec_PunchedBy.l1 : Nat → List (S103) → List (S90) → Int → List Bool → List (S103) → Int → Int → Option ((List (S90)) × Bool)
 | 0, _, _, _, _, _, _, _ => none
 | k + 1, x0, x4, x5, x6, x21, x22, x23 => if x23 < x22 then (if 0 ≤ x23 then (if x23 < (x21.length : Int) then (spec_PunchedBy.l2 k x0 x4 x5 x6 0 x21 x22 x23 ((rd_T103 x21 x23).f0) ((rd_T103 x21 x23).f1)) else (none)) else (none)) else (spec_PunchedBy.l3 k x0 x4 x5 x6 (x6.length : Int) 0)
def spec_PunchedBy.l2 : Nat → List (S103) → List (S90) → Int → List Bool → Int → List (S103) → Int → Int → Int → Int → Option ((List (S90)) × Bool)
 | 0, _, _, _, _, _, _, _, _, _, _ => none
 | k + 1, x0, x4, x5, x6, x9, x21, x22, x23, lT, g6 => if x9 < 4 then (spec_PunchedBy.j3 k x0 x4 x5 x6 x9 x21 x22 x23 (lT == x5) lT g6) else (spec_PunchedBy.j3 k x0 x4 x5 x6 x9 x21 x22 x23 false lT g6)
def spec_PunchedBy.j3 : Nat → List (S103) → List (S90) → Int → List Bool → Int → List (S103) → Int → Int → Bool → Int → Int → Option ((List (S90)) × Bool)
 | 0, _, _, _, _, _, _, _, _, _, _, _ => none
 | k + 1, x0, x4, x5, x6, x9, x21, x22, x23, x34, lT, g6 => if x34 = true then (if (wrap64 (g6 + x9)) < 2000 then (if 0 ≤ (wrap64 (g6 + x9)) then (if (wrap64 (g6 + x9)) < (x6.length : Int) then (spec_PunchedBy.l2 k x0 x4 x5 (x6.set ((wrap64 (g6 + x9)) : Int).toNat true) (wrap64 (x9 + 1)) x21 x22 x23 lT g6) else (none)) else (none)) else (spec_PunchedBy.l2 k x0 x4 x5 x6 (wrap64 (x9 + 1)) x21 x22 x23 lT g6)) else (spec_PunchedBy.l1 k x0 x4 x5 x6 x21 x22 (wrap64 (x23 + 1)))
def spec_PunchedBy.l3 : Nat → List (S103) → List (S90) → Int → List Bool → Int → Int → Option ((List (S90)) × Bool)
 | 0, _, _, _, _, _, _ => none
 | k + 1, x0, x4, x5, x49, x50, x51 => if x51 < x50 then (if 0 ≤ x51 then (if x51 < (x49.length : Int) then (if rdOf false x49 x51 = true then (if (x4.length : Int) > 0 then (if 0 ≤ (wrap64 ((x4.length : Int) - 1)) then (if (wrap64 ((x4.length : Int) - 1)) < (x4.length : Int) then (if ((rd_T90 x4 (wrap64 ((x4.length : Int) - 1))).f0) = x5 then (spec_PunchedBy.j5 k x0 x4 x5 x51 (rdOf false x49 x51) (x4.length : Int) x49 x50 x51 (((rd_T90 x4 (wrap64 ((x4.length : Int) - 1))).f2) == x51)) else (spec_PunchedBy.j5 k x0 x4 x5 x51 (rdOf false x49 x51) (x4.length : Int) x49 x50 x51 false)) else (none)) else (none)) else (spec_PunchedBy.j5 k x0 x4 x5 x51 (rdOf false x49 x51) (x4.length : Int) x49 x50 x51 false)) else (spec_PunchedBy.j5 k x0 x4 x5 x51 (rdOf false x49 x51) (x4.length : Int) x49 x50 x51 false)) else (none)) else (none)) else (spec_PunchedBy.l0 k x0 x4 (wrap64 (x5 + 1)))
def spec_PunchedBy.j5 : Nat → List (S103) → List (S90) → Int → Int → Bool → Int → List Bool → Int → Int → Bool → Option ((List (S90)) × Bool)
 | 0, _, _, _, _, _, _, _, _, _, _ => none
 | k + 1, x0, x4, x5, x10, x11, x12, x49, x50, x51, x58 => if x58 = true then (if 0 ≤ (wrap64 (x12 - 1)) then (if (wrap64 (x12 - 1)) < (x4.length : Int) then (spec_PunchedBy.l3 k x0 (x4.set ((wrap64 (x12 - 1)) : Int).toNat (⟨(rd_T90 x4 (wrap64 (x12 - 1))).f0, (rd_T90 x4 (wrap64 (x12 - 1))).f1, wrap64 (x10 + 1)⟩ : S90)) x5 x49 x50 (wrap64 (x51 + 1))) else (none)) else (none)) else (if x11 = true then (if x4.length < 5864062014805 then (spec_PunchedBy.l3 k x0 (x4 ++ [(⟨x5, x10, wrap64 (x10 + 1)⟩ : S90)]) x5 x49 x50 (wrap64 (x51 + 1))) else (none)) else (spec_PunchedBy.l3 k x0 x4 x5 x49 x50 (wrap64 (x51 + 1))))
end
def spec_PunchedBy.f (k : Nat) (l0 : List (S103)) : Option ((List (S90)) × Bool) := (spec_puGood.f k l0).bind fun z9 => (if z9 = true then (spec_PunchedBy.l0 k l0 ([] : List (S90)) 0) else (some (([] : List (S90)), false)))
theorem spec_PunchedBy.mono_l : ∀ k, (∀ y0 y1 y2, LeO (spec_PunchedBy.l0 k y0 y1 y2) (spec_PunchedBy.l0 (k + 1) y0 y1 y2)) ∧ (∀ y0 y1 y2 y3 y4 y5 y6, LeO (spec_PunchedBy.l1 k y0 y1 y2 y3 y4 y5 y6) (spec_PunchedBy.l1 (k + 1) y0 y1 y2 y3 y4 y5 y6)) ∧ (∀ y0 y1 y2 y3 y4 y5 y6 y7 y8 y9, LeO (spec_PunchedBy.l2 k y0 y1 y2 y3 y4 y5 y6 y7 y8 y9) (spec_PunchedBy.l2 (k + 1) y0 y1 y2 y3 y4 y5 y6 y7 y8 y9)) ∧ (∀ y0 y1 y2 y3 y4 y5 y6 y7 y8 y9 pQ, LeO (spec_PunchedBy.j3 k y0 y1 y2 y3 y4 y5 y6 y7 y8 y9 pQ) (spec_PunchedBy.j3 (k + 1) y0 y1 y2 y3 y4 y5 y6 y7 y8 y9 pQ)) ∧ (∀ y0 y1 y2 y3 y4 y5, LeO (spec_PunchedBy.l3 k y0 y1 y2 y3 y4 y5) (spec_PunchedBy.l3 (k + 1) y0 y1 y2 y3 y4 y5)) ∧ (∀ y0 y1 y2 y3 y4 y5 y6 y7 y8 y9, LeO (spec_PunchedBy.j5 k y0 y1 y2 y3 y4 y5 y6 y7 y8 y9) (spec_PunchedBy.j5 (k + 1) y0 y1 y2 y3 y4 y5 y6 y7 y8 y9))
 | 0 => ⟨fun _ _ _ r h => by simp [spec_PunchedBy.l0] at h, fun _ _ _ _ _ _ _ r h => by simp [spec_PunchedBy.l1] at h, fun _ _ _ _ _ _ _ _ _ _ r h => by simp [spec_PunchedBy.l2] at h, fun _ _ _ _ _ _ _ _ _ _ _ r h => by simp [spec_PunchedBy.j3] at h, fun _ _ _ _ _ _ r h => by simp [spec_PunchedBy.l3] at h, fun _ _ _ _ _ _ _ _ _ _ r h => by simp [spec_PunchedBy.j5] at h⟩
 | k + 1 => by
  obtain ⟨ih0, ih1, ih2, ih3, ih4, ih5⟩ := spec_PunchedBy.mono_l k
  refine ⟨?_, ?_, ?_, ?_, ?_, ?_⟩
  ·intro y0 y1 y2
   unfold spec_PunchedBy.l0
   exact mo15_
  ·intro y0 y1 y2 y3 y4 y5 y6
   unfold spec_PunchedBy.l1
   exact mo15_
  ·intro y0 y1 y2 y3 y4 y5 y6 y7 y8 y9
   unfold spec_PunchedBy.l2
   exact mo15_
  ·intro y0 y1 y2 y3 y4 y5 y6 y7 y8 y9 pQ
   unfold spec_PunchedBy.j3
   exact mo15_
  ·intro y0 y1 y2 y3 y4 y5
   unfold spec_PunchedBy.l3
   exact mo15_
  intro y0 y1 y2 y3 y4 y5 y6 y7 y8 y9
  unfold spec_PunchedBy.j5
  exact mo15_
theorem spec_PunchedBy.mono : ∀ a0 k, LeO (spec_PunchedBy.f k a0) (spec_PunchedBy.f (k + 1) a0) := by
 intro a0 k
 obtain ⟨ih0, ih1, ih2, ih3, ih4, ih5⟩ := spec_PunchedBy.mono_l k
 unfold spec_PunchedBy.f
 exact mo15_
set_option maxHeartbeats 8000000 in
set_option maxRecDepth 100000 in
theorem spec_PunchedBy.calls (k : Nat) (A0 : Option Addr) (c0 : Nat) (l0 : List (S103)) (r1 : List (S90)) (r2 : Bool) (w : World) (hr0 : Kd.C k103 w A0 l0.length l0) (hc0 : l0.length ≤ c0) (h : spec_PunchedBy.f k l0 = some (r1, r2)) :
  Calls Try.prog 76 #[.slice A0 l0.length c0] w fun e w' => ∃ v0_ : Value, e = .returned (.tuple #[v0_, .bool r2]) ∧ Kd.R k90 90 w' w.heap.size (fun _ => True) v0_ r1 ∧ Below w.heap.size w w' := by
 have hu103 := Try.underlying103
 have hu90 := Try.underlying90
 have HR0 := Aside0.mk hr0
 have HC0 := Aside0.mk hc0
 clear hr0 hc0
 have HB := Aside0.mk (Below.refl w.heap.size w)
 have H : ((spec_puGood.f k l0).bind fun z9 => (if z9 = true then (spec_PunchedBy.l0 k l0 ([] : List (S90)) 0) else (some (([] : List (S90)), false)))) = some (r1, r2) := h
 clear h
 obtain ⟨z9, A2, H⟩ := bd_ H
 (try dsimp only at H)
 by_cases c3 : z9 = true
 ·subst c3
  rw [if_pos rfl] at H
  have H' := Aside0.mk H
  clear H
  go_enter Try.func76, Try.ntmps76
  go_wp2_with ((with_reducible refine gate_callee (f := 102) rfl ?_); refine gl_ 14 Try.func102 #[.slice A0 l0.length c0] ?_; (with_reducible refine (spec_puGood.calls k _ _ l0 true _ ?_ ?_ A2.out).mono ?_); exact Z118; exact HC0.out; rintro e w4 ⟨rfl, hb⟩; refine ⟨_, rfl, ?_⟩; refine k1_ (below_step (Z5) hb) ?_; clear HB; intro HB; (try clear hb))
  (try simp only [Act.put, List.setIfInBounds_toArray, List.set_cons_zero, List.set_cons_succ])
  go_loopg [4, 5] k (fun kq v4 v5 w' => ∃ (aX : List (S90)) (aY : Int), v5 = .int .i64 aY ∧ Aside0 (spec_PunchedBy.l0 kq l0 aX aY = some (r1, r2)) ∧ Aside0 (kq ≤ k) ∧ Aside0 (Kd.R k90 90 w' w.heap.size (fun _ => True) v4 aX) ∧ Aside0 (Below w.heap.size w w'))
  case atStart => exact ⟨(([] : List (S90))), (0), (Z41), H', ⟨Nat.le_refl _⟩, ⟨Z44⟩, ⟨Z5⟩⟩
  case round =>
   clear H'
   (try clear c1); (try clear p2); (try clear c3)
   obtain ⟨aX, aY, rfl, HA, HK1, aJ, HB⟩ := hrel
   cases gk with
   | zero => exact absurd HA.out (by simp [spec_PunchedBy.l0])
   | succ k1 =>
    have H := HA.out
    clear HA
    simp only [spec_PunchedBy.l0] at H
    by_cases c5 : aY < 20
    ·rw [if_pos c5] at H
     have gW : decide (aY < 20) = true := decide_eq_true c5
     clear c5
     by_cases c6 : 2001 ≤ 281474976710656
     case neg => rw [if_neg c6] at H; exact absurd H (by simp)
     rw [if_pos c6] at H
     have nR := eq_true c6
     have xZ : decide (2001 ≤ 281474976710656) = true := decide_eq_true c6
     clear c6
     obtain ⟨Hj, tj⟩ : ∃ y_ : List Bool, y_ = (List.replicate 2001 false) := ⟨_, rfl⟩
     replace H : (spec_PunchedBy.l1 k1 l0 aX aY Hj l0 (l0.length : Int) 0) = some (r1, r2) := hx_ tj H
     have Ef := Aside0.mk tj
     clear tj
     have H' := Aside0.mk H
     clear H
     go_wp2_with ((with_reducible refine gate_dst (N := 20) rfl ?_); refine Kd.R_make Kd.bool _ 4 rfl (N := 20) rfl 108 _ _ rfl 2001 rfl rfl Try.underlying108 (.bool false) 1 info4 rfl (by decide) (by omega) false (ok := fun _ => True) (okp := fun _ => True) rfl (fun _ hk => hk) trivial (by omega) (by omega) (Below.refl _ _) (Nat.le_refl _) ?_; intro FQ w7 ho8 hb hg_ hnew_; clear hg_ hnew_; (first | rw [← Ef.out] at ho8 | (simp only [Int.reduceToNat] at ho8; rw [← Ef.out] at ho8)); refine k3_ (Ya_ aJ) (Kd.R_lower ho8 (below_size (Z5))) (below_step (Z5) hb) ?_; clear aJ HB; intro aJ HO608 HB; clear hb ho8)
     (try simp only [Act.put, List.setIfInBounds_toArray, List.set_cons_zero, List.set_cons_succ])
     go_loopg [23] k1 (fun kq v23 w' => ∃ (fa : List Bool) (d3 : Int), v23 = .int .i64 d3 ∧ Aside0 (spec_PunchedBy.l1 kq l0 aX aY fa l0 (l0.length : Int) d3 = some (r1, r2)) ∧ Aside0 (kq ≤ k1) ∧ Aside0 (Kd.R k90 90 w' w.heap.size (fun _ => True) u4 aX) ∧ Aside0 (Kd.R Kd.bool 4 w' w.heap.size (fun _ => True) FQ fa) ∧ Aside0 (Below w.heap.size w w'))
     case atStart => exact ⟨(Hj), (0), (Z41), H', ⟨Nat.le_refl _⟩, ⟨Z2 aJ⟩, ⟨Z2 HO608⟩, ⟨Z5⟩⟩
     case round =>
      clear H'
      (try clear c5); (try clear gW); (try clear c6); (try clear nR); (try clear xZ); (try clear c7)
      obtain ⟨fa, d3, rfl, HA, HK2, aJ, fx, HB⟩ := hrel
      cases gk with
      | zero => exact absurd HA.out (by simp [spec_PunchedBy.l1])
      | succ k2 =>
       have H := HA.out
       clear HA
       simp only [spec_PunchedBy.l1] at H
       by_cases c9 : d3 < (l0.length : Int)
       ·rw [if_pos c9] at H
        have qy : decide (d3 < (l0.length : Int)) = true := decide_eq_true c9
        clear c9
        by_cases c10 : 0 ≤ d3
        case neg => rw [if_neg c10] at H; exact absurd H (by simp)
        rw [if_pos c10] at H
        have ga : decide (0 ≤ d3) = true := decide_eq_true c10
        clear c10
        by_cases c11 : d3 < (l0.length : Int)
        case neg => rw [if_neg c11] at H; exact absurd H (by simp)
        rw [if_pos c11] at H
        have iY : decide (d3 < (l0.length : Int)) = true := decide_eq_true c11
        clear c11
        have H' := Aside0.mk H
        clear H
        have Aa : 0 ≤ (d3 : Int) := of_decide_eq_true (Z21)
        have Ab : d3 < (l0.length : Int) := of_decide_eq_true (Z21)
        obtain ⟨ad609, e609, nu, nv⟩ := at_T103 HR0.out d3 Aa Ab
        cases e609
        replace nu := (HB.out.cell (World.block_lt_of_cell? w _ nu)).trans nu
        replace nv := (HB.out.cell (World.block_lt_of_cell? w _ nv)).trans nv
        replace Aa := eq_true Aa
        replace Ab := eq_true Ab
        go_wp2_with ((with_reducible refine gate_dst (N := 8) rfl ?_); refine bv_ 8 103 #[.int .i64 0, .int .i64 0] ?_; intro pg hg yI hbox hb; refine k6_ (Ya_ aJ) (Ya_ fx) (below_step (Z5) hb) (hbox) ((Z38 : w.heap.size ≤ pg)) ((Z38 : w.heap.size ≤ pg)) ?_; clear aJ fx HB; intro aJ fx HB gT GW610 GE610; clear hb hbox hg; obtain ⟨iz, iA, iB, iC⟩ := bx2_ (w := yI) gT.out)
        (try simp only [Act.put, List.setIfInBounds_toArray, List.set_cons_zero, List.set_cons_succ])
        go_loopg [9] k2 (fun kq v9 w' => ∃ (mH : List Bool) (l6 : Int), v9 = .int .i64 l6 ∧ Aside0 (spec_PunchedBy.l2 kq l0 aX aY mH l6 l0 (l0.length : Int) d3 ((rd_T103 l0 d3).f0) ((rd_T103 l0 d3).f1) = some (r1, r2)) ∧ Aside0 (kq ≤ k2) ∧ Aside0 (Kd.R k90 90 w' w.heap.size (fun _ => True) u4 aX) ∧ Aside0 (Kd.R Kd.bool 4 w' w.heap.size (fun _ => True) FQ mH) ∧ Aside0 (w'.heap[pg]? = some (.cells #[.int .i64 ((rd_T103 l0 d3).f0), .int .i64 ((rd_T103 l0 d3).f1)] 103 (0, 0))) ∧ Aside0 (Below w.heap.size w w'))
        case atStart => exact ⟨(fa), (0), (Z41), H', ⟨Nat.le_refl _⟩, ⟨Z221 aJ⟩, ⟨Z221 fx⟩, ⟨by (with_reducible repeat (first | refine blk_drewN ?_ _ | refine blk_drew ?_ | refine blk_alloc ?_ _)); refine blk_put (cs := #[.int .i64 ((rd_T103 l0 d3).f0), .int .i64 0]) ?_ 1 _ rfl; (with_reducible repeat (first | refine blk_drewN ?_ _ | refine blk_drew ?_ | refine blk_alloc ?_ _)); refine blk_put (cs := #[.int .i64 0, .int .i64 0]) ?_ 0 _ rfl; (with_reducible repeat (first | refine blk_drewN ?_ _ | refine blk_drew ?_ | refine blk_alloc ?_ _)); exact gT.out⟩, ⟨Z152⟩⟩
        case round =>
         clear H'
         (try clear p6); (try clear q6); (try clear hx6); (try clear c9); (try clear qy); (try clear c10); (try clear ga); (try clear c11); (try clear iY); (try clear iz); (try clear iA); (try clear iB); (try clear iC); (try clear nu); (try clear nv); (try clear Aa); (try clear Ab)
         obtain ⟨mH, l6, rfl, HA, HK3, aJ, fx, gT, HB⟩ := hrel
         cases gk with
         | zero => exact absurd HA.out (by simp [spec_PunchedBy.l2])
         | succ k3 =>
          have H := HA.out
          clear HA
          simp only [spec_PunchedBy.l2] at H
          have HC14 := Aside0.mk H
          clear H
          go_upto_region 12 with (fail)
          go_cut [34] (fun v34 wc => ∃ (kq : Nat) (ro : Bool), v34 = .bool ro ∧ Aside0 (spec_PunchedBy.j3 kq l0 aX aY mH l6 l0 (l0.length : Int) d3 ro ((rd_T103 l0 d3).f0) ((rd_T103 l0 d3).f1) = some (r1, r2)) ∧ Aside0 (kq ≤ k3) ∧ Aside0 (Kd.R k90 90 wc w.heap.size (fun _ => True) u4 aX) ∧ Aside0 (Kd.R Kd.bool 4 wc w.heap.size (fun _ => True) FQ mH) ∧ Aside0 (wc.heap[pg]? = some (.cells #[.int .i64 ((rd_T103 l0 d3).f0), .int .i64 ((rd_T103 l0 d3).f1)] 103 (0, 0))) ∧ Aside0 (Below w.heap.size w wc))
          case first =>
           have H := HC14.out
           clear HC14
           by_cases c15 : l6 < 4
           ·rw [if_pos c15] at H
            have oe : decide (l6 < 4) = true := decide_eq_true c15
            clear c15
            (first | rw [oe] | (simp only [i64_w, i32_w]; rw [oe]) | skip)
            have H' := Aside0.mk H
            clear H
            obtain ⟨mV, mW, mX, mY⟩ := bx2_ (w := wr) gT.out
            go_wp2
            go_meet
            case rel => exact ⟨_, ((((rd_T103 l0 d3).f0) == aY)), (Z41), H', ⟨Z194⟩, ⟨Z2 aJ⟩, ⟨Z2 fx⟩, ⟨Z1 gT⟩, ⟨Z152⟩⟩
           rw [if_neg c15] at H
           have oe : decide (l6 < 4) = false := decide_eq_false c15
           clear c15
           (first | rw [oe] | (simp only [i64_w, i32_w]; rw [oe]) | skip)
           have H' := Aside0.mk H
           clear H
           go_wp2
           go_meet
           case rel => exact ⟨_, (false), (Z41), H', ⟨Z194⟩, ⟨Z2 aJ⟩, ⟨Z2 fx⟩, ⟨Z1 gT⟩, ⟨Z152⟩⟩
          case rest =>
           clear HC14
           (try clear c15); (try clear oe); (try clear mV); (try clear mW); (try clear mX); (try clear mY)
           obtain ⟨kq, ro, rfl, HA, Cb, aJ, fx, gT, HB⟩ := hcut
           cases kq with
           | zero => exact absurd HA.out (by simp [spec_PunchedBy.j3])
           | succ Ac =>
            have H := HA.out
            clear HA
            simp only [spec_PunchedBy.j3] at H
            by_cases c17 : ro = true
            ·subst c17
             rw [if_pos rfl] at H
             by_cases c18 : (wrap64 (((rd_T103 l0 d3).f1) + l6)) < 2000
             ·rw [if_pos c18] at H
              have mi : decide ((wrap64 (((rd_T103 l0 d3).f1) + l6)) < 2000) = true := decide_eq_true c18
              clear c18
              obtain ⟨i2, hji19⟩ : ∃ j_ : Int, (wrap64 (((rd_T103 l0 d3).f1) + l6)) = j_ := ⟨_, rfl⟩
              replace H : (if 0 ≤ (i2) then (if (i2) < (mH.length : Int) then (spec_PunchedBy.l2 Ac l0 aX aY (mH.set ((i2) : Int).toNat true) (wrap64 (l6 + 1)) l0 (l0.length : Int) d3 ((rd_T103 l0 d3).f0) ((rd_T103 l0 d3).f1)) else (none)) else (none)) = some (r1, r2) := by first | (rw [hji19] at H; exact H) | (simp only [hji19] at H ⊢; exact H)
              (try rw [hji19] at mi)
              have hji19w : (IntKind.i64.wrap (((rd_T103 l0 d3).f1) + l6)) = i2 := (i64_w _).trans hji19
              by_cases c20 : 0 ≤ (i2)
              case neg => rw [if_neg c20] at H; exact absurd H (by simp)
              rw [if_pos c20] at H
              have nw : decide (0 ≤ (i2)) = true := decide_eq_true c20
              clear c20
              by_cases c21 : (i2) < (mH.length : Int)
              case neg => rw [if_neg c21] at H; exact absurd H (by simp)
              rw [if_pos c21] at H
              have xg : decide ((i2) < (mH.length : Int)) = true := decide_eq_true c21
              clear c21
              obtain ⟨FR, tk⟩ : ∃ y_ : List Bool, y_ = (mH.set ((i2) : Int).toNat true) := ⟨_, rfl⟩
              replace H : (spec_PunchedBy.l2 Ac l0 aX aY FR (wrap64 (l6 + 1)) l0 (l0.length : Int) d3 ((rd_T103 l0 d3).f0) ((rd_T103 l0 d3).f1)) = some (r1, r2) := hx_ tk H
              have Ny611 := Aside0.mk tk
              clear tk
              have H' := Aside0.mk H
              clear H
              obtain ⟨g1, g2, g3, g4⟩ := bx2_ (w := wc) gT.out
              have IY : 0 ≤ ((i2) : Int) := of_decide_eq_true (Z21)
              have IZ : ((i2) : Int) < ((mH.length : Int) : Int) := of_decide_eq_true (Z21)
              obtain ⟨go22, zh, xN, Hk, gl22, cl22, HG22⟩ := Kd.R_form fx.out (by omega)
              (first | cases xN | (injection xN with ea_ en_ ec_; (first | subst ea_ | (injection ea_ with ea_; subst ea_)); subst ec_; clear en_))
              have GB22 := Aside0.mk Hk
              have GG22 := Aside0.mk HG22
              clear Hk gl22 HG22
              obtain ⟨hx22_0, hf22_0⟩ := Kd.R_celln false fx.out ((i2) : Int) IY IZ
              replace IY := eq_true IY
              replace IZ := eq_true IZ
              have HP24 := Kd.R_putg fx.out ((i2) : Int) true
              go_wp2_with ((with_reducible refine gate_store (t := 4) (p := 47) rfl ?_); refine store_event (t := 4) (p := 47) (v := ?vo_w25) (w1 := (wc.setCell ⟨go22, ((i2) : Int).toNat, none⟩ (.bool true))) ?hg ?ho ?hn ?hr ?_; (case ho => rfl); (case hg => rfl); (case hn => rfl); (case hr => exact Z110); intro qN hw; have hg : wc.grownBy qN (some go22) := (by rw [hw]; exact HP24.2); have hp_ : Kd.R Kd.bool 4 qN w.heap.size (fun _ => True) (.slice (some ⟨go22, 0, none⟩) mH.length zh) FR := (by rw [hw, Ny611.out]; exact HP24.1); clear HP24; refine k4_ (Kd.R_over' (v := (.slice (some ⟨go22, 0, none⟩) mH.length zh)) (Z2 aJ) (Kd.R_typed fx.out) (by decide) hg) (hp_) (blk_grown (g := pg) (o := .cells #[.int .i64 ((rd_T103 l0 d3).f0), .int .i64 ((rd_T103 l0 d3).f1)] 103 (0, 0)) (Z1 gT) hg (Kd.R_ne fx.out gT.out (by decide))) ((by rw [hw]; exact below_set (HB.out) GB22.out : Below w.heap.size w qN)) ?_; clear aJ fx gT HB; intro aJ fx gT HB; clear hg hw hp_)
              go_roundg Ac
              case measure => have := HK1.out; have := HK2.out; have := HK3.out; have := Cb.out; omega
              case rel => exact ⟨(FR), (wrap64 (l6 + 1)), (Z41), H', ⟨Z251⟩, ⟨Z2 aJ⟩, ⟨Z2 fx⟩, ⟨Z1 gT⟩, ⟨Z152⟩⟩
             rw [if_neg c18] at H
             have mi : decide ((wrap64 (((rd_T103 l0 d3).f1) + l6)) < 2000) = false := decide_eq_false c18
             clear c18
             have H' := Aside0.mk H
             clear H
             obtain ⟨jp, jq, jr, js⟩ := bx2_ (w := wc) gT.out
             go_wp2
             go_roundg Ac
             case measure => have := HK1.out; have := HK2.out; have := HK3.out; have := Cb.out; omega
             case rel => exact ⟨(mH), (wrap64 (l6 + 1)), (Z41), H', ⟨Z251⟩, ⟨Z2 aJ⟩, ⟨Z2 fx⟩, ⟨Z1 gT⟩, ⟨Z152⟩⟩
            replace c17 := Bool.eq_false_iff.mpr c17
            subst c17
            rw [if_neg (show ¬ (false = true) by decide)] at H
            have H' := Aside0.mk H
            clear H
            go_wp2
            go_roundg Ac
            case measure => have := HK1.out; have := HK2.out; have := HK3.out; have := Cb.out; omega
            case rel => exact ⟨(mH), (wrap64 (d3 + 1)), (Z41), H', ⟨Z251⟩, ⟨Z2 aJ⟩, ⟨Z2 fx⟩, ⟨Z152⟩⟩
       rw [if_neg c9] at H
       have qy : decide (d3 < (l0.length : Int)) = false := decide_eq_false c9
       clear c9
       have H' := Aside0.mk H
       clear H
       obtain ⟨bN, bL, rp⟩ := Kd.R_slice fx.out
       subst rp
       go_wp2
       go_loopg [4, 51] k2 (fun kq v4 v51 w' => ∃ (cm : List (S90)) (di : Int), v51 = .int .i64 di ∧ Aside0 (spec_PunchedBy.l3 kq l0 cm aY fa (fa.length : Int) di = some (r1, r2)) ∧ Aside0 (kq ≤ k2) ∧ Aside0 (Kd.R k90 90 w' w.heap.size (fun _ => True) v4 cm) ∧ Aside0 (Kd.R Kd.bool 4 w' w.heap.size (fun _ => True) (.slice bN fa.length bL) fa) ∧ Aside0 (Below w.heap.size w w'))
       case atStart => exact ⟨(aX), (0), (Z41), H', ⟨Nat.le_refl _⟩, ⟨Z2 aJ⟩, ⟨Z2 fx⟩, ⟨Z5⟩⟩
       case round =>
        clear H'
        (try clear c2); (try clear q2); (try clear hx2); (try clear hf2); (try clear p6); (try clear q6); (try clear hx6); (try clear c9); (try clear qy); (try clear c10); (try clear ga); (try clear c11); (try clear iY); (try clear c15); (try clear oe); (try clear c17); (try clear c18); (try clear mi); (try clear c20); (try clear nw); (try clear c21); (try clear xg); (try clear IY); (try clear IZ); (try clear hx22); (try clear hf22); (try clear iz); (try clear iA); (try clear mV); (try clear mW); (try clear g1); (try clear g2); (try clear jp); (try clear jq); (try clear iB); (try clear iC); (try clear mX); (try clear mY); (try clear g3); (try clear g4); (try clear jr); (try clear js); (try clear hx22_0); (try clear nu); (try clear nv); (try clear Aa); (try clear Ab)
        obtain ⟨cm, di, rfl, HA, HK3, aJ, ib, HB⟩ := hrel
        cases gk with
        | zero => exact absurd HA.out (by simp [spec_PunchedBy.l3])
        | succ k3 =>
         have H := HA.out
         clear HA
         simp only [spec_PunchedBy.l3] at H
         by_cases c28 : di < (fa.length : Int)
         ·rw [if_pos c28] at H
          have qP : decide (di < (fa.length : Int)) = true := decide_eq_true c28
          clear c28
          by_cases c29 : 0 ≤ di
          case neg => rw [if_neg c29] at H; exact absurd H (by simp)
          rw [if_pos c29] at H
          have tl : decide (0 ≤ di) = true := decide_eq_true c29
          clear c29
          by_cases c30 : di < (fa.length : Int)
          case neg => rw [if_neg c30] at H; exact absurd H (by simp)
          rw [if_pos c30] at H
          have wt : decide (di < (fa.length : Int)) = true := decide_eq_true c30
          clear c30
          have HC31 := Aside0.mk H
          clear H
          have Cu : 0 ≤ (di : Int) := of_decide_eq_true (Z21)
          have Cv : di < (fa.length : Int) := of_decide_eq_true (Z21)
          obtain ⟨ad612, e612, xh⟩ := Kd.at_bool (Kd.R_reads' ib.out).2.2 di Cu Cv
          cases e612
          replace Cu := eq_true Cu
          replace Cv := eq_true Cv
          obtain ⟨td, mF, pH⟩ := Kd.R_slice aJ.out
          subst pH
          obtain ⟨bq33, hbq33⟩ : ∃ b_ : Bool, b_ = (rdOf false fa di) := ⟨_, rfl⟩
          rw [← hbq33] at xh
          have Nbq33 := Aside0.mk hbq33
          clear hbq33
          go_upto_region 21 with (fail)
          go_cut [58] (fun v58 wc => ∃ (kq : Nat) (rq : Bool), v58 = .bool rq ∧ Aside0 (spec_PunchedBy.j5 kq l0 cm aY di bq33 (cm.length : Int) fa (fa.length : Int) di rq = some (r1, r2)) ∧ Aside0 (kq ≤ k3) ∧ Aside0 (Kd.R k90 90 wc w.heap.size (fun _ => True) (.slice td cm.length mF) cm) ∧ Aside0 (Kd.R Kd.bool 4 wc w.heap.size (fun _ => True) (.slice (some ad612) fa.length bL) fa) ∧ Aside0 (Below w.heap.size w wc))
          case first =>
           have H := HC31.out
           clear HC31
           have hbq33 := Nbq33.out
           replace H : (if bq33 = true then (if (cm.length : Int) > 0 then (if 0 ≤ (wrap64 ((cm.length : Int) - 1)) then (if (wrap64 ((cm.length : Int) - 1)) < (cm.length : Int) then (if ((rd_T90 cm (wrap64 ((cm.length : Int) - 1))).f0) = aY then (spec_PunchedBy.j5 k3 l0 cm aY di bq33 (cm.length : Int) fa (fa.length : Int) di (((rd_T90 cm (wrap64 ((cm.length : Int) - 1))).f2) == di)) else (spec_PunchedBy.j5 k3 l0 cm aY di bq33 (cm.length : Int) fa (fa.length : Int) di false)) else (none)) else (none)) else (spec_PunchedBy.j5 k3 l0 cm aY di bq33 (cm.length : Int) fa (fa.length : Int) di false)) else (spec_PunchedBy.j5 k3 l0 cm aY di bq33 (cm.length : Int) fa (fa.length : Int) di false)) = some (r1, r2) := by rw [← hbq33] at H; exact H
           clear hbq33
           by_cases c34 : bq33 = true
           ·subst c34
            rw [if_pos rfl] at H
            by_cases c35 : (cm.length : Int) > 0
            ·rw [if_pos c35] at H
             have Eg : decide (0 < (cm.length : Int)) = true := decide_eq_true c35
             have Eh : decide (0 < cm.length) = true := decide_eq_true (by omega)
             clear c35
             obtain ⟨g7, hji36⟩ : ∃ j_ : Int, (wrap64 ((cm.length : Int) - 1)) = j_ := ⟨_, rfl⟩
             replace H : (if 0 ≤ (g7) then (if (g7) < (cm.length : Int) then (if ((rd_T90 cm (g7)).f0) = aY then (spec_PunchedBy.j5 k3 l0 cm aY di true (cm.length : Int) fa (fa.length : Int) di (((rd_T90 cm (g7)).f2) == di)) else (spec_PunchedBy.j5 k3 l0 cm aY di true (cm.length : Int) fa (fa.length : Int) di false)) else (none)) else (none)) = some (r1, r2) := by first | (rw [hji36] at H; exact H) | (simp only [hji36] at H ⊢; exact H)
             have hji36w : (IntKind.i64.wrap ((cm.length : Int) - 1)) = g7 := (i64_w _).trans hji36
             by_cases c37 : 0 ≤ (g7)
             case neg => rw [if_neg c37] at H; exact absurd H (by simp)
             rw [if_pos c37] at H
             have pR : decide (0 ≤ (g7)) = true := decide_eq_true c37
             clear c37
             by_cases c38 : (g7) < (cm.length : Int)
             case neg => rw [if_neg c38] at H; exact absurd H (by simp)
             rw [if_pos c38] at H
             have Ei : decide ((g7) < (cm.length : Int)) = true := decide_eq_true c38
             clear c38
             by_cases c39 : ((rd_T90 cm (g7)).f0) = aY
             ·rw [if_pos c39] at H
              have Ej : (((rd_T90 cm (g7)).f0) == aY) = true := beq_iff_eq.mpr c39
              have Ek : (((rd_T90 cm (g7)).f0) != aY) = false := bne_eq_false_iff_eq.mpr c39
              clear c39
              have H' := Aside0.mk H
              clear H
              have tm : 0 ≤ ((g7) : Int) := of_decide_eq_true (Z21)
              have tn : (g7) < (cm.length : Int) := of_decide_eq_true (Z21)
              obtain ⟨El, e613, xi, xj, xk⟩ := at_T90 (Kd.R_reads' aJ.out).2.2 (g7) tm tn
              cases e613
              replace tm := eq_true tm
              replace tn := eq_true tn
              have Cw : 0 ≤ ((g7) : Int) := of_decide_eq_true (Z21)
              have Cx : (g7) < (cm.length : Int) := of_decide_eq_true (Z21)
              obtain ⟨ad614, e614, hx614_0, hx614_1, hx614_2⟩ := at_T90 (Kd.R_reads' aJ.out).2.2 (g7) Cw Cx
              obtain rfl : El = ad614 := (by injection e614)
              replace Cw := eq_true Cw
              replace Cx := eq_true Cx
              go_wp2
              go_meet
              case rel => exact ⟨_, ((((rd_T90 cm (g7)).f2) == di)), (by first | rfl | (simp; done) | (simp only [← hji36] <;> (first | rfl | simp)) | (simp [*]; done)), H', ⟨Z194⟩, ⟨Z2 aJ⟩, ⟨Z2 ib⟩, ⟨Z5⟩⟩
             rw [if_neg c39] at H
             have Ej : (((rd_T90 cm (g7)).f0) == aY) = false := beq_eq_false_iff_ne.mpr c39
             have Ek : (((rd_T90 cm (g7)).f0) != aY) = true := bne_iff_ne.mpr c39
             have H' := Aside0.mk H
             clear H
             have tm : 0 ≤ ((g7) : Int) := of_decide_eq_true (Z21)
             have tn : (g7) < (cm.length : Int) := of_decide_eq_true (Z21)
             obtain ⟨El, e613, xi, xj, xk⟩ := at_T90 (Kd.R_reads' aJ.out).2.2 (g7) tm tn
             cases e613
             replace tm := eq_true tm
             replace tn := eq_true tn
             go_wp2
             go_meet
             case rel => exact ⟨_, (false), (Z41), H', ⟨Z194⟩, ⟨Z2 aJ⟩, ⟨Z2 ib⟩, ⟨Z5⟩⟩
            rw [if_neg c35] at H
            have Eg : decide (0 < (cm.length : Int)) = false := decide_eq_false c35
            have Eh : decide (0 < cm.length) = false := decide_eq_false (by omega)
            clear c35
            have H' := Aside0.mk H
            clear H
            go_wp2
            go_meet
            case rel => exact ⟨_, (false), (Z41), H', ⟨Z194⟩, ⟨Z2 aJ⟩, ⟨Z2 ib⟩, ⟨Z5⟩⟩
           replace c34 := Bool.eq_false_iff.mpr c34
           subst c34
           rw [if_neg (show ¬ (false = true) by decide)] at H
           have H' := Aside0.mk H
           clear H
           go_wp2
           go_meet
           case rel => exact ⟨_, (false), (Z41), H', ⟨Z194⟩, ⟨Z2 aJ⟩, ⟨Z2 ib⟩, ⟨Z5⟩⟩
          case rest =>
           have hbq33 := Nbq33.out
           clear Nbq33
           subst hbq33
           clear HC31
           (try clear q3); (try clear c28); (try clear qP); (try clear c29); (try clear tl); (try clear c30); (try clear wt); (try clear q33); (try clear c34); (try clear c35); (try clear Eg); (try clear Eh); (try clear c37); (try clear pR); (try clear c38); (try clear Ei); (try clear c39); (try clear Ej); (try clear Ek); (try clear xh); (try clear xi); (try clear xj); (try clear xk); (try clear hx614_0); (try clear hx614_1); (try clear hx614_2); (try clear Cu); (try clear tm); (try clear Cw); (try clear Cv); (try clear tn); (try clear Cx)
           obtain ⟨kq, rq, rfl, HA, Ca, aJ, ib, HB⟩ := hcut
           cases kq with
           | zero => exact absurd HA.out (by simp [spec_PunchedBy.j5])
           | succ tp =>
            have H := HA.out
            clear HA
            simp only [spec_PunchedBy.j5] at H
            by_cases c40 : rq = true
            ·subst c40
             rw [if_pos rfl] at H
             obtain ⟨fS, hji41⟩ : ∃ j_ : Int, (wrap64 ((cm.length : Int) - 1)) = j_ := ⟨_, rfl⟩
             replace H : (if 0 ≤ (fS) then (if (fS) < (cm.length : Int) then (spec_PunchedBy.l3 tp l0 (cm.set ((fS) : Int).toNat (⟨(rd_T90 cm (fS)).f0, (rd_T90 cm (fS)).f1, wrap64 (di + 1)⟩ : S90)) aY fa (fa.length : Int) (wrap64 (di + 1))) else (none)) else (none)) = some (r1, r2) := by first | (rw [hji41] at H; exact H) | (simp only [hji41] at H ⊢; exact H)
             have hji41w : (IntKind.i64.wrap ((cm.length : Int) - 1)) = fS := (i64_w _).trans hji41
             by_cases c42 : 0 ≤ (fS)
             case neg => rw [if_neg c42] at H; exact absurd H (by simp)
             rw [if_pos c42] at H
             have Ad : decide (0 ≤ (fS)) = true := decide_eq_true c42
             clear c42
             by_cases c43 : (fS) < (cm.length : Int)
             case neg => rw [if_neg c43] at H; exact absurd H (by simp)
             rw [if_pos c43] at H
             have c43b0 : decide ((fS) < (cm.length : Int)) = true := decide_eq_true c43
             clear c43
             obtain ⟨FS, tq⟩ : ∃ y_ : List (S90), y_ = (cm.set ((fS) : Int).toNat (⟨(rd_T90 cm (fS)).f0, (rd_T90 cm (fS)).f1, wrap64 (di + 1)⟩ : S90)) := ⟨_, rfl⟩
             replace H : (spec_PunchedBy.l3 tp l0 FS aY fa (fa.length : Int) (wrap64 (di + 1))) = some (r1, r2) := hx_ tq H
             have Ny615 := Aside0.mk tq
             clear tq
             have H' := Aside0.mk H
             clear H
             have Jd : 0 ≤ ((fS) : Int) := of_decide_eq_true (Z21)
             have Je : ((fS) : Int) < ((cm.length : Int) : Int) := of_decide_eq_true (Z21)
             obtain ⟨go44, Hl, Cy, Hm, gl44, cl44, HG44⟩ := Kd.R_form aJ.out (by omega)
             (first | cases Cy | (injection Cy with ea_ en_ ec_; (first | subst ea_ | (injection ea_ with ea_; subst ea_)); subst ec_; clear en_))
             have GB44 := Aside0.mk Hm
             have GG44 := Aside0.mk HG44
             clear Hm gl44 HG44
             obtain ⟨ce44, hcl44, hM44, hcc44, hfr44⟩ := Kd.R_elem aJ.out z90 ((fS) : Int) Jd Je
             obtain rfl := k90_openM hM44
             have hx44_0 : wc.cell? ⟨go44, ((fS) : Int).toNat * 3, none⟩ = some (.int .i64 ((rd_T90 cm (fS)).f0)) := hcc44 0 _ rfl
             have hx44_1 : wc.cell? ⟨go44, ((fS) : Int).toNat * 3 + 1, none⟩ = some (.int .i64 ((rd_T90 cm (fS)).f1)) := hcc44 1 _ rfl
             have hx44_2 : wc.cell? ⟨go44, ((fS) : Int).toNat * 3 + 2, none⟩ = some (.int .i64 ((rd_T90 cm (fS)).f2)) := hcc44 2 _ rfl
             have hf44_0 : wc.frozen? ⟨go44, ((fS) : Int).toNat * 3, none⟩ = false := hfr44 0
             have hf44_1 : wc.frozen? ⟨go44, ((fS) : Int).toNat * 3 + 1, none⟩ = false := hfr44 1
             have hf44_2 : wc.frozen? ⟨go44, ((fS) : Int).toNat * 3 + 2, none⟩ = false := hfr44 2
             clear hcl44 hcc44 hfr44 hM44
             replace Jd := eq_true Jd
             replace Je := eq_true Je
             have HX45 := Aside0.mk (show Kd.R k90 90 wc w.heap.size (fun _ => True) (.slice (some ⟨go44, 0, none⟩) cm.length mF) cm from (Z2 aJ))
             obtain ⟨ce45, hcl45, hM45, hcc45, hfr45⟩ := Kd.R_elem HX45.out z90 ((fS) : Int) (of_decide_eq_true (Z21)) (Z242)
             obtain rfl := k90_openM hM45
             have HP45 := Kd.R_seg HX45.out ((fS) : Int) (of_decide_eq_true (Z21)) (Z242) (seg := [.int .i64 (wrap64 (di + 1))]) (j := 2) hcl45 hcc45 (show 3 ≤ 3 from by decide) (x' := (⟨(rd_T90 cm (fS)).f0, (rd_T90 cm (fS)).f1, wrap64 (di + 1)⟩ : S90)) (k90_mkM _ _ _ (⟨(rd_T90 cm (fS)).f0, (rd_T90 cm (fS)).f1, wrap64 (di + 1)⟩ : S90) ) (fun _ hk => hk)
             have hx45_2 := hcc45 2 _ rfl
             (try simp only [show (k90).sz = 3 from rfl, Nat.mul_one, Nat.add_zero] at hx45_2)
             have hf45_2 := hfr45 2
             (try simp only [show (k90).sz = 3 from rfl, Nat.mul_one, Nat.add_zero] at hf45_2)
             clear hcl45 hcc45 hfr45 hM45
             go_wp2_with ((with_reducible refine gate_store (t := 3) (p := 90) rfl ?_); refine store_event (t := 3) (p := 90) (v := ?vo_w46) (w1 := (wc.setCell ⟨go44, ((fS) : Int).toNat * 3 + 2, none⟩ (.int .i64 (wrap64 (di + 1))))) ?hg ?ho ?hn ?hr ?_; (case ho => rfl); (case hg => rfl); (case hn => rfl); (case hr => exact Z110); intro B9 hw; have hg : wc.grownBy B9 (some go44) := (by rw [hw]; exact HP45.2); have hp_ : Kd.R k90 90 B9 w.heap.size (fun _ => True) (.slice (some ⟨go44, 0, none⟩) cm.length mF) FS := (by rw [hw, Ny615.out]; exact HP45.1); clear HP45; refine k3_ (hp_) (Kd.R_over' (v := (.slice (some ⟨go44, 0, none⟩) cm.length mF)) (Z2 ib) (Kd.R_typed aJ.out) (by decide) hg) ((by rw [hw]; exact below_set (HB.out) GB44.out : Below w.heap.size w B9)) ?_; clear aJ ib HB; intro aJ ib HB; clear hg hw hp_)
             go_roundg tp
             case measure => have := HK1.out; have := HK2.out; have := HK3.out; have := Ca.out; omega
             case rel => exact ⟨(FS), (wrap64 (di + 1)), (Z41), H', ⟨Z252⟩, ⟨Z2 aJ⟩, ⟨Z2 ib⟩, ⟨Z5⟩⟩
            replace c40 := Bool.eq_false_iff.mpr c40
            subst c40
            rw [if_neg (show ¬ (false = true) by decide)] at H
            obtain ⟨bq47, hbq47⟩ : ∃ b_ : Bool, b_ = (rdOf false fa di) := ⟨_, rfl⟩
            replace H : (if (bq47) = true then (if cm.length < 5864062014805 then (spec_PunchedBy.l3 tp l0 (cm ++ [(⟨aY, di, wrap64 (di + 1)⟩ : S90)]) aY fa (fa.length : Int) (wrap64 (di + 1))) else (none)) else (spec_PunchedBy.l3 tp l0 cm aY fa (fa.length : Int) (wrap64 (di + 1)))) = some (r1, r2) := by rw [← hbq47] at H; exact H
            have Nbq47 := Aside0.mk hbq47
            clear hbq47
            (try rw [← Nbq47.out])
            by_cases c48 : (bq47) = true
            ·rw [if_pos c48] at H
             have Ae : (bq47) = true := c48
             subst Ae
             clear c48
             by_cases c49 : cm.length < 5864062014805
             case neg => rw [if_neg c49] at H; exact absurd H (by simp)
             rw [if_pos c49] at H
             have LMc49 := Aside0.mk c49
             clear c49
             obtain ⟨Hn, tr⟩ : ∃ y_ : List (S90), y_ = (cm ++ [(⟨aY, di, wrap64 (di + 1)⟩ : S90)]) := ⟨_, rfl⟩
             replace H : (spec_PunchedBy.l3 tp l0 Hn aY fa (fa.length : Int) (wrap64 (di + 1))) = some (r1, r2) := hx_ tr H
             have Ny616 := Aside0.mk tr
             clear tr
             have H' := Aside0.mk H
             clear H
             go_wp2_with ((with_reducible refine gate_builtin (b := .append) (xs := #[.tmp 93, .tmp 99]) rfl ?_); at_builtin; refine Kd.R_append k90 (w0 := w) w.heap.size rfl (.tmp 93) (.tmp 99) 42 90 (.agg #[(.int .i64 0), (.int .i64 0), (.int .i64 0)]) 24 rfl Try.underlying42 info90 rfl (by decide) (by omega) (.slice td cm.length mF) cm (⟨aY, di, wrap64 (di + 1)⟩ : S90) [.int .i64 aY, .int .i64 di, .int .i64 (wrap64 (di + 1))] (fun _ => True) (fun _ => False) rfl rfl ?aP (fun _ hk => hk.elim) ?aF ?aO ?aB ?aS ?aL ?_; (case aP => exact k90_mkM _ _ _ (⟨aY, di, wrap64 (di + 1)⟩ : S90)); (case aB => exact Z5); (case aF => exact (fun _ _ => trivial)); (case aO => exact (Z2 aJ)); (case aS => exact (below_size (Z5))); (case aL => exact Z182 LMc49); intro v617 Cz ho hb hg hat; rw [← Ny616.out] at ho; refine k3_ (Kd.R_over' (Z2 ib) (Kd.R_typed (Z2 aJ)) (by decide) hg) (hb) (ho) ?_; clear ib HB aJ; intro ib HB HO618; clear ho hb hg hat)
             go_roundg tp
             case measure => have := HK1.out; have := HK2.out; have := HK3.out; have := Ca.out; omega
             case rel => exact ⟨(Hn), (wrap64 (di + 1)), (Z41), H', ⟨Z252⟩, ⟨Z2 HO618⟩, ⟨Z2 ib⟩, ⟨Z5⟩⟩
            rw [if_neg c48] at H
            have Ae : (bq47) = false := by simpa using c48
            subst Ae
            clear c48
            have H' := Aside0.mk H
            clear H
            go_wp2
            go_roundg tp
            case measure => have := HK1.out; have := HK2.out; have := HK3.out; have := Ca.out; omega
            case rel => exact ⟨(cm), (wrap64 (di + 1)), (Z41), H', ⟨Z252⟩, ⟨Z2 aJ⟩, ⟨Z2 ib⟩, ⟨Z5⟩⟩
         rw [if_neg c28] at H
         have qP : decide (di < (fa.length : Int)) = false := decide_eq_false c28
         clear c28
         have H' := Aside0.mk H
         clear H
         go_wp2
         go_roundg k3
         case measure => have := HK1.out; have := HK2.out; have := HK3.out; omega
         case rel => exact ⟨(cm), (wrap64 (aY + 1)), (Z41), H', ⟨by have := HK1.out; have := HK2.out; have := HK3.out; omega⟩, ⟨Z2 aJ⟩, ⟨Z5⟩⟩
    rw [if_neg c5] at H
    have gW : decide (aY < 20) = false := decide_eq_false c5
    clear c5
    obtain ⟨⟨Ho, Hp⟩, A51, H⟩ := bd_ H
    replace H : (some (Ho, Hp)) = some (r1, r2) := H
    simp only [Option.some.injEq, Prod.mk.injEq] at H
    obtain ⟨rfl, rfl⟩ := H
    obtain ⟨Hr, Hs, FT⟩ := Kd.R_slice aJ.out
    subst FT
    go_wp2_with ((with_reducible refine gate_callee (f := 103) rfl ?_); refine gl_ 103 Try.func103 #[.slice Hr aX.length Hs] ?_; (with_reducible refine (spec_shSorted.calls k1 _ _ aX Ho Hp _ ?_ ?_ A51.out).mono ?_); exact (Z7 aJ); exact (Kd.R_reads' aJ.out).2.1; rintro e CA ⟨v604, rfl, ho0, hb⟩; refine ⟨_, rfl, ?_⟩; refine k3_ (Yb_ aJ) (Kd.R_lower (Kd.R_new' ho0 (Yd_ aJ)) (below_size (Z5))) (below_step (Z5) hb) ?_; clear aJ HB; intro aJ HO605 HB; (try clear hb ho0))
    go_ret2
    exact ⟨_, Z11, Z47 HO605, Z5⟩
 replace c3 := Bool.eq_false_iff.mpr c3
 subst c3
 rw [if_neg (show ¬ (false = true) by decide)] at H
 simp only [Option.some.injEq, Prod.mk.injEq] at H
 obtain ⟨rfl, rfl⟩ := H
 go_enter Try.func76, Try.ntmps76
 go_wp2_with ((with_reducible refine gate_callee (f := 102) rfl ?_); refine gl_ 14 Try.func102 #[.slice A0 l0.length c0] ?_; (with_reducible refine (spec_puGood.calls k _ _ l0 false _ ?_ ?_ A2.out).mono ?_); exact Z118; exact HC0.out; rintro e I0 ⟨rfl, hb⟩; refine ⟨_, rfl, ?_⟩; refine k1_ (below_step (Z5) hb) ?_; clear HB; intro HB; (try clear hb))
 go_ret2
 exact ⟨_, Z11, Z44, Z5⟩

end Go.Proofs.Ytmnnmddfmmaohaa.PFnPunchJobs
