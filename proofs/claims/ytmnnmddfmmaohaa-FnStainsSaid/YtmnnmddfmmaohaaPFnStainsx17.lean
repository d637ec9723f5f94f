-- written by a program of this session: the kit's print, with outer functions of the session's own (wip/ext)
import Derived.Test.YtmnnmddfmmaohaaPFnStainsx0
import Derived.Test.YtmnnmddfmmaohaaPFnStainsx1
import Derived.Test.YtmnnmddfmmaohaaPFnStainsx5
import Derived.Test.YtmnnmddfmmaohaaPFnStainsx6
import Derived.Test.YtmnnmddfmmaohaaPFnStainsx7
import Derived.Test.YtmnnmddfmmaohaaPFnStainsx10
import Derived.Test.YtmnnmddfmmaohaaPFnStainsx12
import Derived.Test.YtmnnmddfmmaohaaPFnStainsx14
import Derived.Test.YtmnnmddfmmaohaaPFnStainsx15
import Derived.Test.YtmnnmddfmmaohaaPFnStainsx16
namespace Go.Proofs.Ytmnnmddfmmaohaa.PFnStains
open Go.RowKit Go.Proofs.YtmnnmddfmmaohaaW.PrintWords Go.Proofs.YtmnnmddfmmaohaaW.PrintLast Go.Proofs.YtmnnmddfmmaohaaW.PrintMore
attribute [local go_sem] max2_int min2_int max_two min_two max_three min_three max_four min_four   -- for this text's walks alone
set_option linter.unusedVariables false
set_option linter.unusedSimpArgs false
theorem mo17_ {p : Prop} (h : p := by repeat' first | (with_reducible first | apply ih0 | apply ih0 | apply ih1 | apply ih1 | apply impl_IsScan.mono | apply impl_IsScan.mono | apply impl_skewScan.mono | apply impl_skewScan.mono | apply spec_l1Cur_scan.mono | apply spec_l1Cur_scan.mono | apply spec_scApart.mono | apply spec_scApart.mono | apply spec_scGood.mono | apply spec_scGood.mono | apply spec_scSkew.mono | apply spec_scSkew.mono | apply spec_scTwo.mono | apply spec_scTwo.mono | exact LeO.refl _ | exact LeO.none _ | refine LeO.ite ?_ ?_ | refine LeO.bind ?_ (fun _ => ?_)) | exact LeO.none _ | refine LeO.ite ?_ ?_ | refine LeO.bind ?_ (fun _ => ?_)) : p := h

/-! ### spec_BestSkew: function 18 -/
mutual
def spec_BestSkew.l0 : Nat → List ByteArray → List ByteArray → Int → Int → Int → Option (Int × Int × Bool)
 | 0, _, _, _, _, _ => none
 | k + 1, x0, x1, x7, x8, x9 => if x9 ≤ 10 then ((some (([wrap64 (-x9), x9] : List Int) : List Int)).bind fun y615 => (spec_BestSkew.l1 k x0 x1 x7 x8 x9 y615 (y615.length : Int) 0)) else (some (x7, x8, true))
def spec_BestSkew.l1 : Nat → List ByteArray → List ByteArray → Int → Int → Int → List Int → Int → Int → Option (Int × Int × Bool)
 | 0, _, _, _, _, _, _, _, _ => none
 | k + 1, x0, x1, x7, x8, x9, x27, x28, x29 => if x29 < x28 then (if 0 ≤ x29 then (if x29 < (x27.length : Int) then ((spec_scSkew.f k x0 (rd x27 x29)).bind fun t619 => ((spec_scApart.f k t619 x1).bind fun t622 => (if t622 < x8 then (spec_BestSkew.l1 k x0 x1 (rd x27 x29) t622 x9 x27 x28 (wrap64 (x29 + 1))) else (spec_BestSkew.l1 k x0 x1 x7 x8 x9 x27 x28 (wrap64 (x29 + 1)))))) else (none)) else (none)) else (spec_BestSkew.l0 k x0 x1 x7 x8 (wrap64 (x9 + 1)))
end
def spec_BestSkew.f (k : Nat) (l0 : List ByteArray) (l1 : List ByteArray) : Option (Int × Int × Bool) := (spec_scTwo.f k l0 l1).bind fun t613 => (if t613 = true then ((spec_scApart.f k l0 l1).bind fun t614 => (spec_BestSkew.l0 k l0 l1 0 t614 1)) else (some (0, 0, false)))
theorem spec_BestSkew.mono_l : ∀ k, (∀ y0 y1 y2 y3 y4, LeO (spec_BestSkew.l0 k y0 y1 y2 y3 y4) (spec_BestSkew.l0 (k + 1) y0 y1 y2 y3 y4)) ∧ (∀ y0 y1 y2 y3 y4 y5 y6 y7, LeO (spec_BestSkew.l1 k y0 y1 y2 y3 y4 y5 y6 y7) (spec_BestSkew.l1 (k + 1) y0 y1 y2 y3 y4 y5 y6 y7))
 | 0 => ⟨fun _ _ _ _ _ r h => by simp [spec_BestSkew.l0] at h, fun _ _ _ _ _ _ _ _ r h => by simp [spec_BestSkew.l1] at h⟩
 | k + 1 => by
  obtain ⟨ih0, ih1⟩ := spec_BestSkew.mono_l k
  refine ⟨?_, ?_⟩
  ·intro y0 y1 y2 y3 y4
   unfold spec_BestSkew.l0
   exact mo17_
  intro y0 y1 y2 y3 y4 y5 y6 y7
  unfold spec_BestSkew.l1
  exact mo17_
theorem spec_BestSkew.mono : ∀ a0 a1 k, LeO (spec_BestSkew.f k a0 a1) (spec_BestSkew.f (k + 1) a0 a1) := by
 intro a0 a1 k
 obtain ⟨ih0, ih1⟩ := spec_BestSkew.mono_l k
 unfold spec_BestSkew.f
 exact mo17_
set_option maxHeartbeats 8000000 in
set_option maxRecDepth 100000 in
theorem spec_BestSkew.calls (k : Nat) (A0 : Option Addr) (c0 : Nat) (l0 : List ByteArray) (A1 : Option Addr) (c1 : Nat) (l1 : List ByteArray) (r1 : Int) (r2 : Int) (r3 : Bool) (w : World) (hr0 : Kd.C Kd.string w A0 l0.length l0) (hc0 : l0.length ≤ c0) (hr1 : Kd.C Kd.string w A1 l1.length l1) (hc1 : l1.length ≤ c1) (h : spec_BestSkew.f k l0 l1 = some (r1, r2, r3)) :
  Calls Try.prog 18 #[.slice A0 l0.length c0, .slice A1 l1.length c1] w fun e w' => e = .returned (.tuple #[.int .i64 r1, .int .i64 r2, .bool r3]) ∧ Below w.heap.size w w' := by
 have HR0 := Aside0.mk hr0
 have HC0 := Aside0.mk hc0
 clear hr0 hc0
 have HR1 := Aside0.mk hr1
 have HC1 := Aside0.mk hc1
 clear hr1 hc1
 have HB := Aside0.mk (Below.refl w.heap.size w)
 have H : ((spec_scTwo.f k l0 l1).bind fun t613 => (if t613 = true then ((spec_scApart.f k l0 l1).bind fun t614 => (spec_BestSkew.l0 k l0 l1 0 t614 1)) else (some (0, 0, false)))) = some (r1, r2, r3) := h
 clear h
 replace H := Option.bind_eq_some_iff.mp H
 obtain ⟨t613, A30, H⟩ := H
 (try dsimp only at H)
 have A3 := Aside0.mk A30
 clear A30
 by_cases c4 : t613 = true
 ·subst c4
  rw [if_pos rfl] at H
  replace H := Option.bind_eq_some_iff.mp H
  obtain ⟨t614, A50, H⟩ := H
  (try dsimp only at H)
  have A5 := Aside0.mk A50
  clear A50
  have H' := Aside0.mk H
  clear H
  go_enter Try.func18, Try.ntmps18
  go_wp2_with (first | ((with_reducible refine gate_callee (f := 59) rfl ?_); refine gl_ 15 Try.func59 #[.slice A0 l0.length c0, .slice A1 l1.length c1] ?_; (with_reducible refine (spec_scTwo.calls k _ _ l0 _ _ l1 true _ ?_ ?_ ?_ ?_ A3.out).mono ?_); exact Z9 HR0.out; exact HC0.out; exact Z9 HR1.out; exact HC1.out; rintro e w' ⟨rfl, ⟨nd, rfl⟩⟩; refine ⟨_, rfl, ?_⟩) | ((with_reducible refine gate_callee (f := 60) rfl ?_); refine gl_ 19 Try.func60 #[.slice A0 l0.length c0, .slice A1 l1.length c1] ?_; (with_reducible refine (spec_scApart.calls k _ _ l0 _ _ l1 t614 _ ?_ ?_ ?_ ?_ A5.out).mono ?_); exact Z9 HR0.out; exact HC0.out; exact Z9 HR1.out; exact HC1.out; rintro e w' ⟨rfl, ⟨nd, rfl⟩⟩; refine ⟨_, rfl, ?_⟩))
  go_loopg [7, 8, 9] k (fun kq v7 v8 v9 w' => ∃ (x7_1 : Int) (x8_1 : Int) (x9_1 : Int), v7 = .int .i64 x7_1 ∧ v8 = .int .i64 x8_1 ∧ v9 = .int .i64 x9_1 ∧ Aside0 (spec_BestSkew.l0 kq l0 l1 x7_1 x8_1 x9_1 = some (r1, r2, r3)) ∧ Aside0 (kq ≤ k) ∧ Aside0 (Below w.heap.size w w'))
  case atStart => exact ⟨(0), (t614), (1), (Z10), (Z10), (Z10), H', ⟨Nat.le_refl _⟩, ⟨Z2⟩⟩
  case round =>
   clear H'
   (try clear c1); (try clear p2); (try clear c4); (try clear c5)
   obtain ⟨x7_1, x8_1, x9_1, rfl, rfl, rfl, HA, HK1, HB⟩ := hrel
   cases gk with
   | zero => exact absurd HA.out (by simp [spec_BestSkew.l0])
   | succ k1 =>
    have H := HA.out
    clear HA
    simp only [spec_BestSkew.l0] at H
    by_cases c6 : x9_1 ≤ 10
    ·rw [if_pos c6] at H
     have c6b0 : decide (x9_1 ≤ 10) = true := decide_eq_true c6
     clear c6
     obtain ⟨y615, hy615⟩ : ∃ y_ : List Int, y_ = (([wrap64 (-x9_1), x9_1] : List Int)) := ⟨_, rfl⟩
     replace H : (spec_BestSkew.l1 k1 l0 l1 x7_1 x8_1 x9_1 y615 (y615.length : Int) 0) = some (r1, r2, r3) := by first | (rw [hy615]; with_reducible exact H) | (have H2_ := (Option.bind_some _ _).symm.trans H; rw [hy615]; with_reducible exact H2_) | (have H2_ := (Option.bind_some _ _).symm.trans H; with_reducible exact H2_) | with_reducible exact H | (rw [hy615]; exact H) | exact H
     have Ny615 := Aside0.mk hy615
     clear hy615
     have H' := Aside0.mk H
     clear H
     go_wp2_with (first | ((with_reducible refine gate_dst (N := 27) rfl ?_); refine Kd.R_lit (Kd.int .i64) _ 3 ?hg (N := 27) ?hd (xs := ([wrap64 (-x9_1), x9_1] : List Int)) (inner := [.int .i64 (wrap64 (-x9_1)), .int .i64 x9_1]) (ok := fun _ => True) (okp := fun _ => True) ?hr ?hp (fun _ hk => hk) trivial (Below.refl _ _) (Nat.le_refl _) (by simp) ?_; (case hd => rfl); (case hg => rfl); (case hr => exact Z44); (case hp => exact (Reps.one (show Kd.M (Kd.int .i64) _ _ _ (wrap64 (-x9_1)) [.int .i64 (wrap64 (-x9_1))] from rfl) (Reps.one (show Kd.M (Kd.int .i64) _ _ _ x9_1 [.int .i64 x9_1] from rfl) (Reps.none _ _)))); intro v616 w7 ho8 hb hg_ hnew_; clear hg_ hnew_; (first | rw [← Ny615.out] at ho8 | (simp only [Int.reduceToNat] at ho8; rw [← Ny615.out] at ho8)); refine k2_ (Kd.R_lower ho8 (below_size (Z2))) (below_step (Z2) hb) ?_; clear HB; intro HO617 HB; clear hb ho8; obtain ⟨Ao9, co9, eo9⟩ := Kd.R_slice HO617.out; subst eo9))
     go_loopg [7, 8, 29] k1 (fun kq v7 v8 v29 w' => ∃ (x7_2 : Int) (x8_2 : Int) (x29_2 : Int), v7 = .int .i64 x7_2 ∧ v8 = .int .i64 x8_2 ∧ v29 = .int .i64 x29_2 ∧ Aside0 (spec_BestSkew.l1 kq l0 l1 x7_2 x8_2 x9_1 y615 (y615.length : Int) x29_2 = some (r1, r2, r3)) ∧ Aside0 (kq ≤ k1) ∧ Aside0 (Kd.R (Kd.int .i64) 3 w' w.heap.size (fun _ => True) (.slice Ao9 y615.length co9) y615) ∧ Aside0 (Below w.heap.size w w'))
     case atStart => exact ⟨(x7_1), (x8_1), (0), (Z10), (Z10), (Z10), H', ⟨Nat.le_refl _⟩, ⟨Z1 HO617.out⟩, ⟨Z2⟩⟩
     case round =>
      clear H'
      (try clear c6); (try clear c6b0); (try clear p6)
      obtain ⟨x7_2, x8_2, x29_2, rfl, rfl, rfl, HA, HK2, HO_27, HB⟩ := hrel
      cases gk with
      | zero => exact absurd HA.out (by simp [spec_BestSkew.l1])
      | succ k2 =>
       have H := HA.out
       clear HA
       simp only [spec_BestSkew.l1] at H
       by_cases c10 : x29_2 < (y615.length : Int)
       ·rw [if_pos c10] at H
        have c10b0 : decide (x29_2 < (y615.length : Int)) = true := decide_eq_true c10
        clear c10
        by_cases c11 : 0 ≤ x29_2
        ·rw [if_pos c11] at H
         have c11b0 : decide (0 ≤ x29_2) = true := decide_eq_true c11
         clear c11
         by_cases c12 : x29_2 < (y615.length : Int)
         ·rw [if_pos c12] at H
          have c12b0 : decide (x29_2 < (y615.length : Int)) = true := decide_eq_true c12
          clear c12
          replace H := Option.bind_eq_some_iff.mp H
          obtain ⟨t619, A130, H⟩ := H
          (try dsimp only at H)
          have A13 := Aside0.mk A130
          clear A130
          replace H := Option.bind_eq_some_iff.mp H
          obtain ⟨t622, A140, H⟩ := H
          (try dsimp only at H)
          have A14 := Aside0.mk A140
          clear A140
          by_cases c15 : t622 < x8_2
          ·rw [if_pos c15] at H
           have c15b0 : decide (t622 < x8_2) = true := decide_eq_true c15
           clear c15
           have H' := Aside0.mk H
           clear H
           have p618 : 0 ≤ (x29_2 : Int) := of_decide_eq_true (Z8)
           have q618 : x29_2 < (y615.length : Int) := of_decide_eq_true (Z8)
           obtain ⟨ad618, e618, hx618_0⟩ := Kd.at_int (Kd.R_reads' HO_27.out).2.2 x29_2 p618 q618
           cases e618
           replace p618 := eq_true p618
           replace q618 := eq_true q618
           go_wp2_with (first | ((with_reducible refine gate_callee (f := 64) rfl ?_); refine gl_ 35 Try.func64 #[.slice A0 l0.length c0, .int .i64 (rd y615 x29_2)] ?_; (with_reducible refine (spec_scSkew.calls k2 _ _ l0 (rd y615 x29_2) t619 _ ?_ ?_ A13.out).mono ?_); exact Z13 HR0.out; exact HC0.out; rintro e w16 ⟨v620, rfl, ho0, hb⟩; refine ⟨_, rfl, ?_⟩; refine k3_ (Kd.R_below (Z1 HO_27.out) hb) (Kd.R_lower ho0 (below_size (Z2))) (below_step (Z2) hb) ?_; clear HO_27 HB; intro HO_27 HO621 HB; (try clear hb ho0); obtain ⟨Ao17, co17, eo17⟩ := Kd.R_slice HO621.out; subst eo17) | ((with_reducible refine gate_callee (f := 60) rfl ?_); refine gl_ 37 Try.func60 #[.slice Ao17 t619.length co17, .slice A1 l1.length c1] ?_; (with_reducible refine (spec_scApart.calls k2 _ _ t619 _ _ l1 t622 _ ?_ ?_ ?_ ?_ A14.out).mono ?_); exact Z5 HO621.out; exact (Kd.R_reads' HO621.out).2.1; exact Z13 HR1.out; exact HC1.out; rintro e w' ⟨rfl, ⟨nd, rfl⟩⟩; refine ⟨_, rfl, ?_⟩))
           go_roundg k2
           case measure => have := HK1.out; have := HK2.out; omega
           case rel => exact ⟨(rd y615 x29_2), (t622), (wrap64 (x29_2 + 1)), (Z10), (Z10), (Z10), H', ⟨Z47⟩, ⟨Z1 HO_27.out⟩, ⟨Z2⟩⟩
          rw [if_neg c15] at H
          have c15b0 : decide (t622 < x8_2) = false := decide_eq_false c15
          clear c15
          have H' := Aside0.mk H
          clear H
          have p618 : 0 ≤ (x29_2 : Int) := of_decide_eq_true (Z8)
          have q618 : x29_2 < (y615.length : Int) := of_decide_eq_true (Z8)
          obtain ⟨ad618, e618, hx618_0⟩ := Kd.at_int (Kd.R_reads' HO_27.out).2.2 x29_2 p618 q618
          cases e618
          replace p618 := eq_true p618
          replace q618 := eq_true q618
          go_wp2_with (first | ((with_reducible refine gate_callee (f := 64) rfl ?_); refine gl_ 35 Try.func64 #[.slice A0 l0.length c0, .int .i64 (rd y615 x29_2)] ?_; (with_reducible refine (spec_scSkew.calls k2 _ _ l0 (rd y615 x29_2) t619 _ ?_ ?_ A13.out).mono ?_); exact Z13 HR0.out; exact HC0.out; rintro e w18 ⟨v620, rfl, ho0, hb⟩; refine ⟨_, rfl, ?_⟩; refine k3_ (Kd.R_below (Z1 HO_27.out) hb) (Kd.R_lower ho0 (below_size (Z2))) (below_step (Z2) hb) ?_; clear HO_27 HB; intro HO_27 HO621 HB; (try clear hb ho0); obtain ⟨Ao19, co19, eo19⟩ := Kd.R_slice HO621.out; subst eo19) | ((with_reducible refine gate_callee (f := 60) rfl ?_); refine gl_ 37 Try.func60 #[.slice Ao19 t619.length co19, .slice A1 l1.length c1] ?_; (with_reducible refine (spec_scApart.calls k2 _ _ t619 _ _ l1 t622 _ ?_ ?_ ?_ ?_ A14.out).mono ?_); exact Z5 HO621.out; exact (Kd.R_reads' HO621.out).2.1; exact Z13 HR1.out; exact HC1.out; rintro e w' ⟨rfl, ⟨nd, rfl⟩⟩; refine ⟨_, rfl, ?_⟩))
          go_roundg k2
          case measure => have := HK1.out; have := HK2.out; omega
          case rel => exact ⟨(x7_2), (x8_2), (wrap64 (x29_2 + 1)), (Z10), (Z10), (Z10), H', ⟨Z47⟩, ⟨Z1 HO_27.out⟩, ⟨Z2⟩⟩
         rw [if_neg c12] at H
         exact absurd H (by simp)
        rw [if_neg c11] at H
        exact absurd H (by simp)
       rw [if_neg c10] at H
       have c10b0 : decide (x29_2 < (y615.length : Int)) = false := decide_eq_false c10
       clear c10
       have H' := Aside0.mk H
       clear H
       go_wp2
       go_roundg k2
       case measure => have := HK1.out; have := HK2.out; omega
       case rel => exact ⟨(x7_2), (x8_2), (wrap64 (x9_1 + 1)), (Z10), (Z10), (Z10), H', ⟨Z47⟩, ⟨Z2⟩⟩
    rw [if_neg c6] at H
    have c6b0 : decide (x9_1 ≤ 10) = false := decide_eq_false c6
    clear c6
    simp only [Option.some.injEq, Prod.mk.injEq] at H
    obtain ⟨rfl, rfl, rfl⟩ := H
    go_wp2
    go_ret3
    exact ⟨Z11, Z2⟩
 replace c4 := Bool.eq_false_iff.mpr c4
 subst c4
 rw [if_neg (show ¬ (false = true) by decide)] at H
 simp only [Option.some.injEq, Prod.mk.injEq] at H
 obtain ⟨rfl, rfl, rfl⟩ := H
 go_enter Try.func18, Try.ntmps18
 go_wp2_with (first | ((with_reducible refine gate_callee (f := 59) rfl ?_); refine gl_ 15 Try.func59 #[.slice A0 l0.length c0, .slice A1 l1.length c1] ?_; (with_reducible refine (spec_scTwo.calls k _ _ l0 _ _ l1 false _ ?_ ?_ ?_ ?_ A3.out).mono ?_); exact Z9 HR0.out; exact HC0.out; exact Z9 HR1.out; exact HC1.out; rintro e w' ⟨rfl, ⟨nd, rfl⟩⟩; refine ⟨_, rfl, ?_⟩))
 go_ret3
 exact ⟨Z11, Z2⟩

/-! ### impl_SkewScan: function 19 -/
def impl_SkewScan.f (k : Nat) (l0 : List ByteArray) (a1 : Int) : Option (List ByteArray × Bool) := (impl_IsScan.f k l0).bind fun t623 => (if t623 = true then (if a1 < (-10) then (some (([] : List ByteArray), false)) else (if a1 > 10 then (some (([] : List ByteArray), false)) else ((impl_skewScan.f k l0 a1).bind fun t624 => (some (t624, true))))) else (some (([] : List ByteArray), false)))
theorem impl_SkewScan.mono : ∀ a0 a1 k, LeO (impl_SkewScan.f k a0 a1) (impl_SkewScan.f (k + 1) a0 a1) := by
 intro a0 a1 k
 unfold impl_SkewScan.f
 exact mo17_
set_option maxHeartbeats 8000000 in
set_option maxRecDepth 100000 in
theorem impl_SkewScan.calls (k : Nat) (A0 : Option Addr) (c0 : Nat) (l0 : List ByteArray) (a1 : Int) (r1 : List ByteArray) (r2 : Bool) (w : World) (hr0 : Kd.C Kd.string w A0 l0.length l0) (hc0 : l0.length ≤ c0) (h : impl_SkewScan.f k l0 a1 = some (r1, r2)) :
  Calls Try.prog 19 #[.slice A0 l0.length c0, .int .i64 a1] w fun e w' => ∃ v0_ : Value, e = .returned (.tuple #[v0_, .bool r2]) ∧ Kd.R Kd.string 9 w' w.heap.size (fun _ => True) v0_ r1 ∧ Below w.heap.size w w' := by
 have HR0 := Aside0.mk hr0
 have HC0 := Aside0.mk hc0
 clear hr0 hc0
 have HB := Aside0.mk (Below.refl w.heap.size w)
 have H : ((impl_IsScan.f k l0).bind fun t623 => (if t623 = true then (if a1 < (-10) then (some (([] : List ByteArray), false)) else (if a1 > 10 then (some (([] : List ByteArray), false)) else ((impl_skewScan.f k l0 a1).bind fun t624 => (some (t624, true))))) else (some (([] : List ByteArray), false)))) = some (r1, r2) := h
 clear h
 replace H := Option.bind_eq_some_iff.mp H
 obtain ⟨t623, A30, H⟩ := H
 (try dsimp only at H)
 have A3 := Aside0.mk A30
 clear A30
 by_cases c4 : t623 = true
 ·subst c4
  rw [if_pos rfl] at H
  by_cases c5 : a1 < (-10)
  ·rw [if_pos c5] at H
   have c5b0 : decide (a1 < (-10)) = true := decide_eq_true c5
   clear c5
   simp only [Option.some.injEq, Prod.mk.injEq] at H
   obtain ⟨rfl, rfl⟩ := H
   go_enter Try.func19, Try.ntmps19
   go_wp2_with (first | ((with_reducible refine gate_callee (f := 47) rfl ?_); refine gl_ 7 Try.func47 #[.slice A0 l0.length c0] ?_; (with_reducible refine (impl_IsScan.calls k _ _ l0 true _ ?_ ?_ A3.out).mono ?_); exact Z9 HR0.out; exact HC0.out; rintro e w' ⟨rfl, ⟨nd, rfl⟩⟩; refine ⟨_, rfl, ?_⟩))
   go_ret2
   exact ⟨_, Z11, Z21, Z2⟩
  rw [if_neg c5] at H
  have c5b0 : decide (a1 < (-10)) = false := decide_eq_false c5
  clear c5
  by_cases c6 : a1 > 10
  ·rw [if_pos c6] at H
   have c6b0 : decide (10 < a1) = true := decide_eq_true c6
   clear c6
   simp only [Option.some.injEq, Prod.mk.injEq] at H
   obtain ⟨rfl, rfl⟩ := H
   go_enter Try.func19, Try.ntmps19
   go_wp2_with (first | ((with_reducible refine gate_callee (f := 47) rfl ?_); refine gl_ 7 Try.func47 #[.slice A0 l0.length c0] ?_; (with_reducible refine (impl_IsScan.calls k _ _ l0 true _ ?_ ?_ A3.out).mono ?_); exact Z9 HR0.out; exact HC0.out; rintro e w' ⟨rfl, ⟨nd, rfl⟩⟩; refine ⟨_, rfl, ?_⟩))
   go_ret2
   exact ⟨_, Z11, Z21, Z2⟩
  rw [if_neg c6] at H
  have c6b0 : decide (10 < a1) = false := decide_eq_false c6
  clear c6
  replace H := Option.bind_eq_some_iff.mp H
  obtain ⟨t624, A70, H⟩ := H
  replace H : (some (t624, true)) = some (r1, r2) := H
  have A7 := Aside0.mk A70
  clear A70
  simp only [Option.some.injEq, Prod.mk.injEq] at H
  obtain ⟨rfl, rfl⟩ := H
  go_enter Try.func19, Try.ntmps19
  go_wp2_with (first | ((with_reducible refine gate_callee (f := 47) rfl ?_); refine gl_ 7 Try.func47 #[.slice A0 l0.length c0] ?_; (with_reducible refine (impl_IsScan.calls k _ _ l0 true _ ?_ ?_ A3.out).mono ?_); exact Z9 HR0.out; exact HC0.out; rintro e w' ⟨rfl, ⟨nd, rfl⟩⟩; refine ⟨_, rfl, ?_⟩) | ((with_reducible refine gate_callee (f := 63) rfl ?_); refine gl_ 19 Try.func63 #[.slice A0 l0.length c0, .int .i64 a1] ?_; (with_reducible refine (impl_skewScan.calls k _ _ l0 a1 t624 _ ?_ ?_ A7.out).mono ?_); exact Z9 HR0.out; exact HC0.out; rintro e w8 ⟨v625, rfl, ho0, hb⟩; refine ⟨_, rfl, ?_⟩; refine k2_ (Kd.R_lower ho0 (below_size (Z2))) (below_step (Z2) hb) ?_; clear HB; intro HO626 HB; (try clear hb ho0)))
  go_ret2
  exact ⟨_, Z11, Z1 HO626.out, Z2⟩
 replace c4 := Bool.eq_false_iff.mpr c4
 subst c4
 rw [if_neg (show ¬ (false = true) by decide)] at H
 simp only [Option.some.injEq, Prod.mk.injEq] at H
 obtain ⟨rfl, rfl⟩ := H
 go_enter Try.func19, Try.ntmps19
 go_wp2_with (first | ((with_reducible refine gate_callee (f := 47) rfl ?_); refine gl_ 7 Try.func47 #[.slice A0 l0.length c0] ?_; (with_reducible refine (impl_IsScan.calls k _ _ l0 false _ ?_ ?_ A3.out).mono ?_); exact Z9 HR0.out; exact HC0.out; rintro e w' ⟨rfl, ⟨nd, rfl⟩⟩; refine ⟨_, rfl, ?_⟩))
 go_ret2
 exact ⟨_, Z11, Z21, Z2⟩

/-! ### spec_DrawSkewScan: function 20 -/
def spec_DrawSkewScan.f (k : Nat) (l0 : List Int) : Option (List ByteArray × Int) := (spec_l1Cur_scan.f k l0 0 0).bind fun bt628 => ((spec_l1Cur_among.f l0 bt628.2.1 bt628.2.2 (([11, (-11)] : List Int))).bind fun bt636 => ((spec_l1Cur_among.f l0 bt636.2.1 bt636.2.2 (([0, 1, (-1), 3, (-5), 10, (-10), bt636.1] : List Int))).bind fun bt642 => (some (bt628.1, bt642.1))))
theorem spec_DrawSkewScan.mono : ∀ a0 k, LeO (spec_DrawSkewScan.f k a0) (spec_DrawSkewScan.f (k + 1) a0) := by
 intro a0 k
 unfold spec_DrawSkewScan.f
 exact mo17_
set_option maxHeartbeats 8000000 in
set_option maxRecDepth 100000 in
theorem spec_DrawSkewScan.calls (k : Nat) (A0 : Option Addr) (c0 : Nat) (l0 : List Int) (r1 : List ByteArray) (r2 : Int) (w : World) (hr0 : Kd.C (Kd.int .u8) w A0 l0.length l0) (hc0 : l0.length ≤ c0) (h : spec_DrawSkewScan.f k l0 = some (r1, r2)) :
  Calls Try.prog 20 #[.slice A0 l0.length c0] w fun e w' => ∃ v0_ : Value, e = .returned (.tuple #[v0_, .int .i64 r2]) ∧ Kd.R Kd.string 9 w' w.heap.size (fun _ => True) v0_ r1 ∧ Below w.heap.size w w' := by
 have hu69 := Try.underlying69
 have HR0 := Aside0.mk hr0
 have HC0 := Aside0.mk hc0
 clear hr0 hc0
 have HB := Aside0.mk (Below.refl w.heap.size w)
 have H : ((spec_l1Cur_scan.f k l0 0 0).bind fun bt628 => ((spec_l1Cur_among.f l0 bt628.2.1 bt628.2.2 (([11, (-11)] : List Int))).bind fun bt636 => ((spec_l1Cur_among.f l0 bt636.2.1 bt636.2.2 (([0, 1, (-1), 3, (-5), 10, (-10), bt636.1] : List Int))).bind fun bt642 => (some (bt628.1, bt642.1))))) = some (r1, r2) := h
 clear h
 replace H := Option.bind_eq_some_iff.mp H
 obtain ⟨⟨t628, t631, t632⟩, A20, H⟩ := H
 (try dsimp only at H)
 have A2 := Aside0.mk A20
 clear A20
 obtain ⟨y633, hy633⟩ : ∃ y_ : List Int, y_ = (([11, (-11)] : List Int)) := ⟨_, rfl⟩
 replace H : ((spec_l1Cur_among.f l0 t631 t632 y633).bind fun bt636 => ((spec_l1Cur_among.f l0 bt636.2.1 bt636.2.2 (([0, 1, (-1), 3, (-5), 10, (-10), bt636.1] : List Int))).bind fun bt642 => (some (t628, bt642.1)))) = some (r1, r2) := by first | (rw [hy633]; with_reducible exact H) | (have H2_ := (Option.bind_some _ _).symm.trans H; rw [hy633]; with_reducible exact H2_) | (have H2_ := (Option.bind_some _ _).symm.trans H; with_reducible exact H2_) | with_reducible exact H | (rw [hy633]; exact H) | exact H
 have Ny633 := Aside0.mk hy633
 clear hy633
 replace H := Option.bind_eq_some_iff.mp H
 obtain ⟨⟨t636, t637, t638⟩, A30, H⟩ := H
 (try dsimp only at H)
 have A3 := Aside0.mk A30
 clear A30
 obtain ⟨y639, hy639⟩ : ∃ y_ : List Int, y_ = (([0, 1, (-1), 3, (-5), 10, (-10), t636] : List Int)) := ⟨_, rfl⟩
 replace H : ((spec_l1Cur_among.f l0 t637 t638 y639).bind fun bt642 => (some (t628, bt642.1))) = some (r1, r2) := by first | (rw [hy639]; with_reducible exact H) | (have H2_ := (Option.bind_some _ _).symm.trans H; rw [hy639]; with_reducible exact H2_) | (have H2_ := (Option.bind_some _ _).symm.trans H; with_reducible exact H2_) | with_reducible exact H | (rw [hy639]; exact H) | exact H
 have Ny639 := Aside0.mk hy639
 clear hy639
 replace H := Option.bind_eq_some_iff.mp H
 obtain ⟨⟨t642, t643, t644⟩, A40, H⟩ := H
 replace H : (some (t628, t642)) = some (r1, r2) := H
 have A4 := Aside0.mk A40
 clear A40
 simp only [Option.some.injEq, Prod.mk.injEq] at H
 obtain ⟨rfl, rfl⟩ := H
 go_enter Try.func20, Try.ntmps20
 go_wp2_with (first | ((with_reducible refine gate_dst (N := 7) rfl ?_); refine bv_ 7 69 #[.slice A0 l0.length c0, .int .i64 0, .int .u64 0] ?_; intro gb627 hg w5 hbox hb; refine k4_ (below_step (Z2) hb) ((show IsS69 w w5 gb627 l0 0 0 from ⟨_, _, hbox, (Z34), HR0.out⟩)) ((Z34 : w.heap.size ≤ gb627)) ((Z34 : w.heap.size ≤ gb627)) ?_; clear HB; intro HB HI627 GW627 GE627; clear hb hbox hg) | ((with_reducible refine gate_callee (f := 44) rfl ?_); refine gl_ 9 Try.func44 #[.pointer (some ⟨gb627, 0, none⟩)] ?_; (with_reducible refine (spec_l1Cur_scan.calls k gb627 l0 0 0 t628 t631 t632 w _ ?_ ?_ A2.out).mono ?_); exact Z3 HI627.out; exact Z40; rintro e w6 ⟨v629, rfl, ho0, hi, hb, hk⟩; refine ⟨_, rfl, ?_⟩; refine k3_ (Kd.R_lower ho0 (below_size (Z40))) (hb) (hi) ?_; clear HB HI627; intro HO630 HB HI627; (try clear hb hk hi ho0)) | ((with_reducible refine gate_dst (N := 12) rfl ?_); refine Kd.R_lit (Kd.int .i64) _ 3 ?hg (N := 12) ?hd (xs := ([11, (-11)] : List Int)) (inner := [.int .i64 11, .int .i64 (-11)]) (ok := fun _ => True) (okp := fun _ => True) ?hr ?hp (fun _ hk => hk) trivial (Below.refl _ _) (Nat.le_refl _) (by simp) ?_; (case hd => rfl); (case hg => rfl); (case hr => exact Z44); (case hp => exact (Reps.one (show Kd.M (Kd.int .i64) _ _ _ 11 [.int .i64 11] from rfl) (Reps.one (show Kd.M (Kd.int .i64) _ _ _ (-11) [.int .i64 (-11)] from rfl) (Reps.none _ _)))); intro v634 w7 ho8 hb hg_ hnew_; clear hg_ hnew_; (first | rw [← Ny633.out] at ho8 | (simp only [Int.reduceToNat] at ho8; rw [← Ny633.out] at ho8)); refine k4_ (Kd.R_below (Z1 HO630.out) hb) (Kd.R_lower ho8 (below_size (Z40))) (IsS69.below (Z3 HI627.out) hb) (below_step (Z40) hb) ?_; clear HO630 HI627 HB; intro HO630 HO635 HI627 HB; clear hb ho8; obtain ⟨Ao9, co9, eo9⟩ := Kd.R_slice HO635.out; subst eo9) | ((with_reducible refine gate_callee (f := 46) rfl ?_); refine gl_ 13 Try.func46 #[.pointer (some ⟨gb627, 0, none⟩), .slice Ao9 y633.length co9] ?_; (with_reducible refine (spec_l1Cur_among.calls gb627 l0 t631 t632 _ _ y633 t636 t637 t638 w _ ?_ ?_ ?_ ?_ ?_ A3.out).mono ?_); exact Z3 HI627.out; exact Z40; exact Z5 HO635.out; exact (Kd.R_reads' HO635.out).2.1; exact far_slice (IsS69.own_ne HI627.out HO635.out (by decide)); rintro e w10 ⟨rfl, hi, hb, hk⟩; refine ⟨_, rfl, ?_⟩; refine k4_ (Kd.R_mono (Kd.R_keep (IsS69.apart (show IsS69 w _ gb627 l0 t631 t632 from Z3 HI627.out) (Z1 HO630.out) (by decide)) hk (fun _ h => h.2)) (fun _ h => h.1)) (Kd.R_mono (Kd.R_keep (IsS69.apart (show IsS69 w _ gb627 l0 t631 t632 from Z3 HI627.out) (Z1 HO635.out) (by decide)) hk (fun _ h => h.2)) (fun _ h => h.1)) (hb) (hi) ?_; clear HO630 HO635 HB HI627; intro HO630 HO635 HB HI627; (try clear hb hk hi)) | ((with_reducible refine gate_dst (N := 14) rfl ?_); refine Kd.R_lit (Kd.int .i64) _ 3 ?hg (N := 14) ?hd (xs := ([0, 1, (-1), 3, (-5), 10, (-10), t636] : List Int)) (inner := [.int .i64 0, .int .i64 1, .int .i64 (-1), .int .i64 3, .int .i64 (-5), .int .i64 10, .int .i64 (-10), .int .i64 t636]) (ok := fun _ => True) (okp := fun _ => True) ?hr ?hp (fun _ hk => hk) trivial (Below.refl _ _) (Nat.le_refl _) (by simp) ?_; (case hd => rfl); (case hg => rfl); (case hr => exact Z44); (case hp => exact (Reps.one (show Kd.M (Kd.int .i64) _ _ _ 0 [.int .i64 0] from rfl) (Reps.one (show Kd.M (Kd.int .i64) _ _ _ 1 [.int .i64 1] from rfl) (Reps.one (show Kd.M (Kd.int .i64) _ _ _ (-1) [.int .i64 (-1)] from rfl) (Reps.one (show Kd.M (Kd.int .i64) _ _ _ 3 [.int .i64 3] from rfl) (Reps.one (show Kd.M (Kd.int .i64) _ _ _ (-5) [.int .i64 (-5)] from rfl) (Reps.one (show Kd.M (Kd.int .i64) _ _ _ 10 [.int .i64 10] from rfl) (Reps.one (show Kd.M (Kd.int .i64) _ _ _ (-10) [.int .i64 (-10)] from rfl) (Reps.one (show Kd.M (Kd.int .i64) _ _ _ t636 [.int .i64 t636] from rfl) (Reps.none _ _)))))))))); intro v640 w11 ho12 hb hg_ hnew_; clear hg_ hnew_; (first | rw [← Ny639.out] at ho12 | (simp only [Int.reduceToNat] at ho12; rw [← Ny639.out] at ho12)); refine k5_ (Kd.R_below (Z1 HO630.out) hb) (Kd.R_elder' (Z1 HO635.out) (Kd.R_base ho12) hb) (Kd.R_lower (Kd.R_new' ho12 (Kd.R_lt (Z1 HO635.out))) (below_size (Z40))) (IsS69.below (Z3 HI627.out) hb) (below_step (Z40) hb) ?_; clear HO630 HO635 HI627 HB; intro HO630 HO635 HO641 HI627 HB; clear hb ho12; obtain ⟨Ao13, co13, eo13⟩ := Kd.R_slice HO641.out; subst eo13) | ((with_reducible refine gate_callee (f := 46) rfl ?_); refine gl_ 15 Try.func46 #[.pointer (some ⟨gb627, 0, none⟩), .slice Ao13 y639.length co13] ?_; (with_reducible refine (spec_l1Cur_among.calls gb627 l0 t637 t638 _ _ y639 t642 t643 t644 w _ ?_ ?_ ?_ ?_ ?_ A4.out).mono ?_); exact Z3 HI627.out; exact Z40; exact Z5 HO641.out; exact (Kd.R_reads' HO641.out).2.1; exact far_slice (IsS69.own_ne HI627.out HO641.out (by decide)); rintro e w14 ⟨rfl, hi, hb, hk⟩; refine ⟨_, rfl, ?_⟩; refine k5_ (Kd.R_mono (Kd.R_keep (IsS69.apart (show IsS69 w _ gb627 l0 t637 t638 from Z3 HI627.out) (Z1 HO630.out) (by decide)) hk (fun _ h => h.2)) (fun _ h => h.1)) (Kd.R_mono (Kd.R_keep (IsS69.apart (show IsS69 w _ gb627 l0 t637 t638 from Z3 HI627.out) (Z1 HO635.out) (by decide)) hk (fun _ h => h.2)) (fun _ h => h.1)) (Kd.R_mono (Kd.R_keep (IsS69.apart (show IsS69 w _ gb627 l0 t637 t638 from Z3 HI627.out) (Z1 HO641.out) (by decide)) hk (fun _ h => h.2)) (fun _ h => h.1)) (hb) (hi) ?_; clear HO630 HO635 HO641 HB HI627; intro HO630 HO635 HO641 HB HI627; (try clear hb hk hi)))
 go_ret2
 exact ⟨_, Z11, Z1 HO630.out, Z40⟩

/-! ### spec_SkewScan: function 21 -/
def spec_SkewScan.f (k : Nat) (l0 : List ByteArray) (a1 : Int) : Option (List ByteArray × Bool) := (spec_scGood.f k l0).bind fun t645 => (if t645 = true then ((spec_l1In.f a1 (-10) 10).bind fun t646 => (if t646 = true then ((spec_scSkew.f k l0 a1).bind fun t647 => (some (t647, true))) else (some (([] : List ByteArray), false)))) else (some (([] : List ByteArray), false)))
theorem spec_SkewScan.mono : ∀ a0 a1 k, LeO (spec_SkewScan.f k a0 a1) (spec_SkewScan.f (k + 1) a0 a1) := by
 intro a0 a1 k
 unfold spec_SkewScan.f
 exact mo17_
set_option maxHeartbeats 8000000 in
set_option maxRecDepth 100000 in
theorem spec_SkewScan.calls (k : Nat) (A0 : Option Addr) (c0 : Nat) (l0 : List ByteArray) (a1 : Int) (r1 : List ByteArray) (r2 : Bool) (w : World) (hr0 : Kd.C Kd.string w A0 l0.length l0) (hc0 : l0.length ≤ c0) (h : spec_SkewScan.f k l0 a1 = some (r1, r2)) :
  Calls Try.prog 21 #[.slice A0 l0.length c0, .int .i64 a1] w fun e w' => ∃ v0_ : Value, e = .returned (.tuple #[v0_, .bool r2]) ∧ Kd.R Kd.string 9 w' w.heap.size (fun _ => True) v0_ r1 ∧ Below w.heap.size w w' := by
 have HR0 := Aside0.mk hr0
 have HC0 := Aside0.mk hc0
 clear hr0 hc0
 have HB := Aside0.mk (Below.refl w.heap.size w)
 have H : ((spec_scGood.f k l0).bind fun t645 => (if t645 = true then ((spec_l1In.f a1 (-10) 10).bind fun t646 => (if t646 = true then ((spec_scSkew.f k l0 a1).bind fun t647 => (some (t647, true))) else (some (([] : List ByteArray), false)))) else (some (([] : List ByteArray), false)))) = some (r1, r2) := h
 clear h
 replace H := Option.bind_eq_some_iff.mp H
 obtain ⟨t645, A30, H⟩ := H
 (try dsimp only at H)
 have A3 := Aside0.mk A30
 clear A30
 by_cases c4 : t645 = true
 ·subst c4
  rw [if_pos rfl] at H
  replace H := Option.bind_eq_some_iff.mp H
  obtain ⟨t646, A50, H⟩ := H
  (try dsimp only at H)
  have A5 := Aside0.mk A50
  clear A50
  by_cases c6 : t646 = true
  ·subst c6
   rw [if_pos rfl] at H
   replace H := Option.bind_eq_some_iff.mp H
   obtain ⟨t647, A70, H⟩ := H
   replace H : (some (t647, true)) = some (r1, r2) := H
   have A7 := Aside0.mk A70
   clear A70
   simp only [Option.some.injEq, Prod.mk.injEq] at H
   obtain ⟨rfl, rfl⟩ := H
   go_enter Try.func21, Try.ntmps21
   go_wp2_with (first | ((with_reducible refine gate_callee (f := 51) rfl ?_); refine gl_ 7 Try.func51 #[.slice A0 l0.length c0] ?_; (with_reducible refine (spec_scGood.calls k _ _ l0 true _ ?_ ?_ A3.out).mono ?_); exact Z9 HR0.out; exact HC0.out; rintro e w' ⟨rfl, ⟨nd, rfl⟩⟩; refine ⟨_, rfl, ?_⟩) | (go_at_call 52; (with_reducible refine (spec_l1In.calls a1 (-10) 10 true _ A5.out).mono ?_); rintro e w' ⟨rfl, ⟨nd, rfl⟩⟩) | ((with_reducible refine gate_callee (f := 64) rfl ?_); refine gl_ 16 Try.func64 #[.slice A0 l0.length c0, .int .i64 a1] ?_; (with_reducible refine (spec_scSkew.calls k _ _ l0 a1 t647 _ ?_ ?_ A7.out).mono ?_); exact Z9 HR0.out; exact HC0.out; rintro e w8 ⟨v648, rfl, ho0, hb⟩; refine ⟨_, rfl, ?_⟩; refine k2_ (Kd.R_lower ho0 (below_size (Z2))) (below_step (Z2) hb) ?_; clear HB; intro HO649 HB; (try clear hb ho0)))
   go_ret2
   exact ⟨_, Z11, Z1 HO649.out, Z2⟩
  replace c6 := Bool.eq_false_iff.mpr c6
  subst c6
  rw [if_neg (show ¬ (false = true) by decide)] at H
  simp only [Option.some.injEq, Prod.mk.injEq] at H
  obtain ⟨rfl, rfl⟩ := H
  go_enter Try.func21, Try.ntmps21
  go_wp2_with (first | ((with_reducible refine gate_callee (f := 51) rfl ?_); refine gl_ 7 Try.func51 #[.slice A0 l0.length c0] ?_; (with_reducible refine (spec_scGood.calls k _ _ l0 true _ ?_ ?_ A3.out).mono ?_); exact Z9 HR0.out; exact HC0.out; rintro e w' ⟨rfl, ⟨nd, rfl⟩⟩; refine ⟨_, rfl, ?_⟩) | (go_at_call 52; (with_reducible refine (spec_l1In.calls a1 (-10) 10 false _ A5.out).mono ?_); rintro e w' ⟨rfl, ⟨nd, rfl⟩⟩))
  go_ret2
  exact ⟨_, Z11, Z21, Z2⟩
 replace c4 := Bool.eq_false_iff.mpr c4
 subst c4
 rw [if_neg (show ¬ (false = true) by decide)] at H
 simp only [Option.some.injEq, Prod.mk.injEq] at H
 obtain ⟨rfl, rfl⟩ := H
 go_enter Try.func21, Try.ntmps21
 go_wp2_with (first | ((with_reducible refine gate_callee (f := 51) rfl ?_); refine gl_ 7 Try.func51 #[.slice A0 l0.length c0] ?_; (with_reducible refine (spec_scGood.calls k _ _ l0 false _ ?_ ?_ A3.out).mono ?_); exact Z9 HR0.out; exact HC0.out; rintro e w' ⟨rfl, ⟨nd, rfl⟩⟩; refine ⟨_, rfl, ?_⟩))
 go_ret2
 exact ⟨_, Z11, Z21, Z2⟩

end Go.Proofs.Ytmnnmddfmmaohaa.PFnStains
