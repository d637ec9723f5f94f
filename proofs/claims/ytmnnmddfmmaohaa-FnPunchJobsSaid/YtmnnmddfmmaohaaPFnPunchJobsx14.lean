-- written by a program of this session: the kit's print, with outer functions of the session's own (wip/ext)
import Derived.Test.YtmnnmddfmmaohaaPFnPunchJobsx0
import Derived.Test.YtmnnmddfmmaohaaPFnPunchJobsx2
import Derived.Test.YtmnnmddfmmaohaaPFnPunchJobsx11
import Derived.Test.YtmnnmddfmmaohaaPFnPunchJobsx13
namespace Go.Proofs.Ytmnnmddfmmaohaa.PFnPunchJobs
open Go.RowKit Go.Proofs.YtmnnmddfmmaohaaW.PrintWords Go.Proofs.YtmnnmddfmmaohaaW.PrintLast Go.Proofs.YtmnnmddfmmaohaaW.PrintMore
attribute [local go_sem] max2_int min2_int max_two min_two max_three min_three max_four min_four   -- for this text's walks alone
set_option linter.unusedVariables false
set_option linter.unusedSimpArgs false
theorem mo14_ {p : Prop} (h : p := by repeat' first | (with_reducible first | apply ih0 | apply ih0 | apply impl_jobStrokes.mono | apply impl_jobStrokes.mono | apply impl_punchedBy.mono | apply impl_punchedBy.mono | exact LeO.refl _ | exact LeO.none _ | refine LeO.ite ?_ ?_ | refine LeO.bind ?_ (fun _ => ?_)) | exact LeO.none _ | refine LeO.ite ?_ ?_ | refine LeO.bind ?_ (fun _ => ?_)) : p := h

/-! ### impl_PunchedNow: function 31 -/
def impl_PunchedNow.f (k : Nat) (l0_0 : List (S90)) (a0_1 : Int) : Option ((List (S90)) × Bool) := (impl_jobStrokes.f k l0_0 a0_1).bind fun pK => (if pK.2 = true then (if 0 ≤ a0_1 then (if a0_1 ≤ (pK.1.length : Int) then ((impl_punchedBy.f k (pK.1.take (a0_1 : Int).toNat)).bind fun ol => (some (ol.1, ol.2))) else (none)) else (none)) else (some (([] : List (S90)), false)))
theorem impl_PunchedNow.mono : ∀ a0 a1 k, LeO (impl_PunchedNow.f k a0 a1) (impl_PunchedNow.f (k + 1) a0 a1) := by
 intro a0 a1 k
 unfold impl_PunchedNow.f
 exact mo14_
set_option maxHeartbeats 8000000 in
set_option maxRecDepth 100000 in
theorem impl_PunchedNow.calls (k : Nat) (A0_0 : Option Addr) (c0_0 : Nat) (l0_0 : List (S90)) (a0_1 : Int) (r1 : List (S90)) (r2 : Bool) (w : World) (hr0_0 : Kd.C k90 w A0_0 l0_0.length l0_0) (hc0_0 : l0_0.length ≤ c0_0) (h : impl_PunchedNow.f k l0_0 a0_1 = some (r1, r2)) :
  Calls Try.prog 31 #[.agg #[.slice A0_0 l0_0.length c0_0, .int .i64 a0_1]] w fun e w' => ∃ v0_ : Value, e = .returned (.tuple #[v0_, .bool r2]) ∧ Kd.R k90 90 w' w.heap.size (fun _ => True) v0_ r1 ∧ Below w.heap.size w w' := by
 have hu44 := Try.underlying44
 have HR0_0 := Aside0.mk hr0_0
 have HC0_0 := Aside0.mk hc0_0
 clear hr0_0 hc0_0
 have HB := Aside0.mk (Below.refl w.heap.size w)
 have H : ((impl_jobStrokes.f k l0_0 a0_1).bind fun pK => (if pK.2 = true then (if 0 ≤ a0_1 then (if a0_1 ≤ (pK.1.length : Int) then ((impl_punchedBy.f k (pK.1.take (a0_1 : Int).toNat)).bind fun ol => (some (ol.1, ol.2))) else (none)) else (none)) else (some (([] : List (S90)), false)))) = some (r1, r2) := h
 clear h
 obtain ⟨⟨pL, t585⟩, A2, H⟩ := bd_ H
 (try dsimp only at H)
 by_cases c3 : t585 = true
 ·subst c3
  rw [if_pos rfl] at H
  by_cases c4 : 0 ≤ a0_1
  case neg => rw [if_neg c4] at H; exact absurd H (by simp)
  rw [if_pos c4] at H
  have go := eq_true c4
  have FO : decide (0 ≤ a0_1) = true := decide_eq_true c4
  clear c4
  by_cases c5 : a0_1 ≤ (pL.length : Int)
  case neg => rw [if_neg c5] at H; exact absurd H (by simp)
  rw [if_pos c5] at H
  have gW := eq_true c5
  have u2 : decide (a0_1 ≤ (pL.length : Int)) = true := decide_eq_true c5
  clear c5
  obtain ⟨z6, tg⟩ : ∃ y_ : List (S103), y_ = (pL.take (a0_1 : Int).toNat) := ⟨_, rfl⟩
  replace H : ((impl_punchedBy.f k z6).bind fun ol => (some (ol.1, ol.2))) = some (r1, r2) := hx_ tg H
  have Ed := Aside0.mk tg
  clear tg
  obtain ⟨⟨Hh, Hi⟩, A6, H⟩ := bd_ H
  replace H : (some (Hh, Hi)) = some (r1, r2) := H
  simp only [Option.some.injEq, Prod.mk.injEq] at H
  obtain ⟨rfl, rfl⟩ := H
  go_enter Try.func31, Try.ntmps31
  go_wp2_with (first | ((with_reducible refine gate_dst (N := 1) rfl ?_); refine bv_ 1 44 #[.slice A0_0 l0_0.length c0_0, .int .i64 a0_1] ?_; intro th hg w7 hbox hb; refine k4_ (below_step (Z5) hb) (hbox) ((Z38 : w.heap.size ≤ th)) ((Z38 : w.heap.size ≤ th)) ?_; clear HB; intro HB i6 GW581 Dw; clear hb hbox hg; obtain ⟨fg, fh, fy, fi⟩ := bx2_ (w := w7) i6.out) | ((with_reducible refine gate_callee (f := 66) rfl ?_); refine gl_ 8 Try.func66 #[.agg #[.slice A0_0 l0_0.length c0_0, .int .i64 a0_1]] ?_; (with_reducible refine (impl_jobStrokes.calls k _ _ l0_0 a0_1 pL true _ ?_ ?_ A2.out).mono ?_); exact (Z15 HR0_0); exact HC0_0.out; rintro e w9 ⟨v583, rfl, ho0, hb⟩; refine ⟨_, rfl, ?_⟩; refine k3_ (Kd.R_lower ho0 (below_size (Z136))) (Ye_ i6) (below_step (Z136) hb) ?_; clear i6 HB; intro pN i6 HB; (try clear hb ho0); obtain ⟨gc, gG, gf, gH⟩ := bx2_ (w := w9) i6.out; obtain ⟨pO, mG, rn⟩ := Kd.R_slice pN.out; subst rn; have xW : (a0_1 : Int) ≤ ((pL.length : Int) : Int) := of_decide_eq_true (Z21); obtain ⟨i011, hi011, _, hsz11, _⟩ := info_parts info103; have hroom11 : pL.length ≤ mG := (Kd.R_reads' pN.out).2.1; have hC11 : Kd.C k103 _ pO pL.length pL := (Kd.R_reads' pN.out).2.2; have hcut11 := cut_to (P := Try.prog) 63 103 .i64 Try.underlying63 hi011 pO pL.length mG a0_1 (of_decide_eq_true (Z21)) xW hroom11; have hr11 := Kd.C_take (m := (a0_1 : Int).toNat) hC11 (by omega); have u7 : z6.length = (a0_1 : Int).toNat := (Z263 Ed); rw [← Ed.out] at hr11; rw [← u7] at hcut11; have HR589 := Aside0.mk hr11; have HC589 := Aside0.mk (show z6.length ≤ mG from by omega); clear hr11 hC11 hroom11 hi011 hsz11; have KY11 := Aside0.mk u7; clear u7; have KL11 := Aside0.mk (show (a0_1 : Int).toNat ≤ pL.length from by omega); replace xW := eq_true xW) | ((with_reducible refine gate_callee (f := 75) rfl ?_); refine gl_ 17 Try.func75 #[.slice pO z6.length mG] ?_; (with_reducible refine (impl_punchedBy.calls k _ _ z6 Hh Hi _ ?_ ?_ A6.out).mono ?_); exact (by repeat (first | exact (Z39 HR589) | (with_reducible refine Kd.C_alloc ?_ _) | (with_reducible refine Kd.C_drewN ?_ _) | (with_reducible refine Kd.C_drew ?_))); exact HC589.out; rintro e lG ⟨v592, rfl, ho0, hb⟩; refine ⟨_, rfl, ?_⟩; refine k5_ (Ya_ pN) (Kd.R_lower ho0 (below_size (Z136))) (Ye_ i6) (Kd.C_below (Z39 HR589) hb) (below_step (Z136) hb) ?_; clear pN i6 HR589 HB; intro pN HO593 i6 HR589 HB; (try clear hb ho0)))
  go_ret2
  exact ⟨_, Z11, Z2 HO593, Z136⟩
 replace c3 := Bool.eq_false_iff.mpr c3
 subst c3
 rw [if_neg (show ¬ (false = true) by decide)] at H
 simp only [Option.some.injEq, Prod.mk.injEq] at H
 obtain ⟨rfl, rfl⟩ := H
 go_enter Try.func31, Try.ntmps31
 go_wp2_with (first | ((with_reducible refine gate_dst (N := 1) rfl ?_); refine bv_ 1 44 #[.slice A0_0 l0_0.length c0_0, .int .i64 a0_1] ?_; intro th hg oC hbox hb; refine k4_ (below_step (Z5) hb) (hbox) ((Z38 : w.heap.size ≤ th)) ((Z38 : w.heap.size ≤ th)) ?_; clear HB; intro HB i6 GW581 Dw; clear hb hbox hg; obtain ⟨m2, m3, m4, m5⟩ := bx2_ (w := oC) i6.out) | ((with_reducible refine gate_callee (f := 66) rfl ?_); refine gl_ 8 Try.func66 #[.agg #[.slice A0_0 l0_0.length c0_0, .int .i64 a0_1]] ?_; (with_reducible refine (impl_jobStrokes.calls k _ _ l0_0 a0_1 pL false _ ?_ ?_ A2.out).mono ?_); exact (Z15 HR0_0); exact HC0_0.out; rintro e mT ⟨v583, rfl, ho0, hb⟩; refine ⟨_, rfl, ?_⟩; refine k3_ (Kd.R_lower ho0 (below_size (Z136))) (Ye_ i6) (below_step (Z136) hb) ?_; clear i6 HB; intro pN i6 HB; (try clear hb ho0)))
 go_ret2
 exact ⟨_, Z11, Z44, Z136⟩

/-! ### spec_shStep: function 140 -/
def spec_shStep.f (a0 : Int) : Option (Bool) := (spec_l1In.f a0 0 1999).bind fun xX => (some xX)
set_option maxHeartbeats 8000000 in
set_option maxRecDepth 100000 in
theorem spec_shStep.calls (a0 : Int) (r : Bool) (w : World) (h : spec_shStep.f a0 = some r) :
  Calls Try.prog 140 #[.int .i64 a0] w fun e w' => e = .returned (.bool r) ∧ Drawn0 w w' := by
 have H : ((spec_l1In.f a0 0 1999).bind fun xX => (some xX)) = some r := h
 clear h
 obtain ⟨xX, A2, H⟩ := bd_ H
 replace H : (some xX) = some r := H
 obtain rfl := Option.some.inj H
 go_enter Try.func140, Try.ntmps140
 go_wp2_with (first | ((with_reducible refine gate_callee (f := 52) rfl ?_); refine gl_ 4 Try.func52 #[.int .i64 a0, .int .i64 0, .int .i64 1999] ?_; (with_reducible refine (spec_l1In.calls a0 0 1999 xX _ A2.out).mono ?_); rintro e w' ⟨rfl, ⟨nd, rfl⟩⟩; refine ⟨_, rfl, ?_⟩))
 go_ret
 exact ⟨Z41, Z138⟩

/-! ### spec_puStroke: function 124 -/
def spec_puStroke.f (a0_0 : Int) (a0_1 : Int) : Option (Bool) := (spec_l1In.f a0_0 0 19).bind fun z7 => (if z7 = true then ((spec_shStep.f a0_1).bind fun xY => (some xY)) else (some false))
set_option maxHeartbeats 8000000 in
set_option maxRecDepth 100000 in
theorem spec_puStroke.calls (a0_0 : Int) (a0_1 : Int) (r : Bool) (w : World) (h : spec_puStroke.f a0_0 a0_1 = some r) :
  Calls Try.prog 124 #[.agg #[.int .i64 a0_0, .int .i64 a0_1]] w fun e w' => e = .returned (.bool r) ∧ Below w.heap.size w w' := by
 have hu103 := Try.underlying103
 have HB := Aside0.mk (Below.refl w.heap.size w)
 have H : ((spec_l1In.f a0_0 0 19).bind fun z7 => (if z7 = true then ((spec_shStep.f a0_1).bind fun xY => (some xY)) else (some false))) = some r := h
 clear h
 obtain ⟨z7, A2, H⟩ := bd_ H
 (try dsimp only at H)
 by_cases c3 : z7 = true
 ·subst c3
  rw [if_pos rfl] at H
  obtain ⟨xY, A4, H⟩ := bd_ H
  replace H : (some xY) = some r := H
  obtain rfl := Option.some.inj H
  go_enter Try.func124, Try.ntmps124
  go_wp2_with (first | ((with_reducible refine gate_dst (N := 1) rfl ?_); refine bv_ 1 103 #[.int .i64 a0_0, .int .i64 a0_1] ?_; intro ti hg w5 hbox hb; refine k4_ (below_step (Z5) hb) (hbox) ((Z38 : w.heap.size ≤ ti)) ((Z38 : w.heap.size ≤ ti)) ?_; clear HB; intro HB z8 GW595 Df; clear hb hbox hg; obtain ⟨mt, mu, nQ, mv⟩ := bx2_ (w := w5) z8.out) | ((with_reducible refine gate_callee (f := 52) rfl ?_); refine gl_ 5 Try.func52 #[.int .i64 a0_0, .int .i64 0, .int .i64 19] ?_; (with_reducible refine (spec_l1In.calls a0_0 0 19 true _ A2.out).mono ?_); rintro e w' ⟨rfl, ⟨nd, rfl⟩⟩; refine ⟨_, rfl, ?_⟩) | (go_at_call 140; (with_reducible refine (spec_shStep.calls a0_1 xY _ A4.out).mono ?_); rintro e w' ⟨rfl, ⟨nd, rfl⟩⟩))
  go_ret
  exact ⟨Z11, Z241⟩
 replace c3 := Bool.eq_false_iff.mpr c3
 subst c3
 rw [if_neg (show ¬ (false = true) by decide)] at H
 obtain rfl := Option.some.inj H
 go_enter Try.func124, Try.ntmps124
 go_wp2_with (first | ((with_reducible refine gate_dst (N := 1) rfl ?_); refine bv_ 1 103 #[.int .i64 a0_0, .int .i64 a0_1] ?_; intro ti hg w7 hbox hb; refine k4_ (below_step (Z5) hb) (hbox) ((Z38 : w.heap.size ≤ ti)) ((Z38 : w.heap.size ≤ ti)) ?_; clear HB; intro HB z8 GW595 Df; clear hb hbox hg; obtain ⟨fg, fh, fy, fi⟩ := bx2_ (w := w7) z8.out) | ((with_reducible refine gate_callee (f := 52) rfl ?_); refine gl_ 5 Try.func52 #[.int .i64 a0_0, .int .i64 0, .int .i64 19] ?_; (with_reducible refine (spec_l1In.calls a0_0 0 19 false _ A2.out).mono ?_); rintro e w' ⟨rfl, ⟨nd, rfl⟩⟩; refine ⟨_, rfl, ?_⟩))
 go_ret
 exact ⟨Z11, Z241⟩

/-! ### spec_puGood: function 102 -/
def spec_puGood.l0 : Nat → List (S103) → List (S103) → Int → Int → Option (Bool)
 | 0, _, _, _, _ => none
 | k + 1, x0, x5, x6, x7 => if x7 < x6 then (if 0 ≤ x7 then (if x7 < (x5.length : Int) then ((spec_puStroke.f ((rd_T103 x5 x7).f0) ((rd_T103 x5 x7).f1)).bind fun FP => (if FP = true then (spec_puGood.l0 k x0 x5 x6 (wrap64 (x7 + 1))) else (some false))) else (none)) else (none)) else (some (decide ((x0.length : Int) ≤ 200)))
def spec_puGood.f (k : Nat) (l0 : List (S103)) : Option (Bool) := spec_puGood.l0 k l0 l0 (l0.length : Int) 0
theorem spec_puGood.mono_l : ∀ k, (∀ y0 y1 y2 y3, LeO (spec_puGood.l0 k y0 y1 y2 y3) (spec_puGood.l0 (k + 1) y0 y1 y2 y3))
 | 0 => fun _ _ _ _ r h => by simp [spec_puGood.l0] at h
 | k + 1 => by
  have ih0 := spec_puGood.mono_l k
  ·intro y0 y1 y2 y3
   unfold spec_puGood.l0
   exact mo14_
theorem spec_puGood.mono : ∀ a0 k, LeO (spec_puGood.f k a0) (spec_puGood.f (k + 1) a0) := by
 intro a0 k
 have ih0 := spec_puGood.mono_l k
 unfold spec_puGood.f
 exact mo14_
set_option maxHeartbeats 8000000 in
set_option maxRecDepth 100000 in
theorem spec_puGood.calls (k : Nat) (A0 : Option Addr) (c0 : Nat) (l0 : List (S103)) (r : Bool) (w : World) (hr0 : Kd.C k103 w A0 l0.length l0) (hc0 : l0.length ≤ c0) (h : spec_puGood.f k l0 = some r) :
  Calls Try.prog 102 #[.slice A0 l0.length c0] w fun e w' => e = .returned (.bool r) ∧ Below w.heap.size w w' := by
 have hu103 := Try.underlying103
 have HR0 := Aside0.mk hr0
 have HC0 := Aside0.mk hc0
 clear hr0 hc0
 have HB := Aside0.mk (Below.refl w.heap.size w)
 have H : (spec_puGood.l0 k l0 l0 (l0.length : Int) 0) = some r := h
 clear h
 have H' := Aside0.mk H
 clear H
 go_enter Try.func102, Try.ntmps102
 go_wp2
 go_loopg [7] k (fun kq v7 w' => ∃ (ft : Int), v7 = .int .i64 ft ∧ Aside0 (spec_puGood.l0 kq l0 l0 (l0.length : Int) ft = some r) ∧ Aside0 (kq ≤ k) ∧ Aside0 (Below w.heap.size w w'))
 case atStart => exact ⟨(0), (Z41), H', ⟨Nat.le_refl _⟩, ⟨Z5⟩⟩
 case round =>
  clear H'
  (try clear c1)
  obtain ⟨ft, rfl, HA, HK1, HB⟩ := hrel
  cases gk with
  | zero => exact absurd HA.out (by simp [spec_puGood.l0])
  | succ k1 =>
   have H := HA.out
   clear HA
   simp only [spec_puGood.l0] at H
   by_cases c2 : ft < (l0.length : Int)
   ·rw [if_pos c2] at H
    have hP : decide (ft < (l0.length : Int)) = true := decide_eq_true c2
    clear c2
    by_cases c3 : 0 ≤ ft
    case neg => rw [if_neg c3] at H; exact absurd H (by simp)
    rw [if_pos c3] at H
    have f5 : decide (0 ≤ ft) = true := decide_eq_true c3
    clear c3
    by_cases c4 : ft < (l0.length : Int)
    case neg => rw [if_neg c4] at H; exact absurd H (by simp)
    rw [if_pos c4] at H
    have go : decide (ft < (l0.length : Int)) = true := decide_eq_true c4
    clear c4
    obtain ⟨FP, A5, H⟩ := bd_ H
    (try dsimp only at H)
    by_cases c6 : FP = true
    ·subst c6
     rw [if_pos rfl] at H
     have H' := Aside0.mk H
     clear H
     have u9 : 0 ≤ (ft : Int) := of_decide_eq_true (Z21)
     have vk : ft < (l0.length : Int) := of_decide_eq_true (Z21)
     obtain ⟨ad598, e598, jt, ju⟩ := at_T103 HR0.out ft u9 vk
     cases e598
     replace jt := (HB.out.cell (World.block_lt_of_cell? w _ jt)).trans jt
     replace ju := (HB.out.cell (World.block_lt_of_cell? w _ ju)).trans ju
     replace u9 := eq_true u9
     replace vk := eq_true vk
     go_wp2_with (first | ((with_reducible refine gate_dst (N := 4) rfl ?_); refine bv_ 4 103 #[.int .i64 0, .int .i64 0] ?_; intro pP hg w7 hbox hb; refine k4_ (below_step (Z5) hb) (hbox) ((Z38 : w.heap.size ≤ pP)) ((Z38 : w.heap.size ≤ pP)) ?_; clear HB; intro HB ob GW599 Dn; clear hb hbox hg; obtain ⟨fg, fh, fy, fi⟩ := bx2_ (w := w7) ob.out) | ((with_reducible refine gate_callee (f := 124) rfl ?_); refine gl_ 12 Try.func124 #[.agg #[.int .i64 ((rd_T103 l0 ft).f0), .int .i64 ((rd_T103 l0 ft).f1)]] ?_; (with_reducible refine (spec_puStroke.calls ((rd_T103 l0 ft).f0) ((rd_T103 l0 ft).f1) true _ A5.out).mono ?_); rintro e w9 ⟨rfl, hb⟩; refine ⟨_, rfl, ?_⟩; refine k2_ (blk_below (g := pP) (o := .cells #[.int .i64 ((rd_T103 l0 ft).f0), .int .i64 ((rd_T103 l0 ft).f1)] 103 (0, 0)) (Z183) hb) (below_step (Z181) hb) ?_; clear ob HB; intro ob HB; (try clear hb)))
     go_roundg k1
     case measure => have := HK1.out; omega
     case rel => exact ⟨(wrap64 (ft + 1)), (Z41), H', ⟨Z182 HK1⟩, ⟨Z181⟩⟩
    replace c6 := Bool.eq_false_iff.mpr c6
    subst c6
    rw [if_neg (show ¬ (false = true) by decide)] at H
    obtain rfl := Option.some.inj H
    have u9 : 0 ≤ (ft : Int) := of_decide_eq_true (Z21)
    have vk : ft < (l0.length : Int) := of_decide_eq_true (Z21)
    obtain ⟨ad598, e598, jt, ju⟩ := at_T103 HR0.out ft u9 vk
    cases e598
    replace jt := (HB.out.cell (World.block_lt_of_cell? w _ jt)).trans jt
    replace ju := (HB.out.cell (World.block_lt_of_cell? w _ ju)).trans ju
    replace u9 := eq_true u9
    replace vk := eq_true vk
    go_wp2_with (first | ((with_reducible refine gate_dst (N := 4) rfl ?_); refine bv_ 4 103 #[.int .i64 0, .int .i64 0] ?_; intro pP hg oB hbox hb; refine k4_ (below_step (Z5) hb) (hbox) ((Z38 : w.heap.size ≤ pP)) ((Z38 : w.heap.size ≤ pP)) ?_; clear HB; intro HB ob GW599 Dn; clear hb hbox hg; obtain ⟨lH, lI, lJ, lK⟩ := bx2_ (w := oB) ob.out) | ((with_reducible refine gate_callee (f := 124) rfl ?_); refine gl_ 12 Try.func124 #[.agg #[.int .i64 ((rd_T103 l0 ft).f0), .int .i64 ((rd_T103 l0 ft).f1)]] ?_; (with_reducible refine (spec_puStroke.calls ((rd_T103 l0 ft).f0) ((rd_T103 l0 ft).f1) false _ A5.out).mono ?_); rintro e yI ⟨rfl, hb⟩; refine ⟨_, rfl, ?_⟩; refine k2_ (blk_below (g := pP) (o := .cells #[.int .i64 ((rd_T103 l0 ft).f0), .int .i64 ((rd_T103 l0 ft).f1)] 103 (0, 0)) (Z183) hb) (below_step (Z181) hb) ?_; clear ob HB; intro ob HB; (try clear hb)))
    go_ret
    exact ⟨Z11, Z181⟩
   rw [if_neg c2] at H
   have hP : decide (ft < (l0.length : Int)) = false := decide_eq_false c2
   clear c2
   obtain rfl := Option.some.inj H
   go_wp2
   go_ret
   exact ⟨Z11, Z5⟩

end Go.Proofs.Ytmnnmddfmmaohaa.PFnPunchJobs
