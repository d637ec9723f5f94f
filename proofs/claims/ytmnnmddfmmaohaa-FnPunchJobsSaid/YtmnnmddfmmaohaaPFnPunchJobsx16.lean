-- written by a program of this session: the kit's print, with outer functions of the session's own (wip/ext)
import Derived.Test.YtmnnmddfmmaohaaPFnPunchJobsx0
import Derived.Test.YtmnnmddfmmaohaaPFnPunchJobsx1
import Derived.Test.YtmnnmddfmmaohaaPFnPunchJobsx2
import Derived.Test.YtmnnmddfmmaohaaPFnPunchJobsx4
import Derived.Test.YtmnnmddfmmaohaaPFnPunchJobsx7
import Derived.Test.YtmnnmddfmmaohaaPFnPunchJobsx8
import Derived.Test.YtmnnmddfmmaohaaPFnPunchJobsx11
import Derived.Test.YtmnnmddfmmaohaaPFnPunchJobsx12
import Derived.Test.YtmnnmddfmmaohaaPFnPunchJobsx15
namespace Go.Proofs.Ytmnnmddfmmaohaa.PFnPunchJobs
open Go.RowKit Go.Proofs.YtmnnmddfmmaohaaW.PrintWords Go.Proofs.YtmnnmddfmmaohaaW.PrintLast Go.Proofs.YtmnnmddfmmaohaaW.PrintMore
attribute [local go_sem] max2_int min2_int max_two min_two max_three min_three max_four min_four   -- for this text's walks alone
set_option linter.unusedVariables false
set_option linter.unusedSimpArgs false
theorem mo16_ {p : Prop} (h : p := by repeat' first | (with_reducible first | apply ih0 | apply ih0 | apply impl_IsPunchJob.mono | apply impl_IsPunchJob.mono | apply impl_holeStrokes.mono | apply impl_holeStrokes.mono | apply laws_qSheet.mono | apply laws_qSheet.mono | apply spec_PunchedBy.mono | apply spec_PunchedBy.mono | apply spec_jbStrokes.mono | apply spec_jbStrokes.mono | apply spec_l1Cur_anySheet.mono | apply spec_l1Cur_anySheet.mono | apply spec_l1Cur_madeSheet.mono | apply spec_l1Cur_madeSheet.mono | apply spec_puHole.mono | apply spec_puHole.mono | exact LeO.refl _ | exact LeO.none _ | refine LeO.ite ?_ ?_ | refine LeO.bind ?_ (fun _ => ?_)) | exact LeO.none _ | refine LeO.ite ?_ ?_ | refine LeO.bind ?_ (fun _ => ?_)) : p := h

attribute [local go_sem high] eqA90
/-! ### spec_PunchedNow: function 32 -/
def spec_PunchedNow.f (k : Nat) (l0_0 : List (S90)) (a0_1 : Int) : Option ((List (S90)) × Bool) := (spec_jbStrokes.f k l0_0 a0_1).bind fun pS => (if pS.2 = true then (if 0 ≤ a0_1 then (if a0_1 ≤ (pS.1.length : Int) then ((spec_PunchedBy.f k (pS.1.take (a0_1 : Int).toNat)).bind fun om => (some (om.1, om.2))) else (none)) else (none)) else (some (([] : List (S90)), false)))
theorem spec_PunchedNow.mono : ∀ a0 a1 k, LeO (spec_PunchedNow.f k a0 a1) (spec_PunchedNow.f (k + 1) a0 a1) := by
 intro a0 a1 k
 unfold spec_PunchedNow.f
 exact mo16_
set_option maxHeartbeats 8000000 in
set_option maxRecDepth 100000 in
theorem spec_PunchedNow.calls (k : Nat) (A0_0 : Option Addr) (c0_0 : Nat) (l0_0 : List (S90)) (a0_1 : Int) (r1 : List (S90)) (r2 : Bool) (w : World) (hr0_0 : Kd.C k90 w A0_0 l0_0.length l0_0) (hc0_0 : l0_0.length ≤ c0_0) (h : spec_PunchedNow.f k l0_0 a0_1 = some (r1, r2)) :
  Calls Try.prog 32 #[.agg #[.slice A0_0 l0_0.length c0_0, .int .i64 a0_1]] w fun e w' => ∃ v0_ : Value, e = .returned (.tuple #[v0_, .bool r2]) ∧ Kd.R k90 90 w' w.heap.size (fun _ => True) v0_ r1 ∧ Below w.heap.size w w' := by
 have hu44 := Try.underlying44
 have HR0_0 := Aside0.mk hr0_0
 have HC0_0 := Aside0.mk hc0_0
 clear hr0_0 hc0_0
 have HB := Aside0.mk (Below.refl w.heap.size w)
 have H : ((spec_jbStrokes.f k l0_0 a0_1).bind fun pS => (if pS.2 = true then (if 0 ≤ a0_1 then (if a0_1 ≤ (pS.1.length : Int) then ((spec_PunchedBy.f k (pS.1.take (a0_1 : Int).toNat)).bind fun om => (some (om.1, om.2))) else (none)) else (none)) else (some (([] : List (S90)), false)))) = some (r1, r2) := h
 clear h
 obtain ⟨⟨pT, t623⟩, A2, H⟩ := bd_ H
 (try dsimp only at H)
 by_cases c3 : t623 = true
 ·subst c3
  rw [if_pos rfl] at H
  by_cases c4 : 0 ≤ a0_1
  case neg => rw [if_neg c4] at H; exact absurd H (by simp)
  rw [if_pos c4] at H
  have go := eq_true c4
  have FO : decide (0 ≤ a0_1) = true := decide_eq_true c4
  clear c4
  by_cases c5 : a0_1 ≤ (pT.length : Int)
  case neg => rw [if_neg c5] at H; exact absurd H (by simp)
  rw [if_pos c5] at H
  have gW := eq_true c5
  have u2 : decide (a0_1 ≤ (pT.length : Int)) = true := decide_eq_true c5
  clear c5
  obtain ⟨Af, tt⟩ : ∃ y_ : List (S103), y_ = (pT.take (a0_1 : Int).toNat) := ⟨_, rfl⟩
  replace H : ((spec_PunchedBy.f k Af).bind fun om => (some (om.1, om.2))) = some (r1, r2) := hx_ tt H
  have Em := Aside0.mk tt
  clear tt
  obtain ⟨⟨Ht, Hu⟩, A6, H⟩ := bd_ H
  replace H : (some (Ht, Hu)) = some (r1, r2) := H
  simp only [Option.some.injEq, Prod.mk.injEq] at H
  obtain ⟨rfl, rfl⟩ := H
  go_enter Try.func32, Try.ntmps32
  go_wp2_with (first | ((with_reducible refine gate_dst (N := 1) rfl ?_); refine bv_ 1 44 #[.slice A0_0 l0_0.length c0_0, .int .i64 a0_1] ?_; intro tu hg w7 hbox hb; refine k4_ (below_step (Z5) hb) (hbox) ((Z38 : w.heap.size ≤ tu)) ((Z38 : w.heap.size ≤ tu)) ?_; clear HB; intro HB i7 GW619 Dv; clear hb hbox hg; obtain ⟨fg, fh, fy, fi⟩ := bx2_ (w := w7) i7.out) | ((with_reducible refine gate_callee (f := 68) rfl ?_); refine gl_ 8 Try.func68 #[.agg #[.slice A0_0 l0_0.length c0_0, .int .i64 a0_1]] ?_; (with_reducible refine (spec_jbStrokes.calls k _ _ l0_0 a0_1 pT true _ ?_ ?_ A2.out).mono ?_); exact (Z15 HR0_0); exact HC0_0.out; rintro e w9 ⟨v621, rfl, ho0, hb⟩; refine ⟨_, rfl, ?_⟩; refine k3_ (Kd.R_lower ho0 (below_size (Z137))) (Ye_ i7) (below_step (Z137) hb) ?_; clear i7 HB; intro pU i7 HB; (try clear hb ho0); obtain ⟨gc, gG, gf, gH⟩ := bx2_ (w := w9) i7.out; obtain ⟨pO, mG, rn⟩ := Kd.R_slice pU.out; subst rn; have xW : (a0_1 : Int) ≤ ((pT.length : Int) : Int) := of_decide_eq_true (Z21); obtain ⟨i011, hi011, _, hsz11, _⟩ := info_parts info103; have hroom11 : pT.length ≤ mG := (Kd.R_reads' pU.out).2.1; have hC11 : Kd.C k103 _ pO pT.length pT := (Kd.R_reads' pU.out).2.2; have hcut11 := cut_to (P := Try.prog) 63 103 .i64 Try.underlying63 hi011 pO pT.length mG a0_1 (of_decide_eq_true (Z21)) xW hroom11; have hr11 := Kd.C_take (m := (a0_1 : Int).toNat) hC11 (by omega); have u7 : Af.length = (a0_1 : Int).toNat := (Z263 Em); rw [← Em.out] at hr11; rw [← u7] at hcut11; have HR627 := Aside0.mk hr11; have HC627 := Aside0.mk (show Af.length ≤ mG from by omega); clear hr11 hC11 hroom11 hi011 hsz11; have KY11 := Aside0.mk u7; clear u7; have KL11 := Aside0.mk (show (a0_1 : Int).toNat ≤ pT.length from by omega); replace xW := eq_true xW) | ((with_reducible refine gate_callee (f := 76) rfl ?_); refine gl_ 17 Try.func76 #[.slice pO Af.length mG] ?_; (with_reducible refine (spec_PunchedBy.calls k _ _ Af Ht Hu _ ?_ ?_ A6.out).mono ?_); exact (by repeat (first | exact (Z39 HR627) | (with_reducible refine Kd.C_alloc ?_ _) | (with_reducible refine Kd.C_drewN ?_ _) | (with_reducible refine Kd.C_drew ?_))); exact HC627.out; rintro e lG ⟨v630, rfl, ho0, hb⟩; refine ⟨_, rfl, ?_⟩; refine k5_ (Ya_ pU) (Kd.R_lower ho0 (below_size (Z137))) (Ye_ i7) (Kd.C_below (Z39 HR627) hb) (below_step (Z137) hb) ?_; clear pU i7 HR627 HB; intro pU HO631 i7 HR627 HB; (try clear hb ho0)))
  go_ret2
  exact ⟨_, Z11, Z2 HO631, Z137⟩
 replace c3 := Bool.eq_false_iff.mpr c3
 subst c3
 rw [if_neg (show ¬ (false = true) by decide)] at H
 simp only [Option.some.injEq, Prod.mk.injEq] at H
 obtain ⟨rfl, rfl⟩ := H
 go_enter Try.func32, Try.ntmps32
 go_wp2_with (first | ((with_reducible refine gate_dst (N := 1) rfl ?_); refine bv_ 1 44 #[.slice A0_0 l0_0.length c0_0, .int .i64 a0_1] ?_; intro tu hg oC hbox hb; refine k4_ (below_step (Z5) hb) (hbox) ((Z38 : w.heap.size ≤ tu)) ((Z38 : w.heap.size ≤ tu)) ?_; clear HB; intro HB i7 GW619 Dv; clear hb hbox hg; obtain ⟨m2, m3, m4, m5⟩ := bx2_ (w := oC) i7.out) | ((with_reducible refine gate_callee (f := 68) rfl ?_); refine gl_ 8 Try.func68 #[.agg #[.slice A0_0 l0_0.length c0_0, .int .i64 a0_1]] ?_; (with_reducible refine (spec_jbStrokes.calls k _ _ l0_0 a0_1 pT false _ ?_ ?_ A2.out).mono ?_); exact (Z15 HR0_0); exact HC0_0.out; rintro e mT ⟨v621, rfl, ho0, hb⟩; refine ⟨_, rfl, ?_⟩; refine k3_ (Kd.R_lower ho0 (below_size (Z137))) (Ye_ i7) (below_step (Z137) hb) ?_; clear i7 HB; intro pU i7 HB; (try clear hb ho0)))
 go_ret2
 exact ⟨_, Z11, Z44, Z137⟩

/-! ### impl_HolesDone: function 33 -/
def impl_HolesDone.l0 : Nat → List Int → Int → List (S90) → Int → Int → List (S90) → Int → Option (List Int × Bool)
 | 0, _, _, _, _, _, _, _ => none
 | k + 1, x4, x5, x15, x16, x17, xl, rr => if x17 < x16 then (if 0 ≤ x17 then (if x17 < (x15.length : Int) then ((impl_holeStrokes.f k ((rd_T90 x15 x17).f0) ((rd_T90 x15 x17).f1) ((rd_T90 x15 x17).f2)).bind fun Ag => (if (wrap64 (x5 + (Ag.1.length : Int))) ≤ rr then (if x4.length < 17592186044416 then (impl_HolesDone.l0 k (x4 ++ [x17]) (wrap64 (x5 + (Ag.1.length : Int))) x15 x16 (wrap64 (x17 + 1)) xl rr) else (none)) else (impl_HolesDone.l0 k x4 (wrap64 (x5 + (Ag.1.length : Int))) x15 x16 (wrap64 (x17 + 1)) xl rr))) else (none)) else (none)) else (some (x4, true))
def impl_HolesDone.f (k : Nat) (l0_0 : List (S90)) (a0_1 : Int) : Option (List Int × Bool) := (impl_IsPunchJob.f k l0_0 a0_1).bind fun Ah => (if Ah = true then (impl_HolesDone.l0 k (([] : List Int)) 0 l0_0 (l0_0.length : Int) 0 l0_0 a0_1) else (some (([] : List Int), false)))
theorem impl_HolesDone.mono_l : ∀ k, (∀ y0 y1 y2 y3 y4 y5 y6, LeO (impl_HolesDone.l0 k y0 y1 y2 y3 y4 y5 y6) (impl_HolesDone.l0 (k + 1) y0 y1 y2 y3 y4 y5 y6))
 | 0 => fun _ _ _ _ _ _ _ r h => by simp [impl_HolesDone.l0] at h
 | k + 1 => by
  have ih0 := impl_HolesDone.mono_l k
  ·intro y0 y1 y2 y3 y4 y5 y6
   unfold impl_HolesDone.l0
   exact mo16_
theorem impl_HolesDone.mono : ∀ a0 a1 k, LeO (impl_HolesDone.f k a0 a1) (impl_HolesDone.f (k + 1) a0 a1) := by
 intro a0 a1 k
 have ih0 := impl_HolesDone.mono_l k
 unfold impl_HolesDone.f
 exact mo16_
set_option maxHeartbeats 8000000 in
set_option maxRecDepth 100000 in
theorem impl_HolesDone.calls (k : Nat) (A0_0 : Option Addr) (c0_0 : Nat) (l0_0 : List (S90)) (a0_1 : Int) (r1 : List Int) (r2 : Bool) (w : World) (hr0_0 : Kd.C k90 w A0_0 l0_0.length l0_0) (hc0_0 : l0_0.length ≤ c0_0) (h : impl_HolesDone.f k l0_0 a0_1 = some (r1, r2)) :
  Calls Try.prog 33 #[.agg #[.slice A0_0 l0_0.length c0_0, .int .i64 a0_1]] w fun e w' => ∃ v0_ : Value, e = .returned (.tuple #[v0_, .bool r2]) ∧ Kd.R (Kd.int .i64) 3 w' w.heap.size (fun _ => True) v0_ r1 ∧ Below w.heap.size w w' := by
 have hu44 := Try.underlying44
 have hu90 := Try.underlying90
 have HR0_0 := Aside0.mk hr0_0
 have HC0_0 := Aside0.mk hc0_0
 clear hr0_0 hc0_0
 have HB := Aside0.mk (Below.refl w.heap.size w)
 have H : ((impl_IsPunchJob.f k l0_0 a0_1).bind fun Ah => (if Ah = true then (impl_HolesDone.l0 k (([] : List Int)) 0 l0_0 (l0_0.length : Int) 0 l0_0 a0_1) else (some (([] : List Int), false)))) = some (r1, r2) := h
 clear h
 obtain ⟨Ah, A2, H⟩ := bd_ H
 (try dsimp only at H)
 by_cases c3 : Ah = true
 ·subst c3
  rw [if_pos rfl] at H
  obtain ⟨Hv, tv⟩ : ∃ y_ : List Int, y_ = (([] : List Int)) := ⟨_, rfl⟩
  replace H : (impl_HolesDone.l0 k Hv 0 l0_0 (l0_0.length : Int) 0 l0_0 a0_1) = some (r1, r2) := hx_ tv H
  have En := Aside0.mk tv
  clear tv
  have H' := Aside0.mk H
  clear H
  go_enter Try.func33, Try.ntmps33
  go_wp2_with (first | ((with_reducible refine gate_dst (N := 1) rfl ?_); refine bv_ 1 44 #[.slice A0_0 l0_0.length c0_0, .int .i64 a0_1] ?_; intro hF hg w4 hbox hb; refine k4_ (below_step (Z5) hb) (hbox) ((Z38 : w.heap.size ≤ hF)) ((Z38 : w.heap.size ≤ hF)) ?_; clear HB; intro HB ex GW632 yS; clear hb hbox hg; obtain ⟨nU, nV, px, nW⟩ := bx2_ (w := w4) ex.out) | ((with_reducible refine gate_callee (f := 41) rfl ?_); refine gl_ 11 Try.func41 #[.agg #[.slice A0_0 l0_0.length c0_0, .int .i64 a0_1]] ?_; (with_reducible refine (impl_IsPunchJob.calls k _ _ l0_0 a0_1 true _ ?_ ?_ A2.out).mono ?_); exact (Z15 HR0_0); exact HC0_0.out; rintro e w6 ⟨rfl, hb⟩; refine ⟨_, rfl, ?_⟩; refine k2_ (Ye_ ex) (below_step (Z89) hb) ?_; clear ex HB; intro ex HB; (try clear hb)) | ((with_reducible refine gate_dst (N := 13) rfl ?_); refine Kd.R_lit (Kd.int .i64) _ 3 ?hg (N := 13) ?hd (xs := ([] : List Int)) (inner := []) (ok := fun _ => True) (okp := fun _ => True) ?hr ?hp (fun _ hk => hk) trivial (Below.refl _ _) (Nat.le_refl _) (by simp) ?_; (case hd => rfl); (case hg => rfl); (case hr => exact Z110); (case hp => exact (Reps.none _ _)); intro v635 w7 ho8 hb hg_ hnew_; clear hg_ hnew_; (first | rw [← En.out] at ho8 | (simp only [Int.reduceToNat] at ho8; rw [← En.out] at ho8)); refine k3_ (Kd.R_lower ho8 (below_size (Z89))) (Ye_ ex) (below_step (Z89) hb) ?_; clear ex HB; intro HO636 ex HB; clear hb ho8; obtain ⟨iO, jj, jk, jl⟩ := bx2_ (w := w7) ex.out))
  (try simp only [Act.put, List.setIfInBounds_toArray, List.set_cons_zero, List.set_cons_succ])
  go_loopg [4, 5, 17] k (fun kq v4 v5 v17 w' => ∃ (aX : List Int) (aY : Int) (dH : Int), v5 = .int .i64 aY ∧ v17 = .int .i64 dH ∧ Aside0 (impl_HolesDone.l0 kq aX aY l0_0 (l0_0.length : Int) dH l0_0 a0_1 = some (r1, r2)) ∧ Aside0 (kq ≤ k) ∧ Aside0 (Kd.R (Kd.int .i64) 3 w' w.heap.size (fun _ => True) v4 aX) ∧ Aside0 (w'.heap[hF]? = some (.cells #[(.slice A0_0 l0_0.length c0_0), .int .i64 a0_1] 44 (0, 0))) ∧ Aside0 (Below w.heap.size w w'))
  case atStart => exact ⟨(Hv), (0), (0), (Z41), (Z41), H', ⟨Nat.le_refl _⟩, ⟨Z2 HO636⟩, ⟨Z1 ex⟩, ⟨Z89⟩⟩
  case round =>
   clear H'
   (try clear p2); (try clear c3); (try clear c4); (try clear nU); (try clear nV); (try clear iO); (try clear jj); (try clear px); (try clear nW); (try clear jk); (try clear jl)
   obtain ⟨aX, aY, dH, rfl, rfl, HA, HK1, aJ, ex, HB⟩ := hrel
   cases gk with
   | zero => exact absurd HA.out (by simp [impl_HolesDone.l0])
   | succ k1 =>
    have H := HA.out
    clear HA
    simp only [impl_HolesDone.l0] at H
    by_cases c10 : dH < (l0_0.length : Int)
    ·rw [if_pos c10] at H
     have ga : decide (dH < (l0_0.length : Int)) = true := decide_eq_true c10
     clear c10
     by_cases c11 : 0 ≤ dH
     case neg => rw [if_neg c11] at H; exact absurd H (by simp)
     rw [if_pos c11] at H
     have iY : decide (0 ≤ dH) = true := decide_eq_true c11
     clear c11
     by_cases c12 : dH < (l0_0.length : Int)
     case neg => rw [if_neg c12] at H; exact absurd H (by simp)
     rw [if_pos c12] at H
     have na : decide (dH < (l0_0.length : Int)) = true := decide_eq_true c12
     clear c12
     obtain ⟨⟨tw, Hw⟩, I1, H⟩ := bd_ H
     (try dsimp only at H)
     by_cases c14 : (wrap64 (aY + (tw.length : Int))) ≤ a0_1
     ·rw [if_pos c14] at H
      have qM : decide ((wrap64 (aY + (tw.length : Int))) ≤ a0_1) = true := decide_eq_true c14
      clear c14
      by_cases c15 : aX.length < 17592186044416
      case neg => rw [if_neg c15] at H; exact absurd H (by simp)
      rw [if_pos c15] at H
      have LMc15 := Aside0.mk c15
      clear c15
      obtain ⟨Hx, tx⟩ : ∃ y_ : List Int, y_ = (aX ++ [dH]) := ⟨_, rfl⟩
      replace H : (impl_HolesDone.l0 k1 Hx (wrap64 (aY + (tw.length : Int))) l0_0 (l0_0.length : Int) (wrap64 (dH + 1)) l0_0 a0_1) = some (r1, r2) := hx_ tx H
      have Ny643 := Aside0.mk tx
      clear tx
      have H' := Aside0.mk H
      clear H
      have vl : 0 ≤ (dH : Int) := of_decide_eq_true (Z21)
      have vm : dH < (l0_0.length : Int) := of_decide_eq_true (Z21)
      obtain ⟨qI, e637, jv, jw, jx⟩ := at_T90 HR0_0.out dH vl vm
      cases e637
      replace jv := (HB.out.cell (World.block_lt_of_cell? w _ jv)).trans jv
      replace jw := (HB.out.cell (World.block_lt_of_cell? w _ jw)).trans jw
      replace jx := (HB.out.cell (World.block_lt_of_cell? w _ jx)).trans jx
      replace vl := eq_true vl
      replace vm := eq_true vm
      go_wp2_with (first | ((with_reducible refine gate_dst (N := 7) rfl ?_); refine bv_ 7 90 #[.int .i64 0, .int .i64 0, .int .i64 0] ?_; intro hL hg mT hbox hb; refine k8_ (Ya_ aJ) (Ye_ ex) (below_step (Z89) hb) (hbox) ((by rw [hg]; exact (below_size (Z89)) : w.heap.size ≤ hL)) ((by rw [hg]; exact (below_size (Z89)) : w.heap.size ≤ hL)) ((Z253 : hF ≠ hL)) ((Z254 : hL ≠ hF)) ?_; clear aJ ex HB; intro aJ ex HB iX GW638 DA g9 nZ; clear hb hbox hg; have hnb17 := nZ.out; have hnc17 := g9.out; obtain ⟨wG, wH, hcz18_2, wI, wJ, hfz18_2⟩ := bx3_ (w := mT) iX.out) | ((with_reducible refine gate_callee (f := 77) rfl ?_); refine gl_ 24 Try.func77 #[.agg #[.int .i64 ((rd_T90 l0_0 dH).f0), .int .i64 ((rd_T90 l0_0 dH).f1), .int .i64 ((rd_T90 l0_0 dH).f2)]] ?_; (with_reducible refine (impl_holeStrokes.calls k1 ((rd_T90 l0_0 dH).f0) ((rd_T90 l0_0 dH).f1) ((rd_T90 l0_0 dH).f2) tw Hw _ I1.out).mono ?_); rintro e yZ ⟨v640, rfl, ho0, hb⟩; refine ⟨_, rfl, ?_⟩; refine k5_ (Kd.R_below (Z187) hb) (Kd.R_lower ho0 (below_size (Z116))) (blk_below (g := hF) (o := .cells #[.slice (some qI) l0_0.length c0_0, .int .i64 a0_1] 44 (0, 0)) (Z173) hb) (blk_below (g := hL) (o := .cells #[.int .i64 ((rd_T90 l0_0 dH).f0), .int .i64 ((rd_T90 l0_0 dH).f1), .int .i64 ((rd_T90 l0_0 dH).f2)] 90 (0, 0)) (Z160) hb) (below_step (Z116) hb) ?_; clear aJ ex iX HB; intro aJ qY ex iX HB; (try clear hb ho0); obtain ⟨GV, GW, zk⟩ := Kd.R_slice qY.out; subst zk; obtain ⟨m6, m7, m8, m9⟩ := bx2_ (w := yZ) ex.out) | ((with_reducible refine gate_builtin (b := .append) (xs := #[.tmp 35, .tmp 37]) rfl ?_); at_builtin; refine Kd.R_append (Kd.int .i64) (w0 := w) w.heap.size rfl (.tmp 35) (.tmp 37) 53 3 (.int .i64 0) 8 rfl Try.underlying53 info3 rfl (by decide) (by omega) u4 aX dH [.int .i64 dH] (fun _ => True) (fun _ => False) rfl rfl ?aP (fun _ hk => hk.elim) ?aF ?aO ?aB ?aS ?aL ?_; (case aP => exact rfl); (case aB => exact Z116); (case aF => exact (fun _ _ => trivial)); (case aO => exact (Z2 aJ)); (case aS => exact (below_size (Z116))); (case aL => exact Z182 LMc15); intro v644 iU ho hb hg hat; rw [← Ny643.out] at ho; refine k5_ (blk_grown (g := hF) (o := .cells #[.slice (some qI) l0_0.length c0_0, .int .i64 a0_1] 44 (0, 0)) (Z1 ex) hg (Kd.R_ne aJ.out ex.out (by decide))) (blk_grown (g := hL) (o := .cells #[.int .i64 ((rd_T90 l0_0 dH).f0), .int .i64 ((rd_T90 l0_0 dH).f1), .int .i64 ((rd_T90 l0_0 dH).f2)] 90 (0, 0)) (Z1 iX) hg (Kd.R_ne aJ.out iX.out (by decide))) (Kd.R_over' (Z2 qY) (Kd.R_typed (Z2 aJ)) (by decide) hg) (hb) (ho) ?_; clear ex iX qY HB aJ; intro ex iX qY HB HO645; clear ho hb hg hat))
      go_roundg k1
      case measure => have := HK1.out; omega
      case rel => exact ⟨(Hx), (wrap64 (aY + (tw.length : Int))), (wrap64 (dH + 1)), (Z41), (Z41), H', ⟨Z182 HK1⟩, ⟨Z2 HO645⟩, ⟨Z1 ex⟩, ⟨Z116⟩⟩
     rw [if_neg c14] at H
     have qM : decide ((wrap64 (aY + (tw.length : Int))) ≤ a0_1) = false := decide_eq_false c14
     clear c14
     have H' := Aside0.mk H
     clear H
     have vl : 0 ≤ (dH : Int) := of_decide_eq_true (Z21)
     have vm : dH < (l0_0.length : Int) := of_decide_eq_true (Z21)
     obtain ⟨qI, e637, jv, jw, jx⟩ := at_T90 HR0_0.out dH vl vm
     cases e637
     replace jv := (HB.out.cell (World.block_lt_of_cell? w _ jv)).trans jv
     replace jw := (HB.out.cell (World.block_lt_of_cell? w _ jw)).trans jw
     replace jx := (HB.out.cell (World.block_lt_of_cell? w _ jx)).trans jx
     replace vl := eq_true vl
     replace vm := eq_true vm
     go_wp2_with (first | ((with_reducible refine gate_dst (N := 7) rfl ?_); refine bv_ 7 90 #[.int .i64 0, .int .i64 0, .int .i64 0] ?_; intro hL hg st hbox hb; refine k8_ (Ya_ aJ) (Ye_ ex) (below_step (Z89) hb) (hbox) ((by rw [hg]; exact (below_size (Z89)) : w.heap.size ≤ hL)) ((by rw [hg]; exact (below_size (Z89)) : w.heap.size ≤ hL)) ((Z253 : hF ≠ hL)) ((Z254 : hL ≠ hF)) ?_; clear aJ ex HB; intro aJ ex HB iX GW638 DA g9 nZ; clear hb hbox hg; have hnb24 := nZ.out; have hnc24 := g9.out; obtain ⟨oX, oY, hcz25_2, oZ, o0, hfz25_2⟩ := bx3_ (w := st) iX.out) | ((with_reducible refine gate_callee (f := 77) rfl ?_); refine gl_ 24 Try.func77 #[.agg #[.int .i64 ((rd_T90 l0_0 dH).f0), .int .i64 ((rd_T90 l0_0 dH).f1), .int .i64 ((rd_T90 l0_0 dH).f2)]] ?_; (with_reducible refine (impl_holeStrokes.calls k1 ((rd_T90 l0_0 dH).f0) ((rd_T90 l0_0 dH).f1) ((rd_T90 l0_0 dH).f2) tw Hw _ I1.out).mono ?_); rintro e D3 ⟨v640, rfl, ho0, hb⟩; refine ⟨_, rfl, ?_⟩; refine k5_ (Kd.R_below (Z187) hb) (Kd.R_lower ho0 (below_size (Z116))) (blk_below (g := hF) (o := .cells #[.slice (some qI) l0_0.length c0_0, .int .i64 a0_1] 44 (0, 0)) (Z173) hb) (blk_below (g := hL) (o := .cells #[.int .i64 ((rd_T90 l0_0 dH).f0), .int .i64 ((rd_T90 l0_0 dH).f1), .int .i64 ((rd_T90 l0_0 dH).f2)] 90 (0, 0)) (Z160) hb) (below_step (Z116) hb) ?_; clear aJ ex iX HB; intro aJ qY ex iX HB; (try clear hb ho0); obtain ⟨bN, bL, rp⟩ := Kd.R_slice qY.out; subst rp; obtain ⟨wX, wY, wZ, xa⟩ := bx2_ (w := D3) ex.out))
     go_roundg k1
     case measure => have := HK1.out; omega
     case rel => exact ⟨(aX), (wrap64 (aY + (tw.length : Int))), (wrap64 (dH + 1)), (Z41), (Z41), H', ⟨Z182 HK1⟩, ⟨Z2 aJ⟩, ⟨Z1 ex⟩, ⟨Z116⟩⟩
    rw [if_neg c10] at H
    have ga : decide (dH < (l0_0.length : Int)) = false := decide_eq_false c10
    clear c10
    simp only [Option.some.injEq, Prod.mk.injEq] at H
    obtain ⟨rfl, rfl⟩ := H
    go_wp2
    go_ret2
    exact ⟨_, Z11, Z2 aJ, Z89⟩
 replace c3 := Bool.eq_false_iff.mpr c3
 subst c3
 rw [if_neg (show ¬ (false = true) by decide)] at H
 simp only [Option.some.injEq, Prod.mk.injEq] at H
 obtain ⟨rfl, rfl⟩ := H
 go_enter Try.func33, Try.ntmps33
 go_wp2_with (first | ((with_reducible refine gate_dst (N := 1) rfl ?_); refine bv_ 1 44 #[.slice A0_0 l0_0.length c0_0, .int .i64 a0_1] ?_; intro hF hg IX hbox hb; refine k4_ (below_step (Z5) hb) (hbox) ((Z38 : w.heap.size ≤ hF)) ((Z38 : w.heap.size ≤ hF)) ?_; clear HB; intro HB ex GW632 yS; clear hb hbox hg; obtain ⟨nb, nc, ne, nf⟩ := bx2_ (w := IX) ex.out) | ((with_reducible refine gate_callee (f := 41) rfl ?_); refine gl_ 11 Try.func41 #[.agg #[.slice A0_0 l0_0.length c0_0, .int .i64 a0_1]] ?_; (with_reducible refine (impl_IsPunchJob.calls k _ _ l0_0 a0_1 false _ ?_ ?_ A2.out).mono ?_); exact (Z15 HR0_0); exact HC0_0.out; rintro e GY ⟨rfl, hb⟩; refine ⟨_, rfl, ?_⟩; refine k2_ (Ye_ ex) (below_step (Z89) hb) ?_; clear ex HB; intro ex HB; (try clear hb)))
 go_ret2
 exact ⟨_, Z11, Z44, Z89⟩

/-! ### spec_HolesDone: function 34 -/
def spec_HolesDone.l0 : Nat → List Int → Int → List (S90) → Int → Int → List (S90) → Int → Option (List Int × Bool)
 | 0, _, _, _, _, _, _, _ => none
 | k + 1, x6, x7, x18, x19, x20, xm, rt => if x20 < x19 then (if 0 ≤ x20 then (if x20 < (x18.length : Int) then ((spec_puHole.f k ((rd_T90 x18 x20).f0) ((rd_T90 x18 x20).f1) ((rd_T90 x18 x20).f2)).bind fun oD => (if (wrap64 (x7 + (oD.length : Int))) ≤ rt then (if x6.length < 17592186044416 then (spec_HolesDone.l0 k (x6 ++ [x20]) (wrap64 (x7 + (oD.length : Int))) x18 x19 (wrap64 (x20 + 1)) xm rt) else (none)) else (spec_HolesDone.l0 k x6 (wrap64 (x7 + (oD.length : Int))) x18 x19 (wrap64 (x20 + 1)) xm rt))) else (none)) else (none)) else (some (x6, true))
def spec_HolesDone.f (k : Nat) (l0_0 : List (S90)) (a0_1 : Int) : Option (List Int × Bool) := (spec_jbStrokes.f k l0_0 a0_1).bind fun Aj => (if Aj.2 = true then (spec_HolesDone.l0 k ([] : List Int) 0 l0_0 (l0_0.length : Int) 0 l0_0 a0_1) else (some (([] : List Int), false)))
theorem spec_HolesDone.mono_l : ∀ k, (∀ y0 y1 y2 y3 y4 y5 y6, LeO (spec_HolesDone.l0 k y0 y1 y2 y3 y4 y5 y6) (spec_HolesDone.l0 (k + 1) y0 y1 y2 y3 y4 y5 y6))
 | 0 => fun _ _ _ _ _ _ _ r h => by simp [spec_HolesDone.l0] at h
 | k + 1 => by
  have ih0 := spec_HolesDone.mono_l k
  ·intro y0 y1 y2 y3 y4 y5 y6
   unfold spec_HolesDone.l0
   exact mo16_
theorem spec_HolesDone.mono : ∀ a0 a1 k, LeO (spec_HolesDone.f k a0 a1) (spec_HolesDone.f (k + 1) a0 a1) := by
 intro a0 a1 k
 have ih0 := spec_HolesDone.mono_l k
 unfold spec_HolesDone.f
 exact mo16_
set_option maxHeartbeats 8000000 in
set_option maxRecDepth 100000 in
theorem spec_HolesDone.calls (k : Nat) (A0_0 : Option Addr) (c0_0 : Nat) (l0_0 : List (S90)) (a0_1 : Int) (r1 : List Int) (r2 : Bool) (w : World) (hr0_0 : Kd.C k90 w A0_0 l0_0.length l0_0) (hc0_0 : l0_0.length ≤ c0_0) (h : spec_HolesDone.f k l0_0 a0_1 = some (r1, r2)) :
  Calls Try.prog 34 #[.agg #[.slice A0_0 l0_0.length c0_0, .int .i64 a0_1]] w fun e w' => ∃ v0_ : Value, e = .returned (.tuple #[v0_, .bool r2]) ∧ Kd.R (Kd.int .i64) 3 w' w.heap.size (fun _ => True) v0_ r1 ∧ Below w.heap.size w w' := by
 have hu44 := Try.underlying44
 have hu90 := Try.underlying90
 have HR0_0 := Aside0.mk hr0_0
 have HC0_0 := Aside0.mk hc0_0
 clear hr0_0 hc0_0
 have HB := Aside0.mk (Below.refl w.heap.size w)
 have H : ((spec_jbStrokes.f k l0_0 a0_1).bind fun Aj => (if Aj.2 = true then (spec_HolesDone.l0 k ([] : List Int) 0 l0_0 (l0_0.length : Int) 0 l0_0 a0_1) else (some (([] : List Int), false)))) = some (r1, r2) := h
 clear h
 obtain ⟨⟨Hy, t650⟩, A2, H⟩ := bd_ H
 (try dsimp only at H)
 by_cases c3 : t650 = true
 ·subst c3
  rw [if_pos rfl] at H
  have H' := Aside0.mk H
  clear H
  go_enter Try.func34, Try.ntmps34
  go_wp2_with (first | ((with_reducible refine gate_dst (N := 1) rfl ?_); refine bv_ 1 44 #[.slice A0_0 l0_0.length c0_0, .int .i64 a0_1] ?_; intro hD hg w4 hbox hb; refine k4_ (below_step (Z5) hb) (hbox) ((Z38 : w.heap.size ≤ hD)) ((Z38 : w.heap.size ≤ hD)) ?_; clear HB; intro HB eI GW646 yR; clear hb hbox hg; obtain ⟨nU, nV, px, nW⟩ := bx2_ (w := w4) eI.out) | ((with_reducible refine gate_callee (f := 68) rfl ?_); refine gl_ 12 Try.func68 #[.agg #[.slice A0_0 l0_0.length c0_0, .int .i64 a0_1]] ?_; (with_reducible refine (spec_jbStrokes.calls k _ _ l0_0 a0_1 Hy true _ ?_ ?_ A2.out).mono ?_); exact (Z15 HR0_0); exact HC0_0.out; rintro e w6 ⟨v648, rfl, ho0, hb⟩; refine ⟨_, rfl, ?_⟩; refine k3_ (Kd.R_lower ho0 (below_size (Z90))) (Ye_ eI) (below_step (Z90) hb) ?_; clear eI HB; intro HO649 eI HB; (try clear hb ho0); obtain ⟨mw, my, mz, mA⟩ := bx2_ (w := w6) eI.out))
  (try simp only [Act.put, List.setIfInBounds_toArray, List.set_cons_zero, List.set_cons_succ])
  go_loopg [6, 7, 20] k (fun kq v6 v7 v20 w' => ∃ (gp : List Int) (ft : Int) (dG : Int), v7 = .int .i64 ft ∧ v20 = .int .i64 dG ∧ Aside0 (spec_HolesDone.l0 kq gp ft l0_0 (l0_0.length : Int) dG l0_0 a0_1 = some (r1, r2)) ∧ Aside0 (kq ≤ k) ∧ Aside0 (Kd.R (Kd.int .i64) 3 w' w.heap.size (fun _ => True) v6 gp) ∧ Aside0 (w'.heap[hD]? = some (.cells #[(.slice A0_0 l0_0.length c0_0), .int .i64 a0_1] 44 (0, 0))) ∧ Aside0 (Below w.heap.size w w'))
  case atStart => exact ⟨(([] : List Int)), (0), (0), (Z41), (Z41), H', ⟨Nat.le_refl _⟩, ⟨Z44⟩, ⟨Z1 eI⟩, ⟨Z90⟩⟩
  case round =>
   clear H'
   (try clear p2); (try clear c3); (try clear c6); (try clear nU); (try clear nV); (try clear mw); (try clear my); (try clear px); (try clear nW); (try clear mz); (try clear mA)
   obtain ⟨gp, ft, dG, rfl, rfl, HA, HK1, fx, eI, HB⟩ := hrel
   cases gk with
   | zero => exact absurd HA.out (by simp [spec_HolesDone.l0])
   | succ k1 =>
    have H := HA.out
    clear HA
    simp only [spec_HolesDone.l0] at H
    by_cases c8 : dG < (l0_0.length : Int)
    ·rw [if_pos c8] at H
     have nY : decide (dG < (l0_0.length : Int)) = true := decide_eq_true c8
     clear c8
     by_cases c9 : 0 ≤ dG
     case neg => rw [if_neg c9] at H; exact absurd H (by simp)
     rw [if_pos c9] at H
     have qy : decide (0 ≤ dG) = true := decide_eq_true c9
     clear c9
     by_cases c10 : dG < (l0_0.length : Int)
     case neg => rw [if_neg c10] at H; exact absurd H (by simp)
     rw [if_pos c10] at H
     have ga : decide (dG < (l0_0.length : Int)) = true := decide_eq_true c10
     clear c10
     obtain ⟨oD, GK, H⟩ := bd_ H
     (try dsimp only at H)
     by_cases c12 : (wrap64 (ft + (oD.length : Int))) ≤ a0_1
     ·rw [if_pos c12] at H
      have na : decide ((wrap64 (ft + (oD.length : Int))) ≤ a0_1) = true := decide_eq_true c12
      clear c12
      by_cases c13 : gp.length < 17592186044416
      case neg => rw [if_neg c13] at H; exact absurd H (by simp)
      rw [if_pos c13] at H
      have tz := Aside0.mk c13
      clear c13
      obtain ⟨Hz, tA⟩ : ∃ y_ : List Int, y_ = (gp ++ [dG]) := ⟨_, rfl⟩
      replace H : (spec_HolesDone.l0 k1 Hz (wrap64 (ft + (oD.length : Int))) l0_0 (l0_0.length : Int) (wrap64 (dG + 1)) l0_0 a0_1) = some (r1, r2) := hx_ tA H
      have Ny656 := Aside0.mk tA
      clear tA
      have H' := Aside0.mk H
      clear H
      have vn : 0 ≤ (dG : Int) := of_decide_eq_true (Z21)
      have vo : dG < (l0_0.length : Int) := of_decide_eq_true (Z21)
      obtain ⟨qH, e651, jy, jz, jA⟩ := at_T90 HR0_0.out dG vn vo
      cases e651
      replace jy := (HB.out.cell (World.block_lt_of_cell? w _ jy)).trans jy
      replace jz := (HB.out.cell (World.block_lt_of_cell? w _ jz)).trans jz
      replace jA := (HB.out.cell (World.block_lt_of_cell? w _ jA)).trans jA
      replace vn := eq_true vn
      replace vo := eq_true vo
      go_wp2_with (first | ((with_reducible refine gate_dst (N := 9) rfl ?_); refine bv_ 9 90 #[.int .i64 0, .int .i64 0, .int .i64 0] ?_; intro hJ hg oC hbox hb; refine k8_ (Ya_ fx) (Ye_ eI) (below_step (Z90) hb) (hbox) ((by rw [hg]; exact (below_size (Z90)) : w.heap.size ≤ hJ)) ((by rw [hg]; exact (below_size (Z90)) : w.heap.size ≤ hJ)) ((Z255 : hD ≠ hJ)) ((Z256 : hJ ≠ hD)) ?_; clear fx eI HB; intro fx eI HB iW GW652 Dz g8 n0; clear hb hbox hg; have hnb15 := n0.out; have hnc15 := g8.out; obtain ⟨mV, mW, hcz16_2, mX, mY, hfz16_2⟩ := bx3_ (w := oC) iW.out) | ((with_reducible refine gate_callee (f := 78) rfl ?_); refine gl_ 27 Try.func78 #[.agg #[.int .i64 ((rd_T90 l0_0 dG).f0), .int .i64 ((rd_T90 l0_0 dG).f1), .int .i64 ((rd_T90 l0_0 dG).f2)]] ?_; (with_reducible refine (spec_puHole.calls k1 ((rd_T90 l0_0 dG).f0) ((rd_T90 l0_0 dG).f1) ((rd_T90 l0_0 dG).f2) oD _ GK.out).mono ?_); rintro e ws ⟨v654, rfl, ho0, hb⟩; refine ⟨_, rfl, ?_⟩; refine k5_ (Kd.R_below (Z188) hb) (Kd.R_lower ho0 (below_size (Z117))) (blk_below (g := hD) (o := .cells #[.slice (some qH) l0_0.length c0_0, .int .i64 a0_1] 44 (0, 0)) (Z174) hb) (blk_below (g := hJ) (o := .cells #[.int .i64 ((rd_T90 l0_0 dG).f0), .int .i64 ((rd_T90 l0_0 dG).f1), .int .i64 ((rd_T90 l0_0 dG).f2)] 90 (0, 0)) (Z161) hb) (below_step (Z117) hb) ?_; clear fx eI iW HB; intro fx qZ eI iW HB; (try clear hb ho0); obtain ⟨ru, rv, pV⟩ := Kd.R_slice qZ.out; subst pV; obtain ⟨gX, gY, gZ, g0⟩ := bx2_ (w := ws) eI.out) | ((with_reducible refine gate_builtin (b := .append) (xs := #[.tmp 34, .tmp 36]) rfl ?_); at_builtin; refine Kd.R_append (Kd.int .i64) (w0 := w) w.heap.size rfl (.tmp 34) (.tmp 36) 53 3 (.int .i64 0) 8 rfl Try.underlying53 info3 rfl (by decide) (by omega) u6 gp dG [.int .i64 dG] (fun _ => True) (fun _ => False) rfl rfl ?aP (fun _ hk => hk.elim) ?aF ?aO ?aB ?aS ?aL ?_; (case aP => exact rfl); (case aB => exact Z117); (case aF => exact (fun _ _ => trivial)); (case aO => exact (Z2 fx)); (case aS => exact (below_size (Z117))); (case aL => exact Z182 tz); intro v657 ss ho hb hg hat; rw [← Ny656.out] at ho; refine k5_ (blk_grown (g := hD) (o := .cells #[.slice (some qH) l0_0.length c0_0, .int .i64 a0_1] 44 (0, 0)) (Z1 eI) hg (Kd.R_ne fx.out eI.out (by decide))) (blk_grown (g := hJ) (o := .cells #[.int .i64 ((rd_T90 l0_0 dG).f0), .int .i64 ((rd_T90 l0_0 dG).f1), .int .i64 ((rd_T90 l0_0 dG).f2)] 90 (0, 0)) (Z1 iW) hg (Kd.R_ne fx.out iW.out (by decide))) (Kd.R_over' (Z2 qZ) (Kd.R_typed (Z2 fx)) (by decide) hg) (hb) (ho) ?_; clear eI iW qZ HB fx; intro eI iW qZ HB HO658; clear ho hb hg hat))
      go_roundg k1
      case measure => have := HK1.out; omega
      case rel => exact ⟨(Hz), (wrap64 (ft + (oD.length : Int))), (wrap64 (dG + 1)), (Z41), (Z41), H', ⟨Z182 HK1⟩, ⟨Z2 HO658⟩, ⟨Z1 eI⟩, ⟨Z117⟩⟩
     rw [if_neg c12] at H
     have na : decide ((wrap64 (ft + (oD.length : Int))) ≤ a0_1) = false := decide_eq_false c12
     clear c12
     have H' := Aside0.mk H
     clear H
     have vn : 0 ≤ (dG : Int) := of_decide_eq_true (Z21)
     have vo : dG < (l0_0.length : Int) := of_decide_eq_true (Z21)
     obtain ⟨qH, e651, jy, jz, jA⟩ := at_T90 HR0_0.out dG vn vo
     cases e651
     replace jy := (HB.out.cell (World.block_lt_of_cell? w _ jy)).trans jy
     replace jz := (HB.out.cell (World.block_lt_of_cell? w _ jz)).trans jz
     replace jA := (HB.out.cell (World.block_lt_of_cell? w _ jA)).trans jA
     replace vn := eq_true vn
     replace vo := eq_true vo
     go_wp2_with (first | ((with_reducible refine gate_dst (N := 9) rfl ?_); refine bv_ 9 90 #[.int .i64 0, .int .i64 0, .int .i64 0] ?_; intro hJ hg DD hbox hb; refine k8_ (Ya_ fx) (Ye_ eI) (below_step (Z90) hb) (hbox) ((by rw [hg]; exact (below_size (Z90)) : w.heap.size ≤ hJ)) ((by rw [hg]; exact (below_size (Z90)) : w.heap.size ≤ hJ)) ((Z255 : hD ≠ hJ)) ((Z256 : hJ ≠ hD)) ?_; clear fx eI HB; intro fx eI HB iW GW652 Dz g8 n0; clear hb hbox hg; have hnb22 := n0.out; have hnc22 := g8.out; obtain ⟨g1, g2, hcz23_2, g3, g4, hfz23_2⟩ := bx3_ (w := DD) iW.out) | ((with_reducible refine gate_callee (f := 78) rfl ?_); refine gl_ 27 Try.func78 #[.agg #[.int .i64 ((rd_T90 l0_0 dG).f0), .int .i64 ((rd_T90 l0_0 dG).f1), .int .i64 ((rd_T90 l0_0 dG).f2)]] ?_; (with_reducible refine (spec_puHole.calls k1 ((rd_T90 l0_0 dG).f0) ((rd_T90 l0_0 dG).f1) ((rd_T90 l0_0 dG).f2) oD _ GK.out).mono ?_); rintro e fE ⟨v654, rfl, ho0, hb⟩; refine ⟨_, rfl, ?_⟩; refine k5_ (Kd.R_below (Z188) hb) (Kd.R_lower ho0 (below_size (Z117))) (blk_below (g := hD) (o := .cells #[.slice (some qH) l0_0.length c0_0, .int .i64 a0_1] 44 (0, 0)) (Z174) hb) (blk_below (g := hJ) (o := .cells #[.int .i64 ((rd_T90 l0_0 dG).f0), .int .i64 ((rd_T90 l0_0 dG).f1), .int .i64 ((rd_T90 l0_0 dG).f2)] 90 (0, 0)) (Z161) hb) (below_step (Z117) hb) ?_; clear fx eI iW HB; intro fx qZ eI iW HB; (try clear hb ho0); obtain ⟨Ao25, co25, eo25⟩ := Kd.R_slice qZ.out; subst eo25; obtain ⟨jp, jq, jr, js⟩ := bx2_ (w := fE) eI.out))
     go_roundg k1
     case measure => have := HK1.out; omega
     case rel => exact ⟨(gp), (wrap64 (ft + (oD.length : Int))), (wrap64 (dG + 1)), (Z41), (Z41), H', ⟨Z182 HK1⟩, ⟨Z2 fx⟩, ⟨Z1 eI⟩, ⟨Z117⟩⟩
    rw [if_neg c8] at H
    have nY : decide (dG < (l0_0.length : Int)) = false := decide_eq_false c8
    clear c8
    simp only [Option.some.injEq, Prod.mk.injEq] at H
    obtain ⟨rfl, rfl⟩ := H
    go_wp2
    go_ret2
    exact ⟨_, Z11, Z2 fx, Z90⟩
 replace c3 := Bool.eq_false_iff.mpr c3
 subst c3
 rw [if_neg (show ¬ (false = true) by decide)] at H
 simp only [Option.some.injEq, Prod.mk.injEq] at H
 obtain ⟨rfl, rfl⟩ := H
 go_enter Try.func34, Try.ntmps34
 go_wp2_with (first | ((with_reducible refine gate_dst (N := 1) rfl ?_); refine bv_ 1 44 #[.slice A0_0 l0_0.length c0_0, .int .i64 a0_1] ?_; intro hD hg IW hbox hb; refine k4_ (below_step (Z5) hb) (hbox) ((Z38 : w.heap.size ≤ hD)) ((Z38 : w.heap.size ≤ hD)) ?_; clear HB; intro HB eI GW646 yR; clear hb hbox hg; obtain ⟨wX, wY, wZ, xa⟩ := bx2_ (w := IW) eI.out) | ((with_reducible refine gate_callee (f := 68) rfl ?_); refine gl_ 12 Try.func68 #[.agg #[.slice A0_0 l0_0.length c0_0, .int .i64 a0_1]] ?_; (with_reducible refine (spec_jbStrokes.calls k _ _ l0_0 a0_1 Hy false _ ?_ ?_ A2.out).mono ?_); exact (Z15 HR0_0); exact HC0_0.out; rintro e IX ⟨v648, rfl, ho0, hb⟩; refine ⟨_, rfl, ?_⟩; refine k3_ (Kd.R_lower ho0 (below_size (Z90))) (Ye_ eI) (below_step (Z90) hb) ?_; clear eI HB; intro HO649 eI HB; (try clear hb ho0)))
 go_ret2
 exact ⟨_, Z11, Z44, Z90⟩

/-! ### spec_DrawNewPunchJob: function 35 -/
def spec_DrawNewPunchJob.f (k : Nat) (l0 : List Int) : Option ((List (S90))) := (spec_l1Cur_one.f l0 0 0 3).bind fun lp => (if lp.1 = true then ((spec_l1Cur_anySheet.f k l0 lp.2.1 lp.2.2).bind fun Ak => (some Ak.1)) else ((spec_l1Cur_madeSheet.f k l0 lp.2.1 lp.2.2).bind fun Al => (some Al.1)))
theorem spec_DrawNewPunchJob.mono : ∀ a0 k, LeO (spec_DrawNewPunchJob.f k a0) (spec_DrawNewPunchJob.f (k + 1) a0) := by
 intro a0 k
 unfold spec_DrawNewPunchJob.f
 exact mo16_
set_option maxHeartbeats 8000000 in
set_option maxRecDepth 100000 in
theorem spec_DrawNewPunchJob.calls (k : Nat) (A0 : Option Addr) (c0 : Nat) (l0 : List Int) (r : List (S90)) (w : World) (hr0 : Kd.C (Kd.int .u8) w A0 l0.length l0) (hc0 : l0.length ≤ c0) (h : spec_DrawNewPunchJob.f k l0 = some r) :
  Calls Try.prog 35 #[.slice A0 l0.length c0] w fun e w' => ∃ v0_ : Value, e = .returned (v0_) ∧ Kd.R k90 90 w' w.heap.size (fun _ => True) v0_ r ∧ Below w.heap.size w w' := by
 have hu69 := Try.underlying69
 have HR0 := Aside0.mk hr0
 have HC0 := Aside0.mk hc0
 clear hr0 hc0
 have HB := Aside0.mk (Below.refl w.heap.size w)
 have H : ((spec_l1Cur_one.f l0 0 0 3).bind fun lp => (if lp.1 = true then ((spec_l1Cur_anySheet.f k l0 lp.2.1 lp.2.2).bind fun Ak => (some Ak.1)) else ((spec_l1Cur_madeSheet.f k l0 lp.2.1 lp.2.2).bind fun Al => (some Al.1)))) = some r := h
 clear h
 obtain ⟨⟨t660, CB, CC⟩, A2, H⟩ := bd_ H
 (try dsimp only at H)
 by_cases c3 : t660 = true
 ·subst c3
  rw [if_pos rfl] at H
  obtain ⟨⟨HD, t666, t667⟩, A4, H⟩ := bd_ H
  replace H : (some HD) = some r := H
  obtain rfl := Option.some.inj H
  go_enter Try.func35, Try.ntmps35
  go_wp2_with (first | ((with_reducible refine gate_dst (N := 6) rfl ?_); refine bv_ 6 69 #[.slice A0 l0.length c0, .int .i64 0, .int .u64 0] ?_; intro ic hg w5 hbox hb; refine k4_ (below_step (Z5) hb) ((show IsS69 w w5 ic l0 0 0 from ⟨_, _, hbox, (Z38), HR0.out⟩)) ((Z38 : w.heap.size ≤ ic)) ((Z38 : w.heap.size ≤ ic)) ?_; clear HB; intro HB HI659 GW659 GE659; clear hb hbox hg) | ((with_reducible refine gate_callee (f := 79) rfl ?_); refine gl_ 8 Try.func79 #[.pointer (some ⟨ic, 0, none⟩), .int .i64 3] ?_; (with_reducible refine (spec_l1Cur_one.calls ic l0 0 0 3 true CB CC w _ ?_ ?_ A2.out).mono ?_); exact (Z8 HI659); exact Z130; rintro e w6 ⟨rfl, hi, hb, hk⟩; refine ⟨_, rfl, ?_⟩; refine k2_ (hb) (hi) ?_; clear HB HI659; intro HB HI659; (try clear hb hk hi)) | ((with_reducible refine gate_callee (f := 80) rfl ?_); refine gl_ 10 Try.func80 #[.pointer (some ⟨ic, 0, none⟩)] ?_; (with_reducible refine (spec_l1Cur_anySheet.calls k ic l0 CB CC HD t666 t667 w _ ?_ ?_ A4.out).mono ?_); exact (Z8 HI659); exact Z130; rintro e w7 ⟨v664, rfl, ho0, hi, hb, hk⟩; refine ⟨_, rfl, ?_⟩; refine k3_ (Kd.R_lower ho0 (below_size (Z130))) (hb) (hi) ?_; clear HB HI659; intro HO665 HB HI659; (try clear hb hk hi ho0)))
  go_ret
  exact ⟨_, Z11, Z2 HO665, Z130⟩
 replace c3 := Bool.eq_false_iff.mpr c3
 subst c3
 rw [if_neg (show ¬ (false = true) by decide)] at H
 obtain ⟨⟨HE, t671, t672⟩, A8, H⟩ := bd_ H
 replace H : (some HE) = some r := H
 obtain rfl := Option.some.inj H
 go_enter Try.func35, Try.ntmps35
 go_wp2_with (first | ((with_reducible refine gate_dst (N := 6) rfl ?_); refine bv_ 6 69 #[.slice A0 l0.length c0, .int .i64 0, .int .u64 0] ?_; intro ic hg w9 hbox hb; refine k4_ (below_step (Z5) hb) ((show IsS69 w w9 ic l0 0 0 from ⟨_, _, hbox, (Z38), HR0.out⟩)) ((Z38 : w.heap.size ≤ ic)) ((Z38 : w.heap.size ≤ ic)) ?_; clear HB; intro HB HI659 GW659 GE659; clear hb hbox hg) | ((with_reducible refine gate_callee (f := 79) rfl ?_); refine gl_ 8 Try.func79 #[.pointer (some ⟨ic, 0, none⟩), .int .i64 3] ?_; (with_reducible refine (spec_l1Cur_one.calls ic l0 0 0 3 false CB CC w _ ?_ ?_ A2.out).mono ?_); exact (Z8 HI659); exact Z130; rintro e oB ⟨rfl, hi, hb, hk⟩; refine ⟨_, rfl, ?_⟩; refine k2_ (hb) (hi) ?_; clear HB HI659; intro HB HI659; (try clear hb hk hi)) | ((with_reducible refine gate_callee (f := 81) rfl ?_); refine gl_ 12 Try.func81 #[.pointer (some ⟨ic, 0, none⟩)] ?_; (with_reducible refine (spec_l1Cur_madeSheet.calls k ic l0 CB CC HE t671 t672 w _ ?_ ?_ A8.out).mono ?_); exact (Z8 HI659); exact Z130; rintro e mN ⟨v669, rfl, ho0, hi, hb, hk⟩; refine ⟨_, rfl, ?_⟩; refine k3_ (Kd.R_lower ho0 (below_size (Z130))) (hb) (hi) ?_; clear HB HI659; intro HO670 HB HI659; (try clear hb hk hi ho0)))
 go_ret
 exact ⟨_, Z11, Z2 HO670, Z130⟩

/-! ### impl_NewPunchJob: function 36 -/
def impl_NewPunchJob.f (k : Nat) (l0 : List (S90)) : Option ((List (S90)) × Int × Bool) := (impl_IsPunchJob.f k l0 0).bind fun Am => (if Am = true then ((impl_jobAt.f l0 0).bind fun tB => (some (tB.1, tB.2, true))) else (some (([] : List (S90)), 0, false)))
theorem impl_NewPunchJob.mono : ∀ a0 k, LeO (impl_NewPunchJob.f k a0) (impl_NewPunchJob.f (k + 1) a0) := by
 intro a0 k
 unfold impl_NewPunchJob.f
 exact mo16_
set_option maxHeartbeats 8000000 in
set_option maxRecDepth 100000 in
theorem impl_NewPunchJob.calls (k : Nat) (A0 : Option Addr) (c0 : Nat) (l0 : List (S90)) (r1 : List (S90)) (r2 : Int) (r3 : Bool) (w : World) (hr0 : Kd.C k90 w A0 l0.length l0) (hc0 : l0.length ≤ c0) (h : impl_NewPunchJob.f k l0 = some (r1, r2, r3)) :
  Calls Try.prog 36 #[.slice A0 l0.length c0] w fun e w' => ∃ v0_ : Value, e = .returned (.tuple #[.agg #[v0_, .int .i64 r2], .bool r3]) ∧ Kd.R k90 90 w' w.heap.size (fun _ => True) v0_ r1 ∧ Below w.heap.size w w' := by
 have hu44 := Try.underlying44
 have HR0 := Aside0.mk hr0
 have HC0 := Aside0.mk hc0
 clear hr0 hc0
 have HB := Aside0.mk (Below.refl w.heap.size w)
 have H : ((impl_IsPunchJob.f k l0 0).bind fun Am => (if Am = true then ((impl_jobAt.f l0 0).bind fun tB => (some (tB.1, tB.2, true))) else (some (([] : List (S90)), 0, false)))) = some (r1, r2, r3) := h
 clear h
 obtain ⟨Am, A2, H⟩ := bd_ H
 (try dsimp only at H)
 by_cases c3 : Am = true
 ·subst c3
  rw [if_pos rfl] at H
  obtain ⟨⟨CD, FU⟩, A4, H⟩ := bd_ H
  (try dsimp only at H)
  simp only [Option.some.injEq, Prod.mk.injEq] at H
  obtain ⟨rfl, rfl, rfl⟩ := H
  go_enter Try.func36, Try.ntmps36
  go_wp2_with (first | ((with_reducible refine gate_dst (N := 2) rfl ?_); refine bv_ 2 44 #[.slice none 0 0, .int .i64 0] ?_; intro nx hg w5 hbox hb; refine k4_ (below_step (Z5) hb) (hbox) ((Z38 : w.heap.size ≤ nx)) ((Z38 : w.heap.size ≤ nx)) ?_; clear HB; intro HB ig GW673 Dr; clear hb hbox hg) | ((with_reducible refine gate_callee (f := 41) rfl ?_); refine gl_ 6 Try.func41 #[.agg #[.slice A0 l0.length c0, .int .i64 0]] ?_; (with_reducible refine (impl_IsPunchJob.calls k _ _ l0 0 true _ ?_ ?_ A2.out).mono ?_); exact (Z15 HR0); exact HC0.out; rintro e w6 ⟨rfl, hb⟩; refine ⟨_, rfl, ?_⟩; refine k2_ (Ye_ ig) (below_step (Z153) hb) ?_; clear ig HB; intro ig HB; (try clear hb)) | ((with_reducible refine gate_callee (f := 67) rfl ?_); refine gl_ 10 Try.func67 #[.slice A0 l0.length c0, .int .i64 0] ?_; (with_reducible refine (impl_jobAt.calls _ _ l0 0 CD FU _ ?_ ?_ A4.out).mono ?_); exact (Z15 HR0); exact HC0.out; rintro e w7 ⟨v676, rfl, ho0, hb⟩; refine ⟨_, rfl, ?_⟩; refine k3_ (Kd.R_lower ho0 (below_size (Z153))) (Ye_ ig) (below_step (Z153) hb) ?_; clear ig HB; intro Eo ig HB; (try clear hb ho0); obtain ⟨mO, mM, zr⟩ := Kd.R_slice Eo.out; subst zr; obtain ⟨iO, jj, jk, jl⟩ := bx2_ (w := w7) ig.out))
  refine bodyPost_ret (results_ct rfl _ _ nx 44 #[.slice mO CD.length mM, .int .i64 FU] (0, 0) _ rfl (by (with_reducible repeat (first | refine blk_drewN ?_ _ | refine blk_drew ?_ | refine blk_alloc ?_ _)); refine blk_put (cs := #[.slice mO CD.length mM, .int .i64 0]) ?_ 1 _ rfl; (with_reducible repeat (first | refine blk_drewN ?_ _ | refine blk_drew ?_ | refine blk_alloc ?_ _)); refine blk_put (cs := #[.slice none 0 0, .int .i64 0]) ?_ 0 _ rfl; (with_reducible repeat (first | refine blk_drewN ?_ _ | refine blk_drew ?_ | refine blk_alloc ?_ _)); exact ig.out) Try.underlying44 rfl (by kernel_rfl)) rfl ?_
  exact ⟨_, Z11, by (with_reducible repeat (first | apply Kd.R_alloc | apply Kd.R_drewN | apply Kd.R_drew)); exact Kd.R_mono (Kd.R_far (p := ⟨nx, 1, none⟩) (Kd.R_far (p := ⟨nx, 0, none⟩) (Kd.R_types Eo.out ig.out (by decide)) (fun _ hk => hk.2) (.slice mO CD.length mM)) (fun _ hk => hk.2) (.int .i64 FU)) (fun _ hk => trivial), Z153⟩
 replace c3 := Bool.eq_false_iff.mpr c3
 subst c3
 rw [if_neg (show ¬ (false = true) by decide)] at H
 simp only [Option.some.injEq, Prod.mk.injEq] at H
 obtain ⟨rfl, rfl, rfl⟩ := H
 go_enter Try.func36, Try.ntmps36
 go_wp2_with (first | ((with_reducible refine gate_dst (N := 2) rfl ?_); refine bv_ 2 44 #[.slice none 0 0, .int .i64 0] ?_; intro nx hg oB hbox hb; refine k4_ (below_step (Z5) hb) (hbox) ((Z38 : w.heap.size ≤ nx)) ((Z38 : w.heap.size ≤ nx)) ?_; clear HB; intro HB ig GW673 Dr; clear hb hbox hg) | ((with_reducible refine gate_callee (f := 41) rfl ?_); refine gl_ 6 Try.func41 #[.agg #[.slice A0 l0.length c0, .int .i64 0]] ?_; (with_reducible refine (impl_IsPunchJob.calls k _ _ l0 0 false _ ?_ ?_ A2.out).mono ?_); exact (Z15 HR0); exact HC0.out; rintro e mN ⟨rfl, hb⟩; refine ⟨_, rfl, ?_⟩; refine k2_ (Ye_ ig) (below_step (Z153) hb) ?_; clear ig HB; intro ig HB; (try clear hb); obtain ⟨gC, gD, gE, gF⟩ := bx2_ (w := mN) ig.out))
 refine bodyPost_ret (results_ct rfl _ _ nx 44 #[.slice none 0 0, .int .i64 0] (0, 0) _ rfl (Z48 ig) Try.underlying44 rfl (by kernel_rfl)) rfl ?_
 exact ⟨_, Z11, Z44, Z153⟩

/-! ### spec_NewPunchJob: function 37 -/
def spec_NewPunchJob.f (k : Nat) (l0 : List (S90)) : Option ((List (S90)) × Int × Bool) := (spec_jbOwn.f l0 0).bind fun ny => ((spec_jbStrokes.f k ny.1 ny.2).bind fun Ao => (if Ao.2 = true then (some (ny.1, ny.2, true)) else (some (([] : List (S90)), 0, false))))
theorem spec_NewPunchJob.mono : ∀ a0 k, LeO (spec_NewPunchJob.f k a0) (spec_NewPunchJob.f (k + 1) a0) := by
 intro a0 k
 unfold spec_NewPunchJob.f
 exact mo16_
set_option maxHeartbeats 8000000 in
set_option maxRecDepth 100000 in
theorem spec_NewPunchJob.calls (k : Nat) (A0 : Option Addr) (c0 : Nat) (l0 : List (S90)) (r1 : List (S90)) (r2 : Int) (r3 : Bool) (w : World) (hr0 : Kd.C k90 w A0 l0.length l0) (hc0 : l0.length ≤ c0) (h : spec_NewPunchJob.f k l0 = some (r1, r2, r3)) :
  Calls Try.prog 37 #[.slice A0 l0.length c0] w fun e w' => ∃ v0_ : Value, e = .returned (.tuple #[.agg #[v0_, .int .i64 r2], .bool r3]) ∧ Kd.R k90 90 w' w.heap.size (fun _ => True) v0_ r1 ∧ Below w.heap.size w w' := by
 have hu44 := Try.underlying44
 have HR0 := Aside0.mk hr0
 have HC0 := Aside0.mk hc0
 clear hr0 hc0
 have HB := Aside0.mk (Below.refl w.heap.size w)
 have H : ((spec_jbOwn.f l0 0).bind fun ny => ((spec_jbStrokes.f k ny.1 ny.2).bind fun Ao => (if Ao.2 = true then (some (ny.1, ny.2, true)) else (some (([] : List (S90)), 0, false))))) = some (r1, r2, r3) := h
 clear h
 obtain ⟨⟨l4, oA⟩, A2, H⟩ := bd_ H
 (try dsimp only at H)
 obtain ⟨⟨HF, t688⟩, A3, H⟩ := bd_ H
 (try dsimp only at H)
 by_cases c4 : t688 = true
 ·subst c4
  rw [if_pos rfl] at H
  simp only [Option.some.injEq, Prod.mk.injEq] at H
  obtain ⟨rfl, rfl, rfl⟩ := H
  go_enter Try.func37, Try.ntmps37
  go_wp2_with (first | ((with_reducible refine gate_dst (N := 2) rfl ?_); refine bv_ 2 44 #[.slice none 0 0, .int .i64 0] ?_; intro gJ hg w5 hbox hb; refine k4_ (below_step (Z5) hb) (hbox) ((Z38 : w.heap.size ≤ gJ)) ((Z38 : w.heap.size ≤ gJ)) ?_; clear HB; intro HB fz GW679 yQ; clear hb hbox hg) | ((with_reducible refine gate_callee (f := 70) rfl ?_); refine gl_ 8 Try.func70 #[.slice A0 l0.length c0, .int .i64 0] ?_; (with_reducible refine (spec_jbOwn.calls _ _ l0 0 l4 oA _ ?_ ?_ A2.out).mono ?_); exact (Z15 HR0); exact HC0.out; rintro e w6 ⟨v681, rfl, ho0, hb⟩; refine ⟨_, rfl, ?_⟩; refine k3_ (Kd.R_lower ho0 (below_size (Z109))) (Ye_ fz) (below_step (Z109) hb) ?_; clear fz HB; intro gs fz HB; (try clear hb ho0)) | ((with_reducible refine gate_dst (N := 4) rfl ?_); refine bv_ 4 44 #[.slice none 0 0, .int .i64 0] ?_; intro hH hg w7 hbox hb; refine k8_ (Ya_ gs) (Ye_ fz) (below_step (Z109) hb) (hbox) ((by rw [hg]; exact (below_size (Z109)) : w.heap.size ≤ hH)) ((by rw [hg]; exact (below_size (Z109)) : w.heap.size ≤ hH)) ((Z261 : gJ ≠ hH)) ((Z262 : hH ≠ gJ)) ?_; clear gs fz HB; intro gs fz HB jM GW684 Du iV n1; clear hb hbox hg; obtain ⟨mO, mM, zr⟩ := Kd.R_slice gs.out; subst zr; have Fx := n1.out; have Fy := iV.out; obtain ⟨gc, gG, gf, gH⟩ := bx2_ (w := w7) jM.out) | ((with_reducible refine gate_callee (f := 68) rfl ?_); refine gl_ 11 Try.func68 #[.agg #[.slice mO l4.length mM, .int .i64 oA]] ?_; (with_reducible refine (spec_jbStrokes.calls k _ _ l4 oA HF true _ ?_ ?_ A3.out).mono ?_); exact (by refine (Kd.R_reads' (e := 90) (base := w.heap.size) (ok := fun k_ => True) (n := l4.length) (c := mM) ?_).2.2; exact Z219); exact (Kd.R_reads' gs.out).2.1; rintro e mN ⟨v686, rfl, ho0, hb⟩; refine ⟨_, rfl, ?_⟩; refine k5_ (Kd.R_below (Z219) hb) (Kd.R_lower ho0 (below_size (Z145))) (blk_below (g := gJ) (o := .cells #[.slice none 0 0, .int .i64 0] 44 (0, 0)) (Z198) hb) (blk_below (g := hH) (o := .cells #[.slice mO l4.length mM, .int .i64 oA] 44 (0, 0)) (Z192 jM) hb) (below_step (Z145) hb) ?_; clear gs fz jM HB; intro gs HO687 fz jM HB; (try clear hb ho0); obtain ⟨gC, gD, gE, gF⟩ := bx2_ (w := mN) jM.out; obtain ⟨iz, iA, iB, iC⟩ := bx2_ (w := mN) fz.out))
  refine bodyPost_ret (results_ct rfl _ _ gJ 44 #[.slice mO l4.length mM, .int .i64 oA] (0, 0) _ rfl (Z192 fz) Try.underlying44 rfl (by kernel_rfl)) rfl ?_
  exact ⟨_, Z11, by (with_reducible repeat (first | apply Kd.R_alloc | apply Kd.R_drewN | apply Kd.R_drew)); exact Kd.R_mono (Kd.R_far (p := ⟨gJ, 1, none⟩) (Kd.R_far (p := ⟨gJ, 0, none⟩) (Kd.R_types gs.out fz.out (by decide)) (fun _ hk => hk.2) (.slice mO l4.length mM)) (fun _ hk => hk.2) (.int .i64 oA)) (fun _ hk => trivial), Z145⟩
 replace c4 := Bool.eq_false_iff.mpr c4
 subst c4
 rw [if_neg (show ¬ (false = true) by decide)] at H
 simp only [Option.some.injEq, Prod.mk.injEq] at H
 obtain ⟨rfl, rfl, rfl⟩ := H
 go_enter Try.func37, Try.ntmps37
 go_wp2_with (first | ((with_reducible refine gate_dst (N := 2) rfl ?_); refine bv_ 2 44 #[.slice none 0 0, .int .i64 0] ?_; intro gJ hg oC hbox hb; refine k4_ (below_step (Z5) hb) (hbox) ((Z38 : w.heap.size ≤ gJ)) ((Z38 : w.heap.size ≤ gJ)) ?_; clear HB; intro HB fz GW679 yQ; clear hb hbox hg) | ((with_reducible refine gate_callee (f := 70) rfl ?_); refine gl_ 8 Try.func70 #[.slice A0 l0.length c0, .int .i64 0] ?_; (with_reducible refine (spec_jbOwn.calls _ _ l0 0 l4 oA _ ?_ ?_ A2.out).mono ?_); exact (Z15 HR0); exact HC0.out; rintro e qt ⟨v681, rfl, ho0, hb⟩; refine ⟨_, rfl, ?_⟩; refine k3_ (Kd.R_lower ho0 (below_size (Z109))) (Ye_ fz) (below_step (Z109) hb) ?_; clear fz HB; intro gs fz HB; (try clear hb ho0)) | ((with_reducible refine gate_dst (N := 4) rfl ?_); refine bv_ 4 44 #[.slice none 0 0, .int .i64 0] ?_; intro hH hg mT hbox hb; refine k8_ (Ya_ gs) (Ye_ fz) (below_step (Z109) hb) (hbox) ((by rw [hg]; exact (below_size (Z109)) : w.heap.size ≤ hH)) ((by rw [hg]; exact (below_size (Z109)) : w.heap.size ≤ hH)) ((Z261 : gJ ≠ hH)) ((Z262 : hH ≠ gJ)) ?_; clear gs fz HB; intro gs fz HB jM GW684 Du iV n1; clear hb hbox hg; obtain ⟨uJ, sd, zt⟩ := Kd.R_slice gs.out; subst zt; have DQ := n1.out; have DR := iV.out; obtain ⟨gX, gY, gZ, g0⟩ := bx2_ (w := mT) jM.out) | ((with_reducible refine gate_callee (f := 68) rfl ?_); refine gl_ 11 Try.func68 #[.agg #[.slice uJ l4.length sd, .int .i64 oA]] ?_; (with_reducible refine (spec_jbStrokes.calls k _ _ l4 oA HF false _ ?_ ?_ A3.out).mono ?_); exact (by refine (Kd.R_reads' (e := 90) (base := w.heap.size) (ok := fun k_ => True) (n := l4.length) (c := sd) ?_).2.2; exact Z213); exact (Kd.R_reads' gs.out).2.1; rintro e ss ⟨v686, rfl, ho0, hb⟩; refine ⟨_, rfl, ?_⟩; refine k5_ (Kd.R_below (Z213) hb) (Kd.R_lower ho0 (below_size (Z145))) (blk_below (g := gJ) (o := .cells #[.slice none 0 0, .int .i64 0] 44 (0, 0)) (Z198) hb) (blk_below (g := hH) (o := .cells #[.slice uJ l4.length sd, .int .i64 oA] 44 (0, 0)) (by (with_reducible repeat (first | refine blk_drewN ?_ _ | refine blk_drew ?_ | refine blk_alloc ?_ _)); refine blk_put (cs := #[.slice uJ l4.length sd, .int .i64 0]) ?_ 1 _ rfl; (with_reducible repeat (first | refine blk_drewN ?_ _ | refine blk_drew ?_ | refine blk_alloc ?_ _)); refine blk_put (cs := #[.slice none 0 0, .int .i64 0]) ?_ 0 _ rfl; (with_reducible repeat (first | refine blk_drewN ?_ _ | refine blk_drew ?_ | refine blk_alloc ?_ _)); exact jM.out) hb) (below_step (Z145) hb) ?_; clear gs fz jM HB; intro gs HO687 fz jM HB; (try clear hb ho0); obtain ⟨m6, m7, m8, m9⟩ := bx2_ (w := ss) fz.out))
 refine bodyPost_ret (results_ct rfl _ _ gJ 44 #[.slice none 0 0, .int .i64 0] (0, 0) _ rfl (Z48 fz) Try.underlying44 rfl (by kernel_rfl)) rfl ?_
 exact ⟨_, Z11, Z44, Z145⟩

/-! ### laws_qSheet: function 39 -/
def laws_qSheet.l0 : Nat → List (S90) → List (S90) → Int → Int → Option (Bool)
 | 0, _, _, _, _ => none
 | k + 1, x0, x1, x12, x13 => if x13 < x12 then (if 0 ≤ x13 then (if x13 < (x0.length : Int) then (if x13 < (x1.length : Int) then (if (!(((rd_T90 x0 x13).f0) == ((rd_T90 x1 x13).f0)) || (!(((rd_T90 x0 x13).f1) == ((rd_T90 x1 x13).f1)) || (!(((rd_T90 x0 x13).f2) == ((rd_T90 x1 x13).f2))))) = true then (some false) else (laws_qSheet.l0 k x0 x1 x12 (wrap64 (x13 + 1)))) else (none)) else (none)) else (none)) else (some true)
def laws_qSheet.f (k : Nat) (l0 : List (S90)) (l1 : List (S90)) : Option (Bool) := if (l0.length : Int) = (l1.length : Int) then (laws_qSheet.l0 k l0 l1 (l0.length : Int) 0) else (some false)
theorem laws_qSheet.mono_l : ∀ k, (∀ y0 y1 y2 y3, LeO (laws_qSheet.l0 k y0 y1 y2 y3) (laws_qSheet.l0 (k + 1) y0 y1 y2 y3))
 | 0 => fun _ _ _ _ r h => by simp [laws_qSheet.l0] at h
 | k + 1 => by
  have ih0 := laws_qSheet.mono_l k
  ·intro y0 y1 y2 y3
   unfold laws_qSheet.l0
   exact mo16_
theorem laws_qSheet.mono : ∀ a0 a1 k, LeO (laws_qSheet.f k a0 a1) (laws_qSheet.f (k + 1) a0 a1) := by
 intro a0 a1 k
 have ih0 := laws_qSheet.mono_l k
 unfold laws_qSheet.f
 exact mo16_
set_option maxHeartbeats 8000000 in
set_option maxRecDepth 100000 in
theorem laws_qSheet.calls (k : Nat) (A0 : Option Addr) (c0 : Nat) (l0 : List (S90)) (A1 : Option Addr) (c1 : Nat) (l1 : List (S90)) (r : Bool) (w : World) (hr0 : Kd.C k90 w A0 l0.length l0) (hc0 : l0.length ≤ c0) (hr1 : Kd.C k90 w A1 l1.length l1) (hc1 : l1.length ≤ c1) (h : laws_qSheet.f k l0 l1 = some r) :
  Calls Try.prog 39 #[.slice A0 l0.length c0, .slice A1 l1.length c1] w fun e w' => e = .returned (.bool r) ∧ Drawn0 w w' := by
 have hu90 := Try.underlying90
 have HR0 := Aside0.mk hr0
 have HC0 := Aside0.mk hc0
 clear hr0 hc0
 have HR1 := Aside0.mk hr1
 have HC1 := Aside0.mk hc1
 clear hr1 hc1
 have H : (if (l0.length : Int) = (l1.length : Int) then (laws_qSheet.l0 k l0 l1 (l0.length : Int) 0) else (some false)) = some r := h
 clear h
 by_cases c3 : (l0.length : Int) = (l1.length : Int)
 ·rw [if_pos c3] at H
  have f5 : ((l0.length : Int) == (l1.length : Int)) = true := beq_iff_eq.mpr c3
  have oE : ((l0.length : Int) != (l1.length : Int)) = false := bne_eq_false_iff_eq.mpr c3
  have Ap : (l0.length == l1.length) = true := by first | simpa using c3 | (simp at c3 ⊢; omega)
  clear c3
  have H' := Aside0.mk H
  clear H
  go_enter Try.func39, Try.ntmps39
  go_wp2
  repeat (go_quiet (fail); try go_wp2)
  go_loopg [13] k (fun kq Jf w' => ∃ (bM : Int), Jf = .int .i64 bM ∧ Aside0 (laws_qSheet.l0 kq l0 l1 (l0.length : Int) bM = some r) ∧ Aside0 (kq ≤ k) ∧ Drawn0 w w')
  case atStart => exact ⟨(0), (Z41), H', ⟨Nat.le_refl _⟩, Z138⟩
  case round =>
   clear H'
   (try clear c1); (try clear p2); (try clear c3); (try clear f5); (try clear oE); (try clear Ap)
   obtain ⟨bM, rfl, HA, HK1, ⟨m1, rfl⟩⟩ := hrel
   cases gk with
   | zero => exact absurd HA.out (by simp [laws_qSheet.l0])
   | succ k1 =>
    have H := HA.out
    clear HA
    simp only [laws_qSheet.l0] at H
    by_cases c4 : bM < (l0.length : Int)
    ·rw [if_pos c4] at H
     have go : decide (bM < (l0.length : Int)) = true := decide_eq_true c4
     clear c4
     by_cases c5 : 0 ≤ bM
     case neg => rw [if_neg c5] at H; exact absurd H (by simp)
     rw [if_pos c5] at H
     have gW : decide (0 ≤ bM) = true := decide_eq_true c5
     clear c5
     by_cases c6 : bM < (l0.length : Int)
     case neg => rw [if_neg c6] at H; exact absurd H (by simp)
     rw [if_pos c6] at H
     have nR : decide (bM < (l0.length : Int)) = true := decide_eq_true c6
     clear c6
     by_cases c7 : bM < (l1.length : Int)
     case neg => rw [if_neg c7] at H; exact absurd H (by simp)
     rw [if_pos c7] at H
     have sS : decide (bM < (l1.length : Int)) = true := decide_eq_true c7
     clear c7
     by_cases c8 : (!(((rd_T90 l0 bM).f0) == ((rd_T90 l1 bM).f0)) || (!(((rd_T90 l0 bM).f1) == ((rd_T90 l1 bM).f1)) || (!(((rd_T90 l0 bM).f2) == ((rd_T90 l1 bM).f2))))) = true
     ·rw [if_pos c8] at H
      have nY : (!(((rd_T90 l0 bM).f0) == ((rd_T90 l1 bM).f0)) || (!(((rd_T90 l0 bM).f1) == ((rd_T90 l1 bM).f1)) || (!(((rd_T90 l0 bM).f2) == ((rd_T90 l1 bM).f2))))) = true := c8
      clear c8
      obtain rfl := Option.some.inj H
      have vp : 0 ≤ (bM : Int) := of_decide_eq_true (Z21)
      have vq : bM < (l0.length : Int) := of_decide_eq_true (Z21)
      obtain ⟨ad689, e689, hx689_0, hx689_1, hx689_2⟩ := at_T90 HR0.out bM vp vq
      cases e689
      replace vp := eq_true vp
      replace vq := eq_true vq
      have vr : 0 ≤ (bM : Int) := of_decide_eq_true (Z21)
      have vt : bM < (l1.length : Int) := of_decide_eq_true (Z21)
      obtain ⟨ad690, e690, hx690_0, hx690_1, hx690_2⟩ := at_T90 HR1.out bM vr vt
      cases e690
      replace vr := eq_true vr
      replace vt := eq_true vt
      go_wp2
      repeat (go_quiet (fail); try go_wp2)
      go_ret
      exact ⟨Z41, Z138⟩
     rw [if_neg c8] at H
     have nY : (!(((rd_T90 l0 bM).f0) == ((rd_T90 l1 bM).f0)) || (!(((rd_T90 l0 bM).f1) == ((rd_T90 l1 bM).f1)) || (!(((rd_T90 l0 bM).f2) == ((rd_T90 l1 bM).f2))))) = false := by simpa using c8
     clear c8
     have H' := Aside0.mk H
     clear H
     have vp : 0 ≤ (bM : Int) := of_decide_eq_true (Z21)
     have vq : bM < (l0.length : Int) := of_decide_eq_true (Z21)
     obtain ⟨ad689, e689, hx689_0, hx689_1, hx689_2⟩ := at_T90 HR0.out bM vp vq
     cases e689
     replace vp := eq_true vp
     replace vq := eq_true vq
     have vr : 0 ≤ (bM : Int) := of_decide_eq_true (Z21)
     have vt : bM < (l1.length : Int) := of_decide_eq_true (Z21)
     obtain ⟨ad690, e690, hx690_0, hx690_1, hx690_2⟩ := at_T90 HR1.out bM vr vt
     cases e690
     replace vr := eq_true vr
     replace vt := eq_true vt
     go_wp2
     repeat (go_quiet (fail); try go_wp2)
     go_roundg k1
     case measure => have := HK1.out; omega
     case rel => exact ⟨(wrap64 (bM + 1)), (Z41), H', ⟨Z182 HK1⟩, Z138⟩
    rw [if_neg c4] at H
    have go : decide (bM < (l0.length : Int)) = false := decide_eq_false c4
    clear c4
    obtain rfl := Option.some.inj H
    go_wp2
    repeat (go_quiet (fail); try go_wp2)
    go_ret
    exact ⟨Z41, Z138⟩
 rw [if_neg c3] at H
 have f5 : ((l0.length : Int) == (l1.length : Int)) = false := beq_eq_false_iff_ne.mpr c3
 have oE : ((l0.length : Int) != (l1.length : Int)) = true := bne_iff_ne.mpr c3
 have Ap : (l0.length == l1.length) = false := by first | simpa using c3 | (simp at c3 ⊢; omega)
 obtain rfl := Option.some.inj H
 go_enter Try.func39, Try.ntmps39
 go_wp2
 repeat (go_quiet (fail); try go_wp2)
 go_ret
 exact ⟨Z41, Z138⟩

/-! ### laws_qJob: function 38 -/
def laws_qJob.f (k : Nat) (l0_0 : List (S90)) (a0_1 : Int) (l1_0 : List (S90)) (a1_1 : Int) : Option (Bool) := if a0_1 = a1_1 then ((laws_qSheet.f k l0_0 l1_0).bind fun ya => (some ya)) else (some false)
theorem laws_qJob.mono : ∀ a0 a1 a2 a3 k, LeO (laws_qJob.f k a0 a1 a2 a3) (laws_qJob.f (k + 1) a0 a1 a2 a3) := by
 intro a0 a1 a2 a3 k
 unfold laws_qJob.f
 exact mo16_
set_option maxHeartbeats 8000000 in
set_option maxRecDepth 100000 in
theorem laws_qJob.calls (k : Nat) (A0_0 : Option Addr) (c0_0 : Nat) (l0_0 : List (S90)) (a0_1 : Int) (A1_0 : Option Addr) (c1_0 : Nat) (l1_0 : List (S90)) (a1_1 : Int) (r : Bool) (w : World) (hr0_0 : Kd.C k90 w A0_0 l0_0.length l0_0) (hc0_0 : l0_0.length ≤ c0_0) (hr1_0 : Kd.C k90 w A1_0 l1_0.length l1_0) (hc1_0 : l1_0.length ≤ c1_0) (h : laws_qJob.f k l0_0 a0_1 l1_0 a1_1 = some r) :
  Calls Try.prog 38 #[.agg #[.slice A0_0 l0_0.length c0_0, .int .i64 a0_1], .agg #[.slice A1_0 l1_0.length c1_0, .int .i64 a1_1]] w fun e w' => e = .returned (.bool r) ∧ Below w.heap.size w w' := by
 have hu44 := Try.underlying44
 have HR0_0 := Aside0.mk hr0_0
 have HC0_0 := Aside0.mk hc0_0
 clear hr0_0 hc0_0
 have HR1_0 := Aside0.mk hr1_0
 have HC1_0 := Aside0.mk hc1_0
 clear hr1_0 hc1_0
 have HB := Aside0.mk (Below.refl w.heap.size w)
 have H : (if a0_1 = a1_1 then ((laws_qSheet.f k l0_0 l1_0).bind fun ya => (some ya)) else (some false)) = some r := h
 clear h
 by_cases c3 : a0_1 = a1_1
 ·rw [if_pos c3] at H
  have f5 : (a0_1 == a1_1) = true := beq_iff_eq.mpr c3
  have oE : (a0_1 != a1_1) = false := bne_eq_false_iff_eq.mpr c3
  clear c3
  obtain ⟨ya, A4, H⟩ := bd_ H
  replace H : (some ya) = some r := H
  obtain rfl := Option.some.inj H
  go_enter Try.func38, Try.ntmps38
  go_wp2_with (first | ((with_reducible refine gate_dst (N := 2) rfl ?_); refine bv_ 2 44 #[.slice A0_0 l0_0.length c0_0, .int .i64 a0_1] ?_; intro jX hg w5 hbox hb; refine k4_ (below_step (Z5) hb) (hbox) ((Z38 : w.heap.size ≤ jX)) ((Z38 : w.heap.size ≤ jX)) ?_; clear HB; intro HB jY GW691 yK; clear hb hbox hg) | ((with_reducible refine gate_dst (N := 3) rfl ?_); refine bv_ 3 44 #[.slice A1_0 l1_0.length c1_0, .int .i64 a1_1] ?_; intro nz hg w6 hbox hb; refine k7_ (Ye_ jY) (below_step (Z154) hb) (hbox) ((by rw [hg]; exact (below_size (Z154)) : w.heap.size ≤ nz)) ((by rw [hg]; exact (below_size (Z154)) : w.heap.size ≤ nz)) ((Z259 : jX ≠ nz)) ((Z260 : nz ≠ jX)) ?_; clear jY HB; intro jY HB Aq GW692 Dg n2 n3; clear hb hbox hg; have G0 := n2.out; have G1 := n3.out; obtain ⟨fg, fh, fy, fi⟩ := bx2_ (w := w6) jY.out; obtain ⟨iO, jj, jk, jl⟩ := bx2_ (w := w6) Aq.out) | (go_at_call 39; (with_reducible refine (laws_qSheet.calls k _ _ l0_0 _ _ l1_0 ya _ ?_ ?_ ?_ ?_ A4.out).mono ?_); exact (Z15 HR0_0); exact HC0_0.out; exact (Z15 HR1_0); exact HC1_0.out; rintro e w' ⟨rfl, ⟨nd, rfl⟩⟩))
  go_ret
  exact ⟨Z11, Z235⟩
 rw [if_neg c3] at H
 have f5 : (a0_1 == a1_1) = false := beq_eq_false_iff_ne.mpr c3
 have oE : (a0_1 != a1_1) = true := bne_iff_ne.mpr c3
 obtain rfl := Option.some.inj H
 go_enter Try.func38, Try.ntmps38
 go_wp2_with (first | ((with_reducible refine gate_dst (N := 2) rfl ?_); refine bv_ 2 44 #[.slice A0_0 l0_0.length c0_0, .int .i64 a0_1] ?_; intro jX hg oB hbox hb; refine k4_ (below_step (Z5) hb) (hbox) ((Z38 : w.heap.size ≤ jX)) ((Z38 : w.heap.size ≤ jX)) ?_; clear HB; intro HB jY GW691 yK; clear hb hbox hg) | ((with_reducible refine gate_dst (N := 3) rfl ?_); refine bv_ 3 44 #[.slice A1_0 l1_0.length c1_0, .int .i64 a1_1] ?_; intro nz hg mN hbox hb; refine k7_ (Ye_ jY) (below_step (Z154) hb) (hbox) ((by rw [hg]; exact (below_size (Z154)) : w.heap.size ≤ nz)) ((by rw [hg]; exact (below_size (Z154)) : w.heap.size ≤ nz)) ((Z259 : jX ≠ nz)) ((Z260 : nz ≠ jX)) ?_; clear jY HB; intro jY HB Aq GW692 Dg n2 n3; clear hb hbox hg; have hnb12 := n2.out; have hnc12 := n3.out; obtain ⟨iz, iA, iB, iC⟩ := bx2_ (w := mN) jY.out; obtain ⟨oT, oU, oV, oW⟩ := bx2_ (w := mN) Aq.out))
 go_ret
 exact ⟨Z11, Z235⟩

end Go.Proofs.Ytmnnmddfmmaohaa.PFnPunchJobs
