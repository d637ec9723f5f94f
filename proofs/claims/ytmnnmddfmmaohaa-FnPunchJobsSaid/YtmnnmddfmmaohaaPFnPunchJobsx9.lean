-- written by a program of this session: the kit's print, with outer functions of the session's own (wip/ext)
import Derived.Test.YtmnnmddfmmaohaaPFnPunchJobsx0
import Derived.Test.YtmnnmddfmmaohaaPFnPunchJobsx2
import Derived.Test.YtmnnmddfmmaohaaPFnPunchJobsx4
import Derived.Test.YtmnnmddfmmaohaaPFnPunchJobsx8
namespace Go.Proofs.Ytmnnmddfmmaohaa.PFnPunchJobs
open Go.RowKit Go.Proofs.YtmnnmddfmmaohaaW.PrintWords Go.Proofs.YtmnnmddfmmaohaaW.PrintLast Go.Proofs.YtmnnmddfmmaohaaW.PrintMore
attribute [local go_sem] max2_int min2_int max_two min_two max_three min_three max_four min_four   -- for this text's walks alone
set_option linter.unusedVariables false
set_option linter.unusedSimpArgs false
theorem mo9_ {p : Prop} (h : p := by repeat' first | (with_reducible first | apply ih0 | apply ih0 | apply spec_jbStrokes.mono | apply spec_jbStrokes.mono | apply spec_l1Cur_madeSheet.mono | apply spec_l1Cur_madeSheet.mono | apply spec_l1Cur_punchJob.mono | apply spec_l1Cur_punchJob.mono | exact LeO.refl _ | exact LeO.none _ | refine LeO.ite ?_ ?_ | refine LeO.bind ?_ (fun _ => ?_)) | exact LeO.none _ | refine LeO.ite ?_ ?_ | refine LeO.bind ?_ (fun _ => ?_)) : p := h

/-! ### spec_l1Cur_punchJob: function 65 -/
def spec_l1Cur_punchJob.j0 : Nat → Int → List Int → Int → Int → List (S90) → Int → Option ((List (S90)) × Int × Int × Int)
 | 0, _, _, _, _, _, _ => none
 | k + 1, x4, eR, fH, fI, x377000, x377001 => (spec_l1Cur_pick.f eR fH fI (wrap64 (x4 + 1))).bind fun BQ => ((spec_l1Cur_pick.f eR BQ.2.1 BQ.2.2 (wrap64 (x4 + 1))).bind fun BR => ((spec_l1Cur_among.f eR BR.2.1 BR.2.2 (([x4, wrap64 (x4 + 1), (-1)] : List Int))).bind fun qm => ((spec_l1Cur_among.f eR qm.2.1 qm.2.2 (([0, BQ.1, BR.1, x4, qm.1] : List Int))).bind fun lA => (some (x377000, lA.1, lA.2.1, lA.2.2)))))
def spec_l1Cur_punchJob.f (k : Nat) (s0_0 : List Int) (s0_1 : Int) (s0_2 : Int) : Option ((List (S90)) × Int × Int × Int) := (spec_l1Cur_madeSheet.f k s0_0 s0_1 s0_2).bind fun ik => ((spec_jbStrokes.f k ik.1 0).bind fun uC => (if uC.2 = true then (spec_l1Cur_punchJob.j0 k (uC.1.length : Int) s0_0 ik.2.1 ik.2.2 ik.1 0) else (spec_l1Cur_punchJob.j0 k 0 s0_0 ik.2.1 ik.2.2 ik.1 0)))
theorem spec_l1Cur_punchJob.mono_l : ∀ k, (∀ y0 y1 y2 y3 y4 y5, LeO (spec_l1Cur_punchJob.j0 k y0 y1 y2 y3 y4 y5) (spec_l1Cur_punchJob.j0 (k + 1) y0 y1 y2 y3 y4 y5))
 | 0 => fun _ _ _ _ _ _ r h => by simp [spec_l1Cur_punchJob.j0] at h
 | k + 1 => by
  have ih0 := spec_l1Cur_punchJob.mono_l k
  ·intro y0 y1 y2 y3 y4 y5
   unfold spec_l1Cur_punchJob.j0
   exact mo9_
theorem spec_l1Cur_punchJob.mono : ∀ a0 a1 a2 k, LeO (spec_l1Cur_punchJob.f k a0 a1 a2) (spec_l1Cur_punchJob.f (k + 1) a0 a1 a2) := by
 intro a0 a1 a2 k
 have ih0 := spec_l1Cur_punchJob.mono_l k
 unfold spec_l1Cur_punchJob.f
 exact mo9_
set_option maxHeartbeats 8000000 in
set_option maxRecDepth 100000 in
theorem spec_l1Cur_punchJob.calls (k : Nat) (g : Nat) (s0_0 : List Int) (s0_1 : Int) (s0_2 : Int) (r1 : List (S90)) (r2 : Int) (r3 : Int) (r4 : Int) (w0 w : World) (hI : IsS69 w0 w g s0_0 s0_1 s0_2) (hB : Below w0.heap.size w0 w) (h : spec_l1Cur_punchJob.f k s0_0 s0_1 s0_2 = some (r1, r2, r3, r4)) :
  Calls Try.prog 65 #[.pointer (some ⟨g, 0, none⟩)] w fun e w' => ∃ v0_ : Value, e = .returned (.agg #[v0_, .int .i64 r2]) ∧ Kd.R k90 90 w' w.heap.size (fun _ => True) v0_ r1 ∧ IsS69 w0 w' g s0_0 r3 r4 ∧ Below w0.heap.size w0 w' ∧ KeepBut w w' g none := by
 have hu44 := Try.underlying44
 have HI0 := Aside0.mk hI
 have HK := Aside0.mk (KeepBut.refl w g none)
 have HL := Aside0.mk hB.size
 clear hI
 have HW0 := Aside0.mk hB.size
 have HB := Aside0.mk hB
 clear hB
 have H : ((spec_l1Cur_madeSheet.f k s0_0 s0_1 s0_2).bind fun ik => ((spec_jbStrokes.f k ik.1 0).bind fun uC => (if uC.2 = true then (spec_l1Cur_punchJob.j0 k (uC.1.length : Int) s0_0 ik.2.1 ik.2.2 ik.1 0) else (spec_l1Cur_punchJob.j0 k 0 s0_0 ik.2.1 ik.2.2 ik.1 0)))) = some (r1, r2, r3, r4) := h
 clear h
 obtain ⟨⟨iN, uD, uE⟩, A2, H⟩ := bd_ H
 (try dsimp only at H)
 obtain ⟨⟨IQ, IR⟩, A3, H⟩ := bd_ H
 (try dsimp only at H)
 have HC4 := Aside0.mk H
 clear H
 go_enter Try.func65, Try.ntmps65
 go_upto_if 15 with (first | ((with_reducible refine gate_dst (N := 2) rfl ?_); refine bv_ 2 44 #[.slice none 0 0, .int .i64 0] ?_; intro gm hg w5 hbox hb; refine k8_ (IsS69.below (Z8 HI0) hb) (KeepBut.trans (Z9) (KeepBut.of_below hb g none) (.inl rfl)) (below_step (Z10) hb) (hbox) ((Z156 : w.heap.size ≤ gm)) ((Nat.le_trans HW0.out (Z156 : w.heap.size ≤ gm) : w0.heap.size ≤ gm)) ((Z195 : g ≠ gm)) ((Z196 : gm ≠ g)) ?_; clear HI0 HK HB; intro HI0 HK HB eC Dq Di ra lY; clear hb hbox hg) | ((with_reducible refine gate_callee (f := 81) rfl ?_); refine gl_ 8 Try.func81 #[.pointer (some ⟨g, 0, none⟩)] ?_; (with_reducible refine (spec_l1Cur_madeSheet.calls k g s0_0 s0_1 s0_2 iN uD uE w0 _ ?_ ?_ A2.out).mono ?_); exact Z170; exact Z233; rintro e w6 ⟨v372, rfl, ho0, hi, hb, hk⟩; refine ⟨_, rfl, ?_⟩; refine k5_ (KeepBut.blk hk (g' := gm) (o := .cells #[.slice none 0 0, .int .i64 0] 44 (0, 0)) (Z1 eC) lY.out (by simp)) (Kd.R_lower ho0 (keep_size (w := w) (g := g) (row := none) (Z162))) (KeepBut.trans (Z162) hk (.inl rfl)) (hb) (hi) ?_; clear eC HK HB HI0; intro eC mg HK HB HI0; (try clear hb hk hi ho0); obtain ⟨hG, fw, Cm⟩ := Kd.R_slice mg.out; subst Cm) | ((with_reducible refine gate_dst (N := 3) rfl ?_); refine bv_ 3 44 #[.slice none 0 0, .int .i64 0] ?_; intro gr hg w8 hbox hb; refine k12_ (Ya_ mg) (IsS69.below (Z170) hb) (Ye_ eC) (KeepBut.trans (Z162) (KeepBut.of_below hb g none) (.inl rfl)) (below_step (Z233) hb) (hbox) ((by rw [hg]; exact (keep_size (w := w) (g := g) (row := none) (Z162)) : w.heap.size ≤ gr)) ((Nat.le_trans HW0.out (by rw [hg]; exact (keep_size (w := w) (g := g) (row := none) (Z162)) : w.heap.size ≤ gr) : w0.heap.size ≤ gr)) ((by rw [hg]; exact Nat.ne_of_lt (blk_lt (g := gm) (o := .cells #[.slice none 0 0, .int .i64 0] 44 (0, 0)) (Z1 eC)) : gm ≠ gr)) ((by rw [hg]; exact Nat.ne_of_gt (blk_lt (g := gm) (o := .cells #[.slice none 0 0, .int .i64 0] 44 (0, 0)) (Z1 eC)) : gr ≠ gm)) ((by rw [hg]; exact Nat.ne_of_lt (IsS69.lt (show IsS69 w0 _ g s0_0 uD uE from Z170)) : g ≠ gr)) ((by rw [hg]; exact Nat.ne_of_gt (IsS69.lt (show IsS69 w0 _ g s0_0 uD uE from Z170)) : gr ≠ g)) ?_; clear mg HI0 eC HK HB; intro mg HI0 eC HK HB e4 GW376 GE376 jg q9 rb lZ; clear hb hbox hg; have Fx := q9.out; have Fy := jg.out; have hnb10 := lZ.out; have hnc10 := rb.out; obtain ⟨lH, lI, lJ, lK⟩ := bx2_ (w := w8) e4.out) | ((with_reducible refine gate_callee (f := 68) rfl ?_); refine gl_ 12 Try.func68 #[.agg #[.slice hG iN.length fw, .int .i64 0]] ?_; (with_reducible refine (spec_jbStrokes.calls k _ _ iN 0 IQ IR _ ?_ ?_ A3.out).mono ?_); exact (by refine (Kd.R_reads' (e := 90) (base := w.heap.size) (ok := fun k_ => True) (n := iN.length) (c := fw) ?_).2.2; exact Z220); exact (Kd.R_reads' mg.out).2.1; rintro e yI ⟨v378, rfl, ho0, hb⟩; refine ⟨_, rfl, ?_⟩; refine k7_ (Kd.R_below (Z220) hb) (Kd.R_lower ho0 (keep_size (w := w) (g := g) (row := none) (Z74))) (IsS69.below (show IsS69 w0 ((w8.setCell ⟨gr, 0, none⟩ (.slice hG iN.length fw)).setCell ⟨gr, 1, none⟩ (.int .i64 0)) g s0_0 uD uE from Z52) hb) (blk_below (g := gm) (o := .cells #[.slice none 0 0, .int .i64 0] 44 (0, 0)) (by (with_reducible repeat (first | refine blk_drewN ?_ _ | refine blk_drew ?_ | refine blk_alloc ?_ _)); refine blk_far ?_ jg.out _; (with_reducible repeat (first | refine blk_drewN ?_ _ | refine blk_drew ?_ | refine blk_alloc ?_ _)); refine blk_far ?_ jg.out _; (with_reducible repeat (first | refine blk_drewN ?_ _ | refine blk_drew ?_ | refine blk_alloc ?_ _)); exact eC.out) hb) (blk_below (g := gr) (o := .cells #[.slice hG iN.length fw, .int .i64 0] 44 (0, 0)) (by (with_reducible repeat (first | refine blk_drewN ?_ _ | refine blk_drew ?_ | refine blk_alloc ?_ _)); refine blk_put (cs := #[.slice hG iN.length fw, .int .i64 0]) ?_ 1 _ rfl; (with_reducible repeat (first | refine blk_drewN ?_ _ | refine blk_drew ?_ | refine blk_alloc ?_ _)); refine blk_put (cs := #[.slice none 0 0, .int .i64 0]) ?_ 0 _ rfl; (with_reducible repeat (first | refine blk_drewN ?_ _ | refine blk_drew ?_ | refine blk_alloc ?_ _)); exact e4.out) hb) (KeepBut.trans (Z74) (KeepBut.of_below hb g none) (.inl rfl)) (below_step (Z81) hb) ?_; clear mg HI0 eC e4 HK HB; intro mg HO379 HI0 eC e4 HK HB; (try clear hb ho0)))
 (try simp only [Act.put, List.setIfInBounds_toArray, List.set_cons_zero, List.set_cons_succ])
 go_cut [4] (fun v4 wc => ∃ (kq : Nat) (cm : Int), v4 = .int .i64 cm ∧ Aside0 (spec_l1Cur_punchJob.j0 kq cm s0_0 uD uE iN 0 = some (r1, r2, r3, r4)) ∧ Aside0 (kq ≤ k) ∧ Aside0 (Kd.R k90 90 wc w.heap.size (fun _ => True) (.slice hG iN.length fw) iN) ∧ Aside0 (wc.heap[gm]? = some (.cells #[(.slice none 0 0), .int .i64 0] 44 (0, 0))) ∧ Aside0 (wc.heap[gr]? = some (.cells #[(.slice hG iN.length fw), .int .i64 0] 44 (0, 0))) ∧ Aside0 (IsS69 w0 wc g s0_0 uD uE) ∧ Aside0 (KeepBut w wc g none) ∧ Aside0 (Below w0.heap.size w0 wc))
 case first =>
  have H := HC4.out
  clear HC4
  by_cases c13 : IR = true
  ·subst c13
   rw [if_pos rfl] at H
   have H' := Aside0.mk H
   clear H
   obtain ⟨GT, GU, Fi⟩ := Kd.R_slice HO379.out
   subst Fi
   go_wp2
   go_meet
   case rel => exact ⟨_, ((IQ.length : Int)), (Z41), H', ⟨Z168⟩, ⟨Z2 mg⟩, ⟨Z1 eC⟩, ⟨Z1 e4⟩, ⟨Z52⟩, ⟨Z74⟩, ⟨Z81⟩⟩
  replace c13 := Bool.eq_false_iff.mpr c13
  subst c13
  rw [if_neg (show ¬ (false = true) by decide)] at H
  have H' := Aside0.mk H
  clear H
  go_wp2
  go_meet
  case rel => exact ⟨_, (0), (Z41), H', ⟨Z168⟩, ⟨Z2 mg⟩, ⟨Z1 eC⟩, ⟨Z1 e4⟩, ⟨Z52⟩, ⟨Z74⟩, ⟨Z81⟩⟩
 case rest =>
  clear HC4
  (try clear c1); (try clear p2); (try clear c6); (try clear c8); (try clear c9); (try clear c10); (try clear c13); (try clear lH); (try clear lI); (try clear lJ); (try clear lK)
  obtain ⟨kq, cm, rfl, HA, HJ3, dR, eC, e4, HI0, HK, HB⟩ := hcut
  cases kq with
  | zero => exact absurd HA.out (by simp [spec_l1Cur_punchJob.j0])
  | succ kj3 =>
   have H := HA.out
   clear HA
   simp only [spec_l1Cur_punchJob.j0] at H
   obtain ⟨⟨vV, GC, GD⟩, Ff, H⟩ := bd_ H
   (try dsimp only at H)
   obtain ⟨⟨vW, BS, BT⟩, Fp, H⟩ := bd_ H
   (try dsimp only at H)
   obtain ⟨GE, uF⟩ : ∃ y_ : List Int, y_ = (([cm, wrap64 (cm + 1), (-1)] : List Int)) := ⟨_, rfl⟩
   replace H : ((spec_l1Cur_among.f s0_0 BS BT GE).bind fun qm => ((spec_l1Cur_among.f s0_0 qm.2.1 qm.2.2 (([0, vV, vW, cm, qm.1] : List Int))).bind fun lA => (some (iN, lA.1, lA.2.1, lA.2.2)))) = some (r1, r2, r3, r4) := hx_ uF H
   have E8 := Aside0.mk uF
   clear uF
   obtain ⟨⟨yB, yC, yD⟩, Jn, H⟩ := bd_ H
   (try dsimp only at H)
   obtain ⟨GF, uG⟩ : ∃ y_ : List Int, y_ = (([0, vV, vW, cm, yB] : List Int)) := ⟨_, rfl⟩
   replace H : ((spec_l1Cur_among.f s0_0 yC yD GF).bind fun lA => (some (iN, lA.1, lA.2.1, lA.2.2))) = some (r1, r2, r3, r4) := hx_ uG H
   have E9 := Aside0.mk uG
   clear uG
   obtain ⟨⟨De, t397, t398⟩, Jo, H⟩ := bd_ H
   (try dsimp only at H)
   simp only [Option.some.injEq, Prod.mk.injEq] at H
   obtain ⟨rfl, rfl, rfl, rfl⟩ := H
   go_wp2_with (first | ((with_reducible refine gate_callee (f := 45) rfl ?_); refine gl_ 22 Try.func45 #[.pointer (some ⟨g, 0, none⟩), .int .i64 (wrap64 (cm + 1))] ?_; (with_reducible refine (spec_l1Cur_pick.calls g s0_0 uD uE (wrap64 (cm + 1)) vV GC GD w0 _ ?_ ?_ Ff.out).mono ?_); exact Z52; exact Z81; rintro e yZ ⟨rfl, hi, hb, hk⟩; refine ⟨_, rfl, ?_⟩; refine k6_ (Kd.R_mono (Kd.R_keep (IsS69.apart (show IsS69 w0 _ g s0_0 uD uE from Z52) (Z2 dR) (by decide)) hk (fun _ h => h.2)) (fun _ h => h.1)) (KeepBut.blk hk (g' := gm) (o := .cells #[.slice none 0 0, .int .i64 0] 44 (0, 0)) (Z1 eC) lY.out (by simp)) (KeepBut.blk hk (g' := gr) (o := .cells #[.slice hG iN.length fw, .int .i64 0] 44 (0, 0)) (Z1 e4) lZ.out (by simp)) (KeepBut.trans (Z74) hk (.inl rfl)) (hb) (hi) ?_; clear dR eC e4 HK HB HI0; intro dR eC e4 HK HB HI0; (try clear hb hk hi)) | ((with_reducible refine gate_callee (f := 45) rfl ?_); refine gl_ 26 Try.func45 #[.pointer (some ⟨g, 0, none⟩), .int .i64 (wrap64 (cm + 1))] ?_; (with_reducible refine (spec_l1Cur_pick.calls g s0_0 GC GD (wrap64 (cm + 1)) vW BS BT w0 _ ?_ ?_ Fp.out).mono ?_); exact Z52; exact Z81; rintro e ss ⟨rfl, hi, hb, hk⟩; refine ⟨_, rfl, ?_⟩; refine k6_ (Kd.R_mono (Kd.R_keep (IsS69.apart (show IsS69 w0 _ g s0_0 GC GD from Z52) (Z2 dR) (by decide)) hk (fun _ h => h.2)) (fun _ h => h.1)) (KeepBut.blk hk (g' := gm) (o := .cells #[.slice none 0 0, .int .i64 0] 44 (0, 0)) (Z1 eC) lY.out (by simp)) (KeepBut.blk hk (g' := gr) (o := .cells #[.slice hG iN.length fw, .int .i64 0] 44 (0, 0)) (Z1 e4) lZ.out (by simp)) (KeepBut.trans (Z74) hk (.inl rfl)) (hb) (hi) ?_; clear dR eC e4 HK HB HI0; intro dR eC e4 HK HB HI0; (try clear hb hk hi)) | ((with_reducible refine gate_dst (N := 32) rfl ?_); refine Kd.R_lit (Kd.int .i64) _ 3 ?hg (N := 32) ?hd (xs := ([cm, wrap64 (cm + 1), (-1)] : List Int)) (inner := [.int .i64 cm, .int .i64 (wrap64 (cm + 1)), .int .i64 (-1)]) (ok := fun _ => True) (okp := fun _ => True) ?hr ?hp (fun _ hk => hk) trivial (Below.refl _ _) (Nat.le_refl _) (by simp) ?_; (case hd => rfl); (case hg => rfl); (case hr => exact Z110); (case hp => exact (Reps.one (show Kd.M (Kd.int .i64) _ _ _ cm [.int .i64 cm] from rfl) (Reps.one (show Kd.M (Kd.int .i64) _ _ _ (wrap64 (cm + 1)) [.int .i64 (wrap64 (cm + 1))] from rfl) (Reps.one (show Kd.M (Kd.int .i64) _ _ _ (-1) [.int .i64 (-1)] from rfl) (Reps.none _ _))))); intro v388 DD ho22 hb hg_ hnew_; clear hg_ hnew_; (first | rw [← E8.out] at ho22 | (simp only [Int.reduceToNat] at ho22; rw [← E8.out] at ho22)); refine k7_ (Ya_ dR) (Kd.R_lower ho22 (keep_size (w := w) (g := g) (row := none) (Z74))) (Ye_ eC) (Ye_ e4) (IsS69.below (Z52) hb) (KeepBut.trans (Z74) (KeepBut.of_below hb g none) (.inl rfl)) (below_step (Z81) hb) ?_; clear dR eC e4 HI0 HK HB; intro dR iL eC e4 HI0 HK HB; clear hb ho22; obtain ⟨ca, bV, AG⟩ := Kd.R_slice iL.out; subst AG) | ((with_reducible refine gate_callee (f := 46) rfl ?_); refine gl_ 33 Try.func46 #[.pointer (some ⟨g, 0, none⟩), .slice ca GE.length bV] ?_; (with_reducible refine (spec_l1Cur_among.calls g s0_0 BS BT _ _ GE yB yC yD w0 _ ?_ ?_ ?_ ?_ ?_ Jn.out).mono ?_); exact Z52; exact Z81; exact (Z7 iL); exact (Kd.R_reads' iL.out).2.1; exact far_slice (IsS69.own_ne HI0.out iL.out (by decide)); rintro e fE ⟨rfl, hi, hb, hk⟩; refine ⟨_, rfl, ?_⟩; refine k7_ (Kd.R_mono (Kd.R_keep (IsS69.apart (show IsS69 w0 _ g s0_0 BS BT from Z52) (Z2 dR) (by decide)) hk (fun _ h => h.2)) (fun _ h => h.1)) (KeepBut.blk hk (g' := gm) (o := .cells #[.slice none 0 0, .int .i64 0] 44 (0, 0)) (Z1 eC) lY.out (by simp)) (KeepBut.blk hk (g' := gr) (o := .cells #[.slice hG iN.length fw, .int .i64 0] 44 (0, 0)) (Z1 e4) lZ.out (by simp)) (Kd.R_mono (Kd.R_keep (IsS69.apart (show IsS69 w0 _ g s0_0 BS BT from Z52) (Z2 iL) (by decide)) hk (fun _ h => h.2)) (fun _ h => h.1)) (KeepBut.trans (Z74) hk (.inl rfl)) (hb) (hi) ?_; clear dR eC e4 iL HK HB HI0; intro dR eC e4 iL HK HB HI0; (try clear hb hk hi)) | ((with_reducible refine gate_dst (N := 34) rfl ?_); refine Kd.R_lit (Kd.int .i64) _ 3 ?hg (N := 34) ?hd (xs := ([0, vV, vW, cm, yB] : List Int)) (inner := [.int .i64 0, .int .i64 vV, .int .i64 vW, .int .i64 cm, .int .i64 yB]) (ok := fun _ => True) (okp := fun _ => True) ?hr ?hp (fun _ hk => hk) trivial (Below.refl _ _) (Nat.le_refl _) (by simp) ?_; (case hd => rfl); (case hg => rfl); (case hr => exact Z110); (case hp => exact (Reps.one (show Kd.M (Kd.int .i64) _ _ _ 0 [.int .i64 0] from rfl) (Reps.one (show Kd.M (Kd.int .i64) _ _ _ vV [.int .i64 vV] from rfl) (Reps.one (show Kd.M (Kd.int .i64) _ _ _ vW [.int .i64 vW] from rfl) (Reps.one (show Kd.M (Kd.int .i64) _ _ _ cm [.int .i64 cm] from rfl) (Reps.one (show Kd.M (Kd.int .i64) _ _ _ yB [.int .i64 yB] from rfl) (Reps.none _ _))))))); intro v394 qN ho26 hb hg_ hnew_; clear hg_ hnew_; (first | rw [← E9.out] at ho26 | (simp only [Int.reduceToNat] at ho26; rw [← E9.out] at ho26)); refine k8_ (Ya_ dR) (Kd.R_elder' (Z2 iL) (Kd.R_base ho26) hb) (Kd.R_lower (Kd.R_new' ho26 (Yd_ iL)) (keep_size (w := w) (g := g) (row := none) (Z74))) (Ye_ eC) (Ye_ e4) (IsS69.below (Z52) hb) (KeepBut.trans (Z74) (KeepBut.of_below hb g none) (.inl rfl)) (below_step (Z81) hb) ?_; clear dR iL eC e4 HI0 HK HB; intro dR iL qn eC e4 HI0 HK HB; clear hb ho26; obtain ⟨bN, bL, rp⟩ := Kd.R_slice qn.out; subst rp) | ((with_reducible refine gate_callee (f := 46) rfl ?_); refine gl_ 35 Try.func46 #[.pointer (some ⟨g, 0, none⟩), .slice bN GF.length bL] ?_; (with_reducible refine (spec_l1Cur_among.calls g s0_0 yC yD _ _ GF De t397 t398 w0 _ ?_ ?_ ?_ ?_ ?_ Jo.out).mono ?_); exact Z52; exact Z81; exact (Z7 qn); exact (Kd.R_reads' qn.out).2.1; exact far_slice (IsS69.own_ne HI0.out qn.out (by decide)); rintro e pt ⟨rfl, hi, hb, hk⟩; refine ⟨_, rfl, ?_⟩; refine k8_ (Kd.R_mono (Kd.R_keep (IsS69.apart (show IsS69 w0 _ g s0_0 yC yD from Z52) (Z2 dR) (by decide)) hk (fun _ h => h.2)) (fun _ h => h.1)) (KeepBut.blk hk (g' := gm) (o := .cells #[.slice none 0 0, .int .i64 0] 44 (0, 0)) (Z1 eC) lY.out (by simp)) (KeepBut.blk hk (g' := gr) (o := .cells #[.slice hG iN.length fw, .int .i64 0] 44 (0, 0)) (Z1 e4) lZ.out (by simp)) (Kd.R_mono (Kd.R_keep (IsS69.apart (show IsS69 w0 _ g s0_0 yC yD from Z52) (Z2 iL) (by decide)) hk (fun _ h => h.2)) (fun _ h => h.1)) (Kd.R_mono (Kd.R_keep (IsS69.apart (show IsS69 w0 _ g s0_0 yC yD from Z52) (Z2 qn) (by decide)) hk (fun _ h => h.2)) (fun _ h => h.1)) (KeepBut.trans (Z74) hk (.inl rfl)) (hb) (hi) ?_; clear dR eC e4 iL qn HK HB HI0; intro dR eC e4 iL qn HK HB HI0; (try clear hb hk hi); have hnb29 := q9.out; have hnc29 := jg.out; have hnb30 := lZ.out; have hnc30 := rb.out; obtain ⟨rj, rk, rl, rm⟩ := bx2_ (w := pt) e4.out; have hnb32 := lY.out; have hnc32 := ra.out; obtain ⟨xI, xJ, xK, xL⟩ := bx2_ (w := pt) eC.out))
   refine bodyPost_ret (results_cell_row rfl _ _ gm 44 #[.slice hG iN.length fw, .int .i64 De] (0, 0) _ rfl (by (with_reducible repeat (first | refine blk_drewN ?_ _ | refine blk_drew ?_ | refine blk_alloc ?_ _)); refine blk_put (cs := #[.slice hG iN.length fw, .int .i64 0]) ?_ 1 _ rfl; (with_reducible repeat (first | refine blk_drewN ?_ _ | refine blk_drew ?_ | refine blk_alloc ?_ _)); refine blk_put (cs := #[.slice none 0 0, .int .i64 0]) ?_ 0 _ rfl; (with_reducible repeat (first | refine blk_drewN ?_ _ | refine blk_drew ?_ | refine blk_alloc ?_ _)); refine blk_far ?_ jg.out _; (with_reducible repeat (first | refine blk_drewN ?_ _ | refine blk_drew ?_ | refine blk_alloc ?_ _)); exact eC.out) Try.underlying44 rfl (by kernel_rfl)) rfl ?_
   exact ⟨_, Z11, by (with_reducible repeat (first | apply Kd.R_alloc | apply Kd.R_drewN | apply Kd.R_drew)); exact Kd.R_mono (Kd.R_far (p := ⟨gm, 1, none⟩) (Kd.R_far (p := ⟨gm, 0, none⟩) (Kd.R_far (p := ⟨gr, 1, none⟩) (Kd.R_types (Kd.R_types dR.out e4.out (by decide)) eC.out (by decide)) (fun _ hk => hk.1.2) (.int .i64 De)) (fun _ hk => hk.2) (.slice hG iN.length fw)) (fun _ hk => hk.2) (.int .i64 De)) (fun _ hk => trivial), Z52, Z81, Z74⟩

/-! ### spec_DrawMakeStrokes: function 22 -/
def spec_DrawMakeStrokes.f (k : Nat) (l0 : List Int) : Option ((List (S90)) × Int × Int) := (spec_l1Cur_punchJob.f k l0 0 0).bind fun nL => ((spec_l1Cur_pick.f l0 nL.2.2.1 nL.2.2.2 30).bind fun qo => ((spec_l1Cur_among.f l0 qo.2.1 qo.2.2 (([201, (-1)] : List Int))).bind fun lB => ((spec_l1Cur_among.f l0 lB.2.1 lB.2.2 (([0, 1, 2, qo.1, 200, lB.1] : List Int))).bind fun qp => (some (nL.1, nL.2.1, qp.1)))))
theorem spec_DrawMakeStrokes.mono : ∀ a0 k, LeO (spec_DrawMakeStrokes.f k a0) (spec_DrawMakeStrokes.f (k + 1) a0) := by
 intro a0 k
 unfold spec_DrawMakeStrokes.f
 exact mo9_
set_option maxHeartbeats 8000000 in
set_option maxRecDepth 100000 in
theorem spec_DrawMakeStrokes.calls (k : Nat) (A0 : Option Addr) (c0 : Nat) (l0 : List Int) (r1 : List (S90)) (r2 : Int) (r3 : Int) (w : World) (hr0 : Kd.C (Kd.int .u8) w A0 l0.length l0) (hc0 : l0.length ≤ c0) (h : spec_DrawMakeStrokes.f k l0 = some (r1, r2, r3)) :
  Calls Try.prog 22 #[.slice A0 l0.length c0] w fun e w' => ∃ v0_ : Value, e = .returned (.tuple #[.agg #[v0_, .int .i64 r2], .int .i64 r3]) ∧ Kd.R k90 90 w' w.heap.size (fun _ => True) v0_ r1 ∧ Below w.heap.size w w' := by
 have hu44 := Try.underlying44
 have hu69 := Try.underlying69
 have HR0 := Aside0.mk hr0
 have HC0 := Aside0.mk hc0
 clear hr0 hc0
 have HB := Aside0.mk (Below.refl w.heap.size w)
 have H : ((spec_l1Cur_punchJob.f k l0 0 0).bind fun nL => ((spec_l1Cur_pick.f l0 nL.2.2.1 nL.2.2.2 30).bind fun qo => ((spec_l1Cur_among.f l0 qo.2.1 qo.2.2 (([201, (-1)] : List Int))).bind fun lB => ((spec_l1Cur_among.f l0 lB.2.1 lB.2.2 (([0, 1, 2, qo.1, 200, lB.1] : List Int))).bind fun qp => (some (nL.1, nL.2.1, qp.1)))))) = some (r1, r2, r3) := h
 clear h
 obtain ⟨⟨yE, BU, GG, GH⟩, A2, H⟩ := bd_ H
 (try dsimp only at H)
 obtain ⟨⟨vX, BV, BW⟩, A3, H⟩ := bd_ H
 (try dsimp only at H)
 obtain ⟨GI, uH⟩ : ∃ y_ : List Int, y_ = (([201, (-1)] : List Int)) := ⟨_, rfl⟩
 replace H : ((spec_l1Cur_among.f l0 BV BW GI).bind fun lB => ((spec_l1Cur_among.f l0 lB.2.1 lB.2.2 (([0, 1, 2, vX, 200, lB.1] : List Int))).bind fun qp => (some (yE, BU, qp.1)))) = some (r1, r2, r3) := hx_ uH H
 have Fa := Aside0.mk uH
 clear uH
 obtain ⟨⟨yF, yG, yH⟩, A4, H⟩ := bd_ H
 (try dsimp only at H)
 obtain ⟨GJ, uI⟩ : ∃ y_ : List Int, y_ = (([0, 1, 2, vX, 200, yF] : List Int)) := ⟨_, rfl⟩
 replace H : ((spec_l1Cur_among.f l0 yG yH GJ).bind fun qp => (some (yE, BU, qp.1))) = some (r1, r2, r3) := hx_ uI H
 have Fb := Aside0.mk uI
 clear uI
 obtain ⟨⟨t419, t420, t421⟩, A5, H⟩ := bd_ H
 (try dsimp only at H)
 simp only [Option.some.injEq, Prod.mk.injEq] at H
 obtain ⟨rfl, rfl, rfl⟩ := H
 go_enter Try.func22, Try.ntmps22
 go_wp2_with (first | ((with_reducible refine gate_dst (N := 2) rfl ?_); refine bv_ 2 44 #[.slice none 0 0, .int .i64 0] ?_; intro jh hg w6 hbox hb; refine k4_ (below_step (Z5) hb) (hbox) ((Z38 : w.heap.size ≤ jh)) ((Z38 : w.heap.size ≤ jh)) ?_; clear HB; intro HB fv GW399 Dp; clear hb hbox hg) | ((with_reducible refine gate_dst (N := 7) rfl ?_); refine bv_ 7 69 #[.slice A0 l0.length c0, .int .i64 0, .int .u64 0] ?_; intro gn hg w7 hbox hb; refine k7_ (Ye_ fv) (below_step (Z177) hb) ((show IsS69 w w7 gn l0 0 0 from ⟨_, _, hbox, (by rw [hg]; exact (below_size (Z177))), HR0.out⟩)) ((by rw [hg]; exact (below_size (Z177)) : w.heap.size ≤ gn)) ((by rw [hg]; exact (below_size (Z177)) : w.heap.size ≤ gn)) ((by rw [hg]; exact Nat.ne_of_lt (blk_lt (g := jh) (o := .cells #[.slice none 0 0, .int .i64 0] 44 (0, 0)) (Z1 fv)) : jh ≠ gn)) ((by rw [hg]; exact Nat.ne_of_gt (blk_lt (g := jh) (o := .cells #[.slice none 0 0, .int .i64 0] 44 (0, 0)) (Z1 fv)) : gn ≠ jh)) ?_; clear fv HB; intro fv HB HI400 GW400 GE400 ji qL; clear hb hbox hg) | ((with_reducible refine gate_callee (f := 65) rfl ?_); refine gl_ 9 Try.func65 #[.pointer (some ⟨gn, 0, none⟩)] ?_; (with_reducible refine (spec_l1Cur_punchJob.calls k gn l0 0 0 yE BU GG GH w _ ?_ ?_ A2.out).mono ?_); exact Z78; exact Z91; rintro e w8 ⟨v402, rfl, ho0, hi, hb, hk⟩; refine ⟨_, rfl, ?_⟩; refine k4_ (KeepBut.blk hk (g' := jh) (o := .cells #[.slice none 0 0, .int .i64 0] 44 (0, 0)) (Z1 fv) ji.out (by simp)) (Kd.R_lower ho0 (below_size (Z91))) (hb) (hi) ?_; clear fv HB HI400; intro fv gM HB HI400; (try clear hb hk hi ho0)) | ((with_reducible refine gate_callee (f := 45) rfl ?_); refine gl_ 12 Try.func45 #[.pointer (some ⟨gn, 0, none⟩), .int .i64 30] ?_; (with_reducible refine (spec_l1Cur_pick.calls gn l0 GG GH 30 vX BV BW w _ ?_ ?_ A3.out).mono ?_); exact Z78; exact Z91; rintro e w9 ⟨rfl, hi, hb, hk⟩; refine ⟨_, rfl, ?_⟩; refine k4_ (KeepBut.blk hk (g' := jh) (o := .cells #[.slice none 0 0, .int .i64 0] 44 (0, 0)) (Z1 fv) ji.out (by simp)) (Kd.R_mono (Kd.R_keep (IsS69.apart (show IsS69 w _ gn l0 GG GH from Z78) (Z2 gM) (by decide)) hk (fun _ h => h.2)) (fun _ h => h.1)) (hb) (hi) ?_; clear fv gM HB HI400; intro fv gM HB HI400; (try clear hb hk hi)) | ((with_reducible refine gate_dst (N := 14) rfl ?_); refine Kd.R_lit (Kd.int .i64) _ 3 ?hg (N := 14) ?hd (xs := ([201, (-1)] : List Int)) (inner := [.int .i64 201, .int .i64 (-1)]) (ok := fun _ => True) (okp := fun _ => True) ?hr ?hp (fun _ hk => hk) trivial (Below.refl _ _) (Nat.le_refl _) (by simp) ?_; (case hd => rfl); (case hg => rfl); (case hr => exact Z110); (case hp => exact (Reps.one (show Kd.M (Kd.int .i64) _ _ _ 201 [.int .i64 201] from rfl) (Reps.one (show Kd.M (Kd.int .i64) _ _ _ (-1) [.int .i64 (-1)] from rfl) (Reps.none _ _)))); intro v411 oB ho11 hb hg_ hnew_; clear hg_ hnew_; (first | rw [← Fa.out] at ho11 | (simp only [Int.reduceToNat] at ho11; rw [← Fa.out] at ho11)); refine k5_ (Ya_ gM) (Kd.R_lower ho11 (below_size (Z91))) (Ye_ fv) (IsS69.below (Z78) hb) (below_step (Z91) hb) ?_; clear gM fv HI400 HB; intro gM iM fv HI400 HB; clear hb ho11; obtain ⟨pO, mG, rn⟩ := Kd.R_slice iM.out; subst rn) | ((with_reducible refine gate_callee (f := 46) rfl ?_); refine gl_ 15 Try.func46 #[.pointer (some ⟨gn, 0, none⟩), .slice pO GI.length mG] ?_; (with_reducible refine (spec_l1Cur_among.calls gn l0 BV BW _ _ GI yF yG yH w _ ?_ ?_ ?_ ?_ ?_ A4.out).mono ?_); exact Z78; exact Z91; exact (Z7 iM); exact (Kd.R_reads' iM.out).2.1; exact far_slice (IsS69.own_ne HI400.out iM.out (by decide)); rintro e lG ⟨rfl, hi, hb, hk⟩; refine ⟨_, rfl, ?_⟩; refine k5_ (KeepBut.blk hk (g' := jh) (o := .cells #[.slice none 0 0, .int .i64 0] 44 (0, 0)) (Z1 fv) ji.out (by simp)) (Kd.R_mono (Kd.R_keep (IsS69.apart (show IsS69 w _ gn l0 BV BW from Z78) (Z2 gM) (by decide)) hk (fun _ h => h.2)) (fun _ h => h.1)) (Kd.R_mono (Kd.R_keep (IsS69.apart (show IsS69 w _ gn l0 BV BW from Z78) (Z2 iM) (by decide)) hk (fun _ h => h.2)) (fun _ h => h.1)) (hb) (hi) ?_; clear fv gM iM HB HI400; intro fv gM iM HB HI400; (try clear hb hk hi)) | ((with_reducible refine gate_dst (N := 16) rfl ?_); refine Kd.R_lit (Kd.int .i64) _ 3 ?hg (N := 16) ?hd (xs := ([0, 1, 2, vX, 200, yF] : List Int)) (inner := [.int .i64 0, .int .i64 1, .int .i64 2, .int .i64 vX, .int .i64 200, .int .i64 yF]) (ok := fun _ => True) (okp := fun _ => True) ?hr ?hp (fun _ hk => hk) trivial (Below.refl _ _) (Nat.le_refl _) (by simp) ?_; (case hd => rfl); (case hg => rfl); (case hr => exact Z110); (case hp => exact (Reps.one (show Kd.M (Kd.int .i64) _ _ _ 0 [.int .i64 0] from rfl) (Reps.one (show Kd.M (Kd.int .i64) _ _ _ 1 [.int .i64 1] from rfl) (Reps.one (show Kd.M (Kd.int .i64) _ _ _ 2 [.int .i64 2] from rfl) (Reps.one (show Kd.M (Kd.int .i64) _ _ _ vX [.int .i64 vX] from rfl) (Reps.one (show Kd.M (Kd.int .i64) _ _ _ 200 [.int .i64 200] from rfl) (Reps.one (show Kd.M (Kd.int .i64) _ _ _ yF [.int .i64 yF] from rfl) (Reps.none _ _)))))))); intro v417 oC ho15 hb hg_ hnew_; clear hg_ hnew_; (first | rw [← Fb.out] at ho15 | (simp only [Int.reduceToNat] at ho15; rw [← Fb.out] at ho15)); refine k6_ (Ya_ gM) (Kd.R_elder' (Z2 iM) (Kd.R_base ho15) hb) (Kd.R_lower (Kd.R_new' ho15 (Yd_ iM)) (below_size (Z91))) (Ye_ fv) (IsS69.below (Z78) hb) (below_step (Z91) hb) ?_; clear gM iM fv HI400 HB; intro gM iM qq fv HI400 HB; clear hb ho15; obtain ⟨pA, pB, rg⟩ := Kd.R_slice qq.out; subst rg) | ((with_reducible refine gate_callee (f := 46) rfl ?_); refine gl_ 17 Try.func46 #[.pointer (some ⟨gn, 0, none⟩), .slice pA GJ.length pB] ?_; (with_reducible refine (spec_l1Cur_among.calls gn l0 yG yH _ _ GJ t419 t420 t421 w _ ?_ ?_ ?_ ?_ ?_ A5.out).mono ?_); exact Z78; exact Z91; exact (Z7 qq); exact (Kd.R_reads' qq.out).2.1; exact far_slice (IsS69.own_ne HI400.out qq.out (by decide)); rintro e ws ⟨rfl, hi, hb, hk⟩; refine ⟨_, rfl, ?_⟩; refine k6_ (KeepBut.blk hk (g' := jh) (o := .cells #[.slice none 0 0, .int .i64 0] 44 (0, 0)) (Z1 fv) ji.out (by simp)) (Kd.R_mono (Kd.R_keep (IsS69.apart (show IsS69 w _ gn l0 yG yH from Z78) (Z2 gM) (by decide)) hk (fun _ h => h.2)) (fun _ h => h.1)) (Kd.R_mono (Kd.R_keep (IsS69.apart (show IsS69 w _ gn l0 yG yH from Z78) (Z2 iM) (by decide)) hk (fun _ h => h.2)) (fun _ h => h.1)) (Kd.R_mono (Kd.R_keep (IsS69.apart (show IsS69 w _ gn l0 yG yH from Z78) (Z2 qq) (by decide)) hk (fun _ h => h.2)) (fun _ h => h.1)) (hb) (hi) ?_; clear fv gM iM qq HB HI400; intro fv gM iM qq HB HI400; (try clear hb hk hi); obtain ⟨ru, rv, pV⟩ := Kd.R_slice gM.out; subst pV; have hnb19 := ji.out; have hnc19 := qL.out; obtain ⟨wA, wB, wC, wD⟩ := bx2_ (w := ws) fv.out))
 refine bodyPost_ret (results_ct rfl _ _ jh 44 #[.slice ru yE.length rv, .int .i64 BU] (0, 0) _ rfl (by (with_reducible repeat (first | refine blk_drewN ?_ _ | refine blk_drew ?_ | refine blk_alloc ?_ _)); refine blk_put (cs := #[.slice ru yE.length rv, .int .i64 0]) ?_ 1 _ rfl; (with_reducible repeat (first | refine blk_drewN ?_ _ | refine blk_drew ?_ | refine blk_alloc ?_ _)); refine blk_put (cs := #[.slice none 0 0, .int .i64 0]) ?_ 0 _ rfl; (with_reducible repeat (first | refine blk_drewN ?_ _ | refine blk_drew ?_ | refine blk_alloc ?_ _)); exact fv.out) Try.underlying44 rfl (by kernel_rfl)) rfl ?_
 exact ⟨_, Z11, by (with_reducible repeat (first | apply Kd.R_alloc | apply Kd.R_drewN | apply Kd.R_drew)); exact Kd.R_mono (Kd.R_far (p := ⟨jh, 1, none⟩) (Kd.R_far (p := ⟨jh, 0, none⟩) (Kd.R_types gM.out fv.out (by decide)) (fun _ hk => hk.2) (.slice ru yE.length rv)) (fun _ hk => hk.2) (.int .i64 BU)) (fun _ hk => trivial), Z91⟩

/-! ### impl_isTrack: function 125 -/
def impl_isTrack.f (a0 : Int) : Option (Bool) := if a0 ≥ 0 then (some (decide (a0 < 20))) else (some false)
set_option maxHeartbeats 8000000 in
set_option maxRecDepth 100000 in
theorem impl_isTrack.calls (a0 : Int) (r : Bool) (w : World) (h : impl_isTrack.f a0 = some r) :
  Calls Try.prog 125 #[.int .i64 a0] w fun e w' => e = .returned (.bool r) ∧ Drawn0 w w' := by
 have H : (if a0 ≥ 0 then (some (decide (a0 < 20))) else (some false)) = some r := h
 clear h
 by_cases c2 : a0 ≥ 0
 ·rw [if_pos c2] at H
  have hP : decide (0 ≤ a0) = true := decide_eq_true c2
  clear c2
  obtain rfl := Option.some.inj H
  go_enter Try.func125, Try.ntmps125
  go_wp2
  go_ret
  exact ⟨Z41, Z138⟩
 rw [if_neg c2] at H
 have hP : decide (0 ≤ a0) = false := decide_eq_false c2
 clear c2
 obtain rfl := Option.some.inj H
 go_enter Try.func125, Try.ntmps125
 go_wp2
 go_ret
 exact ⟨Z41, Z138⟩

/-! ### impl_IsHole: function 106 -/
def impl_IsHole.f (a0_0 : Int) (a0_1 : Int) (a0_2 : Int) : Option (Bool) := (impl_isTrack.f a0_0).bind fun BX => (if BX = true then (if a0_1 ≥ 0 then (if a0_1 < a0_2 then (some (decide (a0_2 ≤ 2000))) else (some false)) else (some false)) else (some false))
set_option maxHeartbeats 8000000 in
set_option maxRecDepth 100000 in
theorem impl_IsHole.calls (a0_0 : Int) (a0_1 : Int) (a0_2 : Int) (r : Bool) (w : World) (h : impl_IsHole.f a0_0 a0_1 a0_2 = some r) :
  Calls Try.prog 106 #[.agg #[.int .i64 a0_0, .int .i64 a0_1, .int .i64 a0_2]] w fun e w' => e = .returned (.bool r) ∧ Below w.heap.size w w' := by
 have hu90 := Try.underlying90
 have HB := Aside0.mk (Below.refl w.heap.size w)
 have H : ((impl_isTrack.f a0_0).bind fun BX => (if BX = true then (if a0_1 ≥ 0 then (if a0_1 < a0_2 then (some (decide (a0_2 ≤ 2000))) else (some false)) else (some false)) else (some false))) = some r := h
 clear h
 obtain ⟨BX, A2, H⟩ := bd_ H
 (try dsimp only at H)
 by_cases c3 : BX = true
 ·subst c3
  rw [if_pos rfl] at H
  by_cases c4 : a0_1 ≥ 0
  ·rw [if_pos c4] at H
   have go : decide (0 ≤ a0_1) = true := decide_eq_true c4
   clear c4
   by_cases c5 : a0_1 < a0_2
   ·rw [if_pos c5] at H
    have gW : decide (a0_1 < a0_2) = true := decide_eq_true c5
    clear c5
    obtain rfl := Option.some.inj H
    go_enter Try.func106, Try.ntmps106
    go_wp2_with (first | ((with_reducible refine gate_dst (N := 1) rfl ?_); refine bv_ 1 90 #[.int .i64 a0_0, .int .i64 a0_1, .int .i64 a0_2] ?_; intro lC hg w6 hbox hb; refine k4_ (below_step (Z5) hb) (hbox) ((Z38 : w.heap.size ≤ lC)) ((Z38 : w.heap.size ≤ lC)) ?_; clear HB; intro HB qr BZ vZ; clear hb hbox hg; obtain ⟨mw, my, rP, mz, mA, rQ⟩ := bx3_ (w := w6) qr.out) | ((with_reducible refine gate_callee (f := 125) rfl ?_); refine gl_ 5 Try.func125 #[.int .i64 a0_0] ?_; (with_reducible refine (impl_isTrack.calls a0_0 true _ A2.out).mono ?_); rintro e w' ⟨rfl, ⟨nd, rfl⟩⟩; refine ⟨_, rfl, ?_⟩))
    go_ret
    exact ⟨Z11, Z178⟩
   rw [if_neg c5] at H
   have gW : decide (a0_1 < a0_2) = false := decide_eq_false c5
   clear c5
   obtain rfl := Option.some.inj H
   go_enter Try.func106, Try.ntmps106
   go_wp2_with (first | ((with_reducible refine gate_dst (N := 1) rfl ?_); refine bv_ 1 90 #[.int .i64 a0_0, .int .i64 a0_1, .int .i64 a0_2] ?_; intro lC hg w8 hbox hb; refine k4_ (below_step (Z5) hb) (hbox) ((Z38 : w.heap.size ≤ lC)) ((Z38 : w.heap.size ≤ lC)) ?_; clear HB; intro HB qr BZ vZ; clear hb hbox hg; obtain ⟨iO, jj, uL, jk, jl, uM⟩ := bx3_ (w := w8) qr.out) | ((with_reducible refine gate_callee (f := 125) rfl ?_); refine gl_ 5 Try.func125 #[.int .i64 a0_0] ?_; (with_reducible refine (impl_isTrack.calls a0_0 true _ A2.out).mono ?_); rintro e w' ⟨rfl, ⟨nd, rfl⟩⟩; refine ⟨_, rfl, ?_⟩))
   go_ret
   exact ⟨Z11, Z178⟩
  rw [if_neg c4] at H
  have go : decide (0 ≤ a0_1) = false := decide_eq_false c4
  clear c4
  obtain rfl := Option.some.inj H
  go_enter Try.func106, Try.ntmps106
  go_wp2_with (first | ((with_reducible refine gate_dst (N := 1) rfl ?_); refine bv_ 1 90 #[.int .i64 a0_0, .int .i64 a0_1, .int .i64 a0_2] ?_; intro lC hg oB hbox hb; refine k4_ (below_step (Z5) hb) (hbox) ((Z38 : w.heap.size ≤ lC)) ((Z38 : w.heap.size ≤ lC)) ?_; clear HB; intro HB qr BZ vZ; clear hb hbox hg; obtain ⟨lH, lI, wE, lJ, lK, wF⟩ := bx3_ (w := oB) qr.out) | ((with_reducible refine gate_callee (f := 125) rfl ?_); refine gl_ 5 Try.func125 #[.int .i64 a0_0] ?_; (with_reducible refine (impl_isTrack.calls a0_0 true _ A2.out).mono ?_); rintro e w' ⟨rfl, ⟨nd, rfl⟩⟩; refine ⟨_, rfl, ?_⟩))
  go_ret
  exact ⟨Z11, Z178⟩
 replace c3 := Bool.eq_false_iff.mpr c3
 subst c3
 rw [if_neg (show ¬ (false = true) by decide)] at H
 obtain rfl := Option.some.inj H
 go_enter Try.func106, Try.ntmps106
 go_wp2_with (first | ((with_reducible refine gate_dst (N := 1) rfl ?_); refine bv_ 1 90 #[.int .i64 a0_0, .int .i64 a0_1, .int .i64 a0_2] ?_; intro lC hg yI hbox hb; refine k4_ (below_step (Z5) hb) (hbox) ((Z38 : w.heap.size ≤ lC)) ((Z38 : w.heap.size ≤ lC)) ?_; clear HB; intro HB qr BZ vZ; clear hb hbox hg; obtain ⟨iz, iA, rR, iB, iC, rS⟩ := bx3_ (w := yI) qr.out) | ((with_reducible refine gate_callee (f := 125) rfl ?_); refine gl_ 5 Try.func125 #[.int .i64 a0_0] ?_; (with_reducible refine (impl_isTrack.calls a0_0 false _ A2.out).mono ?_); rintro e w' ⟨rfl, ⟨nd, rfl⟩⟩; refine ⟨_, rfl, ?_⟩))
 go_ret
 exact ⟨Z11, Z178⟩

/-! ### impl_holeLess: function 107 -/
def impl_holeLess.f (a0_0 : Int) (a0_1 : Int) (a0_2 : Int) (a1_0 : Int) (a1_1 : Int) (a1_2 : Int) : Option (Bool) := if a0_1 = a1_1 then (some (decide (a0_0 < a1_0))) else (some (decide (a0_1 < a1_1)))
set_option maxHeartbeats 8000000 in
set_option maxRecDepth 100000 in
theorem impl_holeLess.calls (a0_0 : Int) (a0_1 : Int) (a0_2 : Int) (a1_0 : Int) (a1_1 : Int) (a1_2 : Int) (r : Bool) (w : World) (h : impl_holeLess.f a0_0 a0_1 a0_2 a1_0 a1_1 a1_2 = some r) :
  Calls Try.prog 107 #[.agg #[.int .i64 a0_0, .int .i64 a0_1, .int .i64 a0_2], .agg #[.int .i64 a1_0, .int .i64 a1_1, .int .i64 a1_2]] w fun e w' => e = .returned (.bool r) ∧ Below w.heap.size w w' := by
 have hu90 := Try.underlying90
 have HB := Aside0.mk (Below.refl w.heap.size w)
 have H : (if a0_1 = a1_1 then (some (decide (a0_0 < a1_0))) else (some (decide (a0_1 < a1_1)))) = some r := h
 clear h
 by_cases c3 : a0_1 = a1_1
 ·rw [if_pos c3] at H
  have f5 : (a0_1 == a1_1) = true := beq_iff_eq.mpr c3
  have oE : (a0_1 != a1_1) = false := bne_eq_false_iff_eq.mpr c3
  clear c3
  obtain rfl := Option.some.inj H
  go_enter Try.func107, Try.ntmps107
  go_wp2_with (first | ((with_reducible refine gate_dst (N := 2) rfl ?_); refine bv_ 2 90 #[.int .i64 a0_0, .int .i64 a0_1, .int .i64 a0_2] ?_; intro jZ hg w4 hbox hb; refine k4_ (below_step (Z5) hb) (hbox) ((Z38 : w.heap.size ≤ jZ)) ((Z38 : w.heap.size ≤ jZ)) ?_; clear HB; intro HB j6 GW424 yL; clear hb hbox hg) | ((with_reducible refine gate_dst (N := 3) rfl ?_); refine bv_ 3 90 #[.int .i64 a1_0, .int .i64 a1_1, .int .i64 a1_2] ?_; intro nM hg w5 hbox hb; refine k7_ (Ye_ j6) (below_step (Z149) hb) (hbox) ((by rw [hg]; exact (below_size (Z149)) : w.heap.size ≤ nM)) ((by rw [hg]; exact (below_size (Z149)) : w.heap.size ≤ nM)) ((Z257 : jZ ≠ nM)) ((Z258 : nM ≠ jZ)) ?_; clear j6 HB; intro j6 HB B0 GW425 Dh n9 oa; clear hb hbox hg; have hnb6 := n9.out; have hnc6 := oa.out; obtain ⟨mw, my, rP, mz, mA, rQ⟩ := bx3_ (w := w5) j6.out; obtain ⟨fg, fh, nO, fy, fi, nP⟩ := bx3_ (w := w5) B0.out))
  go_ret
  exact ⟨Z11, Z234⟩
 rw [if_neg c3] at H
 have f5 : (a0_1 == a1_1) = false := beq_eq_false_iff_ne.mpr c3
 have oE : (a0_1 != a1_1) = true := bne_iff_ne.mpr c3
 obtain rfl := Option.some.inj H
 go_enter Try.func107, Try.ntmps107
 go_wp2_with (first | ((with_reducible refine gate_dst (N := 2) rfl ?_); refine bv_ 2 90 #[.int .i64 a0_0, .int .i64 a0_1, .int .i64 a0_2] ?_; intro jZ hg w9 hbox hb; refine k4_ (below_step (Z5) hb) (hbox) ((Z38 : w.heap.size ≤ jZ)) ((Z38 : w.heap.size ≤ jZ)) ?_; clear HB; intro HB j6 GW424 yL; clear hb hbox hg) | ((with_reducible refine gate_dst (N := 3) rfl ?_); refine bv_ 3 90 #[.int .i64 a1_0, .int .i64 a1_1, .int .i64 a1_2] ?_; intro nM hg oB hbox hb; refine k7_ (Ye_ j6) (below_step (Z149) hb) (hbox) ((by rw [hg]; exact (below_size (Z149)) : w.heap.size ≤ nM)) ((by rw [hg]; exact (below_size (Z149)) : w.heap.size ≤ nM)) ((Z257 : jZ ≠ nM)) ((Z258 : nM ≠ jZ)) ?_; clear j6 HB; intro j6 HB B0 GW425 Dh n9 oa; clear hb hbox hg; have D0 := n9.out; have D1 := oa.out; obtain ⟨gC, gD, wy, gE, gF, wz⟩ := bx3_ (w := oB) j6.out; obtain ⟨iz, iA, rR, iB, iC, rS⟩ := bx3_ (w := oB) B0.out))
 go_ret
 exact ⟨Z11, Z234⟩

end Go.Proofs.Ytmnnmddfmmaohaa.PFnPunchJobs
