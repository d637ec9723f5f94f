-- written by a program of this session: the kit's print, with outer functions of the session's own (wip/ext)
import Derived.Test.YtflefblmaopaiaaPFnStopsx0
import Derived.Test.YtflefblmaopaiaaPFnStopsx1
import Derived.Test.YtflefblmaopaiaaPFnStopsx2
import Derived.Test.YtflefblmaopaiaaPFnStopsx3
import Derived.Test.YtflefblmaopaiaaPFnStopsx10
import Derived.Test.YtflefblmaopaiaaPFnStopsx11
import Derived.Test.YtflefblmaopaiaaPFnStopsx12
namespace Go.Proofs.Ytflefblmaopaiaa.PFnStops
open Go.RowKit Go.Proofs.YtflefblmaopaiaaW.PrintWords Go.Proofs.YtflefblmaopaiaaW.PrintLast Go.Proofs.YtflefblmaopaiaaW.PrintMore
attribute [local go_sem] max2_int min2_int max_two min_two max_three min_three max_four min_four   -- for this text's walks alone
set_option linter.unusedVariables false
set_option linter.unusedSimpArgs false
theorem mo14_ {p : Prop} (h : p := by repeat' first | (with_reducible first | apply ih0 | apply ih0 | apply impl_IsPunchJob.mono | apply impl_IsPunchJob.mono | apply impl_jobStrokes.mono | apply impl_jobStrokes.mono | apply laws_qSheet.mono | apply laws_qSheet.mono | apply spec_jbStrokes.mono | apply spec_jbStrokes.mono | apply spec_shGood.mono | apply spec_shGood.mono | exact LeO.refl _ | exact LeO.none _ | refine LeO.ite ?_ ?_ | refine LeO.bind ?_ (fun _ => ?_)) | exact LeO.none _ | refine LeO.ite ?_ ?_ | refine LeO.bind ?_ (fun _ => ?_)) : p := h

attribute [local go_sem high] eqA64
/-! ### spec_SplitSheet: function 12 -/
def spec_SplitSheet.f (k : Nat) (l0 : List (S64)) (a1 : Int) : Option ((List (S64)) × (List (S64)) × Bool) := (spec_shGood.f k l0).bind fun t590 => (if t590 = true then ((spec_l1In.f a1 0 (l0.length : Int)).bind fun t591 => (if t591 = true then ((some (([] : List (S64)) : List (S64))).bind fun y592 => (if 0 ≤ a1 then (if a1 ≤ (l0.length : Int) then ((some (l0.take (a1 : Int).toNat : List (S64))).bind fun y595 => (if y592.length + y595.length < 5864062014805 then ((some (([] : List (S64)) : List (S64))).bind fun y602 => ((some (l0.drop (a1 : Int).toNat : List (S64))).bind fun y605 => (if y602.length + y605.length < 5864062014805 then (some ((y592 ++ y595), (y602 ++ y605), true)) else (none)))) else (none))) else (none)) else (none))) else (some (([] : List (S64)), ([] : List (S64)), false)))) else (some (([] : List (S64)), ([] : List (S64)), false)))
theorem spec_SplitSheet.mono : ∀ a0 a1 k, LeO (spec_SplitSheet.f k a0 a1) (spec_SplitSheet.f (k + 1) a0 a1) := by
 intro a0 a1 k
 unfold spec_SplitSheet.f
 exact mo14_
def spec_SplitSheet.T3 : Bool × List (List Nat × List Nat) := (true, [([], []), ([], []), ([], []), ([1, 2], [1, 2]), ([0, 3], [0, 3]), ([], []), ([], []), ([], []), ([6, 7], [6, 7]), ([5, 8, 4], [5, 8]), ([4, 9, 0, 1, 2, 3, 4], [4]), ([9, 10, 0, 1, 2, 3, 4, 5, 6, 7, 8, 9, 10], [9]), ([11, 0, 1, 2, 3, 4, 5, 6, 7, 8, 9, 10, 11], [])])
def spec_SplitSheet.B3 : List Nat := [0, 0, 0, 6, 15, 0, 0, 0, 192, 511, 1023, 2047, 4095]
theorem spec_SplitSheet.tab3 : rtab .any (opsOf Try.f12 3) = spec_SplitSheet.T3 := by kernel_rfl
theorem spec_SplitSheet.bits3 : waitsOk spec_SplitSheet.T3.2 spec_SplitSheet.B3 = true := by kernel_rfl
set_option maxHeartbeats 8000000 in
set_option maxRecDepth 100000 in
theorem spec_SplitSheet.calls (k : Nat) (A0 : Option Addr) (c0 : Nat) (l0 : List (S64)) (a1 : Int) (r1 : List (S64)) (r2 : List (S64)) (r3 : Bool) (w : World) (hr0 : Kd.C k64 w A0 l0.length l0) (hc0 : l0.length ≤ c0) (h : spec_SplitSheet.f k l0 a1 = some (r1, r2, r3)) :
  Calls Try.prog 12 #[.slice A0 l0.length c0, .int .i64 a1] w fun e w' => ∃ v0_ v1_ : Value, e = .returned (.tuple #[v0_, v1_, .bool r3]) ∧ Kd.R k64 64 w' w.heap.size (fun k_ => some k_ ≠ (v1_ : Value).ownBlock) v0_ r1 ∧ Kd.R k64 64 w' w.heap.size (fun k_ => some k_ ≠ (v0_ : Value).ownBlock) v1_ r2 ∧ Below w.heap.size w w' := by
 have HR0 := Aside0.mk hr0
 have HC0 := Aside0.mk hc0
 clear hr0 hc0
 have HB := Aside0.mk (Below.refl w.heap.size w)
 have H : ((spec_shGood.f k l0).bind fun t590 => (if t590 = true then ((spec_l1In.f a1 0 (l0.length : Int)).bind fun t591 => (if t591 = true then ((some (([] : List (S64)) : List (S64))).bind fun y592 => (if 0 ≤ a1 then (if a1 ≤ (l0.length : Int) then ((some (l0.take (a1 : Int).toNat : List (S64))).bind fun y595 => (if y592.length + y595.length < 5864062014805 then ((some (([] : List (S64)) : List (S64))).bind fun y602 => ((some (l0.drop (a1 : Int).toNat : List (S64))).bind fun y605 => (if y602.length + y605.length < 5864062014805 then (some ((y592 ++ y595), (y602 ++ y605), true)) else (none)))) else (none))) else (none)) else (none))) else (some (([] : List (S64)), ([] : List (S64)), false)))) else (some (([] : List (S64)), ([] : List (S64)), false)))) = some (r1, r2, r3) := h
 clear h
 replace H := Option.bind_eq_some_iff.mp H
 obtain ⟨t590, A30, H⟩ := H
 (try dsimp only at H)
 have A3 := Aside0.mk A30
 clear A30
 by_cases c4 : t590 = true
 ·subst c4
  rw [if_pos rfl] at H
  replace H := Option.bind_eq_some_iff.mp H
  obtain ⟨t591, A50, H⟩ := H
  (try dsimp only at H)
  have A5 := Aside0.mk A50
  clear A50
  by_cases c6 : t591 = true
  ·subst c6
   rw [if_pos rfl] at H
   obtain ⟨y592, hy592⟩ : ∃ y_ : List (S64), y_ = (([] : List (S64))) := ⟨_, rfl⟩
   replace H : (if 0 ≤ a1 then (if a1 ≤ (l0.length : Int) then ((some (l0.take (a1 : Int).toNat : List (S64))).bind fun y595 => (if y592.length + y595.length < 5864062014805 then ((some (([] : List (S64)) : List (S64))).bind fun y602 => ((some (l0.drop (a1 : Int).toNat : List (S64))).bind fun y605 => (if y602.length + y605.length < 5864062014805 then (some ((y592 ++ y595), (y602 ++ y605), true)) else (none)))) else (none))) else (none)) else (none)) = some (r1, r2, r3) := by first | (rw [hy592]; with_reducible exact H) | (have H2_ := (Option.bind_some _ _).symm.trans H; rw [hy592]; with_reducible exact H2_) | (have H2_ := (Option.bind_some _ _).symm.trans H; with_reducible exact H2_) | with_reducible exact H | (rw [hy592]; exact H) | exact H
   have Ny592 := Aside0.mk hy592
   clear hy592
   by_cases c7 : 0 ≤ a1
   ·rw [if_pos c7] at H
    have c7b0 := eq_true c7
    have c7b1 : decide (0 ≤ a1) = true := decide_eq_true c7
    clear c7
    by_cases c8 : a1 ≤ (l0.length : Int)
    ·rw [if_pos c8] at H
     have c8b0 := eq_true c8
     have c8b1 : decide (a1 ≤ (l0.length : Int)) = true := decide_eq_true c8
     clear c8
     obtain ⟨y595, hy595⟩ : ∃ y_ : List (S64), y_ = (l0.take (a1 : Int).toNat) := ⟨_, rfl⟩
     replace H : (if y592.length + y595.length < 5864062014805 then ((some (([] : List (S64)) : List (S64))).bind fun y602 => ((some (l0.drop (a1 : Int).toNat : List (S64))).bind fun y605 => (if y602.length + y605.length < 5864062014805 then (some ((y592 ++ y595), (y602 ++ y605), true)) else (none)))) else (none)) = some (r1, r2, r3) := by first | (rw [hy595]; with_reducible exact H) | (have H2_ := (Option.bind_some _ _).symm.trans H; rw [hy595]; with_reducible exact H2_) | (have H2_ := (Option.bind_some _ _).symm.trans H; with_reducible exact H2_) | with_reducible exact H | (rw [hy595]; exact H) | exact H
     have Ny595 := Aside0.mk hy595
     clear hy595
     by_cases c9 : y592.length + y595.length < 5864062014805
     ·rw [if_pos c9] at H
      have LMc9 := Aside0.mk c9
      clear c9
      obtain ⟨y599, hy599⟩ : ∃ y_ : List (S64), y_ = (y592 ++ y595) := ⟨_, rfl⟩
      replace H : ((some (([] : List (S64)) : List (S64))).bind fun y602 => ((some (l0.drop (a1 : Int).toNat : List (S64))).bind fun y605 => (if y602.length + y605.length < 5864062014805 then (some (y599, (y602 ++ y605), true)) else (none)))) = some (r1, r2, r3) := by first | (rw [hy599]; with_reducible exact H) | (have H2_ := (Option.bind_some _ _).symm.trans H; rw [hy599]; with_reducible exact H2_) | (have H2_ := (Option.bind_some _ _).symm.trans H; with_reducible exact H2_) | with_reducible exact H | (rw [hy599]; exact H) | exact H
      have Ny599 := Aside0.mk hy599
      clear hy599
      obtain ⟨y602, hy602⟩ : ∃ y_ : List (S64), y_ = (([] : List (S64))) := ⟨_, rfl⟩
      replace H : ((some (l0.drop (a1 : Int).toNat : List (S64))).bind fun y605 => (if y602.length + y605.length < 5864062014805 then (some (y599, (y602 ++ y605), true)) else (none))) = some (r1, r2, r3) := by first | (rw [hy602]; with_reducible exact H) | (have H2_ := (Option.bind_some _ _).symm.trans H; rw [hy602]; with_reducible exact H2_) | (have H2_ := (Option.bind_some _ _).symm.trans H; with_reducible exact H2_) | with_reducible exact H | (rw [hy602]; exact H) | exact H
      have Ny602 := Aside0.mk hy602
      clear hy602
      have c10b0 := eq_true (of_decide_eq_true (Z18) : 0 ≤ a1)
      have c11b0 := eq_true (of_decide_eq_true (Z18) : a1 ≤ (l0.length : Int))
      obtain ⟨y605, hy605⟩ : ∃ y_ : List (S64), y_ = (l0.drop (a1 : Int).toNat) := ⟨_, rfl⟩
      replace H : (if y602.length + y605.length < 5864062014805 then (some (y599, (y602 ++ y605), true)) else (none)) = some (r1, r2, r3) := by first | (rw [hy605]; with_reducible exact H) | (have H2_ := (Option.bind_some _ _).symm.trans H; rw [hy605]; with_reducible exact H2_) | (have H2_ := (Option.bind_some _ _).symm.trans H; with_reducible exact H2_) | with_reducible exact H | (rw [hy605]; exact H) | exact H
      have Ny605 := Aside0.mk hy605
      clear hy605
      by_cases c12 : y602.length + y605.length < 5864062014805
      ·rw [if_pos c12] at H
       have LMc12 := Aside0.mk c12
       clear c12
       obtain ⟨y609, hy609⟩ : ∃ y_ : List (S64), y_ = (y602 ++ y605) := ⟨_, rfl⟩
       replace H : (some (y599, y609, true)) = some (r1, r2, r3) := by first | (rw [hy609]; with_reducible exact H) | (have H2_ := (Option.bind_some _ _).symm.trans H; rw [hy609]; with_reducible exact H2_) | (have H2_ := (Option.bind_some _ _).symm.trans H; with_reducible exact H2_) | with_reducible exact H | (rw [hy609]; exact H) | exact H
       have Ny609 := Aside0.mk hy609
       clear hy609
       simp only [Option.some.injEq, Prod.mk.injEq] at H
       obtain ⟨rfl, rfl, rfl⟩ := H
       go_enter Try.func12, Try.ntmps12
       try go_wp2_with (first | ((with_reducible refine gate_callee (f := 38) rfl ?_); refine gl_ 8 Try.func38 #[.slice A0 l0.length c0] ?_; (with_reducible refine (spec_shGood.calls k _ _ l0 true _ ?_ ?_ A3.out).mono ?_); exact Z136; exact HC0.out; rintro e w13 ⟨rfl, hb⟩; refine ⟨_, rfl, ?_⟩; refine k1_ (below_step (Z3) hb) ?_; clear HB; intro HB; (try clear hb)) | (go_at_call 35; (with_reducible refine (spec_l1In.calls a1 0 (l0.length : Int) true _ A5.out).mono ?_); rintro e w' ⟨rfl, ⟨nd, rfl⟩⟩))
       (try (rw [drewN_self w13]; generalize hq_ : World.drewN w13 _ = w13; have n0_ : Aside0 (Below w.heap.size w w13) := ⟨by rw [← hq_]; exact Z3⟩; clear HB hq_; have HB := n0_; clear n0_))
       refine k1_ (below_drew1 HB.out) ?_
       clear HB
       intro HB
       have q15 : (a1 : Int) ≤ ((l0.length : Int) : Int) := of_decide_eq_true (Z18)
       obtain ⟨i015, hi015, _, hsz15, _⟩ := info_parts info64
       have hroom15 : l0.length ≤ c0 := HC0.out
       have hC15 : Kd.C k64 _ A0 l0.length l0 := HR0.out
       have hcut15 := cut_to (P := Try.prog) 23 64 .i64 Try.underlying23 hi015 A0 l0.length c0 a1 (of_decide_eq_true (Z18)) q15 hroom15
       have hr15 := Kd.C_take (m := (a1 : Int).toNat) hC15 (by omega)
       have hy15 : y595.length = (a1 : Int).toNat := (by rw [Ny595.out, List.length_take]; omega)
       rw [← Ny595.out] at hr15
       rw [← hy15] at hcut15
       have HR598 := Aside0.mk hr15
       have HC598 := Aside0.mk (show y595.length ≤ c0 from by omega)
       clear hr15 hC15 hroom15 hi015 hsz15
       have KY15 := Aside0.mk hy15
       clear hy15
       replace q15 := eq_true q15
       have q16 : (a1 : Int) ≤ ((l0.length : Int) : Int) := of_decide_eq_true (Z18)
       obtain ⟨i016, hi016, _, hsz16, _⟩ := info_parts info64
       have hroom16 : l0.length ≤ c0 := HC0.out
       have hC16 : Kd.C k64 _ A0 l0.length l0 := HR0.out
       have q016 : (0 : Int) ≤ (a1 : Int) := of_decide_eq_true (Z18)
       have hcut16 := cut_from (P := Try.prog) 23 64 .i64 Try.underlying23 hi016 3 hsz16 A0 l0.length c0 a1 q016 q16
       have hr16 := Kd.C_drop (m := (a1 : Int).toNat) (c := c0) hC16 (by omega) hroom16
       obtain ⟨A16, hA16⟩ : ∃ A1, A1 = (if c0 = (a1 : Int).toNat then A0 else (A0 : Option Addr).map (·.add ((a1 : Int).toNat * 3))) := ⟨_, rfl⟩
       obtain ⟨c16, hc16⟩ : ∃ c1, c1 = c0 - (a1 : Int).toNat := ⟨_, rfl⟩
       have hy16 : y605.length = l0.length - (a1 : Int).toNat := (by rw [Ny605.out, List.length_drop] <;> omega)
       rw [show (l0).drop (a1 : Int).toNat = y605 from Ny605.out.symm] at hr16
       replace hr16 : Kd.C k64 _ A16 y605.length y605 := (by rw [hA16]; exact hr16)
       rw [← hy16, ← hA16, ← hc16] at hcut16
       have HR608 := Aside0.mk hr16
       have HC608 := Aside0.mk (show y605.length ≤ c16 from by rw [hy16, hc16]; exact Nat.sub_le_sub_right hroom16 _)
       clear hr16 hC16 hroom16 hi016 hsz16 hc16
       have KY16 := Aside0.mk hy16
       have KA16 := Aside0.mk hA16
       clear hy16 hA16
       replace q16 := eq_true q16
       refine start_ (n := 13) (S := fun w' => True) (ds := []) (M_ 0 13) (by kernel_rfl) rfl rfl trivial (fun hHeld => ?_); refine with_tabW spec_SplitSheet.tab3 spec_SplitSheet.bits3 (fun HT_ HW_ => ?_)
       generalize w13.drew = w14 at HB HR598 HR608 hHeld ⊢
       refine pu_ 1 18 (N_ 13 2) ?_
       refine pu_ 2 19 (N_ 13 6) ?_
       refine pu_ 3 20 (N_ 13 14) ?_
       refine pu_ 6 23 (N_ 13 78) ?_
       refine pu_ 7 24 (N_ 13 206) ?_
       refine pu_ 8 25 (N_ 13 462) ?_
       refine join_ (σ := Value × Value × Value) 4 (M_ 9 4) (fun s_ => [(17, s_.1), (21, s_.2.1), (22, s_.2.2)]) (fun s_ w' => (Kd.R k64 64 w' w.heap.size (fun k_ => some k_ ≠ (s_.2.2 : Value).ownBlock) s_.2.1 y599) ∧ (Kd.R k64 64 w' w.heap.size (fun k_ => some k_ ≠ (s_.2.1 : Value).ownBlock) s_.2.2 y602) ∧ (Below w.heap.size w w')) ?_ ?_
       rotate_left
       ·intro hCont
        refine two_ (i := 0) (j := 5) (Ni := some 17) (Nj := some 22) (N_ 13 463) (N_ 13 494) rfl rfl rfl rfl (two_of HT_.out (by kernel_rfl)) (by decide) (by decide) (fun K hK => ?_) (fun K hK => ?_)
        ·skip
         refine Kd.R_lit_step k64 _ 64 ?hg (N := 17) ?hd (xs := ([] : List (S64))) (inner := []) (ok := fun _ => True) (okp := fun _ => True) ?hr ?hp (fun _ hk => hk) trivial (Below.refl _ _) (Nat.le_refl _) (by simp) ?_; (case hd => rfl); (case hg => rfl); (case hr => exact Z100); (case hp => exact (Reps.none _ _))
         intro v593 w17 ho18 hb hg_ hnew_
         clear hg_ hnew_
         (first | rw [← Ny592.out] at ho18 | (simp only [Int.reduceToNat] at ho18; rw [← Ny592.out] at ho18))
         refine k2_ (Kd.R_lower ho18 (below_size (Z3))) (below_step (Z3) hb) ?_
         clear HB
         intro HO594 HB
         clear hb ho18
         refine hK.out _ _ trivial (fun hHeld => ?_)
         clear hK K
         refine norm_ (a' := ?_) ?_ ?_
         rotate_left
         ·show Act.put _ (some 17) _ = _
          simp only [Act.put, List.setIfInBounds_toArray, List.set_cons_zero, List.set_cons_succ, i64_w, i32_w]
          rfl
         refine two_ (i := 4) (j := 5) (Ni := some 21) (Nj := some 22) (N_ 13 479) (N_ 13 495) rfl rfl rfl rfl (two_of HT_.out (by kernel_rfl)) (by decide) (by decide) (fun K hK => ?_) (fun K hK => ?_)
         ·skip
          refine Kd.R_append_rows_step k64 (w0 := w) w.heap.size (by rfl) (.tmp 17) (.tmp 20) 23 64 (.agg #[(.int .i64 0), (.int .i64 0), (.int .i64 0)]) 24 rfl Try.underlying23 info64 rfl (by decide) (by omega) v593 y592 y595 _ _ _ (fun _ => True) (fun _ => False) rfl rfl ?aO ?aR (fun _ _ h => h) (fun _ h => h.elim) ?aF ?aB ?aS ?aL ?_
          (case aR => exact Z10 HR598.out)
          (case aB => exact Z3)
          (case aF => exact (fun _ _ => trivial))
          (case aO => exact Z1 HO594.out)
          (case aS => exact (below_size (Z3)))
          (case aL => have := LMc9.out; omega)
          intro v600 w19 ho hb hg hat
          rw [← Ny599.out] at ho
          refine k2_ (hb) (ho) ?_
          clear HB HO594
          intro HB HO601
          clear ho hb hg hat
          refine hK.out _ _ trivial (fun hHeld => ?_)
          clear hK K
          refine norm_ (a' := ?_) ?_ ?_
          rotate_left
          ·show Act.put _ (some 21) _ = _
           simp only [Act.put, List.setIfInBounds_toArray, List.set_cons_zero, List.set_cons_succ, i64_w, i32_w]
           rfl
          refine one_ (i := 5) (N := some 22) (M_ 9 4) rfl rfl (one_of HT_.out (by kernel_rfl)) (by decide) (fun K hK => ?_)
          refine Kd.R_lit_step k64 _ 64 ?hg (N := 22) ?hd (xs := ([] : List (S64))) (inner := []) (ok := fun _ => True) (okp := fun _ => True) ?hr ?hp (fun _ hk => hk) trivial (Below.refl _ _) (Nat.le_refl _) (by simp) ?_; (case hd => rfl); (case hg => rfl); (case hr => exact Z100); (case hp => exact (Reps.none _ _))
          intro v603 w20 ho21 hb hg_ hnew_
          clear hg_ hnew_
          (first | rw [← Ny602.out] at ho21 | (simp only [Int.reduceToNat] at ho21; rw [← Ny602.out] at ho21))
          have n0_ := Aside0.mk (Kd.R_elder' (Z1 HO601.out) (Kd.R_base ho21) hb)
          have n1_ := Aside0.mk (Kd.R_lower (Kd.R_new' ho21 (Yd_ HO601.out)) (below_size (Z3)))
          have n2_ := Aside0.mk (below_step (Z3) hb)
          clear HO601
          clear HB
          have HO601 := n0_
          have HO604 := n1_
          have HB := n2_
          clear n0_ n1_ n2_
          clear hb ho21
          refine hK.out _ _ trivial (fun hHeld => ?_)
          clear hK K
          refine norm_ (a' := ?_) ?_ ?_
          rotate_left
          ·show Act.put _ (some 22) _ = _
           simp only [Act.put, List.setIfInBounds_toArray, List.set_cons_zero, List.set_cons_succ, i64_w, i32_w]
           rfl
          exact norm_ (Z109) (hCont (v593, v600, v603) _ ⟨(Z83 HO601.out), (Z83 HO604.out), (Z3)⟩)
         skip
         refine Kd.R_lit_step k64 _ 64 ?hg (N := 22) ?hd (xs := ([] : List (S64))) (inner := []) (ok := fun _ => True) (okp := fun _ => True) ?hr ?hp (fun _ hk => hk) trivial (Below.refl _ _) (Nat.le_refl _) (by simp) ?_; (case hd => rfl); (case hg => rfl); (case hr => exact Z100); (case hp => exact (Reps.none _ _))
         intro v603 w19 ho20 hb hg_ hnew_
         clear hg_ hnew_
         (first | rw [← Ny602.out] at ho20 | (simp only [Int.reduceToNat] at ho20; rw [← Ny602.out] at ho20))
         have n0_ := Aside0.mk (Kd.R_elder' (Z1 HO594.out) (Kd.R_base ho20) hb)
         have n1_ := Aside0.mk (Kd.R_lower (Kd.R_new' ho20 (Yd_ HO594.out)) (below_size (Z3)))
         have n2_ := Aside0.mk (below_step (Z3) hb)
         clear HO594
         clear HB
         have HO594 := n0_
         have HO604 := n1_
         have HB := n2_
         clear n0_ n1_ n2_
         clear hb ho20
         refine hK.out _ _ trivial (fun hHeld => ?_)
         clear hK K
         refine norm_ (a' := ?_) ?_ ?_
         rotate_left
         ·show Act.put _ (some 22) _ = _
          simp only [Act.put, List.setIfInBounds_toArray, List.set_cons_zero, List.set_cons_succ, i64_w, i32_w]
          rfl
         refine one_ (i := 4) (N := some 21) (M_ 9 4) rfl rfl (one_of HT_.out (by kernel_rfl)) (by decide) (fun K hK => ?_)
         refine Kd.R_append_rows_step k64 (w0 := w) w.heap.size (by rfl) (.tmp 17) (.tmp 20) 23 64 (.agg #[(.int .i64 0), (.int .i64 0), (.int .i64 0)]) 24 rfl Try.underlying23 info64 rfl (by decide) (by omega) v593 y592 y595 _ _ _ (fun k_ => some k_ ≠ (v603 : Value).ownBlock) (fun _ => False) rfl rfl ?aO ?aR (fun _ _ h => h) (fun _ h => h.elim) ?aF ?aB ?aS ?aL ?_
         (case aR => exact Z10 HR598.out)
         (case aB => exact Z3)
         (case aF => exact (fun k_ hk => Kd.fresh' (Yd_ HO604.out) k_ hk))
         (case aO => exact Z83 HO594.out)
         (case aS => exact (below_size (Z3)))
         (case aL => have := LMc9.out; omega)
         intro v600 w21 ho hb hg hat
         rw [← Ny599.out] at ho
         have n0_ := Aside0.mk (Kd.R_after (ok := (fun _ => True)) (Z1 HO604.out) hg hat)
         have n1_ := Aside0.mk (hb)
         have n2_ := Aside0.mk (ho)
         clear HO604
         clear HB
         clear HO594
         have HO604 := n0_
         have HB := n1_
         have HO601 := n2_
         clear n0_ n1_ n2_
         clear ho hb hg hat
         refine hK.out _ _ trivial (fun hHeld => ?_)
         clear hK K
         refine norm_ (a' := ?_) ?_ ?_
         rotate_left
         ·show Act.put _ (some 21) _ = _
          simp only [Act.put, List.setIfInBounds_toArray, List.set_cons_zero, List.set_cons_succ, i64_w, i32_w]
          rfl
         exact norm_ (Z109) (hCont (v593, v600, v603) _ ⟨(Z1 HO601.out), (Z83 HO604.out), (Z3)⟩)
        skip
        refine Kd.R_lit_step k64 _ 64 ?hg (N := 22) ?hd (xs := ([] : List (S64))) (inner := []) (ok := fun _ => True) (okp := fun _ => True) ?hr ?hp (fun _ hk => hk) trivial (Below.refl _ _) (Nat.le_refl _) (by simp) ?_; (case hd => rfl); (case hg => rfl); (case hr => exact Z100); (case hp => exact (Reps.none _ _))
        intro v603 w17 ho18 hb hg_ hnew_
        clear hg_ hnew_
        (first | rw [← Ny602.out] at ho18 | (simp only [Int.reduceToNat] at ho18; rw [← Ny602.out] at ho18))
        refine k2_ (Kd.R_lower ho18 (below_size (Z3))) (below_step (Z3) hb) ?_
        clear HB
        intro HO604 HB
        clear hb ho18
        refine hK.out _ _ trivial (fun hHeld => ?_)
        clear hK K
        refine norm_ (a' := ?_) ?_ ?_
        rotate_left
        ·show Act.put _ (some 22) _ = _
         simp only [Act.put, List.setIfInBounds_toArray, List.set_cons_zero, List.set_cons_succ, i64_w, i32_w]
         rfl
        refine one_ (i := 0) (N := some 17) (N_ 13 495) rfl rfl (one_of HT_.out (by kernel_rfl)) (by decide) (fun K hK => ?_)
        refine Kd.R_lit_step k64 _ 64 ?hg (N := 17) ?hd (xs := ([] : List (S64))) (inner := []) (ok := fun _ => True) (okp := fun _ => True) ?hr ?hp (fun _ hk => hk) trivial (Below.refl _ _) (Nat.le_refl _) (by simp) ?_; (case hd => rfl); (case hg => rfl); (case hr => exact Z100); (case hp => exact (Reps.none _ _))
        intro v593 w19 ho20 hb hg_ hnew_
        clear hg_ hnew_
        (first | rw [← Ny592.out] at ho20 | (simp only [Int.reduceToNat] at ho20; rw [← Ny592.out] at ho20))
        have n0_ := Aside0.mk (Kd.R_elder' (Z1 HO604.out) (Kd.R_base ho20) hb)
        have n1_ := Aside0.mk (Kd.R_lower (Kd.R_new' ho20 (Yd_ HO604.out)) (below_size (Z3)))
        have n2_ := Aside0.mk (below_step (Z3) hb)
        clear HO604
        clear HB
        have HO604 := n0_
        have HO594 := n1_
        have HB := n2_
        clear n0_ n1_ n2_
        clear hb ho20
        refine hK.out _ _ trivial (fun hHeld => ?_)
        clear hK K
        refine norm_ (a' := ?_) ?_ ?_
        rotate_left
        ·show Act.put _ (some 17) _ = _
         simp only [Act.put, List.setIfInBounds_toArray, List.set_cons_zero, List.set_cons_succ, i64_w, i32_w]
         rfl
        refine one_ (i := 4) (N := some 21) (M_ 9 4) rfl rfl (one_of HT_.out (by kernel_rfl)) (by decide) (fun K hK => ?_)
        refine Kd.R_append_rows_step k64 (w0 := w) w.heap.size (by rfl) (.tmp 17) (.tmp 20) 23 64 (.agg #[(.int .i64 0), (.int .i64 0), (.int .i64 0)]) 24 rfl Try.underlying23 info64 rfl (by decide) (by omega) v593 y592 y595 _ _ _ (fun k_ => some k_ ≠ (v603 : Value).ownBlock) (fun _ => False) rfl rfl ?aO ?aR (fun _ _ h => h) (fun _ h => h.elim) ?aF ?aB ?aS ?aL ?_
        (case aR => exact Z10 HR598.out)
        (case aB => exact Z3)
        (case aF => exact (fun k_ hk => Kd.fresh' (Yd_ HO604.out) k_ hk))
        (case aO => exact Z83 HO594.out)
        (case aS => exact (below_size (Z3)))
        (case aL => have := LMc9.out; omega)
        intro v600 w21 ho hb hg hat
        rw [← Ny599.out] at ho
        have n0_ := Aside0.mk (Kd.R_after (ok := (fun _ => True)) (Z1 HO604.out) hg hat)
        have n1_ := Aside0.mk (hb)
        have n2_ := Aside0.mk (ho)
        clear HO604
        clear HB
        clear HO594
        have HO604 := n0_
        have HB := n1_
        have HO601 := n2_
        clear n0_ n1_ n2_
        clear ho hb hg hat
        refine hK.out _ _ trivial (fun hHeld => ?_)
        clear hK K
        refine norm_ (a' := ?_) ?_ ?_
        rotate_left
        ·show Act.put _ (some 21) _ = _
         simp only [Act.put, List.setIfInBounds_toArray, List.set_cons_zero, List.set_cons_succ, i64_w, i32_w]
         rfl
        exact norm_ (Z109) (hCont (v593, v600, v603) _ ⟨(Z1 HO601.out), (Z83 HO604.out), (Z3)⟩)
       rintro ⟨v593, v600, v603⟩ w22 ⟨h0_, h1_, h2_⟩
       have n0_ : Aside0 (Kd.R k64 64 w22 w.heap.size (fun k_ => some k_ ≠ (v603 : Value).ownBlock) v600 y599) := ⟨h0_⟩
       have n1_ : Aside0 (Kd.R k64 64 w22 w.heap.size (fun k_ => some k_ ≠ (v600 : Value).ownBlock) v603 y602) := ⟨h1_⟩
       have n2_ : Aside0 (Below w.heap.size w w22) := ⟨h2_⟩
       clear HB
       clear h0_ h1_ h2_
       have HO601 := n0_
       have HO604 := n1_
       have HB := n2_
       clear n0_ n1_ n2_
       have hHeld := trivial
       refine norm_ (a' := ?_) ?_ ?_
       rotate_left
       ·simp only [putAll, Act.put, List.setIfInBounds_toArray, List.set_cons_zero, List.set_cons_succ]
        rfl
       refine one_ (i := 9) (N := some 26) (M_ 10 3) rfl rfl (one_of HT_.out (by kernel_rfl)) (by decide) (fun K hK => ?_)
       refine Kd.R_append_rows_step k64 (w0 := w) w.heap.size (by rfl) (.tmp 22) (.tmp 25) 23 64 (.agg #[(.int .i64 0), (.int .i64 0), (.int .i64 0)]) 24 rfl Try.underlying23 info64 rfl (by decide) (by omega) v603 y602 y605 _ _ _ (fun k_ => some k_ ≠ (v600 : Value).ownBlock) (fun _ => False) rfl rfl ?aO ?aR (fun _ _ h => h) (fun _ h => h.elim) ?aF ?aB ?aS ?aL ?_
       (case aR => exact Z10 HR608.out)
       (case aB => exact Z3)
       (case aF => exact (fun k_ hk => Kd.fresh' (Yd_ HO601.out) k_ hk))
       (case aO => exact Z1 HO604.out)
       (case aS => exact (below_size (Z3)))
       (case aL => have := LMc12.out; omega)
       intro v610 w23 ho hb hg hat
       rw [← Ny609.out] at ho
       have n0_ := Aside0.mk (Kd.R_after (ok := (fun _ => True)) (by (with_reducible repeat (first | apply Kd.R_alloc | apply Kd.R_drewN | apply Kd.R_drew)); exact Kd.R_mono HO601.out (fun _ hk => ⟨trivial, hk⟩)) hg hat)
       have n1_ := Aside0.mk (hb)
       have n2_ := Aside0.mk (ho)
       clear HO601
       clear HB
       clear HO604
       have HO601 := n0_
       have HB := n1_
       have HO611 := n2_
       clear n0_ n1_ n2_
       clear ho hb hg hat
       refine hK.out _ _ trivial (fun hHeld => ?_)
       clear hK K
       refine norm_ (a' := ?_) ?_ ?_
       rotate_left
       ·show Act.put _ (some 26) _ = _
        simp only [Act.put, List.setIfInBounds_toArray, List.set_cons_zero, List.set_cons_succ, i64_w, i32_w]
        rfl
       refine pu_ 10 4 (M_ 11 2) ?_
       refine pu_ 11 5 (M_ 12 1) ?_
       refine pu_ 12 6 (M_ 13 0) ?_
       refine done_ (done_of HT_.out (by kernel_rfl)) ?_
       try go_wp2
       go_ret3
       exact ⟨_, _, Z11, Z83 HO601.out, Z1 HO611.out, Z3⟩
      rw [if_neg c12] at H
      exact absurd H (by simp)
     rw [if_neg c9] at H
     exact absurd H (by simp)
    rw [if_neg c8] at H
    exact absurd H (by simp)
   rw [if_neg c7] at H
   exact absurd H (by simp)
  replace c6 := Bool.eq_false_iff.mpr c6
  subst c6
  rw [if_neg (show ¬ (false = true) by decide)] at H
  simp only [Option.some.injEq, Prod.mk.injEq] at H
  obtain ⟨rfl, rfl, rfl⟩ := H
  go_enter Try.func12, Try.ntmps12
  go_wp2_with (first | ((with_reducible refine gate_callee (f := 38) rfl ?_); refine gl_ 8 Try.func38 #[.slice A0 l0.length c0] ?_; (with_reducible refine (spec_shGood.calls k _ _ l0 true _ ?_ ?_ A3.out).mono ?_); exact Z136; exact HC0.out; rintro e w24 ⟨rfl, hb⟩; refine ⟨_, rfl, ?_⟩; refine k1_ (below_step (Z3) hb) ?_; clear HB; intro HB; (try clear hb)) | (go_at_call 35; (with_reducible refine (spec_l1In.calls a1 0 (l0.length : Int) false _ A5.out).mono ?_); rintro e w' ⟨rfl, ⟨nd, rfl⟩⟩))
  go_ret3
  exact ⟨_, _, Z11, Z21, Z21, Z3⟩
 replace c4 := Bool.eq_false_iff.mpr c4
 subst c4
 rw [if_neg (show ¬ (false = true) by decide)] at H
 simp only [Option.some.injEq, Prod.mk.injEq] at H
 obtain ⟨rfl, rfl, rfl⟩ := H
 go_enter Try.func12, Try.ntmps12
 go_wp2_with (first | ((with_reducible refine gate_callee (f := 38) rfl ?_); refine gl_ 8 Try.func38 #[.slice A0 l0.length c0] ?_; (with_reducible refine (spec_shGood.calls k _ _ l0 false _ ?_ ?_ A3.out).mono ?_); exact Z136; exact HC0.out; rintro e w25 ⟨rfl, hb⟩; refine ⟨_, rfl, ?_⟩; refine k1_ (below_step (Z3) hb) ?_; clear HB; intro HB; (try clear hb)))
 go_ret3
 exact ⟨_, _, Z11, Z21, Z21, Z3⟩

/-! ### laws_qSheet: function 14 -/
def laws_qSheet.l0 : Nat → List (S64) → List (S64) → Int → Int → Option (Bool)
 | 0, _, _, _, _ => none
 | k + 1, x0, x1, x12, x13 => if x13 < x12 then (if 0 ≤ x13 then (if x13 < (x0.length : Int) then (if x13 < (x1.length : Int) then (if (!(((rd_T64 x0 x13).f0) == ((rd_T64 x1 x13).f0)) || (!(((rd_T64 x0 x13).f1) == ((rd_T64 x1 x13).f1)) || (!(((rd_T64 x0 x13).f2) == ((rd_T64 x1 x13).f2))))) = true then (some false) else (laws_qSheet.l0 k x0 x1 x12 (wrap64 (x13 + 1)))) else (none)) else (none)) else (none)) else (some true)
def laws_qSheet.f (k : Nat) (l0 : List (S64)) (l1 : List (S64)) : Option (Bool) := if (l0.length : Int) = (l1.length : Int) then (laws_qSheet.l0 k l0 l1 (l0.length : Int) 0) else (some false)
theorem laws_qSheet.mono_l : ∀ k, (∀ y0 y1 y2 y3, LeO (laws_qSheet.l0 k y0 y1 y2 y3) (laws_qSheet.l0 (k + 1) y0 y1 y2 y3))
 | 0 => fun _ _ _ _ r h => by simp [laws_qSheet.l0] at h
 | k + 1 => by
  have ih0 := laws_qSheet.mono_l k
  ·intro y0 y1 y2 y3
   unfold laws_qSheet.l0
   exact mo14_
theorem laws_qSheet.mono : ∀ a0 a1 k, LeO (laws_qSheet.f k a0 a1) (laws_qSheet.f (k + 1) a0 a1) := by
 intro a0 a1 k
 have ih0 := laws_qSheet.mono_l k
 unfold laws_qSheet.f
 exact mo14_
set_option maxHeartbeats 8000000 in
set_option maxRecDepth 100000 in
theorem laws_qSheet.calls (k : Nat) (A0 : Option Addr) (c0 : Nat) (l0 : List (S64)) (A1 : Option Addr) (c1 : Nat) (l1 : List (S64)) (r : Bool) (w : World) (hr0 : Kd.C k64 w A0 l0.length l0) (hc0 : l0.length ≤ c0) (hr1 : Kd.C k64 w A1 l1.length l1) (hc1 : l1.length ≤ c1) (h : laws_qSheet.f k l0 l1 = some r) :
  Calls Try.prog 14 #[.slice A0 l0.length c0, .slice A1 l1.length c1] w fun e w' => e = .returned (.bool r) ∧ Drawn0 w w' := by
 have hu64 := Try.underlying64
 have HR0 := Aside0.mk hr0
 have HC0 := Aside0.mk hc0
 clear hr0 hc0
 have HR1 := Aside0.mk hr1
 have HC1 := Aside0.mk hc1
 clear hr1 hc1
 have H : (if (l0.length : Int) = (l1.length : Int) then (laws_qSheet.l0 k l0 l1 (l0.length : Int) 0) else (some false)) = some r := h
 clear h
 by_cases c3 : (l0.length : Int) = (l1.length : Int)
 ·rw [if_pos c3] at H
  have c3b0 : ((l0.length : Int) == (l1.length : Int)) = true := beq_iff_eq.mpr c3
  have c3b1 : ((l0.length : Int) != (l1.length : Int)) = false := bne_eq_false_iff_eq.mpr c3
  have c3b2 : (l0.length == l1.length) = true := by first | simpa using c3 | (simp at c3 ⊢; omega)
  clear c3
  have H' := Aside0.mk H
  clear H
  go_enter Try.func14, Try.ntmps14
  go_wp2
  repeat (go_quiet (fail); try go_wp2)
  go_loopg [13] k (fun kq v13 w' => ∃ (x13_1 : Int), v13 = .int .i64 x13_1 ∧ Aside0 (laws_qSheet.l0 kq l0 l1 (l0.length : Int) x13_1 = some r) ∧ Aside0 (kq ≤ k) ∧ Drawn0 w w')
  case atStart => exact ⟨(0), (Z17), H', ⟨Nat.le_refl _⟩, Z75⟩
  case round =>
   clear H'
   (try clear c1); (try clear p2); (try clear c3); (try clear c3b0); (try clear c3b1); (try clear c3b2)
   obtain ⟨x13_1, rfl, HA, HK1, ⟨m1, rfl⟩⟩ := hrel
   cases gk with
   | zero => exact absurd HA.out (by simp [laws_qSheet.l0])
   | succ k1 =>
    have H := HA.out
    clear HA
    simp only [laws_qSheet.l0] at H
    by_cases c4 : x13_1 < (l0.length : Int)
    ·rw [if_pos c4] at H
     have c4b0 : decide (x13_1 < (l0.length : Int)) = true := decide_eq_true c4
     clear c4
     by_cases c5 : 0 ≤ x13_1
     ·rw [if_pos c5] at H
      have c5b0 : decide (0 ≤ x13_1) = true := decide_eq_true c5
      clear c5
      by_cases c6 : x13_1 < (l0.length : Int)
      ·rw [if_pos c6] at H
       have c6b0 : decide (x13_1 < (l0.length : Int)) = true := decide_eq_true c6
       clear c6
       by_cases c7 : x13_1 < (l1.length : Int)
       ·rw [if_pos c7] at H
        have c7b0 : decide (x13_1 < (l1.length : Int)) = true := decide_eq_true c7
        clear c7
        by_cases c8 : (!(((rd_T64 l0 x13_1).f0) == ((rd_T64 l1 x13_1).f0)) || (!(((rd_T64 l0 x13_1).f1) == ((rd_T64 l1 x13_1).f1)) || (!(((rd_T64 l0 x13_1).f2) == ((rd_T64 l1 x13_1).f2))))) = true
        ·rw [if_pos c8] at H
         have c8b0 : (!(((rd_T64 l0 x13_1).f0) == ((rd_T64 l1 x13_1).f0)) || (!(((rd_T64 l0 x13_1).f1) == ((rd_T64 l1 x13_1).f1)) || (!(((rd_T64 l0 x13_1).f2) == ((rd_T64 l1 x13_1).f2))))) = true := c8
         clear c8
         obtain rfl := Option.some.inj H
         have p612 : 0 ≤ (x13_1 : Int) := of_decide_eq_true (Z18)
         have q612 : x13_1 < (l0.length : Int) := of_decide_eq_true (Z18)
         obtain ⟨ad612, e612, hx612_0, hx612_1, hx612_2⟩ := at_T64 HR0.out x13_1 p612 q612
         cases e612
         replace p612 := eq_true p612
         replace q612 := eq_true q612
         have p613 : 0 ≤ (x13_1 : Int) := of_decide_eq_true (Z18)
         have q613 : x13_1 < (l1.length : Int) := of_decide_eq_true (Z18)
         obtain ⟨ad613, e613, hx613_0, hx613_1, hx613_2⟩ := at_T64 HR1.out x13_1 p613 q613
         cases e613
         replace p613 := eq_true p613
         replace q613 := eq_true q613
         go_wp2
         repeat (go_quiet (fail); try go_wp2)
         go_ret
         exact ⟨Z17, Z75⟩
        rw [if_neg c8] at H
        have c8b0 : (!(((rd_T64 l0 x13_1).f0) == ((rd_T64 l1 x13_1).f0)) || (!(((rd_T64 l0 x13_1).f1) == ((rd_T64 l1 x13_1).f1)) || (!(((rd_T64 l0 x13_1).f2) == ((rd_T64 l1 x13_1).f2))))) = false := by simpa using c8
        clear c8
        have H' := Aside0.mk H
        clear H
        have p612 : 0 ≤ (x13_1 : Int) := of_decide_eq_true (Z18)
        have q612 : x13_1 < (l0.length : Int) := of_decide_eq_true (Z18)
        obtain ⟨ad612, e612, hx612_0, hx612_1, hx612_2⟩ := at_T64 HR0.out x13_1 p612 q612
        cases e612
        replace p612 := eq_true p612
        replace q612 := eq_true q612
        have p613 : 0 ≤ (x13_1 : Int) := of_decide_eq_true (Z18)
        have q613 : x13_1 < (l1.length : Int) := of_decide_eq_true (Z18)
        obtain ⟨ad613, e613, hx613_0, hx613_1, hx613_2⟩ := at_T64 HR1.out x13_1 p613 q613
        cases e613
        replace p613 := eq_true p613
        replace q613 := eq_true q613
        go_wp2
        repeat (go_quiet (fail); try go_wp2)
        go_roundg k1
        case measure => have := HK1.out; omega
        case rel => exact ⟨(wrap64 (x13_1 + 1)), (Z17), H', ⟨Z187⟩, Z75⟩
       rw [if_neg c7] at H
       exact absurd H (by simp)
      rw [if_neg c6] at H
      exact absurd H (by simp)
     rw [if_neg c5] at H
     exact absurd H (by simp)
    rw [if_neg c4] at H
    have c4b0 : decide (x13_1 < (l0.length : Int)) = false := decide_eq_false c4
    clear c4
    obtain rfl := Option.some.inj H
    go_wp2
    repeat (go_quiet (fail); try go_wp2)
    go_ret
    exact ⟨Z17, Z75⟩
 rw [if_neg c3] at H
 have c3b0 : ((l0.length : Int) == (l1.length : Int)) = false := beq_eq_false_iff_ne.mpr c3
 have c3b1 : ((l0.length : Int) != (l1.length : Int)) = true := bne_iff_ne.mpr c3
 have c3b2 : (l0.length == l1.length) = false := by first | simpa using c3 | (simp at c3 ⊢; omega)
 obtain rfl := Option.some.inj H
 go_enter Try.func14, Try.ntmps14
 go_wp2
 repeat (go_quiet (fail); try go_wp2)
 go_ret
 exact ⟨Z17, Z75⟩

/-! ### laws_qJob: function 13 -/
def laws_qJob.f (k : Nat) (l0_0 : List (S64)) (a0_1 : Int) (l1_0 : List (S64)) (a1_1 : Int) : Option (Bool) := if a0_1 = a1_1 then ((laws_qSheet.f k l0_0 l1_0).bind fun t616 => (some t616)) else (some false)
theorem laws_qJob.mono : ∀ a0 a1 a2 a3 k, LeO (laws_qJob.f k a0 a1 a2 a3) (laws_qJob.f (k + 1) a0 a1 a2 a3) := by
 intro a0 a1 a2 a3 k
 unfold laws_qJob.f
 exact mo14_
set_option maxHeartbeats 8000000 in
set_option maxRecDepth 100000 in
theorem laws_qJob.calls (k : Nat) (A0_0 : Option Addr) (c0_0 : Nat) (l0_0 : List (S64)) (a0_1 : Int) (A1_0 : Option Addr) (c1_0 : Nat) (l1_0 : List (S64)) (a1_1 : Int) (r : Bool) (w : World) (hr0_0 : Kd.C k64 w A0_0 l0_0.length l0_0) (hc0_0 : l0_0.length ≤ c0_0) (hr1_0 : Kd.C k64 w A1_0 l1_0.length l1_0) (hc1_0 : l1_0.length ≤ c1_0) (h : laws_qJob.f k l0_0 a0_1 l1_0 a1_1 = some r) :
  Calls Try.prog 13 #[.agg #[.slice A0_0 l0_0.length c0_0, .int .i64 a0_1], .agg #[.slice A1_0 l1_0.length c1_0, .int .i64 a1_1]] w fun e w' => e = .returned (.bool r) ∧ Below w.heap.size w w' := by
 have hu28 := Try.underlying28
 have HR0_0 := Aside0.mk hr0_0
 have HC0_0 := Aside0.mk hc0_0
 clear hr0_0 hc0_0
 have HR1_0 := Aside0.mk hr1_0
 have HC1_0 := Aside0.mk hc1_0
 clear hr1_0 hc1_0
 have HB := Aside0.mk (Below.refl w.heap.size w)
 have H : (if a0_1 = a1_1 then ((laws_qSheet.f k l0_0 l1_0).bind fun t616 => (some t616)) else (some false)) = some r := h
 clear h
 by_cases c3 : a0_1 = a1_1
 ·rw [if_pos c3] at H
  have c3b0 : (a0_1 == a1_1) = true := beq_iff_eq.mpr c3
  have c3b1 : (a0_1 != a1_1) = false := bne_eq_false_iff_eq.mpr c3
  clear c3
  replace H := Option.bind_eq_some_iff.mp H
  obtain ⟨t616, A40, H⟩ := H
  replace H : (some t616) = some r := H
  have A4 := Aside0.mk A40
  clear A40
  obtain rfl := Option.some.inj H
  go_enter Try.func13, Try.ntmps13
  go_wp2_with (first | ((with_reducible refine gate_dst (N := 2) rfl ?_); refine bv_ 2 28 #[.slice A0_0 l0_0.length c0_0, .int .i64 a0_1] ?_; intro gb614 hg w5 hbox hb; refine k4_ (below_step (Z3) hb) (hbox) ((Z26 : w.heap.size ≤ gb614)) ((Z26 : w.heap.size ≤ gb614)) ?_; clear HB; intro HB BK614 GW614 GE614; clear hb hbox hg) | ((with_reducible refine gate_dst (N := 3) rfl ?_); refine bv_ 3 28 #[.slice A1_0 l1_0.length c1_0, .int .i64 a1_1] ?_; intro gb615 hg w6 hbox hb; refine k7_ (blk_below (g := gb614) (o := .cells #[.slice A0_0 l0_0.length c0_0, .int .i64 a0_1] 28 (0, 0)) (Z2 BK614.out) hb) (below_step (Z118) hb) (hbox) ((by rw [hg]; exact (below_size (Z118)) : w.heap.size ≤ gb615)) ((by rw [hg]; exact (below_size (Z118)) : w.heap.size ≤ gb615)) ((Z214 : gb614 ≠ gb615)) ((Z215 : gb615 ≠ gb614)) ?_; clear BK614 HB; intro BK614 HB BK615 GW615 GE615 NB614_615 NB615_614; clear hb hbox hg; have hnb7 := NB614_615.out; have hnc7 := NB615_614.out; obtain ⟨hcz8_0, hcz8_1, hfz8_0, hfz8_1⟩ := bx2_ (w := w6) BK614.out; obtain ⟨hcz9_0, hcz9_1, hfz9_0, hfz9_1⟩ := bx2_ (w := w6) BK615.out) | (go_at_call 14; (with_reducible refine (laws_qSheet.calls k _ _ l0_0 _ _ l1_0 t616 _ ?_ ?_ ?_ ?_ A4.out).mono ?_); exact Z10 HR0_0.out; exact HC0_0.out; exact Z10 HR1_0.out; exact HC1_0.out; rintro e w' ⟨rfl, ⟨nd, rfl⟩⟩))
  go_ret
  exact ⟨Z11, Z180⟩
 rw [if_neg c3] at H
 have c3b0 : (a0_1 == a1_1) = false := beq_eq_false_iff_ne.mpr c3
 have c3b1 : (a0_1 != a1_1) = true := bne_iff_ne.mpr c3
 obtain rfl := Option.some.inj H
 go_enter Try.func13, Try.ntmps13
 go_wp2_with (first | ((with_reducible refine gate_dst (N := 2) rfl ?_); refine bv_ 2 28 #[.slice A0_0 l0_0.length c0_0, .int .i64 a0_1] ?_; intro gb614 hg w10 hbox hb; refine k4_ (below_step (Z3) hb) (hbox) ((Z26 : w.heap.size ≤ gb614)) ((Z26 : w.heap.size ≤ gb614)) ?_; clear HB; intro HB BK614 GW614 GE614; clear hb hbox hg) | ((with_reducible refine gate_dst (N := 3) rfl ?_); refine bv_ 3 28 #[.slice A1_0 l1_0.length c1_0, .int .i64 a1_1] ?_; intro gb615 hg w11 hbox hb; refine k7_ (blk_below (g := gb614) (o := .cells #[.slice A0_0 l0_0.length c0_0, .int .i64 a0_1] 28 (0, 0)) (Z2 BK614.out) hb) (below_step (Z118) hb) (hbox) ((by rw [hg]; exact (below_size (Z118)) : w.heap.size ≤ gb615)) ((by rw [hg]; exact (below_size (Z118)) : w.heap.size ≤ gb615)) ((Z214 : gb614 ≠ gb615)) ((Z215 : gb615 ≠ gb614)) ?_; clear BK614 HB; intro BK614 HB BK615 GW615 GE615 NB614_615 NB615_614; clear hb hbox hg; have hnb12 := NB614_615.out; have hnc12 := NB615_614.out; obtain ⟨hcz13_0, hcz13_1, hfz13_0, hfz13_1⟩ := bx2_ (w := w11) BK614.out; obtain ⟨hcz14_0, hcz14_1, hfz14_0, hfz14_1⟩ := bx2_ (w := w11) BK615.out))
 go_ret
 exact ⟨Z11, Z180⟩

/-! ### impl_IsPunchJob: function 41 -/
def impl_IsPunchJob.f (k : Nat) (l0_0 : List (S64)) (a0_1 : Int) : Option (Bool) := (impl_jobStrokes.f k l0_0 a0_1).bind fun bt618 => (some bt618.2)
theorem impl_IsPunchJob.mono : ∀ a0 a1 k, LeO (impl_IsPunchJob.f k a0 a1) (impl_IsPunchJob.f (k + 1) a0 a1) := by
 intro a0 a1 k
 unfold impl_IsPunchJob.f
 exact mo14_
set_option maxHeartbeats 8000000 in
set_option maxRecDepth 100000 in
theorem impl_IsPunchJob.calls (k : Nat) (A0_0 : Option Addr) (c0_0 : Nat) (l0_0 : List (S64)) (a0_1 : Int) (r : Bool) (w : World) (hr0_0 : Kd.C k64 w A0_0 l0_0.length l0_0) (hc0_0 : l0_0.length ≤ c0_0) (h : impl_IsPunchJob.f k l0_0 a0_1 = some r) :
  Calls Try.prog 41 #[.agg #[.slice A0_0 l0_0.length c0_0, .int .i64 a0_1]] w fun e w' => e = .returned (.bool r) ∧ Below w.heap.size w w' := by
 have hu28 := Try.underlying28
 have HR0_0 := Aside0.mk hr0_0
 have HC0_0 := Aside0.mk hc0_0
 clear hr0_0 hc0_0
 have HB := Aside0.mk (Below.refl w.heap.size w)
 have H : ((impl_jobStrokes.f k l0_0 a0_1).bind fun bt618 => (some bt618.2)) = some r := h
 clear h
 replace H := Option.bind_eq_some_iff.mp H
 obtain ⟨⟨t618, t621⟩, A20, H⟩ := H
 replace H : (some t621) = some r := H
 have A2 := Aside0.mk A20
 clear A20
 obtain rfl := Option.some.inj H
 go_enter Try.func41, Try.ntmps41
 go_wp2_with (first | ((with_reducible refine gate_dst (N := 1) rfl ?_); refine bv_ 1 28 #[.slice A0_0 l0_0.length c0_0, .int .i64 a0_1] ?_; intro gb617 hg w3 hbox hb; refine k4_ (below_step (Z3) hb) (hbox) ((Z26 : w.heap.size ≤ gb617)) ((Z26 : w.heap.size ≤ gb617)) ?_; clear HB; intro HB BK617 GW617 GE617; clear hb hbox hg; obtain ⟨hcz4_0, hcz4_1, hfz4_0, hfz4_1⟩ := bx2_ (w := w3) BK617.out) | ((with_reducible refine gate_callee (f := 27) rfl ?_); refine gl_ 7 Try.func27 #[.agg #[.slice A0_0 l0_0.length c0_0, .int .i64 a0_1]] ?_; (with_reducible refine (impl_jobStrokes.calls k _ _ l0_0 a0_1 t618 t621 _ ?_ ?_ A2.out).mono ?_); exact Z10 HR0_0.out; exact HC0_0.out; rintro e w5 ⟨v619, rfl, ho0, hb⟩; refine ⟨_, rfl, ?_⟩; refine k3_ (Kd.R_lower ho0 (below_size (Z164))) (blk_below (g := gb617) (o := .cells #[.slice A0_0 l0_0.length c0_0, .int .i64 a0_1] 28 (0, 0)) (Z2 BK617.out) hb) (below_step (Z164) hb) ?_; clear BK617 HB; intro HO620 BK617 HB; (try clear hb ho0)))
 go_ret
 exact ⟨Z11, Z164⟩

/-! ### impl_NewPunchJob: function 16 -/
def impl_NewPunchJob.f (k : Nat) (l0 : List (S64)) : Option ((List (S64)) × Int × Bool) := (impl_IsPunchJob.f k l0 0).bind fun t623 => (if t623 = true then ((impl_jobAt.f l0 0).bind fun bt624 => (some (bt624.1, bt624.2, true))) else (some (([] : List (S64)), 0, false)))
theorem impl_NewPunchJob.mono : ∀ a0 k, LeO (impl_NewPunchJob.f k a0) (impl_NewPunchJob.f (k + 1) a0) := by
 intro a0 k
 unfold impl_NewPunchJob.f
 exact mo14_
set_option maxHeartbeats 8000000 in
set_option maxRecDepth 100000 in
theorem impl_NewPunchJob.calls (k : Nat) (A0 : Option Addr) (c0 : Nat) (l0 : List (S64)) (r1 : List (S64)) (r2 : Int) (r3 : Bool) (w : World) (hr0 : Kd.C k64 w A0 l0.length l0) (hc0 : l0.length ≤ c0) (h : impl_NewPunchJob.f k l0 = some (r1, r2, r3)) :
  Calls Try.prog 16 #[.slice A0 l0.length c0] w fun e w' => ∃ v0_ : Value, e = .returned (.tuple #[.agg #[v0_, .int .i64 r2], .bool r3]) ∧ Kd.R k64 64 w' w.heap.size (fun _ => True) v0_ r1 ∧ Below w.heap.size w w' := by
 have hu28 := Try.underlying28
 have HR0 := Aside0.mk hr0
 have HC0 := Aside0.mk hc0
 clear hr0 hc0
 have HB := Aside0.mk (Below.refl w.heap.size w)
 have H : ((impl_IsPunchJob.f k l0 0).bind fun t623 => (if t623 = true then ((impl_jobAt.f l0 0).bind fun bt624 => (some (bt624.1, bt624.2, true))) else (some (([] : List (S64)), 0, false)))) = some (r1, r2, r3) := h
 clear h
 replace H := Option.bind_eq_some_iff.mp H
 obtain ⟨t623, A20, H⟩ := H
 (try dsimp only at H)
 have A2 := Aside0.mk A20
 clear A20
 by_cases c3 : t623 = true
 ·subst c3
  rw [if_pos rfl] at H
  replace H := Option.bind_eq_some_iff.mp H
  obtain ⟨⟨t624, t627⟩, A40, H⟩ := H
  (try dsimp only at H)
  have A4 := Aside0.mk A40
  clear A40
  simp only [Option.some.injEq, Prod.mk.injEq] at H
  obtain ⟨rfl, rfl, rfl⟩ := H
  go_enter Try.func16, Try.ntmps16
  go_wp2_with (first | ((with_reducible refine gate_dst (N := 2) rfl ?_); refine bv_ 2 28 #[.slice none 0 0, .int .i64 0] ?_; intro gb622 hg w5 hbox hb; refine k4_ (below_step (Z3) hb) (hbox) ((Z26 : w.heap.size ≤ gb622)) ((Z26 : w.heap.size ≤ gb622)) ?_; clear HB; intro HB BK622 GW622 GE622; clear hb hbox hg) | ((with_reducible refine gate_callee (f := 41) rfl ?_); refine gl_ 6 Try.func41 #[.agg #[.slice A0 l0.length c0, .int .i64 0]] ?_; (with_reducible refine (impl_IsPunchJob.calls k _ _ l0 0 true _ ?_ ?_ A2.out).mono ?_); exact Z10 HR0.out; exact HC0.out; rintro e w6 ⟨rfl, hb⟩; refine ⟨_, rfl, ?_⟩; refine k2_ (blk_below (g := gb622) (o := .cells #[.slice none 0 0, .int .i64 0] 28 (0, 0)) (Z2 BK622.out) hb) (below_step (Z119) hb) ?_; clear BK622 HB; intro BK622 HB; (try clear hb)) | ((with_reducible refine gate_callee (f := 29) rfl ?_); refine gl_ 10 Try.func29 #[.slice A0 l0.length c0, .int .i64 0] ?_; (with_reducible refine (impl_jobAt.calls _ _ l0 0 t624 t627 _ ?_ ?_ A4.out).mono ?_); exact Z10 HR0.out; exact HC0.out; rintro e w7 ⟨v625, rfl, ho0, hb⟩; refine ⟨_, rfl, ?_⟩; refine k3_ (Kd.R_lower ho0 (below_size (Z119))) (blk_below (g := gb622) (o := .cells #[.slice none 0 0, .int .i64 0] 28 (0, 0)) (Z2 BK622.out) hb) (below_step (Z119) hb) ?_; clear BK622 HB; intro HO626 BK622 HB; (try clear hb ho0); obtain ⟨Ao8, co8, eo8⟩ := Kd.R_slice HO626.out; subst eo8; obtain ⟨hcz9_0, hcz9_1, hfz9_0, hfz9_1⟩ := bx2_ (w := w7) BK622.out))
  refine bodyPost_ret (results_ct rfl _ _ gb622 28 #[.slice Ao8 t624.length co8, .int .i64 t627] (0, 0) _ rfl (by (with_reducible repeat (first | refine blk_drewN ?_ _ | refine blk_drew ?_ | refine blk_alloc ?_ _)); refine blk_put (cs := #[.slice Ao8 t624.length co8, .int .i64 0]) ?_ 1 _ rfl; (with_reducible repeat (first | refine blk_drewN ?_ _ | refine blk_drew ?_ | refine blk_alloc ?_ _)); refine blk_put (cs := #[.slice none 0 0, .int .i64 0]) ?_ 0 _ rfl; (with_reducible repeat (first | refine blk_drewN ?_ _ | refine blk_drew ?_ | refine blk_alloc ?_ _)); exact BK622.out) Try.underlying28 rfl (by kernel_rfl)) rfl ?_
  exact ⟨_, Z11, by (with_reducible repeat (first | apply Kd.R_alloc | apply Kd.R_drewN | apply Kd.R_drew)); exact Kd.R_mono (Kd.R_far (p := ⟨gb622, 1, none⟩) (Kd.R_far (p := ⟨gb622, 0, none⟩) (Kd.R_types HO626.out BK622.out (by decide)) (fun _ hk => hk.2) (.slice Ao8 t624.length co8)) (fun _ hk => hk.2) (.int .i64 t627)) (fun _ hk => trivial), Z119⟩
 replace c3 := Bool.eq_false_iff.mpr c3
 subst c3
 rw [if_neg (show ¬ (false = true) by decide)] at H
 simp only [Option.some.injEq, Prod.mk.injEq] at H
 obtain ⟨rfl, rfl, rfl⟩ := H
 go_enter Try.func16, Try.ntmps16
 go_wp2_with (first | ((with_reducible refine gate_dst (N := 2) rfl ?_); refine bv_ 2 28 #[.slice none 0 0, .int .i64 0] ?_; intro gb622 hg w10 hbox hb; refine k4_ (below_step (Z3) hb) (hbox) ((Z26 : w.heap.size ≤ gb622)) ((Z26 : w.heap.size ≤ gb622)) ?_; clear HB; intro HB BK622 GW622 GE622; clear hb hbox hg) | ((with_reducible refine gate_callee (f := 41) rfl ?_); refine gl_ 6 Try.func41 #[.agg #[.slice A0 l0.length c0, .int .i64 0]] ?_; (with_reducible refine (impl_IsPunchJob.calls k _ _ l0 0 false _ ?_ ?_ A2.out).mono ?_); exact Z10 HR0.out; exact HC0.out; rintro e w11 ⟨rfl, hb⟩; refine ⟨_, rfl, ?_⟩; refine k2_ (blk_below (g := gb622) (o := .cells #[.slice none 0 0, .int .i64 0] 28 (0, 0)) (Z2 BK622.out) hb) (below_step (Z119) hb) ?_; clear BK622 HB; intro BK622 HB; (try clear hb); obtain ⟨hcz12_0, hcz12_1, hfz12_0, hfz12_1⟩ := bx2_ (w := w11) BK622.out))
 refine bodyPost_ret (results_ct rfl _ _ gb622 28 #[.slice none 0 0, .int .i64 0] (0, 0) _ rfl (Z23 BK622.out) Try.underlying28 rfl (by kernel_rfl)) rfl ?_
 exact ⟨_, Z11, Z21, Z119⟩

/-! ### spec_NewPunchJob: function 17 -/
def spec_NewPunchJob.f (k : Nat) (l0 : List (S64)) : Option ((List (S64)) × Int × Bool) := (spec_jbOwn.f l0 0).bind fun bt629 => ((spec_jbStrokes.f k bt629.1 bt629.2).bind fun bt634 => (if bt634.2 = true then (some (bt629.1, bt629.2, true)) else (some (([] : List (S64)), 0, false))))
theorem spec_NewPunchJob.mono : ∀ a0 k, LeO (spec_NewPunchJob.f k a0) (spec_NewPunchJob.f (k + 1) a0) := by
 intro a0 k
 unfold spec_NewPunchJob.f
 exact mo14_
set_option maxHeartbeats 8000000 in
set_option maxRecDepth 100000 in
theorem spec_NewPunchJob.calls (k : Nat) (A0 : Option Addr) (c0 : Nat) (l0 : List (S64)) (r1 : List (S64)) (r2 : Int) (r3 : Bool) (w : World) (hr0 : Kd.C k64 w A0 l0.length l0) (hc0 : l0.length ≤ c0) (h : spec_NewPunchJob.f k l0 = some (r1, r2, r3)) :
  Calls Try.prog 17 #[.slice A0 l0.length c0] w fun e w' => ∃ v0_ : Value, e = .returned (.tuple #[.agg #[v0_, .int .i64 r2], .bool r3]) ∧ Kd.R k64 64 w' w.heap.size (fun _ => True) v0_ r1 ∧ Below w.heap.size w w' := by
 have hu28 := Try.underlying28
 have HR0 := Aside0.mk hr0
 have HC0 := Aside0.mk hc0
 clear hr0 hc0
 have HB := Aside0.mk (Below.refl w.heap.size w)
 have H : ((spec_jbOwn.f l0 0).bind fun bt629 => ((spec_jbStrokes.f k bt629.1 bt629.2).bind fun bt634 => (if bt634.2 = true then (some (bt629.1, bt629.2, true)) else (some (([] : List (S64)), 0, false))))) = some (r1, r2, r3) := h
 clear h
 replace H := Option.bind_eq_some_iff.mp H
 obtain ⟨⟨t629, t632⟩, A20, H⟩ := H
 (try dsimp only at H)
 have A2 := Aside0.mk A20
 clear A20
 replace H := Option.bind_eq_some_iff.mp H
 obtain ⟨⟨t634, t637⟩, A30, H⟩ := H
 (try dsimp only at H)
 have A3 := Aside0.mk A30
 clear A30
 by_cases c4 : t637 = true
 ·subst c4
  rw [if_pos rfl] at H
  simp only [Option.some.injEq, Prod.mk.injEq] at H
  obtain ⟨rfl, rfl, rfl⟩ := H
  go_enter Try.func17, Try.ntmps17
  go_wp2_with (first | ((with_reducible refine gate_dst (N := 2) rfl ?_); refine bv_ 2 28 #[.slice none 0 0, .int .i64 0] ?_; intro gb628 hg w5 hbox hb; refine k4_ (below_step (Z3) hb) (hbox) ((Z26 : w.heap.size ≤ gb628)) ((Z26 : w.heap.size ≤ gb628)) ?_; clear HB; intro HB BK628 GW628 GE628; clear hb hbox hg) | ((with_reducible refine gate_callee (f := 34) rfl ?_); refine gl_ 8 Try.func34 #[.slice A0 l0.length c0, .int .i64 0] ?_; (with_reducible refine (spec_jbOwn.calls _ _ l0 0 t629 t632 _ ?_ ?_ A2.out).mono ?_); exact Z10 HR0.out; exact HC0.out; rintro e w6 ⟨v630, rfl, ho0, hb⟩; refine ⟨_, rfl, ?_⟩; refine k3_ (Kd.R_lower ho0 (below_size (Z91))) (blk_below (g := gb628) (o := .cells #[.slice none 0 0, .int .i64 0] 28 (0, 0)) (Z2 BK628.out) hb) (below_step (Z91) hb) ?_; clear BK628 HB; intro HO631 BK628 HB; (try clear hb ho0)) | ((with_reducible refine gate_dst (N := 4) rfl ?_); refine bv_ 4 28 #[.slice none 0 0, .int .i64 0] ?_; intro gb633 hg w7 hbox hb; refine k8_ (Ya_ HO631.out) (blk_below (g := gb628) (o := .cells #[.slice none 0 0, .int .i64 0] 28 (0, 0)) (Z2 BK628.out) hb) (below_step (Z91) hb) (hbox) ((by rw [hg]; exact (below_size (Z91)) : w.heap.size ≤ gb633)) ((by rw [hg]; exact (below_size (Z91)) : w.heap.size ≤ gb633)) ((Z218 : gb628 ≠ gb633)) ((Z219 : gb633 ≠ gb628)) ?_; clear HO631 BK628 HB; intro HO631 BK628 HB BK633 GW633 GE633 NB628_633 NB633_628; clear hb hbox hg; obtain ⟨Ao8, co8, eo8⟩ := Kd.R_slice HO631.out; subst eo8; have hnb9 := NB633_628.out; have hnc9 := NB628_633.out; obtain ⟨hcz10_0, hcz10_1, hfz10_0, hfz10_1⟩ := bx2_ (w := w7) BK633.out) | ((with_reducible refine gate_callee (f := 30) rfl ?_); refine gl_ 11 Try.func30 #[.agg #[.slice Ao8 t629.length co8, .int .i64 t632]] ?_; (with_reducible refine (spec_jbStrokes.calls k _ _ t629 t632 t634 true _ ?_ ?_ A3.out).mono ?_); exact (by refine (Kd.R_reads' (e := 64) (base := w.heap.size) (ok := fun k_ => True) (n := t629.length) (c := co8) ?_).2.2; exact Z166); exact (Kd.R_reads' HO631.out).2.1; rintro e w11 ⟨v635, rfl, ho0, hb⟩; refine ⟨_, rfl, ?_⟩; refine k5_ (Kd.R_below (Z166) hb) (Kd.R_lower ho0 (below_size (Z112))) (blk_below (g := gb628) (o := .cells #[.slice none 0 0, .int .i64 0] 28 (0, 0)) (Z144) hb) (blk_below (g := gb633) (o := .cells #[.slice Ao8 t629.length co8, .int .i64 t632] 28 (0, 0)) (Z140 BK633.out) hb) (below_step (Z112) hb) ?_; clear HO631 BK628 BK633 HB; intro HO631 HO636 BK628 BK633 HB; (try clear hb ho0); obtain ⟨hcz12_0, hcz12_1, hfz12_0, hfz12_1⟩ := bx2_ (w := w11) BK633.out; obtain ⟨hcz13_0, hcz13_1, hfz13_0, hfz13_1⟩ := bx2_ (w := w11) BK628.out))
  refine bodyPost_ret (results_ct rfl _ _ gb628 28 #[.slice Ao8 t629.length co8, .int .i64 t632] (0, 0) _ rfl (Z140 BK628.out) Try.underlying28 rfl (by kernel_rfl)) rfl ?_
  exact ⟨_, Z11, by (with_reducible repeat (first | apply Kd.R_alloc | apply Kd.R_drewN | apply Kd.R_drew)); exact Kd.R_mono (Kd.R_far (p := ⟨gb628, 1, none⟩) (Kd.R_far (p := ⟨gb628, 0, none⟩) (Kd.R_types HO631.out BK628.out (by decide)) (fun _ hk => hk.2) (.slice Ao8 t629.length co8)) (fun _ hk => hk.2) (.int .i64 t632)) (fun _ hk => trivial), Z112⟩
 replace c4 := Bool.eq_false_iff.mpr c4
 subst c4
 rw [if_neg (show ¬ (false = true) by decide)] at H
 simp only [Option.some.injEq, Prod.mk.injEq] at H
 obtain ⟨rfl, rfl, rfl⟩ := H
 go_enter Try.func17, Try.ntmps17
 go_wp2_with (first | ((with_reducible refine gate_dst (N := 2) rfl ?_); refine bv_ 2 28 #[.slice none 0 0, .int .i64 0] ?_; intro gb628 hg w14 hbox hb; refine k4_ (below_step (Z3) hb) (hbox) ((Z26 : w.heap.size ≤ gb628)) ((Z26 : w.heap.size ≤ gb628)) ?_; clear HB; intro HB BK628 GW628 GE628; clear hb hbox hg) | ((with_reducible refine gate_callee (f := 34) rfl ?_); refine gl_ 8 Try.func34 #[.slice A0 l0.length c0, .int .i64 0] ?_; (with_reducible refine (spec_jbOwn.calls _ _ l0 0 t629 t632 _ ?_ ?_ A2.out).mono ?_); exact Z10 HR0.out; exact HC0.out; rintro e w15 ⟨v630, rfl, ho0, hb⟩; refine ⟨_, rfl, ?_⟩; refine k3_ (Kd.R_lower ho0 (below_size (Z91))) (blk_below (g := gb628) (o := .cells #[.slice none 0 0, .int .i64 0] 28 (0, 0)) (Z2 BK628.out) hb) (below_step (Z91) hb) ?_; clear BK628 HB; intro HO631 BK628 HB; (try clear hb ho0)) | ((with_reducible refine gate_dst (N := 4) rfl ?_); refine bv_ 4 28 #[.slice none 0 0, .int .i64 0] ?_; intro gb633 hg w16 hbox hb; refine k8_ (Ya_ HO631.out) (blk_below (g := gb628) (o := .cells #[.slice none 0 0, .int .i64 0] 28 (0, 0)) (Z2 BK628.out) hb) (below_step (Z91) hb) (hbox) ((by rw [hg]; exact (below_size (Z91)) : w.heap.size ≤ gb633)) ((by rw [hg]; exact (below_size (Z91)) : w.heap.size ≤ gb633)) ((Z218 : gb628 ≠ gb633)) ((Z219 : gb633 ≠ gb628)) ?_; clear HO631 BK628 HB; intro HO631 BK628 HB BK633 GW633 GE633 NB628_633 NB633_628; clear hb hbox hg; obtain ⟨Ao17, co17, eo17⟩ := Kd.R_slice HO631.out; subst eo17; have hnb18 := NB633_628.out; have hnc18 := NB628_633.out; obtain ⟨hcz19_0, hcz19_1, hfz19_0, hfz19_1⟩ := bx2_ (w := w16) BK633.out) | ((with_reducible refine gate_callee (f := 30) rfl ?_); refine gl_ 11 Try.func30 #[.agg #[.slice Ao17 t629.length co17, .int .i64 t632]] ?_; (with_reducible refine (spec_jbStrokes.calls k _ _ t629 t632 t634 false _ ?_ ?_ A3.out).mono ?_); exact (by refine (Kd.R_reads' (e := 64) (base := w.heap.size) (ok := fun k_ => True) (n := t629.length) (c := co17) ?_).2.2; exact Z161); exact (Kd.R_reads' HO631.out).2.1; rintro e w20 ⟨v635, rfl, ho0, hb⟩; refine ⟨_, rfl, ?_⟩; refine k5_ (Kd.R_below (Z161) hb) (Kd.R_lower ho0 (below_size (Z112))) (blk_below (g := gb628) (o := .cells #[.slice none 0 0, .int .i64 0] 28 (0, 0)) (Z144) hb) (blk_below (g := gb633) (o := .cells #[.slice Ao17 t629.length co17, .int .i64 t632] 28 (0, 0)) (by (with_reducible repeat (first | refine blk_drewN ?_ _ | refine blk_drew ?_ | refine blk_alloc ?_ _)); refine blk_put (cs := #[.slice Ao17 t629.length co17, .int .i64 0]) ?_ 1 _ rfl; (with_reducible repeat (first | refine blk_drewN ?_ _ | refine blk_drew ?_ | refine blk_alloc ?_ _)); refine blk_put (cs := #[.slice none 0 0, .int .i64 0]) ?_ 0 _ rfl; (with_reducible repeat (first | refine blk_drewN ?_ _ | refine blk_drew ?_ | refine blk_alloc ?_ _)); exact BK633.out) hb) (below_step (Z112) hb) ?_; clear HO631 BK628 BK633 HB; intro HO631 HO636 BK628 BK633 HB; (try clear hb ho0); obtain ⟨hcz21_0, hcz21_1, hfz21_0, hfz21_1⟩ := bx2_ (w := w20) BK628.out))
 refine bodyPost_ret (results_ct rfl _ _ gb628 28 #[.slice none 0 0, .int .i64 0] (0, 0) _ rfl (Z23 BK628.out) Try.underlying28 rfl (by kernel_rfl)) rfl ?_
 exact ⟨_, Z11, Z21, Z112⟩

end Go.Proofs.Ytflefblmaopaiaa.PFnStops
