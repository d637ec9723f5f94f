-- written by a program of this session: the kit's print, with outer functions of the session's own (wip/ext)
import Derived.Test.YtmnnmddfmmaohaaGreatPFnHeadx0
import Derived.Test.YtmnnmddfmmaohaaGreatPFnHeadx2
import Derived.Test.YtmnnmddfmmaohaaGreatPFnHeadx4
namespace Go.Proofs.YtmnnmddfmmaohaaGreat.PFnHead
open Go.RowKit Go.Proofs.YtmnnmddfmmaohaaGreatW.PrintWords Go.Proofs.YtmnnmddfmmaohaaGreatW.PrintLast Go.Proofs.YtmnnmddfmmaohaaGreatW.PrintMore
attribute [local go_sem] max2_int min2_int max_two min_two max_three min_three max_four min_four   -- for this text's walks alone
set_option linter.unusedVariables false
set_option linter.unusedSimpArgs false
theorem mo5_ {p : Prop} (h : p := by repeat' first | (with_reducible first | apply ih0 | apply ih0 | apply ih1 | apply ih1 | apply ih2 | apply ih2 | apply spec_shSorted.mono | apply spec_shSorted.mono | apply spec_shWith.mono | apply spec_shWith.mono | exact LeO.refl _ | exact LeO.none _ | refine LeO.ite ?_ ?_ | refine LeO.bind ?_ (fun _ => ?_)) | exact LeO.none _ | refine LeO.ite ?_ ?_ | refine LeO.bind ?_ (fun _ => ?_)) : p := h

/-! ### spec_shWith: function 58 -/
def spec_shWith.f (k : Nat) (l0 : List (S76)) (a1_0 : Int) (a1_1 : Int) (a1_2 : Int) : Option ((List (S76)) × Bool) := (some (([] : List (S76)) : List (S76))).bind fun iA => (if iA.length + l0.length < 5864062014805 then ((some (iA ++ l0 : List (S76))).bind fun fS => ((some (([(⟨a1_0, a1_1, a1_2⟩ : S76)] : List (S76)) : List (S76))).bind fun fg => (if fS.length + fg.length < 5864062014805 then ((spec_shSorted.f k (fS ++ fg)).bind fun dB => (some (dB.1, dB.2))) else (none)))) else (none))
theorem spec_shWith.mono : ∀ a0 a1 a2 a3 k, LeO (spec_shWith.f k a0 a1 a2 a3) (spec_shWith.f (k + 1) a0 a1 a2 a3) := by
 intro a0 a1 a2 a3 k
 unfold spec_shWith.f
 exact mo5_
def spec_shWith.T1 : Bool × List (List Nat × List Nat) := (true, [([], []), ([], []), ([0, 1], [0, 1]), ([], []), ([3], [3]), ([2, 4, 2], [2, 4]), ([5, 5], [5]), ([6], [6]), ([6], [6]), ([7, 6, 0, 1, 2, 3, 4, 5, 6, 7, 8], [7]), ([8, 9, 0, 1, 2, 3, 4, 5, 6, 7, 8, 9], [8])])
def spec_shWith.B1 : List Nat := [0, 0, 3, 0, 8, 31, 63, 127, 127, 511, 1023]
theorem spec_shWith.tab1 : rtab .any (opsOf Tryz.f58 1) = spec_shWith.T1 := by kernel_rfl
theorem spec_shWith.bits1 : waitsOk spec_shWith.T1.2 spec_shWith.B1 = true := by kernel_rfl
set_option maxHeartbeats 8000000 in
set_option maxRecDepth 100000 in
theorem spec_shWith.calls (k : Nat) (A0 : Option Addr) (c0 : Nat) (l0 : List (S76)) (a1_0 : Int) (a1_1 : Int) (a1_2 : Int) (r1 : List (S76)) (r2 : Bool) (w : World) (hr0 : Kd.C k76 w A0 l0.length l0) (hc0 : l0.length ≤ c0) (h : spec_shWith.f k l0 a1_0 a1_1 a1_2 = some (r1, r2)) :
  Calls Tryz.prog 58 #[.slice A0 l0.length c0, .agg #[.int .i64 a1_0, .int .i64 a1_1, .int .i64 a1_2]] w fun e w' => ∃ v0_ : Value, e = .returned (.tuple #[v0_, .bool r2]) ∧ Kd.R k76 76 w' w.heap.size (fun _ => True) v0_ r1 ∧ Below w.heap.size w w' := by
 have hu76 := Tryz.underlying76
 have HR0 := Aside0.mk hr0
 have HC0 := Aside0.mk hc0
 clear hr0 hc0
 have HB := Aside0.mk (Below.refl w.heap.size w)
 have H : ((some (([] : List (S76)) : List (S76))).bind fun iA => (if iA.length + l0.length < 5864062014805 then ((some (iA ++ l0 : List (S76))).bind fun fS => ((some (([(⟨a1_0, a1_1, a1_2⟩ : S76)] : List (S76)) : List (S76))).bind fun fg => (if fS.length + fg.length < 5864062014805 then ((spec_shSorted.f k (fS ++ fg)).bind fun dB => (some (dB.1, dB.2))) else (none)))) else (none))) = some (r1, r2) := h
 clear h
 obtain ⟨iA, oS⟩ : ∃ y_ : List (S76), y_ = (([] : List (S76))) := ⟨_, rfl⟩
 replace H : (if iA.length + l0.length < 5864062014805 then ((some (iA ++ l0 : List (S76))).bind fun fS => ((some (([(⟨a1_0, a1_1, a1_2⟩ : S76)] : List (S76)) : List (S76))).bind fun fg => (if fS.length + fg.length < 5864062014805 then ((spec_shSorted.f k (fS ++ fg)).bind fun dB => (some (dB.1, dB.2))) else (none)))) else (none)) = some (r1, r2) := by first | (rw [oS]; with_reducible exact H) | (have H2_ := (Option.bind_some _ _).symm.trans H; rw [oS]; with_reducible exact H2_) | (have H2_ := (Option.bind_some _ _).symm.trans H; with_reducible exact H2_) | with_reducible exact H | (rw [oS]; exact H) | exact H
 have ru := Aside0.mk oS
 clear oS
 by_cases c3 : iA.length + l0.length < 5864062014805
 ·rw [if_pos c3] at H
  have zD := Aside0.mk c3
  clear c3
  obtain ⟨fS, oT⟩ : ∃ y_ : List (S76), y_ = (iA ++ l0) := ⟨_, rfl⟩
  replace H : ((some (([(⟨a1_0, a1_1, a1_2⟩ : S76)] : List (S76)) : List (S76))).bind fun fg => (if fS.length + fg.length < 5864062014805 then ((spec_shSorted.f k (fS ++ fg)).bind fun dB => (some (dB.1, dB.2))) else (none))) = some (r1, r2) := by first | (rw [oT]; with_reducible exact H) | (have H2_ := (Option.bind_some _ _).symm.trans H; rw [oT]; with_reducible exact H2_) | (have H2_ := (Option.bind_some _ _).symm.trans H; with_reducible exact H2_) | with_reducible exact H | (rw [oT]; exact H) | exact H
  have uH := Aside0.mk oT
  clear oT
  obtain ⟨fg, oU⟩ : ∃ y_ : List (S76), y_ = (([(⟨a1_0, a1_1, a1_2⟩ : S76)] : List (S76))) := ⟨_, rfl⟩
  replace H : (if fS.length + fg.length < 5864062014805 then ((spec_shSorted.f k (fS ++ fg)).bind fun dB => (some (dB.1, dB.2))) else (none)) = some (r1, r2) := by first | (rw [oU]; with_reducible exact H) | (have H2_ := (Option.bind_some _ _).symm.trans H; rw [oU]; with_reducible exact H2_) | (have H2_ := (Option.bind_some _ _).symm.trans H; with_reducible exact H2_) | with_reducible exact H | (rw [oU]; exact H) | exact H
  have l6 := Aside0.mk oU
  clear oU
  by_cases c4 : fS.length + fg.length < 5864062014805
  ·rw [if_pos c4] at H
   have LMc4 := Aside0.mk c4
   clear c4
   obtain ⟨zE, oV⟩ : ∃ y_ : List (S76), y_ = (fS ++ fg) := ⟨_, rfl⟩
   replace H : ((spec_shSorted.f k zE).bind fun dB => (some (dB.1, dB.2))) = some (r1, r2) := by first | (rw [oV]; with_reducible exact H) | (have H2_ := (Option.bind_some _ _).symm.trans H; rw [oV]; with_reducible exact H2_) | (have H2_ := (Option.bind_some _ _).symm.trans H; with_reducible exact H2_) | with_reducible exact H | (rw [oV]; exact H) | exact H
   have Ny205 := Aside0.mk oV
   clear oV
   replace H := Option.bind_eq_some_iff.mp H
   obtain ⟨⟨B3, B7⟩, fM, H⟩ := H
   replace H : (some (B3, B7)) = some (r1, r2) := H
   have A5 := Aside0.mk fM
   clear fM
   simp only [Option.some.injEq, Prod.mk.injEq] at H
   obtain ⟨rfl, rfl⟩ := H
   go_enter Tryz.func58, Tryz.ntmps58
   try go_wp2_with ((with_reducible refine gate_dst (N := 3) rfl ?_); refine bv_ 3 76 #[.int .i64 a1_0, .int .i64 a1_1, .int .i64 a1_2] ?_; intro bu hg w6 hbox hb; refine k4_ (below_step (Z2) hb) (hbox) ((Z38 : w.heap.size ≤ bu)) ((Z38 : w.heap.size ≤ bu)) ?_; clear HB; intro HB aD GW195 GE195; clear hb hbox hg)
   refine k2_ (blk_drew aD.out) (below_drew1 HB.out) ?_
   clear aD HB
   intro aD HB
   refine start_ (n := 11) (S := fun w' => w'.cell? ⟨bu, 0, none⟩ = some (.int .i64 a1_0) ∧ w'.cell? ⟨bu, 1, none⟩ = some (.int .i64 a1_1) ∧ w'.cell? ⟨bu, 2, none⟩ = some (.int .i64 a1_2)) (ds := []) (M_ 0 11) (by kernel_rfl) rfl rfl ⟨(blk_cell aD.out 0).trans rfl, (blk_cell aD.out 1).trans rfl, (blk_cell aD.out 2).trans rfl⟩ (fun hHeld => ?_); refine with_tabW spec_shWith.tab1 spec_shWith.bits1 (fun HT_ HW_ => ?_)
   generalize w6.drew = w7 at aD HB hHeld ⊢
   refine pu_ 1 7 (N_ 11 2) ?_
   refine tk3_ 3 9 (N_ 11 10) hHeld ?_
   refine join_ (σ := Value × Value × Value) 6 (M_ 5 6) (fun s_ => [(6, s_.1), (8, s_.2.1), (10, s_.2.2)]) (fun s_ w' => (w'.cell? ⟨bu, 0, none⟩ = some (.int .i64 a1_0) ∧ w'.cell? ⟨bu, 1, none⟩ = some (.int .i64 a1_1) ∧ w'.cell? ⟨bu, 2, none⟩ = some (.int .i64 a1_2)) ∧ (Kd.R k76 76 w' w.heap.size (fun k_ => some k_ ≠ (s_.2.2 : Value).ownBlock ∧ k_ ≠ bu) s_.2.1 fS) ∧ (Kd.R k76 76 w' w.heap.size (fun k_ => some k_ ≠ (s_.2.1 : Value).ownBlock ∧ k_ ≠ bu) s_.2.2 fg) ∧ (w'.heap[bu]? = some (.cells #[.int .i64 a1_0, .int .i64 a1_1, .int .i64 a1_2] 76 (0, 0))) ∧ (Below w.heap.size w w')) ?_ ?_
   rotate_left
   ·intro hCont
    refine two_ (i := 0) (j := 4) (Ni := some 6) (Nj := some 10) (N_ 11 11) (N_ 11 26) rfl rfl rfl rfl (two_of HT_.out (by kernel_rfl)) (by decide) (by decide) (fun K hK => ?_) (fun K hK => ?_)
    ·skip
     refine Kd.R_lit_step k76 _ 76 ?hg (N := 6) ?hd (xs := ([] : List (S76))) (inner := []) (ok := fun _ => True) (okp := fun _ => True) ?hr ?hp (fun _ hk => hk) trivial (Below.refl _ _) (Nat.le_refl _) (by simp) ?_; (case hd => rfl); (case hg => rfl); (case hr => exact Z29); (case hp => exact (Reps.none _ _))
     intro oW w8 ho9 hb hg_ hnew_
     clear hg_ hnew_
     (first | rw [← ru.out] at ho9 | (simp only [Int.reduceToNat] at ho9; rw [← ru.out] at ho9))
     have n0_ := Aside0.mk (Kd.R_lower (Kd.R_newB ho9 (g := bu) (o := .cells #[.int .i64 a1_0, .int .i64 a1_1, .int .i64 a1_2] 76 (0, 0)) (Z6 aD)) (below_size (Z19)))
     have n1_ := Aside0.mk (Ye_ aD)
     have n2_ := Aside0.mk (below_step (Z19) hb)
     clear aD
     clear HB
     have eS := n0_
     have aD := n1_
     have HB := n2_
     clear n0_ n1_ n2_
     clear hb ho9
     refine hK.out _ _ ⟨(blk_cell aD.out 0).trans rfl, (blk_cell aD.out 1).trans rfl, (blk_cell aD.out 2).trans rfl⟩ (fun hHeld => ?_)
     clear hK K
     refine norm_ (a' := ?_) ?_ ?_
     rotate_left
     ·show Act.put _ (some 6) _ = _
      simp only [Act.put, List.setIfInBounds_toArray, List.set_cons_zero, List.set_cons_succ, i64_w, i32_w]
      rfl
     refine two_ (i := 2) (j := 4) (Ni := some 8) (Nj := some 10) (M_ 4 7) (N_ 11 27) rfl rfl rfl rfl (two_of HT_.out (by kernel_rfl)) (by decide) (by decide) (fun K hK => ?_) (fun K hK => ?_)
     ·skip
      refine Kd.R_append_rows_step k76 (w0 := w) w.heap.size (by rfl) (.tmp 6) (.tmp 7) 58 76 (.agg #[(.int .i64 0), (.int .i64 0), (.int .i64 0)]) 24 rfl Tryz.underlying58 info76 rfl (by decide) (by omega) oW iA l0 _ _ _ (fun k_ => k_ ≠ bu) (fun _ => False) rfl rfl ?aO ?aR (fun _ _ h => h) (fun _ h => h.elim) ?aF ?aB ?aS ?aL ?_
      (case aR => exact Z15 HR0)
      (case aB => exact Z19)
      (case aF => exact (fun k_ hk => Kd.freshB (g := bu) (o := .cells #[.int .i64 a1_0, .int .i64 a1_1, .int .i64 a1_2] 76 (0, 0)) (Z6 aD) k_ hk))
      (case aO => exact (Z26 eS))
      (case aS => exact (below_size (Z19)))
      (case aL => exact Z76 zD)
      intro mO ng ho hb hg hat
      rw [← uH.out] at ho
      have n0_ := Aside0.mk (blk_grown (g := bu) (o := .cells #[.int .i64 a1_0, .int .i64 a1_1, .int .i64 a1_2] 76 (0, 0)) (Z6 aD) hg (Kd.R_away eS.out (fun _ hk => hk.2)))
      have n1_ := Aside0.mk (hb)
      have n2_ := Aside0.mk (ho)
      clear aD
      clear HB
      clear eS
      have aD := n0_
      have HB := n1_
      have fh := n2_
      clear n0_ n1_ n2_
      clear ho hb hg hat
      refine hK.out _ _ ⟨(blk_cell aD.out 0).trans rfl, (blk_cell aD.out 1).trans rfl, (blk_cell aD.out 2).trans rfl⟩ (fun hHeld => ?_)
      clear hK K
      refine norm_ (a' := ?_) ?_ ?_
      rotate_left
      ·show Act.put _ (some 8) _ = _
       simp only [Act.put, List.setIfInBounds_toArray, List.set_cons_zero, List.set_cons_succ, i64_w, i32_w]
       rfl
      refine one_ (i := 4) (N := some 10) (M_ 5 6) rfl rfl (one_of HT_.out (by kernel_rfl)) (by decide) (fun K hK => ?_)
      refine Kd.R_lit_step k76 _ 76 ?hg (N := 10) ?hd (xs := ([(⟨a1_0, a1_1, a1_2⟩ : S76)] : List (S76))) (inner := [.int .i64 a1_0, .int .i64 a1_1, .int .i64 a1_2]) (ok := fun _ => True) (okp := fun _ => True) ?hr ?hp (fun _ hk => hk) trivial (Below.refl _ _) (Nat.le_refl _) (by simp) ?_; (case hd => rfl); (case hg => rfl); (case hr => exact Z29); (case hp => exact (Reps.c3 (show Kd.M k76 _ _ _ (⟨a1_0, a1_1, a1_2⟩ : S76) [.int .i64 a1_0, .int .i64 a1_1, .int .i64 a1_2] from (k76_mkM _ _ _ (⟨a1_0, a1_1, a1_2⟩ : S76) )) (Reps.none _ _)))
      intro lL lA ho12 hb hg_ hnew_
      clear hg_ hnew_
      (first | rw [← l6.out] at ho12 | (simp only [Int.reduceToNat] at ho12; rw [← l6.out] at ho12))
      have n0_ := Aside0.mk (Kd.R_elder' (Z1 fh) (Kd.R_base ho12) hb)
      have n1_ := Aside0.mk (Kd.R_lower (Kd.R_newB (Kd.R_new' ho12 (Yd_ fh)) (g := bu) (o := .cells #[.int .i64 a1_0, .int .i64 a1_1, .int .i64 a1_2] 76 (0, 0)) (Z6 aD)) (below_size (Z19)))
      have n2_ := Aside0.mk (Ye_ aD)
      have n3_ := Aside0.mk (below_step (Z19) hb)
      clear fh
      clear aD
      clear HB
      have fh := n0_
      have b9 := n1_
      have aD := n2_
      have HB := n3_
      clear n0_ n1_ n2_ n3_
      clear hb ho12
      refine hK.out _ _ ⟨(blk_cell aD.out 0).trans rfl, (blk_cell aD.out 1).trans rfl, (blk_cell aD.out 2).trans rfl⟩ (fun hHeld => ?_)
      clear hK K
      refine norm_ (a' := ?_) ?_ ?_
      rotate_left
      ·show Act.put _ (some 10) _ = _
       simp only [Act.put, List.setIfInBounds_toArray, List.set_cons_zero, List.set_cons_succ, i64_w, i32_w]
       rfl
      exact norm_ (Z53) (hCont (oW, mO, lL) _ ⟨hHeld, (Z71 fh), (Z77 b9), (Z6 aD), (Z19)⟩)
     skip
     refine Kd.R_lit_step k76 _ 76 ?hg (N := 10) ?hd (xs := ([(⟨a1_0, a1_1, a1_2⟩ : S76)] : List (S76))) (inner := [.int .i64 a1_0, .int .i64 a1_1, .int .i64 a1_2]) (ok := fun _ => True) (okp := fun _ => True) ?hr ?hp (fun _ hk => hk) trivial (Below.refl _ _) (Nat.le_refl _) (by simp) ?_; (case hd => rfl); (case hg => rfl); (case hr => exact Z29); (case hp => exact (Reps.c3 (show Kd.M k76 _ _ _ (⟨a1_0, a1_1, a1_2⟩ : S76) [.int .i64 a1_0, .int .i64 a1_1, .int .i64 a1_2] from (k76_mkM _ _ _ (⟨a1_0, a1_1, a1_2⟩ : S76) )) (Reps.none _ _)))
     intro lL ng ho11 hb hg_ hnew_
     clear hg_ hnew_
     (first | rw [← l6.out] at ho11 | (simp only [Int.reduceToNat] at ho11; rw [← l6.out] at ho11))
     have n0_ := Aside0.mk (Kd.R_elder' (Z1 eS) (Kd.R_base ho11) hb)
     have n1_ := Aside0.mk (Kd.R_lower (Kd.R_newB (Kd.R_new' ho11 (Yd_ eS)) (g := bu) (o := .cells #[.int .i64 a1_0, .int .i64 a1_1, .int .i64 a1_2] 76 (0, 0)) (Z6 aD)) (below_size (Z19)))
     have n2_ := Aside0.mk (Ye_ aD)
     have n3_ := Aside0.mk (below_step (Z19) hb)
     clear eS
     clear aD
     clear HB
     have eS := n0_
     have b9 := n1_
     have aD := n2_
     have HB := n3_
     clear n0_ n1_ n2_ n3_
     clear hb ho11
     refine hK.out _ _ ⟨(blk_cell aD.out 0).trans rfl, (blk_cell aD.out 1).trans rfl, (blk_cell aD.out 2).trans rfl⟩ (fun hHeld => ?_)
     clear hK K
     refine norm_ (a' := ?_) ?_ ?_
     rotate_left
     ·show Act.put _ (some 10) _ = _
      simp only [Act.put, List.setIfInBounds_toArray, List.set_cons_zero, List.set_cons_succ, i64_w, i32_w]
      rfl
     refine one_ (i := 2) (N := some 8) (M_ 5 6) rfl rfl (one_of HT_.out (by kernel_rfl)) (by decide) (fun K hK => ?_)
     refine Kd.R_append_rows_step k76 (w0 := w) w.heap.size (by rfl) (.tmp 6) (.tmp 7) 58 76 (.agg #[(.int .i64 0), (.int .i64 0), (.int .i64 0)]) 24 rfl Tryz.underlying58 info76 rfl (by decide) (by omega) oW iA l0 _ _ _ (fun k_ => some k_ ≠ (lL : Value).ownBlock ∧ k_ ≠ bu) (fun _ => False) rfl rfl ?aO ?aR (fun _ _ h => h) (fun _ h => h.elim) ?aF ?aB ?aS ?aL ?_
     (case aR => exact Z15 HR0)
     (case aB => exact Z19)
     (case aF => exact (fun k_ hk => ⟨Kd.fresh' (Yd_ b9) k_ hk, Kd.freshB (g := bu) (o := .cells #[.int .i64 a1_0, .int .i64 a1_1, .int .i64 a1_2] 76 (0, 0)) (Z6 aD) k_ hk⟩))
     (case aO => exact (Z101 eS))
     (case aS => exact (below_size (Z19)))
     (case aL => exact Z76 zD)
     intro mO vy ho hb hg hat
     rw [← uH.out] at ho
     have n0_ := Aside0.mk (blk_grown (g := bu) (o := .cells #[.int .i64 a1_0, .int .i64 a1_1, .int .i64 a1_2] 76 (0, 0)) (Z6 aD) hg (Kd.R_away eS.out (fun _ hk => hk.1.2)))
     have n1_ := Aside0.mk (Kd.R_after (ok := (fun k_ => k_ ≠ bu)) (Z101 b9) hg hat)
     have n2_ := Aside0.mk (hb)
     have n3_ := Aside0.mk (ho)
     clear aD
     clear b9
     clear HB
     clear eS
     have aD := n0_
     have b9 := n1_
     have HB := n2_
     have fh := n3_
     clear n0_ n1_ n2_ n3_
     clear ho hb hg hat
     refine hK.out _ _ ⟨(blk_cell aD.out 0).trans rfl, (blk_cell aD.out 1).trans rfl, (blk_cell aD.out 2).trans rfl⟩ (fun hHeld => ?_)
     clear hK K
     refine norm_ (a' := ?_) ?_ ?_
     rotate_left
     ·show Act.put _ (some 8) _ = _
      simp only [Act.put, List.setIfInBounds_toArray, List.set_cons_zero, List.set_cons_succ, i64_w, i32_w]
      rfl
     exact norm_ (Z53) (hCont (oW, mO, lL) _ ⟨hHeld, (Z1 fh), (Z71 b9), (Z6 aD), (Z19)⟩)
    skip
    refine Kd.R_lit_step k76 _ 76 ?hg (N := 10) ?hd (xs := ([(⟨a1_0, a1_1, a1_2⟩ : S76)] : List (S76))) (inner := [.int .i64 a1_0, .int .i64 a1_1, .int .i64 a1_2]) (ok := fun _ => True) (okp := fun _ => True) ?hr ?hp (fun _ hk => hk) trivial (Below.refl _ _) (Nat.le_refl _) (by simp) ?_; (case hd => rfl); (case hg => rfl); (case hr => exact Z29); (case hp => exact (Reps.c3 (show Kd.M k76 _ _ _ (⟨a1_0, a1_1, a1_2⟩ : S76) [.int .i64 a1_0, .int .i64 a1_1, .int .i64 a1_2] from (k76_mkM _ _ _ (⟨a1_0, a1_1, a1_2⟩ : S76) )) (Reps.none _ _)))
    intro lL w8 ho9 hb hg_ hnew_
    clear hg_ hnew_
    (first | rw [← l6.out] at ho9 | (simp only [Int.reduceToNat] at ho9; rw [← l6.out] at ho9))
    have n0_ := Aside0.mk (Kd.R_lower (Kd.R_newB ho9 (g := bu) (o := .cells #[.int .i64 a1_0, .int .i64 a1_1, .int .i64 a1_2] 76 (0, 0)) (Z6 aD)) (below_size (Z19)))
    have n1_ := Aside0.mk (Ye_ aD)
    have n2_ := Aside0.mk (below_step (Z19) hb)
    clear aD
    clear HB
    have b9 := n0_
    have aD := n1_
    have HB := n2_
    clear n0_ n1_ n2_
    clear hb ho9
    refine hK.out _ _ ⟨(blk_cell aD.out 0).trans rfl, (blk_cell aD.out 1).trans rfl, (blk_cell aD.out 2).trans rfl⟩ (fun hHeld => ?_)
    clear hK K
    refine norm_ (a' := ?_) ?_ ?_
    rotate_left
    ·show Act.put _ (some 10) _ = _
     simp only [Act.put, List.setIfInBounds_toArray, List.set_cons_zero, List.set_cons_succ, i64_w, i32_w]
     rfl
    refine one_ (i := 0) (N := some 6) (N_ 11 27) rfl rfl (one_of HT_.out (by kernel_rfl)) (by decide) (fun K hK => ?_)
    refine Kd.R_lit_step k76 _ 76 ?hg (N := 6) ?hd (xs := ([] : List (S76))) (inner := []) (ok := fun _ => True) (okp := fun _ => True) ?hr ?hp (fun _ hk => hk) trivial (Below.refl _ _) (Nat.le_refl _) (by simp) ?_; (case hd => rfl); (case hg => rfl); (case hr => exact Z29); (case hp => exact (Reps.none _ _))
    intro oW ng ho11 hb hg_ hnew_
    clear hg_ hnew_
    (first | rw [← ru.out] at ho11 | (simp only [Int.reduceToNat] at ho11; rw [← ru.out] at ho11))
    have n0_ := Aside0.mk (Kd.R_elder' (Z1 b9) (Kd.R_base ho11) hb)
    have n1_ := Aside0.mk (Kd.R_lower (Kd.R_newB (Kd.R_new' ho11 (Yd_ b9)) (g := bu) (o := .cells #[.int .i64 a1_0, .int .i64 a1_1, .int .i64 a1_2] 76 (0, 0)) (Z6 aD)) (below_size (Z19)))
    have n2_ := Aside0.mk (Ye_ aD)
    have n3_ := Aside0.mk (below_step (Z19) hb)
    clear b9
    clear aD
    clear HB
    have b9 := n0_
    have eS := n1_
    have aD := n2_
    have HB := n3_
    clear n0_ n1_ n2_ n3_
    clear hb ho11
    refine hK.out _ _ ⟨(blk_cell aD.out 0).trans rfl, (blk_cell aD.out 1).trans rfl, (blk_cell aD.out 2).trans rfl⟩ (fun hHeld => ?_)
    clear hK K
    refine norm_ (a' := ?_) ?_ ?_
    rotate_left
    ·show Act.put _ (some 6) _ = _
     simp only [Act.put, List.setIfInBounds_toArray, List.set_cons_zero, List.set_cons_succ, i64_w, i32_w]
     rfl
    refine one_ (i := 2) (N := some 8) (M_ 5 6) rfl rfl (one_of HT_.out (by kernel_rfl)) (by decide) (fun K hK => ?_)
    refine Kd.R_append_rows_step k76 (w0 := w) w.heap.size (by rfl) (.tmp 6) (.tmp 7) 58 76 (.agg #[(.int .i64 0), (.int .i64 0), (.int .i64 0)]) 24 rfl Tryz.underlying58 info76 rfl (by decide) (by omega) oW iA l0 _ _ _ (fun k_ => some k_ ≠ (lL : Value).ownBlock ∧ k_ ≠ bu) (fun _ => False) rfl rfl ?aO ?aR (fun _ _ h => h) (fun _ h => h.elim) ?aF ?aB ?aS ?aL ?_
    (case aR => exact Z15 HR0)
    (case aB => exact Z19)
    (case aF => exact (fun k_ hk => ⟨Kd.fresh' (Yd_ b9) k_ hk, Kd.freshB (g := bu) (o := .cells #[.int .i64 a1_0, .int .i64 a1_1, .int .i64 a1_2] 76 (0, 0)) (Z6 aD) k_ hk⟩))
    (case aO => exact (Z77 eS))
    (case aS => exact (below_size (Z19)))
    (case aL => exact Z76 zD)
    intro mO vy ho hb hg hat
    rw [← uH.out] at ho
    have n0_ := Aside0.mk (blk_grown (g := bu) (o := .cells #[.int .i64 a1_0, .int .i64 a1_1, .int .i64 a1_2] 76 (0, 0)) (Z6 aD) hg (Kd.R_away eS.out (fun _ hk => hk.2)))
    have n1_ := Aside0.mk (Kd.R_after (ok := (fun k_ => k_ ≠ bu)) (Z77 b9) hg hat)
    have n2_ := Aside0.mk (hb)
    have n3_ := Aside0.mk (ho)
    clear aD
    clear b9
    clear HB
    clear eS
    have aD := n0_
    have b9 := n1_
    have HB := n2_
    have fh := n3_
    clear n0_ n1_ n2_ n3_
    clear ho hb hg hat
    refine hK.out _ _ ⟨(blk_cell aD.out 0).trans rfl, (blk_cell aD.out 1).trans rfl, (blk_cell aD.out 2).trans rfl⟩ (fun hHeld => ?_)
    clear hK K
    refine norm_ (a' := ?_) ?_ ?_
    rotate_left
    ·show Act.put _ (some 8) _ = _
     simp only [Act.put, List.setIfInBounds_toArray, List.set_cons_zero, List.set_cons_succ, i64_w, i32_w]
     rfl
    exact norm_ (Z53) (hCont (oW, mO, lL) _ ⟨hHeld, (Z1 fh), (Z71 b9), (Z6 aD), (Z19)⟩)
   rintro ⟨oW, mO, lL⟩ m8 ⟨hS_, h0_, h1_, h2_, h3_⟩
   have n0_ : Aside0 (Kd.R k76 76 m8 w.heap.size (fun k_ => some k_ ≠ (lL : Value).ownBlock ∧ k_ ≠ bu) mO fS) := ⟨h0_⟩
   have n1_ : Aside0 (Kd.R k76 76 m8 w.heap.size (fun k_ => some k_ ≠ (mO : Value).ownBlock ∧ k_ ≠ bu) lL fg) := ⟨h1_⟩
   have n2_ : Aside0 (m8.heap[bu]? = some (.cells #[.int .i64 a1_0, .int .i64 a1_1, .int .i64 a1_2] 76 (0, 0))) := ⟨h2_⟩
   have n3_ : Aside0 (Below w.heap.size w m8) := ⟨h3_⟩
   clear aD
   clear HB
   clear h0_ h1_ h2_ h3_
   have fh := n0_
   have b9 := n1_
   have aD := n2_
   have HB := n3_
   clear n0_ n1_ n2_ n3_
   have hHeld : m8.cell? ⟨bu, 0, none⟩ = some (.int .i64 a1_0) ∧ m8.cell? ⟨bu, 1, none⟩ = some (.int .i64 a1_1) ∧ m8.cell? ⟨bu, 2, none⟩ = some (.int .i64 a1_2) := hS_
   obtain ⟨nG, jG, lD⟩ := Kd.R_slice b9.out
   (first | subst lD | (injection lD with f1_ f2_ f3_; have f4_ := f1_.symm; have f5_ := f3_.symm; clear f1_ f2_ f3_; subst f4_; subst f5_))
   refine norm_ (a' := ?_) ?_ ?_
   rotate_left
   ·simp only [putAll, Act.put, List.setIfInBounds_toArray, List.set_cons_zero, List.set_cons_succ]
    rfl
   refine one_ (i := 5) (N := some 11) (M_ 6 5) rfl rfl (one_of HT_.out (by kernel_rfl)) (by decide) (fun K hK => ?_)
   refine Kd.R_append_rows_step k76 (w0 := w) w.heap.size (by rfl) (.tmp 8) (.tmp 10) 58 76 (.agg #[(.int .i64 0), (.int .i64 0), (.int .i64 0)]) 24 rfl Tryz.underlying58 info76 rfl (by decide) (by omega) mO fS fg _ _ _ (fun k_ => some k_ ≠ (.slice nG fg.length jG : Value).ownBlock ∧ k_ ≠ bu) (fun _ => False) rfl rfl ?aO ?aR (fun _ _ h => h) (fun _ h => h.elim) ?aF ?aB ?aS ?aL ?_
   (case aR => exact Z5 b9)
   (case aB => exact Z19)
   (case aF => exact (fun k_ hk => ⟨Kd.fresh' (Yd_ b9) k_ hk, Kd.freshB (g := bu) (o := .cells #[.int .i64 a1_0, .int .i64 a1_1, .int .i64 a1_2] 76 (0, 0)) (Z6 aD) k_ hk⟩))
   (case aO => exact (Z1 fh))
   (case aS => exact (below_size (Z19)))
   (case aL => exact Z76 LMc4)
   intro v206 vE ho hb hg hat
   rw [← Ny205.out] at ho
   have n0_ := Aside0.mk (blk_grown (g := bu) (o := .cells #[.int .i64 a1_0, .int .i64 a1_1, .int .i64 a1_2] 76 (0, 0)) (Z6 aD) hg (Kd.R_away fh.out (fun _ hk => hk.2)))
   have n1_ := Aside0.mk (Kd.R_after (ok := (fun k_ => k_ ≠ bu)) (Z71 b9) hg hat)
   have n2_ := Aside0.mk (hb)
   have n3_ := Aside0.mk (ho)
   clear aD
   clear b9
   clear HB
   clear fh
   have aD := n0_
   have b9 := n1_
   have HB := n2_
   have jY := n3_
   clear n0_ n1_ n2_ n3_
   clear ho hb hg hat
   obtain ⟨Ao16, co16, B9⟩ := Kd.R_slice jY.out
   (first | subst B9 | (injection B9 with f1_ f2_ f3_; have f4_ := f1_.symm; have f5_ := f3_.symm; clear f1_ f2_ f3_; subst f4_; subst f5_))
   refine hK.out _ _ ⟨(blk_cell aD.out 0).trans rfl, (blk_cell aD.out 1).trans rfl, (blk_cell aD.out 2).trans rfl⟩ (fun hHeld => ?_)
   clear hK K
   refine norm_ (a' := ?_) ?_ ?_
   rotate_left
   ·show Act.put _ (some 11) _ = _
    simp only [Act.put, List.setIfInBounds_toArray, List.set_cons_zero, List.set_cons_succ, i64_w, i32_w]
    rfl
   refine one_ (i := 6) (N := some 12) (M_ 7 4) rfl rfl (one_of HT_.out (by kernel_rfl)) (by decide) (fun K hK => ?_)
   refine goes_ Tryz.func76 (by kernel_rfl) rfl #[.slice Ao16 zE.length co16] (by rfl) rfl rfl (Z58) ?_
   with_reducible refine (spec_shSorted.calls k _ _ zE B3 B7 _ ?side1 ?side2 A5.out).mono ?_
   (case side1 => exact Z5 jY)
   (case side2 => exact (Kd.R_reads' jY.out).2.1)
   rintro e vC ⟨v210, rfl, ho0, hb⟩
   refine ⟨_, rfl, ?_⟩
   have n0_ := Aside0.mk (Yb_ b9)
   have n1_ := Aside0.mk (Yb_ jY)
   have n2_ := Aside0.mk (Kd.R_lower (Kd.R_newB (Kd.R_new' (Kd.R_new' ho0 (Yd_ b9)) (Yd_ jY)) (g := bu) (o := .cells #[.int .i64 a1_0, .int .i64 a1_1, .int .i64 a1_2] 76 (0, 0)) (Z6 aD)) (below_size (Z19)))
   have n3_ := Aside0.mk (Ye_ aD)
   have n4_ := Aside0.mk (below_step (Z19) hb)
   clear b9
   clear jY
   clear aD
   clear HB
   have b9 := n0_
   have jY := n1_
   have tt := n2_
   have aD := n3_
   have HB := n4_
   clear n0_ n1_ n2_ n3_ n4_
   (try clear hb)
   (try clear hb2)
   (try clear hk)
   (try clear hi)
   (try clear ho0)
   refine hK.out _ _ ⟨(blk_cell aD.out 0).trans rfl, (blk_cell aD.out 1).trans rfl, (blk_cell aD.out 2).trans rfl⟩ (fun hHeld => ?_)
   clear hK K
   refine norm_ (a' := ?_) ?_ ?_
   rotate_left
   ·show Act.put _ (some 12) _ = _
    simp only [Act.put, List.setIfInBounds_toArray, List.set_cons_zero, List.set_cons_succ, i64_w, i32_w]
    rfl
   refine pu_ 7 13 (M_ 8 3) ?_
   refine pu_ 8 14 (M_ 9 2) ?_
   refine pu_ 9 4 (M_ 10 1) ?_
   refine pu_ 10 5 (M_ 11 0) ?_
   refine done_ (done_of HT_.out (by kernel_rfl)) ?_
   try go_wp2
   go_ret2
   exact ⟨_, Z12, Z35 tt, Z19⟩
  rw [if_neg c4] at H
  exact absurd H (by simp)
 rw [if_neg c3] at H
 exact absurd H (by simp)

/-! ### spec_l1Cur_among: function 42 -/
def spec_l1Cur_among.f (s0_0 : List Int) (s0_1 : Int) (s0_2 : Int) (l1 : List Int) : Option (Int × Int × Int) := (spec_l1Cur_pick.f s0_0 s0_1 s0_2 (l1.length : Int)).bind fun f9 => (if 0 ≤ f9.1 then (if f9.1 < (l1.length : Int) then (some (rd l1 f9.1, f9.2.1, f9.2.2)) else (none)) else (none))
set_option maxHeartbeats 8000000 in
set_option maxRecDepth 100000 in
theorem spec_l1Cur_among.calls (g : Nat) (s0_0 : List Int) (s0_1 : Int) (s0_2 : Int) (A1 : Option Addr) (c1 : Nat) (l1 : List Int) (r1 : Int) (r2 : Int) (r3 : Int) (w0 w : World) (hI : IsS45 w0 w g s0_0 s0_1 s0_2) (hB : Below w0.heap.size w0 w) (hr1 : Kd.C (Kd.int .i64) w A1 l1.length l1) (hc1 : l1.length ≤ c1) (hf1 : ∀ ad, A1 = some ad → 0 < l1.length → ad.block ≠ g) (h : spec_l1Cur_among.f s0_0 s0_1 s0_2 l1 = some (r1, r2, r3)) :
  Calls Tryz.prog 42 #[.pointer (some ⟨g, 0, none⟩), .slice A1 l1.length c1] w fun e w' => e = .returned (.int .i64 r1) ∧ IsS45 w0 w' g s0_0 r2 r3 ∧ Below w0.heap.size w0 w' ∧ KeepBut w w' g none := by
 have HR1 := Aside0.mk hr1
 have HC1 := Aside0.mk hc1
 clear hr1 hc1
 have HI0 := Aside0.mk hI
 have HK := Aside0.mk (KeepBut.refl w g none)
 have HL := Aside0.mk hB.size
 clear hI
 have HW0 := Aside0.mk hB.size
 have HB := Aside0.mk hB
 clear hB
 have H : ((spec_l1Cur_pick.f s0_0 s0_1 s0_2 (l1.length : Int)).bind fun f9 => (if 0 ≤ f9.1 then (if f9.1 < (l1.length : Int) then (some (rd l1 f9.1, f9.2.1, f9.2.2)) else (none)) else (none))) = some (r1, r2, r3) := h
 clear h
 replace H := Option.bind_eq_some_iff.mp H
 obtain ⟨⟨bX, t213, t214⟩, fN, H⟩ := H
 (try dsimp only at H)
 have A3 := Aside0.mk fN
 clear fN
 by_cases c4 : 0 ≤ bX
 ·rw [if_pos c4] at H
  have fj : decide (0 ≤ bX) = true := decide_eq_true c4
  clear c4
  by_cases c5 : bX < (l1.length : Int)
  ·rw [if_pos c5] at H
   have fX : decide (bX < (l1.length : Int)) = true := decide_eq_true c5
   clear c5
   simp only [Option.some.injEq, Prod.mk.injEq] at H
   obtain ⟨rfl, rfl, rfl⟩ := H
   go_enter Tryz.func42, Tryz.ntmps42
   go_wp2_with ((with_reducible refine gate_callee (f := 22) rfl ?_); refine gl_ 9 Tryz.func22 #[.pointer (some ⟨g, 0, none⟩), .int .i64 (l1.length : Int)] ?_; (with_reducible refine (spec_l1Cur_pick.calls g s0_0 s0_1 s0_2 (l1.length : Int) bX t213 t214 w0 _ ?_ ?_ A3.out).mono ?_); exact (Z3 HI0); exact Z8; rintro e w6 ⟨rfl, hi, hb, hk⟩; refine ⟨_, rfl, ?_⟩; refine k3_ (KeepBut.trans (Z7) hk (.inl rfl)) (hb) (hi) ?_; clear HK HB HI0; intro HK HB HI0; (try clear hb hk hi); have zF : 0 ≤ (bX : Int) := of_decide_eq_true (Z4); have zG : bX < (l1.length : Int) := of_decide_eq_true (Z4); obtain ⟨ad215, e215, rv⟩ := Kd.at_int HR1.out bX zF zG; cases e215; replace rv := keep_cell HK.out rv (by first | (rw [add_block]; exact hf1 _ rfl (by omega)) | exact hf1 _ rfl (by omega) | exact hf1 ad215 rfl (by omega)); replace zF := eq_true zF; replace zG := eq_true zG)
   go_ret
   exact ⟨Z12, Z3 HI0, Z8, Z7⟩
  rw [if_neg c5] at H
  exact absurd H (by simp)
 rw [if_neg c4] at H
 exact absurd H (by simp)

/-! ### spec_l1Cur_hole: function 75 -/
def spec_l1Cur_hole.f (s0_0 : List Int) (s0_1 : Int) (s0_2 : Int) : Option (Int × Int × Int × Int × Int) := (spec_l1Cur_pick.f s0_0 s0_1 s0_2 40).bind fun jZ => ((spec_l1Cur_pick.f s0_0 jZ.2.1 jZ.2.2 60).bind fun j3 => ((spec_l1Cur_among.f s0_0 j3.2.1 j3.2.2 (([0, 2, 5, jZ.1, j3.1, 1990] : List Int))).bind fun eT => ((spec_l1Cur_pick.f s0_0 eT.2.1 eT.2.2 20).bind fun ga => ((spec_l1Cur_among.f s0_0 ga.2.1 ga.2.2 (([0, 1, 2, 3, 5, ga.1] : List Int))).bind fun et => ((spec_l1Cur_among.f s0_0 et.2.1 et.2.2 (([1, 2, 3, 4, 10] : List Int))).bind fun di => (some (et.1, eT.1, wrap64 (eT.1 + di.1), di.2.1, di.2.2)))))))
set_option maxHeartbeats 8000000 in
set_option maxRecDepth 100000 in
theorem spec_l1Cur_hole.calls (g : Nat) (s0_0 : List Int) (s0_1 : Int) (s0_2 : Int) (r1 : Int) (r2 : Int) (r3 : Int) (r4 : Int) (r5 : Int) (w0 w : World) (hI : IsS45 w0 w g s0_0 s0_1 s0_2) (hB : Below w0.heap.size w0 w) (h : spec_l1Cur_hole.f s0_0 s0_1 s0_2 = some (r1, r2, r3, r4, r5)) :
  Calls Tryz.prog 75 #[.pointer (some ⟨g, 0, none⟩)] w fun e w' => e = .returned (.agg #[.int .i64 r1, .int .i64 r2, .int .i64 r3]) ∧ IsS45 w0 w' g s0_0 r4 r5 ∧ Below w0.heap.size w0 w' ∧ KeepBut w w' g none := by
 have hu76 := Tryz.underlying76
 have HI0 := Aside0.mk hI
 have HK := Aside0.mk (KeepBut.refl w g none)
 have HL := Aside0.mk hB.size
 clear hI
 have HW0 := Aside0.mk hB.size
 have HB := Aside0.mk hB
 clear hB
 have H : ((spec_l1Cur_pick.f s0_0 s0_1 s0_2 40).bind fun jZ => ((spec_l1Cur_pick.f s0_0 jZ.2.1 jZ.2.2 60).bind fun j3 => ((spec_l1Cur_among.f s0_0 j3.2.1 j3.2.2 (([0, 2, 5, jZ.1, j3.1, 1990] : List Int))).bind fun eT => ((spec_l1Cur_pick.f s0_0 eT.2.1 eT.2.2 20).bind fun ga => ((spec_l1Cur_among.f s0_0 ga.2.1 ga.2.2 (([0, 1, 2, 3, 5, ga.1] : List Int))).bind fun et => ((spec_l1Cur_among.f s0_0 et.2.1 et.2.2 (([1, 2, 3, 4, 10] : List Int))).bind fun di => (some (et.1, eT.1, wrap64 (eT.1 + di.1), di.2.1, di.2.2)))))))) = some (r1, r2, r3, r4, r5) := h
 clear h
 replace H := Option.bind_eq_some_iff.mp H
 obtain ⟨⟨r9, Ca, Cb⟩, cK, H⟩ := H
 (try dsimp only at H)
 have A2 := Aside0.mk cK
 clear cK
 replace H := Option.bind_eq_some_iff.mp H
 obtain ⟨⟨sa, wb, wd⟩, fN, H⟩ := H
 (try dsimp only at H)
 have A3 := Aside0.mk fN
 clear fN
 obtain ⟨zH, oX⟩ : ∃ y_ : List Int, y_ = (([0, 2, 5, r9, sa, 1990] : List Int)) := ⟨_, rfl⟩
 replace H : ((spec_l1Cur_among.f s0_0 wb wd zH).bind fun eT => ((spec_l1Cur_pick.f s0_0 eT.2.1 eT.2.2 20).bind fun ga => ((spec_l1Cur_among.f s0_0 ga.2.1 ga.2.2 (([0, 1, 2, 3, 5, ga.1] : List Int))).bind fun et => ((spec_l1Cur_among.f s0_0 et.2.1 et.2.2 (([1, 2, 3, 4, 10] : List Int))).bind fun di => (some (et.1, eT.1, wrap64 (eT.1 + di.1), di.2.1, di.2.2)))))) = some (r1, r2, r3, r4, r5) := by first | (rw [oX]; with_reducible exact H) | (have H2_ := (Option.bind_some _ _).symm.trans H; rw [oX]; with_reducible exact H2_) | (have H2_ := (Option.bind_some _ _).symm.trans H; with_reducible exact H2_) | with_reducible exact H | (rw [oX]; exact H) | exact H
 have xQ := Aside0.mk oX
 clear oX
 replace H := Option.bind_eq_some_iff.mp H
 obtain ⟨⟨oY, iu, zI⟩, fW, H⟩ := H
 (try dsimp only at H)
 have A4 := Aside0.mk fW
 clear fW
 replace H := Option.bind_eq_some_iff.mp H
 obtain ⟨⟨sb, uI, uJ⟩, fM, H⟩ := H
 (try dsimp only at H)
 have A5 := Aside0.mk fM
 clear fM
 obtain ⟨zJ, oZ⟩ : ∃ y_ : List Int, y_ = (([0, 1, 2, 3, 5, sb] : List Int)) := ⟨_, rfl⟩
 replace H : ((spec_l1Cur_among.f s0_0 uI uJ zJ).bind fun et => ((spec_l1Cur_among.f s0_0 et.2.1 et.2.2 (([1, 2, 3, 4, 10] : List Int))).bind fun di => (some (et.1, oY, wrap64 (oY + di.1), di.2.1, di.2.2)))) = some (r1, r2, r3, r4, r5) := by first | (rw [oZ]; with_reducible exact H) | (have H2_ := (Option.bind_some _ _).symm.trans H; rw [oZ]; with_reducible exact H2_) | (have H2_ := (Option.bind_some _ _).symm.trans H; with_reducible exact H2_) | with_reducible exact H | (rw [oZ]; exact H) | exact H
 have xR := Aside0.mk oZ
 clear oZ
 replace H := Option.bind_eq_some_iff.mp H
 obtain ⟨⟨uK, sc, sd⟩, fV, H⟩ := H
 (try dsimp only at H)
 have A6 := Aside0.mk fV
 clear fV
 obtain ⟨zK, o0⟩ : ∃ y_ : List Int, y_ = (([1, 2, 3, 4, 10] : List Int)) := ⟨_, rfl⟩
 replace H : ((spec_l1Cur_among.f s0_0 sc sd zK).bind fun di => (some (uK, oY, wrap64 (oY + di.1), di.2.1, di.2.2))) = some (r1, r2, r3, r4, r5) := by first | (rw [o0]; with_reducible exact H) | (have H2_ := (Option.bind_some _ _).symm.trans H; rw [o0]; with_reducible exact H2_) | (have H2_ := (Option.bind_some _ _).symm.trans H; with_reducible exact H2_) | with_reducible exact H | (rw [o0]; exact H) | exact H
 have xS := Aside0.mk o0
 clear o0
 replace H := Option.bind_eq_some_iff.mp H
 obtain ⟨⟨Cc, t242, t243⟩, nq, H⟩ := H
 (try dsimp only at H)
 have A7 := Aside0.mk nq
 clear nq
 simp only [Option.some.injEq, Prod.mk.injEq] at H
 obtain ⟨rfl, rfl, rfl, rfl, rfl⟩ := H
 go_enter Tryz.func75, Tryz.ntmps75
 go_wp2_with (first | ((with_reducible refine gate_dst (N := 2) rfl ?_); refine bv_ 2 76 #[.int .i64 0, .int .i64 0, .int .i64 0] ?_; intro fP hg w8 hbox hb; refine k8_ (IsS45.below (Z3 HI0) hb) (KeepBut.trans (Z7) (KeepBut.of_below hb g none) (.inl rfl)) (below_step (Z8) hb) (hbox) ((Z70 : w.heap.size ≤ fP)) ((Nat.le_trans HW0.out (Z70 : w.heap.size ≤ fP) : w0.heap.size ≤ fP)) ((Z106 : g ≠ fP)) ((Z107 : fP ≠ g)) ?_; clear HI0 HK HB; intro HI0 HK HB bU GW216 GE216 qK fG; clear hb hbox hg) | ((with_reducible refine gate_callee (f := 22) rfl ?_); refine gl_ 6 Tryz.func22 #[.pointer (some ⟨g, 0, none⟩), .int .i64 40] ?_; (with_reducible refine (spec_l1Cur_pick.calls g s0_0 s0_1 s0_2 40 r9 Ca Cb w0 _ ?_ ?_ A2.out).mono ?_); exact Z24; exact Z41; rintro e w9 ⟨rfl, hi, hb, hk⟩; refine ⟨_, rfl, ?_⟩; refine k4_ (KeepBut.blk hk (g' := fP) (o := .cells #[.int .i64 0, .int .i64 0, .int .i64 0] 76 (0, 0)) (Z6 bU) fG.out (by simp)) (KeepBut.trans (Z39) hk (.inl rfl)) (hb) (hi) ?_; clear bU HK HB HI0; intro bU HK HB HI0; (try clear hb hk hi)) | ((with_reducible refine gate_callee (f := 22) rfl ?_); refine gl_ 8 Tryz.func22 #[.pointer (some ⟨g, 0, none⟩), .int .i64 60] ?_; (with_reducible refine (spec_l1Cur_pick.calls g s0_0 Ca Cb 60 sa wb wd w0 _ ?_ ?_ A3.out).mono ?_); exact Z24; exact Z41; rintro e ng ⟨rfl, hi, hb, hk⟩; refine ⟨_, rfl, ?_⟩; refine k4_ (KeepBut.blk hk (g' := fP) (o := .cells #[.int .i64 0, .int .i64 0, .int .i64 0] 76 (0, 0)) (Z6 bU) fG.out (by simp)) (KeepBut.trans (Z39) hk (.inl rfl)) (hb) (hi) ?_; clear bU HK HB HI0; intro bU HK HB HI0; (try clear hb hk hi)) | ((with_reducible refine gate_dst (N := 9) rfl ?_); refine Kd.R_lit (Kd.int .i64) _ 3 ?hg (N := 9) ?hd (xs := ([0, 2, 5, r9, sa, 1990] : List Int)) (inner := [.int .i64 0, .int .i64 2, .int .i64 5, .int .i64 r9, .int .i64 sa, .int .i64 1990]) (ok := fun _ => True) (okp := fun _ => True) ?hr ?hp (fun _ hk => hk) trivial (Below.refl _ _) (Nat.le_refl _) (by simp) ?_; (case hd => rfl); (case hg => rfl); (case hr => exact Z29); (case hp => exact (Reps.one (show Kd.M (Kd.int .i64) _ _ _ 0 [.int .i64 0] from rfl) (Reps.one (show Kd.M (Kd.int .i64) _ _ _ 2 [.int .i64 2] from rfl) (Reps.one (show Kd.M (Kd.int .i64) _ _ _ 5 [.int .i64 5] from rfl) (Reps.one (show Kd.M (Kd.int .i64) _ _ _ r9 [.int .i64 r9] from rfl) (Reps.one (show Kd.M (Kd.int .i64) _ _ _ sa [.int .i64 sa] from rfl) (Reps.one (show Kd.M (Kd.int .i64) _ _ _ 1990 [.int .i64 1990] from rfl) (Reps.none _ _)))))))); intro v224 lA ho12 hb hg_ hnew_; clear hg_ hnew_; (first | rw [← xQ.out] at ho12 | (simp only [Int.reduceToNat] at ho12; rw [← xQ.out] at ho12)); refine k5_ (Kd.R_lower ho12 (keep_size (w := w) (g := g) (row := none) (Z39))) (IsS45.below (Z24) hb) (Ye_ bU) (KeepBut.trans (Z39) (KeepBut.of_below hb g none) (.inl rfl)) (below_step (Z41) hb) ?_; clear HI0 bU HK HB; intro cv HI0 bU HK HB; clear hb ho12; obtain ⟨Ao13, co13, eo13⟩ := Kd.R_slice cv.out; subst eo13) | ((with_reducible refine gate_callee (f := 42) rfl ?_); refine gl_ 10 Tryz.func42 #[.pointer (some ⟨g, 0, none⟩), .slice Ao13 zH.length co13] ?_; (with_reducible refine (spec_l1Cur_among.calls g s0_0 wb wd _ _ zH oY iu zI w0 _ ?_ ?_ ?_ ?_ ?_ A4.out).mono ?_); exact Z24; exact Z41; exact (Z5 cv); exact (Kd.R_reads' cv.out).2.1; exact far_slice (IsS45.own_ne HI0.out cv.out (by decide)); rintro e vE ⟨rfl, hi, hb, hk⟩; refine ⟨_, rfl, ?_⟩; refine k5_ (KeepBut.blk hk (g' := fP) (o := .cells #[.int .i64 0, .int .i64 0, .int .i64 0] 76 (0, 0)) (Z6 bU) fG.out (by simp)) (Kd.R_mono (Kd.R_keep (IsS45.apart (show IsS45 w0 _ g s0_0 wb wd from Z24) (Z1 cv) (by decide)) hk (fun _ h => h.2)) (fun _ h => h.1)) (KeepBut.trans (Z39) hk (.inl rfl)) (hb) (hi) ?_; clear bU cv HK HB HI0; intro bU cv HK HB HI0; (try clear hb hk hi)) | ((with_reducible refine gate_callee (f := 22) rfl ?_); refine gl_ 13 Tryz.func22 #[.pointer (some ⟨g, 0, none⟩), .int .i64 20] ?_; (with_reducible refine (spec_l1Cur_pick.calls g s0_0 iu zI 20 sb uI uJ w0 _ ?_ ?_ A5.out).mono ?_); exact Z24; exact Z41; rintro e l8 ⟨rfl, hi, hb, hk⟩; refine ⟨_, rfl, ?_⟩; refine k5_ (KeepBut.blk hk (g' := fP) (o := .cells #[.int .i64 0, .int .i64 0, .int .i64 0] 76 (0, 0)) (Z6 bU) fG.out (by simp)) (Kd.R_mono (Kd.R_keep (IsS45.apart (show IsS45 w0 _ g s0_0 iu zI from Z24) (Z1 cv) (by decide)) hk (fun _ h => h.2)) (fun _ h => h.1)) (KeepBut.trans (Z39) hk (.inl rfl)) (hb) (hi) ?_; clear bU cv HK HB HI0; intro bU cv HK HB HI0; (try clear hb hk hi)) | ((with_reducible refine gate_dst (N := 14) rfl ?_); refine Kd.R_lit (Kd.int .i64) _ 3 ?hg (N := 14) ?hd (xs := ([0, 1, 2, 3, 5, sb] : List Int)) (inner := [.int .i64 0, .int .i64 1, .int .i64 2, .int .i64 3, .int .i64 5, .int .i64 sb]) (ok := fun _ => True) (okp := fun _ => True) ?hr ?hp (fun _ hk => hk) trivial (Below.refl _ _) (Nat.le_refl _) (by simp) ?_; (case hd => rfl); (case hg => rfl); (case hr => exact Z29); (case hp => exact (Reps.one (show Kd.M (Kd.int .i64) _ _ _ 0 [.int .i64 0] from rfl) (Reps.one (show Kd.M (Kd.int .i64) _ _ _ 1 [.int .i64 1] from rfl) (Reps.one (show Kd.M (Kd.int .i64) _ _ _ 2 [.int .i64 2] from rfl) (Reps.one (show Kd.M (Kd.int .i64) _ _ _ 3 [.int .i64 3] from rfl) (Reps.one (show Kd.M (Kd.int .i64) _ _ _ 5 [.int .i64 5] from rfl) (Reps.one (show Kd.M (Kd.int .i64) _ _ _ sb [.int .i64 sb] from rfl) (Reps.none _ _)))))))); intro v233 pw ho17 hb hg_ hnew_; clear hg_ hnew_; (first | rw [← xR.out] at ho17 | (simp only [Int.reduceToNat] at ho17; rw [← xR.out] at ho17)); refine k6_ (Kd.R_elder' (Z1 cv) (Kd.R_base ho17) hb) (Kd.R_lower (Kd.R_new' ho17 (Yd_ cv)) (keep_size (w := w) (g := g) (row := none) (Z39))) (IsS45.below (Z24) hb) (Ye_ bU) (KeepBut.trans (Z39) (KeepBut.of_below hb g none) (.inl rfl)) (below_step (Z41) hb) ?_; clear cv HI0 bU HK HB; intro cv eU HI0 bU HK HB; clear hb ho17; obtain ⟨vS, vT, qw⟩ := Kd.R_slice eU.out; subst qw) | ((with_reducible refine gate_callee (f := 42) rfl ?_); refine gl_ 15 Tryz.func42 #[.pointer (some ⟨g, 0, none⟩), .slice vS zJ.length vT] ?_; (with_reducible refine (spec_l1Cur_among.calls g s0_0 uI uJ _ _ zJ uK sc sd w0 _ ?_ ?_ ?_ ?_ ?_ A6.out).mono ?_); exact Z24; exact Z41; exact (Z5 eU); exact (Kd.R_reads' eU.out).2.1; exact far_slice (IsS45.own_ne HI0.out eU.out (by decide)); rintro e DI ⟨rfl, hi, hb, hk⟩; refine ⟨_, rfl, ?_⟩; refine k6_ (KeepBut.blk hk (g' := fP) (o := .cells #[.int .i64 0, .int .i64 0, .int .i64 0] 76 (0, 0)) (Z6 bU) fG.out (by simp)) (Kd.R_mono (Kd.R_keep (IsS45.apart (show IsS45 w0 _ g s0_0 uI uJ from Z24) (Z1 cv) (by decide)) hk (fun _ h => h.2)) (fun _ h => h.1)) (Kd.R_mono (Kd.R_keep (IsS45.apart (show IsS45 w0 _ g s0_0 uI uJ from Z24) (Z1 eU) (by decide)) hk (fun _ h => h.2)) (fun _ h => h.1)) (KeepBut.trans (Z39) hk (.inl rfl)) (hb) (hi) ?_; clear bU cv eU HK HB HI0; intro bU cv eU HK HB HI0; (try clear hb hk hi)) | ((with_reducible refine gate_dst (N := 19) rfl ?_); refine Kd.R_lit (Kd.int .i64) _ 3 ?hg (N := 19) ?hd (xs := ([1, 2, 3, 4, 10] : List Int)) (inner := [.int .i64 1, .int .i64 2, .int .i64 3, .int .i64 4, .int .i64 10]) (ok := fun _ => True) (okp := fun _ => True) ?hr ?hp (fun _ hk => hk) trivial (Below.refl _ _) (Nat.le_refl _) (by simp) ?_; (case hd => rfl); (case hg => rfl); (case hr => exact Z29); (case hp => exact (Reps.one (show Kd.M (Kd.int .i64) _ _ _ 1 [.int .i64 1] from rfl) (Reps.one (show Kd.M (Kd.int .i64) _ _ _ 2 [.int .i64 2] from rfl) (Reps.one (show Kd.M (Kd.int .i64) _ _ _ 3 [.int .i64 3] from rfl) (Reps.one (show Kd.M (Kd.int .i64) _ _ _ 4 [.int .i64 4] from rfl) (Reps.one (show Kd.M (Kd.int .i64) _ _ _ 10 [.int .i64 10] from rfl) (Reps.none _ _))))))); intro v239 D8 ho21 hb hg_ hnew_; clear hg_ hnew_; (first | rw [← xS.out] at ho21 | (simp only [Int.reduceToNat] at ho21; rw [← xS.out] at ho21)); refine k7_ (Kd.R_elder' (Z1 cv) (Kd.R_base ho21) hb) (Kd.R_elder' (Z1 eU) (Kd.R_base ho21) hb) (Kd.R_lower (Kd.R_new' (Kd.R_new' ho21 (Yd_ cv)) (Yd_ eU)) (keep_size (w := w) (g := g) (row := none) (Z39))) (IsS45.below (Z24) hb) (Ye_ bU) (KeepBut.trans (Z39) (KeepBut.of_below hb g none) (.inl rfl)) (below_step (Z41) hb) ?_; clear cv eU HI0 bU HK HB; intro cv eU j6 HI0 bU HK HB; clear hb ho21; obtain ⟨Ao22, ap, bA⟩ := Kd.R_slice j6.out; subst bA) | ((with_reducible refine gate_callee (f := 42) rfl ?_); refine gl_ 20 Tryz.func42 #[.pointer (some ⟨g, 0, none⟩), .slice Ao22 zK.length ap] ?_; (with_reducible refine (spec_l1Cur_among.calls g s0_0 sc sd _ _ zK Cc t242 t243 w0 _ ?_ ?_ ?_ ?_ ?_ A7.out).mono ?_); exact Z24; exact Z41; exact (Z5 j6); exact (Kd.R_reads' j6.out).2.1; exact far_slice (IsS45.own_ne HI0.out j6.out (by decide)); rintro e AC ⟨rfl, hi, hb, hk⟩; refine ⟨_, rfl, ?_⟩; refine k7_ (KeepBut.blk hk (g' := fP) (o := .cells #[.int .i64 0, .int .i64 0, .int .i64 0] 76 (0, 0)) (Z6 bU) fG.out (by simp)) (Kd.R_mono (Kd.R_keep (IsS45.apart (show IsS45 w0 _ g s0_0 sc sd from Z24) (Z1 cv) (by decide)) hk (fun _ h => h.2)) (fun _ h => h.1)) (Kd.R_mono (Kd.R_keep (IsS45.apart (show IsS45 w0 _ g s0_0 sc sd from Z24) (Z1 eU) (by decide)) hk (fun _ h => h.2)) (fun _ h => h.1)) (Kd.R_mono (Kd.R_keep (IsS45.apart (show IsS45 w0 _ g s0_0 sc sd from Z24) (Z1 j6) (by decide)) hk (fun _ h => h.2)) (fun _ h => h.1)) (KeepBut.trans (Z39) hk (.inl rfl)) (hb) (hi) ?_; clear bU cv eU j6 HK HB HI0; intro bU cv eU j6 HK HB HI0; (try clear hb hk hi); have hnb24 := fG.out; have hnc24 := qK.out; obtain ⟨qU, qV, hcz25_2, qW, qX, hfz25_2⟩ := bx3_ (w := AC) bU.out))
 refine bodyPost_ret (results_cell_row rfl _ _ fP 76 #[.int .i64 uK, .int .i64 oY, .int .i64 (wrap64 (oY + Cc))] (0, 0) _ rfl (by (with_reducible repeat (first | refine blk_drewN ?_ _ | refine blk_drew ?_ | refine blk_alloc ?_ _)); refine blk_put (cs := #[.int .i64 uK, .int .i64 oY, .int .i64 0]) ?_ 2 _ rfl; (with_reducible repeat (first | refine blk_drewN ?_ _ | refine blk_drew ?_ | refine blk_alloc ?_ _)); refine blk_put (cs := #[.int .i64 uK, .int .i64 0, .int .i64 0]) ?_ 1 _ rfl; (with_reducible repeat (first | refine blk_drewN ?_ _ | refine blk_drew ?_ | refine blk_alloc ?_ _)); refine blk_put (cs := #[.int .i64 0, .int .i64 0, .int .i64 0]) ?_ 0 _ rfl; (with_reducible repeat (first | refine blk_drewN ?_ _ | refine blk_drew ?_ | refine blk_alloc ?_ _)); exact bU.out) Tryz.underlying76 rfl (by kernel_rfl)) rfl ?_
 exact ⟨Z12, Z24, Z41, Z39⟩

/-! ### spec_l1Cur_sheet: function 57 -/
mutual
def spec_l1Cur_sheet.l0 : Nat → List (S76) → List Int → Int → Int → Option ((List (S76)) × Int × Int)
 | 0, _, _, _, _ => none
 | k + 1, x3, bm, bH, bI => if (x3.length : Int) < 60 then ((spec_l1Cur_pick.f bm bH bI 5).bind fun uL => (if x3.length < 5864062014805 then (spec_l1Cur_sheet.l0 k (x3 ++ [(⟨3 * ((x3.length : Int) % 5), wrap64 (6 * (wrap64 ((x3.length : Int) / 5))), wrap64 ((wrap64 ((wrap64 (6 * (wrap64 ((x3.length : Int) / 5)))) + 1)) + uL.1)⟩ : S76)]) bm uL.2.1 uL.2.2) else (none))) else (some (x3, bH, bI))
def spec_l1Cur_sheet.l1 : Nat → List (S76) → Int → Int → List Int → Int → Int → Option ((List (S76)) × Int × Int)
 | 0, _, _, _, _, _, _ => none
 | k + 1, x3, x5, x6, bm, bH, bI => if (x3.length : Int) < x5 then (spec_l1Cur_sheet.j2 k x3 x5 x6 (decide (x6 < 60)) bm bH bI) else (spec_l1Cur_sheet.j2 k x3 x5 x6 false bm bH bI)
def spec_l1Cur_sheet.j2 : Nat → List (S76) → Int → Int → Bool → List Int → Int → Int → Option ((List (S76)) × Int × Int)
 | 0, _, _, _, _, _, _, _ => none
 | k + 1, x3, x5, x6, x42, bm, bH, bI => if x42 = true then ((spec_l1Cur_hole.f bm bH bI).bind fun j8 => ((spec_shWith.f k x3 j8.1 j8.2.1 j8.2.2.1).bind fun xT => (if xT.2 = true then (spec_l1Cur_sheet.l1 k xT.1 x5 (wrap64 (x6 + 1)) bm j8.2.2.2.1 j8.2.2.2.2) else (spec_l1Cur_sheet.l1 k x3 x5 (wrap64 (x6 + 1)) bm j8.2.2.2.1 j8.2.2.2.2)))) else (some (x3, bH, bI))
end
def spec_l1Cur_sheet.f (k : Nat) (s0_0 : List Int) (s0_1 : Int) (s0_2 : Int) : Option ((List (S76)) × Int × Int) := (spec_l1Cur_one.f s0_0 s0_1 s0_2 24).bind fun gb => (if gb.1 = true then (spec_l1Cur_sheet.l0 k ([] : List (S76)) s0_0 gb.2.1 gb.2.2) else ((spec_l1Cur_pick.f s0_0 gb.2.1 gb.2.2 9).bind fun j9 => (spec_l1Cur_sheet.l1 k ([] : List (S76)) j9.1 0 s0_0 j9.2.1 j9.2.2)))
theorem spec_l1Cur_sheet.mono_l : ∀ k, (∀ y0 y1 y2 y3, LeO (spec_l1Cur_sheet.l0 k y0 y1 y2 y3) (spec_l1Cur_sheet.l0 (k + 1) y0 y1 y2 y3)) ∧ (∀ y0 y1 y2 y3 y4 y5, LeO (spec_l1Cur_sheet.l1 k y0 y1 y2 y3 y4 y5) (spec_l1Cur_sheet.l1 (k + 1) y0 y1 y2 y3 y4 y5)) ∧ (∀ y0 y1 y2 y3 y4 y5 y6, LeO (spec_l1Cur_sheet.j2 k y0 y1 y2 y3 y4 y5 y6) (spec_l1Cur_sheet.j2 (k + 1) y0 y1 y2 y3 y4 y5 y6))
 | 0 => ⟨fun _ _ _ _ r h => by simp [spec_l1Cur_sheet.l0] at h, fun _ _ _ _ _ _ r h => by simp [spec_l1Cur_sheet.l1] at h, fun _ _ _ _ _ _ _ r h => by simp [spec_l1Cur_sheet.j2] at h⟩
 | k + 1 => by
  obtain ⟨ih0, ih1, ih2⟩ := spec_l1Cur_sheet.mono_l k
  refine ⟨?_, ?_, ?_⟩
  ·intro y0 y1 y2 y3
   unfold spec_l1Cur_sheet.l0
   exact mo5_
  ·intro y0 y1 y2 y3 y4 y5
   unfold spec_l1Cur_sheet.l1
   exact mo5_
  intro y0 y1 y2 y3 y4 y5 y6
  unfold spec_l1Cur_sheet.j2
  exact mo5_
theorem spec_l1Cur_sheet.mono : ∀ a0 a1 a2 k, LeO (spec_l1Cur_sheet.f k a0 a1 a2) (spec_l1Cur_sheet.f (k + 1) a0 a1 a2) := by
 intro a0 a1 a2 k
 obtain ⟨ih0, ih1, ih2⟩ := spec_l1Cur_sheet.mono_l k
 unfold spec_l1Cur_sheet.f
 exact mo5_
set_option maxHeartbeats 8000000 in
set_option maxRecDepth 100000 in
theorem spec_l1Cur_sheet.calls (k : Nat) (g : Nat) (s0_0 : List Int) (s0_1 : Int) (s0_2 : Int) (r1 : List (S76)) (r2 : Int) (r3 : Int) (w0 w : World) (hI : IsS45 w0 w g s0_0 s0_1 s0_2) (hB : Below w0.heap.size w0 w) (h : spec_l1Cur_sheet.f k s0_0 s0_1 s0_2 = some (r1, r2, r3)) :
  Calls Tryz.prog 57 #[.pointer (some ⟨g, 0, none⟩)] w fun e w' => ∃ v0_ : Value, e = .returned (v0_) ∧ Kd.R k76 76 w' w.heap.size (fun _ => True) v0_ r1 ∧ IsS45 w0 w' g s0_0 r2 r3 ∧ Below w0.heap.size w0 w' ∧ KeepBut w w' g none := by
 have hu76 := Tryz.underlying76
 have HI0 := Aside0.mk hI
 have HK := Aside0.mk (KeepBut.refl w g none)
 have HL := Aside0.mk hB.size
 clear hI
 have HW0 := Aside0.mk hB.size
 have HB := Aside0.mk hB
 clear hB
 have H : ((spec_l1Cur_one.f s0_0 s0_1 s0_2 24).bind fun gb => (if gb.1 = true then (spec_l1Cur_sheet.l0 k ([] : List (S76)) s0_0 gb.2.1 gb.2.2) else ((spec_l1Cur_pick.f s0_0 gb.2.1 gb.2.2 9).bind fun j9 => (spec_l1Cur_sheet.l1 k ([] : List (S76)) j9.1 0 s0_0 j9.2.1 j9.2.2)))) = some (r1, r2, r3) := h
 clear h
 replace H := Option.bind_eq_some_iff.mp H
 obtain ⟨⟨t244, we, wg⟩, cK, H⟩ := H
 (try dsimp only at H)
 have A2 := Aside0.mk cK
 clear cK
 by_cases c3 : t244 = true
 ·subst c3
  rw [if_pos rfl] at H
  have H' := Aside0.mk H
  clear H
  go_enter Tryz.func57, Tryz.ntmps57
  go_wp2_with ((with_reducible refine gate_callee (f := 41) rfl ?_); refine gl_ 10 Tryz.func41 #[.pointer (some ⟨g, 0, none⟩), .int .i64 24] ?_; (with_reducible refine (spec_l1Cur_one.calls g s0_0 s0_1 s0_2 24 true we wg w0 _ ?_ ?_ A2.out).mono ?_); exact (Z3 HI0); exact Z8; rintro e w4 ⟨rfl, hi, hb, hk⟩; refine ⟨_, rfl, ?_⟩; refine k3_ (KeepBut.trans (Z7) hk (.inl rfl)) (hb) (hi) ?_; clear HK HB HI0; intro HK HB HI0; (try clear hb hk hi))
  (try simp only [Act.put, List.setIfInBounds_toArray, List.set_cons_zero, List.set_cons_succ])
  go_loopg [3] k (fun kq v3 w' => ∃ (az : List (S76)) (bb : Int) (bc : Int), Aside0 (spec_l1Cur_sheet.l0 kq az s0_0 bb bc = some (r1, r2, r3)) ∧ Aside0 (kq ≤ k) ∧ Aside0 (Kd.R k76 76 w' w.heap.size (fun _ => True) v3 az) ∧ Aside0 (IsS45 w0 w' g s0_0 bb bc) ∧ Aside0 (KeepBut w w' g none) ∧ Aside0 (Below w0.heap.size w0 w'))
  case atStart => exact ⟨(([] : List (S76))), (we), (wg), H', ⟨Nat.le_refl _⟩, ⟨Z37⟩, ⟨Z3 HI0⟩, ⟨Z7⟩, ⟨Z8⟩⟩
  case round =>
   clear H'
   (try clear p2); (try clear c3); (try clear c4)
   obtain ⟨az, bb, bc, HA, HK1, am, HI0, HK, HB⟩ := hrel
   cases gk with
   | zero => exact absurd HA.out (by simp [spec_l1Cur_sheet.l0])
   | succ k1 =>
    have H := HA.out
    clear HA
    simp only [spec_l1Cur_sheet.l0] at H
    by_cases c5 : (az.length : Int) < 60
    ·rw [if_pos c5] at H
     have fX : decide ((az.length : Int) < 60) = true := decide_eq_true c5
     have pS : decide (az.length < 60) = true := decide_eq_true (by omega)
     clear c5
     replace H := Option.bind_eq_some_iff.mp H
     obtain ⟨⟨uM, zL, zM⟩, fV, H⟩ := H
     (try dsimp only at H)
     have A6 := Aside0.mk fV
     clear fV
     by_cases c7 : az.length < 5864062014805
     ·rw [if_pos c7] at H
      have LMc7 := Aside0.mk c7
      clear c7
      obtain ⟨Cd, o1⟩ : ∃ y_ : List (S76), y_ = (az ++ [(⟨3 * ((az.length : Int) % 5), wrap64 (6 * (wrap64 ((az.length : Int) / 5))), wrap64 ((wrap64 ((wrap64 (6 * (wrap64 ((az.length : Int) / 5)))) + 1)) + uM)⟩ : S76)]) := ⟨_, rfl⟩
      replace H : (spec_l1Cur_sheet.l0 k1 Cd s0_0 zL zM) = some (r1, r2, r3) := by first | (rw [o1]; with_reducible exact H) | (have H2_ := (Option.bind_some _ _).symm.trans H; rw [o1]; with_reducible exact H2_) | (have H2_ := (Option.bind_some _ _).symm.trans H; with_reducible exact H2_) | with_reducible exact H | (rw [o1]; exact H) | exact H
      have Ny250 := Aside0.mk o1
      clear o1
      have H' := Aside0.mk H
      clear H
      obtain ⟨Ao8, co8, eo8⟩ := Kd.R_slice am.out
      subst eo8
      go_wp2_with (first | ((with_reducible refine gate_callee (f := 22) rfl ?_); refine gl_ 27 Tryz.func22 #[.pointer (some ⟨g, 0, none⟩), .int .i64 5] ?_; (with_reducible refine (spec_l1Cur_pick.calls g s0_0 bb bc 5 uM zL zM w0 _ ?_ ?_ A6.out).mono ?_); exact (Z3 HI0); exact Z8; rintro e w9 ⟨rfl, hi, hb, hk⟩; refine ⟨_, rfl, ?_⟩; refine k4_ (Kd.R_mono (Kd.R_keep (IsS45.apart (show IsS45 w0 _ g s0_0 bb bc from Z3 HI0) (Z1 am) (by decide)) hk (fun _ h => h.2)) (fun _ h => h.1)) (KeepBut.trans (Z7) hk (.inl rfl)) (hb) (hi) ?_; clear am HK HB HI0; intro am HK HB HI0; (try clear hb hk hi)) | ((with_reducible refine gate_builtin (b := .append) (xs := #[.tmp 18, .tmp 30]) rfl ?_); at_builtin; refine Kd.R_append k76 w.heap.size rfl (.tmp 18) (.tmp 30) 58 76 (.agg #[(.int .i64 0), (.int .i64 0), (.int .i64 0)]) 24 rfl Tryz.underlying58 info76 rfl (by decide) (by omega) (.slice Ao8 az.length co8) az (⟨3 * ((az.length : Int) % 5), wrap64 (6 * (wrap64 ((az.length : Int) / 5))), wrap64 ((wrap64 ((wrap64 (6 * (wrap64 ((az.length : Int) / 5)))) + 1)) + uM)⟩ : S76) [.int .i64 (3 * ((az.length : Int) % 5)), .int .i64 (wrap64 (6 * (wrap64 ((az.length : Int) / 5)))), .int .i64 (wrap64 ((wrap64 ((wrap64 (6 * (wrap64 ((az.length : Int) / 5)))) + 1)) + uM))] (fun _ => True) (fun _ => False) rfl rfl ?aP (fun _ hk => hk.elim) ?aF ?aO (Below.refl _ _) ?aS ?aL ?_; (case aP => exact k76_mkM _ _ _ (⟨3 * ((az.length : Int) % 5), wrap64 (6 * (wrap64 ((az.length : Int) / 5))), wrap64 ((wrap64 ((wrap64 (6 * (wrap64 ((az.length : Int) / 5)))) + 1)) + uM)⟩ : S76)); (case aF => exact (fun _ _ => trivial)); (case aO => exact (Z1 am)); (case aS => exact (keep_size (w := w) (g := g) (row := none) (Z7))); (case aL => exact Z76 LMc7); intro v251 ng ho hb hg hat; rw [← Ny250.out] at ho; refine k4_ (IsS45.grown (Z3 HI0) hg (IsS45.own_ne HI0.out am.out (by decide))) (below_weaken (Z8) HL.out hb) (KeepBut.trans (Z7) (KeepBut.of_grown hg g) (Kd.R_base2 am.out)) (ho) ?_; clear HI0 HB HK am; intro HI0 HB HK HO252; clear ho hb hg hat))
      go_roundg k1
      case measure => have := HK1.out; omega
      case rel => exact ⟨(Cd), (zL), (zM), H', ⟨Z76 HK1⟩, ⟨Z1 HO252⟩, ⟨Z3 HI0⟩, ⟨Z7⟩, ⟨Z8⟩⟩
     rw [if_neg c7] at H
     exact absurd H (by simp)
    rw [if_neg c5] at H
    have fX : decide ((az.length : Int) < 60) = false := decide_eq_false c5
    have pS : decide (az.length < 60) = false := decide_eq_false (by omega)
    clear c5
    simp only [Option.some.injEq, Prod.mk.injEq] at H
    obtain ⟨rfl, rfl, rfl⟩ := H
    obtain ⟨Ao11, co11, wh⟩ := Kd.R_slice am.out
    subst wh
    go_wp2
    go_ret
    exact ⟨_, Z12, Z1 am, Z3 HI0, Z8, Z7⟩
 replace c3 := Bool.eq_false_iff.mpr c3
 subst c3
 rw [if_neg (show ¬ (false = true) by decide)] at H
 replace H := Option.bind_eq_some_iff.mp H
 obtain ⟨⟨se, Ce, Cf⟩, nj, H⟩ := H
 (try dsimp only at H)
 have AB := Aside0.mk nj
 clear nj
 have H' := Aside0.mk H
 clear H
 go_enter Tryz.func57, Tryz.ntmps57
 go_wp2_with (first | ((with_reducible refine gate_callee (f := 41) rfl ?_); refine gl_ 10 Tryz.func41 #[.pointer (some ⟨g, 0, none⟩), .int .i64 24] ?_; (with_reducible refine (spec_l1Cur_one.calls g s0_0 s0_1 s0_2 24 false we wg w0 _ ?_ ?_ A2.out).mono ?_); exact (Z3 HI0); exact Z8; rintro e m8 ⟨rfl, hi, hb, hk⟩; refine ⟨_, rfl, ?_⟩; refine k3_ (KeepBut.trans (Z7) hk (.inl rfl)) (hb) (hi) ?_; clear HK HB HI0; intro HK HB HI0; (try clear hb hk hi)) | ((with_reducible refine gate_callee (f := 22) rfl ?_); refine gl_ 34 Tryz.func22 #[.pointer (some ⟨g, 0, none⟩), .int .i64 9] ?_; (with_reducible refine (spec_l1Cur_pick.calls g s0_0 we wg 9 se Ce Cf w0 _ ?_ ?_ AB.out).mono ?_); exact (Z3 HI0); exact Z8; rintro e vE ⟨rfl, hi, hb, hk⟩; refine ⟨_, rfl, ?_⟩; refine k3_ (KeepBut.trans (Z7) hk (.inl rfl)) (hb) (hi) ?_; clear HK HB HI0; intro HK HB HI0; (try clear hb hk hi)))
 (try simp only [Act.put, List.setIfInBounds_toArray, List.set_cons_zero, List.set_cons_succ])
 go_loopg [3, 6] k (fun kq v3 v6 w' => ∃ (az : List (S76)) (aQ : Int) (bb : Int) (bc : Int), v6 = .int .i64 aQ ∧ Aside0 (spec_l1Cur_sheet.l1 kq az se aQ s0_0 bb bc = some (r1, r2, r3)) ∧ Aside0 (kq ≤ k) ∧ Aside0 (Kd.R k76 76 w' w.heap.size (fun _ => True) v3 az) ∧ Aside0 (IsS45 w0 w' g s0_0 bb bc) ∧ Aside0 (KeepBut w w' g none) ∧ Aside0 (Below w0.heap.size w0 w'))
 case atStart => exact ⟨(([] : List (S76))), (0), (Ce), (Cf), (Z16), H', ⟨Nat.le_refl _⟩, ⟨Z37⟩, ⟨Z3 HI0⟩, ⟨Z7⟩, ⟨Z8⟩⟩
 case round =>
  clear H'
  (try clear c2); (try clear p2); (try clear c3); (try clear c4); (try clear c5); (try clear fX); (try clear pS); (try clear p6); (try clear c7)
  obtain ⟨az, aQ, bb, bc, rfl, HA, HK1, am, HI0, HK, HB⟩ := hrel
  cases gk with
  | zero => exact absurd HA.out (by simp [spec_l1Cur_sheet.l1])
  | succ k1 =>
   have H := HA.out
   clear HA
   simp only [spec_l1Cur_sheet.l1] at H
   have HC15 := Aside0.mk H
   clear H
   go_upto_region 9 with (fail)
   go_cut [42] (fun Dz wc => ∃ (kq : Nat) (mP : Bool), Dz = .bool mP ∧ Aside0 (spec_l1Cur_sheet.j2 kq az se aQ mP s0_0 bb bc = some (r1, r2, r3)) ∧ Aside0 (kq ≤ k1) ∧ Aside0 (Kd.R k76 76 wc w.heap.size (fun _ => True) u3 az) ∧ Aside0 (IsS45 w0 wc g s0_0 bb bc) ∧ Aside0 (KeepBut w wc g none) ∧ Aside0 (Below w0.heap.size w0 wc))
   case first =>
    have H := HC15.out
    clear HC15
    by_cases c16 : (az.length : Int) < se
    ·rw [if_pos c16] at H
     have ej : decide ((az.length : Int) < se) = true := decide_eq_true c16
     clear c16
     (first | rw [ej] | (simp only [i64_w, i32_w]; rw [ej]) | skip)
     have H' := Aside0.mk H
     clear H
     obtain ⟨Ao17, co17, eo17⟩ := Kd.R_slice am.out
     subst eo17
     go_wp2
     go_meet
     case rel => exact ⟨_, (decide (aQ < 60)), (Z16), H', ⟨Z96 HK1⟩, ⟨Z1 am⟩, ⟨Z3 HI0⟩, ⟨Z7⟩, ⟨Z8⟩⟩
    rw [if_neg c16] at H
    have ej : decide ((az.length : Int) < se) = false := decide_eq_false c16
    clear c16
    (first | rw [ej] | (simp only [i64_w, i32_w]; rw [ej]) | skip)
    have H' := Aside0.mk H
    clear H
    obtain ⟨vS, vT, qw⟩ := Kd.R_slice am.out
    subst qw
    go_wp2
    go_meet
    case rel => exact ⟨_, (false), (Z16), H', ⟨Z96 HK1⟩, ⟨Z1 am⟩, ⟨Z3 HI0⟩, ⟨Z7⟩, ⟨Z8⟩⟩
   case rest =>
    clear HC15
    (try clear c1); (try clear c16); (try clear ej)
    obtain ⟨kq, mP, rfl, HA, gy, am, HI0, HK, HB⟩ := hcut
    cases kq with
    | zero => exact absurd HA.out (by simp [spec_l1Cur_sheet.j2])
    | succ dt =>
     have H := HA.out
     clear HA
     simp only [spec_l1Cur_sheet.j2] at H
     by_cases c19 : mP = true
     ·subst c19
      rw [if_pos rfl] at H
      replace H := Option.bind_eq_some_iff.mp H
      obtain ⟨⟨sf, sg, sh, wi, wj⟩, sJ, H⟩ := H
      (try dsimp only at H)
      have cK := Aside0.mk sJ
      clear sJ
      replace H := Option.bind_eq_some_iff.mp H
      obtain ⟨⟨zN, t264⟩, uN, H⟩ := H
      (try dsimp only at H)
      have Dj := Aside0.mk uN
      clear uN
      by_cases c22 : t264 = true
      ·subst c22
       rw [if_pos rfl] at H
       have H' := Aside0.mk H
       clear H
       go_wp2_with (first | ((with_reducible refine gate_callee (f := 75) rfl ?_); refine gl_ 48 Tryz.func75 #[.pointer (some ⟨g, 0, none⟩)] ?_; (with_reducible refine (spec_l1Cur_hole.calls g s0_0 bb bc sf sg sh wi wj w0 _ ?_ ?_ cK.out).mono ?_); exact (Z3 HI0); exact Z8; rintro e AC ⟨rfl, hi, hb, hk⟩; refine ⟨_, rfl, ?_⟩; refine k4_ (Kd.R_mono (Kd.R_keep (IsS45.apart (show IsS45 w0 _ g s0_0 bb bc from Z3 HI0) (Z1 am) (by decide)) hk (fun _ h => h.2)) (fun _ h => h.1)) (KeepBut.trans (Z7) hk (.inl rfl)) (hb) (hi) ?_; clear am HK HB HI0; intro am HK HB HI0; (try clear hb hk hi); obtain ⟨zO, zP, zQ⟩ := Kd.R_slice am.out; subst zQ) | ((with_reducible refine gate_callee (f := 58) rfl ?_); refine gl_ 49 Tryz.func58 #[.slice zO az.length zP, .agg #[.int .i64 sf, .int .i64 sg, .int .i64 sh]] ?_; (with_reducible refine (spec_shWith.calls dt _ _ az sf sg sh zN true _ ?_ ?_ Dj.out).mono ?_); exact (Z5 am); exact (Kd.R_reads' am.out).2.1; rintro e DL ⟨v262, rfl, ho0, hb⟩; refine ⟨_, rfl, ?_⟩; refine k5_ (Yb_ am) (Kd.R_lower (Kd.R_new' ho0 (Yd_ am)) (keep_size (w := w) (g := g) (row := none) (Z7))) (IsS45.below (Z3 HI0) hb) (KeepBut.trans (Z7) (KeepBut.of_below hb g none) (.inl rfl)) (below_step (Z8) hb) ?_; clear am HI0 HK HB; intro am xU HI0 HK HB; (try clear hb ho0)))
       go_roundg dt
       case measure => have := HK1.out; have := gy.out; omega
       case rel => exact ⟨(zN), (wrap64 (aQ + 1)), (wi), (wj), (Z16), H', ⟨by have := HK1.out; have := gy.out; omega⟩, ⟨Z35 xU⟩, ⟨Z3 HI0⟩, ⟨Z7⟩, ⟨Z8⟩⟩
      replace c22 := Bool.eq_false_iff.mpr c22
      subst c22
      rw [if_neg (show ¬ (false = true) by decide)] at H
      have H' := Aside0.mk H
      clear H
      go_wp2_with (first | ((with_reducible refine gate_callee (f := 75) rfl ?_); refine gl_ 48 Tryz.func75 #[.pointer (some ⟨g, 0, none⟩)] ?_; (with_reducible refine (spec_l1Cur_hole.calls g s0_0 bb bc sf sg sh wi wj w0 _ ?_ ?_ cK.out).mono ?_); exact (Z3 HI0); exact Z8; rintro e Dd ⟨rfl, hi, hb, hk⟩; refine ⟨_, rfl, ?_⟩; refine k4_ (Kd.R_mono (Kd.R_keep (IsS45.apart (show IsS45 w0 _ g s0_0 bb bc from Z3 HI0) (Z1 am) (by decide)) hk (fun _ h => h.2)) (fun _ h => h.1)) (KeepBut.trans (Z7) hk (.inl rfl)) (hb) (hi) ?_; clear am HK HB HI0; intro am HK HB HI0; (try clear hb hk hi); obtain ⟨Ao27, co27, eo27⟩ := Kd.R_slice am.out; subst eo27) | ((with_reducible refine gate_callee (f := 58) rfl ?_); refine gl_ 49 Tryz.func58 #[.slice Ao27 az.length co27, .agg #[.int .i64 sf, .int .i64 sg, .int .i64 sh]] ?_; (with_reducible refine (spec_shWith.calls dt _ _ az sf sg sh zN false _ ?_ ?_ Dj.out).mono ?_); exact (Z5 am); exact (Kd.R_reads' am.out).2.1; rintro e sv ⟨v262, rfl, ho0, hb⟩; refine ⟨_, rfl, ?_⟩; refine k5_ (Yb_ am) (Kd.R_lower (Kd.R_new' ho0 (Yd_ am)) (keep_size (w := w) (g := g) (row := none) (Z7))) (IsS45.below (Z3 HI0) hb) (KeepBut.trans (Z7) (KeepBut.of_below hb g none) (.inl rfl)) (below_step (Z8) hb) ?_; clear am HI0 HK HB; intro am xU HI0 HK HB; (try clear hb ho0)))
      go_roundg dt
      case measure => have := HK1.out; have := gy.out; omega
      case rel => exact ⟨(az), (wrap64 (aQ + 1)), (wi), (wj), (Z16), H', ⟨by have := HK1.out; have := gy.out; omega⟩, ⟨Z35 am⟩, ⟨Z3 HI0⟩, ⟨Z7⟩, ⟨Z8⟩⟩
     replace c19 := Bool.eq_false_iff.mpr c19
     subst c19
     rw [if_neg (show ¬ (false = true) by decide)] at H
     simp only [Option.some.injEq, Prod.mk.injEq] at H
     obtain ⟨rfl, rfl, rfl⟩ := H
     go_wp2
     go_ret
     exact ⟨_, Z12, Z1 am, Z3 HI0, Z8, Z7⟩

end Go.Proofs.YtmnnmddfmmaohaaGreat.PFnHead
