-- written by a program of this session: the kit's print, with outer functions of the session's own (wip/ext)
import Derived.Test.YtmnnmddfmmaohaaPFnPunchJobsx0
import Derived.Test.YtmnnmddfmmaohaaPFnPunchJobsx2
import Derived.Test.YtmnnmddfmmaohaaPFnPunchJobsx4
import Derived.Test.YtmnnmddfmmaohaaPFnPunchJobsx5
namespace Go.Proofs.Ytmnnmddfmmaohaa.PFnPunchJobs
open Go.RowKit Go.Proofs.YtmnnmddfmmaohaaW.PrintWords Go.Proofs.YtmnnmddfmmaohaaW.PrintLast Go.Proofs.YtmnnmddfmmaohaaW.PrintMore
attribute [local go_sem] max2_int min2_int max_two min_two max_three min_three max_four min_four   -- for this text's walks alone
set_option linter.unusedVariables false
set_option linter.unusedSimpArgs false
theorem mo6_ {p : Prop} (h : p := by repeat' first | (with_reducible first | apply ih0 | apply ih0 | apply ih1 | apply ih1 | apply ih2 | apply ih2 | apply spec_shSorted.mono | apply spec_shSorted.mono | apply spec_shWith.mono | apply spec_shWith.mono | exact LeO.refl _ | exact LeO.none _ | refine LeO.ite ?_ ?_ | refine LeO.bind ?_ (fun _ => ?_)) | exact LeO.none _ | refine LeO.ite ?_ ?_ | refine LeO.bind ?_ (fun _ => ?_)) : p := h

/-! ### spec_shWith: function 105 -/
def spec_shWith.f (k : Nat) (l0 : List (S90)) (a1_0 : Int) (a1_1 : Int) (a1_2 : Int) : Option ((List (S90)) × Bool) := (some (([] : List (S90)) : List (S90))).bind fun n6 => (if n6.length + l0.length < 5864062014805 then ((some (n6 ++ l0 : List (S90))).bind fun jW => ((some (([(⟨a1_0, a1_1, a1_2⟩ : S90)] : List (S90)) : List (S90))).bind fun je => (if jW.length + je.length < 5864062014805 then ((spec_shSorted.f k (jW ++ je)).bind fun gL => (some (gL.1, gL.2))) else (none)))) else (none))
theorem spec_shWith.mono : ∀ a0 a1 a2 a3 k, LeO (spec_shWith.f k a0 a1 a2 a3) (spec_shWith.f (k + 1) a0 a1 a2 a3) := by
 intro a0 a1 a2 a3 k
 unfold spec_shWith.f
 exact mo6_
def spec_shWith.T1 : Bool × List (List Nat × List Nat) := (true, [([], []), ([], []), ([0, 1], [0, 1]), ([], []), ([3], [3]), ([2, 4, 2], [2, 4]), ([5, 5], [5]), ([6], [6]), ([6], [6]), ([7, 6, 0, 1, 2, 3, 4, 5, 6, 7, 8], [7]), ([8, 9, 0, 1, 2, 3, 4, 5, 6, 7, 8, 9], [8])])
def spec_shWith.B1 : List Nat := [0, 0, 3, 0, 8, 31, 63, 127, 127, 511, 1023]
theorem spec_shWith.tab1 : rtab .any (opsOf Try.f105 1) = spec_shWith.T1 := by kernel_rfl
theorem spec_shWith.bits1 : waitsOk spec_shWith.T1.2 spec_shWith.B1 = true := by kernel_rfl
set_option maxHeartbeats 8000000 in
set_option maxRecDepth 100000 in
theorem spec_shWith.calls (k : Nat) (A0 : Option Addr) (c0 : Nat) (l0 : List (S90)) (a1_0 : Int) (a1_1 : Int) (a1_2 : Int) (r1 : List (S90)) (r2 : Bool) (w : World) (hr0 : Kd.C k90 w A0 l0.length l0) (hc0 : l0.length ≤ c0) (h : spec_shWith.f k l0 a1_0 a1_1 a1_2 = some (r1, r2)) :
  Calls Try.prog 105 #[.slice A0 l0.length c0, .agg #[.int .i64 a1_0, .int .i64 a1_1, .int .i64 a1_2]] w fun e w' => ∃ v0_ : Value, e = .returned (.tuple #[v0_, .bool r2]) ∧ Kd.R k90 90 w' w.heap.size (fun _ => True) v0_ r1 ∧ Below w.heap.size w w' := by
 have hu90 := Try.underlying90
 have HR0 := Aside0.mk hr0
 have HC0 := Aside0.mk hc0
 clear hr0 hc0
 have HB := Aside0.mk (Below.refl w.heap.size w)
 have H : ((some (([] : List (S90)) : List (S90))).bind fun n6 => (if n6.length + l0.length < 5864062014805 then ((some (n6 ++ l0 : List (S90))).bind fun jW => ((some (([(⟨a1_0, a1_1, a1_2⟩ : S90)] : List (S90)) : List (S90))).bind fun je => (if jW.length + je.length < 5864062014805 then ((spec_shSorted.f k (jW ++ je)).bind fun gL => (some (gL.1, gL.2))) else (none)))) else (none))) = some (r1, r2) := h
 clear h
 obtain ⟨n6, ud⟩ : ∃ y_ : List (S90), y_ = (([] : List (S90))) := ⟨_, rfl⟩
 replace H : (if n6.length + l0.length < 5864062014805 then ((some (n6 ++ l0 : List (S90))).bind fun jW => ((some (([(⟨a1_0, a1_1, a1_2⟩ : S90)] : List (S90)) : List (S90))).bind fun je => (if jW.length + je.length < 5864062014805 then ((spec_shSorted.f k (jW ++ je)).bind fun gL => (some (gL.1, gL.2))) else (none)))) else (none)) = some (r1, r2) := hx_ ud H
 have xF := Aside0.mk ud
 clear ud
 by_cases c3 : n6.length + l0.length < 5864062014805
 case neg => rw [if_neg c3] at H; exact absurd H (by simp)
 rw [if_pos c3] at H
 have zp := Aside0.mk c3
 clear c3
 obtain ⟨jW, ue⟩ : ∃ y_ : List (S90), y_ = (n6 ++ l0) := ⟨_, rfl⟩
 replace H : ((some (([(⟨a1_0, a1_1, a1_2⟩ : S90)] : List (S90)) : List (S90))).bind fun je => (if jW.length + je.length < 5864062014805 then ((spec_shSorted.f k (jW ++ je)).bind fun gL => (some (gL.1, gL.2))) else (none))) = some (r1, r2) := hx_ ue H
 have BB := Aside0.mk ue
 clear ue
 obtain ⟨je, uf⟩ : ∃ y_ : List (S90), y_ = (([(⟨a1_0, a1_1, a1_2⟩ : S90)] : List (S90))) := ⟨_, rfl⟩
 replace H : (if jW.length + je.length < 5864062014805 then ((spec_shSorted.f k (jW ++ je)).bind fun gL => (some (gL.1, gL.2))) else (none)) = some (r1, r2) := hx_ uf H
 have q7 := Aside0.mk uf
 clear uf
 by_cases c4 : jW.length + je.length < 5864062014805
 case neg => rw [if_neg c4] at H; exact absurd H (by simp)
 rw [if_pos c4] at H
 have LMc4 := Aside0.mk c4
 clear c4
 obtain ⟨Gn, ug⟩ : ∃ y_ : List (S90), y_ = (jW ++ je) := ⟨_, rfl⟩
 replace H : ((spec_shSorted.f k Gn).bind fun gL => (some (gL.1, gL.2))) = some (r1, r2) := hx_ ug H
 have Ny216 := Aside0.mk ug
 clear ug
 obtain ⟨⟨Im, In⟩, A5, H⟩ := bd_ H
 replace H : (some (Im, In)) = some (r1, r2) := H
 simp only [Option.some.injEq, Prod.mk.injEq] at H
 obtain ⟨rfl, rfl⟩ := H
 go_enter Try.func105, Try.ntmps105
 try go_wp2_with ((with_reducible refine gate_dst (N := 3) rfl ?_); refine bv_ 3 90 #[.int .i64 a1_0, .int .i64 a1_1, .int .i64 a1_2] ?_; intro et hg w6 hbox hb; refine k4_ (below_step (Z5) hb) (hbox) ((Z38 : w.heap.size ≤ et)) ((Z38 : w.heap.size ≤ et)) ?_; clear HB; intro HB bI GW206 GE206; clear hb hbox hg)
 refine k2_ (blk_drew bI.out) (below_drew1 HB.out) ?_
 clear bI HB
 intro bI HB
 refine start_ (n := 11) (S := fun w' => w'.cell? ⟨et, 0, none⟩ = some (.int .i64 a1_0) ∧ w'.cell? ⟨et, 1, none⟩ = some (.int .i64 a1_1) ∧ w'.cell? ⟨et, 2, none⟩ = some (.int .i64 a1_2)) (ds := []) (M_ 0 11) (by kernel_rfl) rfl rfl ⟨(blk_cell bI.out 0).trans rfl, (blk_cell bI.out 1).trans rfl, (blk_cell bI.out 2).trans rfl⟩ (fun hHeld => ?_); refine with_tabW spec_shWith.tab1 spec_shWith.bits1 (fun HT_ HW_ => ?_)
 generalize w6.drew = w7 at bI HB hHeld ⊢
 refine pu_ 1 7 (N_ 11 2) ?_
 refine tk3_ 3 9 (N_ 11 10) hHeld ?_
 refine join_ (σ := Value × Value × Value) 6 (M_ 5 6) (fun s_ => [(6, s_.1), (8, s_.2.1), (10, s_.2.2)]) (fun s_ w' => (w'.cell? ⟨et, 0, none⟩ = some (.int .i64 a1_0) ∧ w'.cell? ⟨et, 1, none⟩ = some (.int .i64 a1_1) ∧ w'.cell? ⟨et, 2, none⟩ = some (.int .i64 a1_2)) ∧ (Kd.R k90 90 w' w.heap.size (fun k_ => some k_ ≠ (s_.2.2 : Value).ownBlock ∧ k_ ≠ et) s_.2.1 jW) ∧ (Kd.R k90 90 w' w.heap.size (fun k_ => some k_ ≠ (s_.2.1 : Value).ownBlock ∧ k_ ≠ et) s_.2.2 je) ∧ (w'.heap[et]? = some (.cells #[.int .i64 a1_0, .int .i64 a1_1, .int .i64 a1_2] 90 (0, 0))) ∧ (Below w.heap.size w w')) ?_ ?_
 rotate_left
 ·intro hCont
  refine two_ (i := 0) (j := 4) (Ni := some 6) (Nj := some 10) (N_ 11 11) (N_ 11 26) rfl rfl rfl rfl (two_of HT_.out (by kernel_rfl)) (by decide) (by decide) (fun K hK => ?_) (fun K hK => ?_)
  ·skip
   refine Kd.R_lit_step k90 _ 90 ?hg (N := 6) ?hd (xs := ([] : List (S90))) (inner := []) (ok := fun _ => True) (okp := fun _ => True) ?hr ?hp (fun _ hk => hk) trivial (Below.refl _ _) (Nat.le_refl _) (by simp) ?_; (case hd => rfl); (case hg => rfl); (case hr => exact Z110); (case hp => exact (Reps.none _ _))
   intro uh w8 ho9 hb hg_ hnew_
   clear hg_ hnew_
   (first | rw [← xF.out] at ho9 | (simp only [Int.reduceToNat] at ho9; rw [← xF.out] at ho9))
   have n0_ := Aside0.mk (Kd.R_lower (Kd.R_newB ho9 (g := et) (o := .cells #[.int .i64 a1_0, .int .i64 a1_1, .int .i64 a1_2] 90 (0, 0)) (Z1 bI)) (below_size (Z53)))
   have n1_ := Aside0.mk (Ye_ bI)
   have n2_ := Aside0.mk (below_step (Z53) hb)
   clear bI
   clear HB
   have iI := n0_
   have bI := n1_
   have HB := n2_
   clear n0_ n1_ n2_
   clear hb ho9
   refine hK.out _ _ ⟨(blk_cell bI.out 0).trans rfl, (blk_cell bI.out 1).trans rfl, (blk_cell bI.out 2).trans rfl⟩ (fun hHeld => ?_)
   clear hK K
   refine norm_ (a' := ?_) ?_ ?_
   rotate_left
   ·show Act.put _ (some 6) _ = _
    simp only [Act.put, List.setIfInBounds_toArray, List.set_cons_zero, List.set_cons_succ, i64_w, i32_w]
    rfl
   refine two_ (i := 2) (j := 4) (Ni := some 8) (Nj := some 10) (M_ 4 7) (N_ 11 27) rfl rfl rfl rfl (two_of HT_.out (by kernel_rfl)) (by decide) (by decide) (fun K hK => ?_) (fun K hK => ?_)
   ·skip
    refine Kd.R_append_rows_step k90 (w0 := w) w.heap.size (by rfl) (.tmp 6) (.tmp 7) 42 90 (.agg #[(.int .i64 0), (.int .i64 0), (.int .i64 0)]) 24 rfl Try.underlying42 info90 rfl (by decide) (by omega) uh n6 l0 _ _ _ (fun k_ => k_ ≠ et) (fun _ => False) rfl rfl ?aO ?aR (fun _ _ h => h) (fun _ h => h.elim) ?aF ?aB ?aS ?aL ?_
    (case aR => exact Z15 HR0)
    (case aB => exact Z53)
    (case aF => exact (fun k_ hk => Kd.freshB (g := et) (o := .cells #[.int .i64 a1_0, .int .i64 a1_1, .int .i64 a1_2] 90 (0, 0)) (Z1 bI) k_ hk))
    (case aO => exact (Z185 iI))
    (case aS => exact (below_size (Z53)))
    (case aL => exact Z182 zp)
    intro rV oB ho hb hg hat
    rw [← BB.out] at ho
    have n0_ := Aside0.mk (blk_grown (g := et) (o := .cells #[.int .i64 a1_0, .int .i64 a1_1, .int .i64 a1_2] 90 (0, 0)) (Z1 bI) hg (Kd.R_away iI.out (fun _ hk => hk.2)))
    have n1_ := Aside0.mk (hb)
    have n2_ := Aside0.mk (ho)
    clear bI
    clear HB
    clear iI
    have bI := n0_
    have HB := n1_
    have jf := n2_
    clear n0_ n1_ n2_
    clear ho hb hg hat
    refine hK.out _ _ ⟨(blk_cell bI.out 0).trans rfl, (blk_cell bI.out 1).trans rfl, (blk_cell bI.out 2).trans rfl⟩ (fun hHeld => ?_)
    clear hK K
    refine norm_ (a' := ?_) ?_ ?_
    rotate_left
    ·show Act.put _ (some 8) _ = _
     simp only [Act.put, List.setIfInBounds_toArray, List.set_cons_zero, List.set_cons_succ, i64_w, i32_w]
     rfl
    refine one_ (i := 4) (N := some 10) (M_ 5 6) rfl rfl (one_of HT_.out (by kernel_rfl)) (by decide) (fun K hK => ?_)
    refine Kd.R_lit_step k90 _ 90 ?hg (N := 10) ?hd (xs := ([(⟨a1_0, a1_1, a1_2⟩ : S90)] : List (S90))) (inner := [.int .i64 a1_0, .int .i64 a1_1, .int .i64 a1_2]) (ok := fun _ => True) (okp := fun _ => True) ?hr ?hp (fun _ hk => hk) trivial (Below.refl _ _) (Nat.le_refl _) (by simp) ?_; (case hd => rfl); (case hg => rfl); (case hr => exact Z110); (case hp => exact (Reps.c3 (show Kd.M k90 _ _ _ (⟨a1_0, a1_1, a1_2⟩ : S90) [.int .i64 a1_0, .int .i64 a1_1, .int .i64 a1_2] from (k90_mkM _ _ _ (⟨a1_0, a1_1, a1_2⟩ : S90) )) (Reps.none _ _)))
    intro qG mN ho12 hb hg_ hnew_
    clear hg_ hnew_
    (first | rw [← q7.out] at ho12 | (simp only [Int.reduceToNat] at ho12; rw [← q7.out] at ho12))
    have n0_ := Aside0.mk (Kd.R_elder' (Z2 jf) (Kd.R_base ho12) hb)
    have n1_ := Aside0.mk (Kd.R_lower (Kd.R_newB (Kd.R_new' ho12 (Yd_ jf)) (g := et) (o := .cells #[.int .i64 a1_0, .int .i64 a1_1, .int .i64 a1_2] 90 (0, 0)) (Z1 bI)) (below_size (Z53)))
    have n2_ := Aside0.mk (Ye_ bI)
    have n3_ := Aside0.mk (below_step (Z53) hb)
    clear jf
    clear bI
    clear HB
    have jf := n0_
    have e7 := n1_
    have bI := n2_
    have HB := n3_
    clear n0_ n1_ n2_ n3_
    clear hb ho12
    refine hK.out _ _ ⟨(blk_cell bI.out 0).trans rfl, (blk_cell bI.out 1).trans rfl, (blk_cell bI.out 2).trans rfl⟩ (fun hHeld => ?_)
    clear hK K
    refine norm_ (a' := ?_) ?_ ?_
    rotate_left
    ·show Act.put _ (some 10) _ = _
     simp only [Act.put, List.setIfInBounds_toArray, List.set_cons_zero, List.set_cons_succ, i64_w, i32_w]
     rfl
    exact norm_ (Z158) (hCont (uh, rV, qG) _ ⟨hHeld, (Z210 jf), (Z175 e7), (Z1 bI), (Z53)⟩)
   skip
   refine Kd.R_lit_step k90 _ 90 ?hg (N := 10) ?hd (xs := ([(⟨a1_0, a1_1, a1_2⟩ : S90)] : List (S90))) (inner := [.int .i64 a1_0, .int .i64 a1_1, .int .i64 a1_2]) (ok := fun _ => True) (okp := fun _ => True) ?hr ?hp (fun _ hk => hk) trivial (Below.refl _ _) (Nat.le_refl _) (by simp) ?_; (case hd => rfl); (case hg => rfl); (case hr => exact Z110); (case hp => exact (Reps.c3 (show Kd.M k90 _ _ _ (⟨a1_0, a1_1, a1_2⟩ : S90) [.int .i64 a1_0, .int .i64 a1_1, .int .i64 a1_2] from (k90_mkM _ _ _ (⟨a1_0, a1_1, a1_2⟩ : S90) )) (Reps.none _ _)))
   intro qG oB ho11 hb hg_ hnew_
   clear hg_ hnew_
   (first | rw [← q7.out] at ho11 | (simp only [Int.reduceToNat] at ho11; rw [← q7.out] at ho11))
   have n0_ := Aside0.mk (Kd.R_elder' (Z2 iI) (Kd.R_base ho11) hb)
   have n1_ := Aside0.mk (Kd.R_lower (Kd.R_newB (Kd.R_new' ho11 (Yd_ iI)) (g := et) (o := .cells #[.int .i64 a1_0, .int .i64 a1_1, .int .i64 a1_2] 90 (0, 0)) (Z1 bI)) (below_size (Z53)))
   have n2_ := Aside0.mk (Ye_ bI)
   have n3_ := Aside0.mk (below_step (Z53) hb)
   clear iI
   clear bI
   clear HB
   have iI := n0_
   have e7 := n1_
   have bI := n2_
   have HB := n3_
   clear n0_ n1_ n2_ n3_
   clear hb ho11
   refine hK.out _ _ ⟨(blk_cell bI.out 0).trans rfl, (blk_cell bI.out 1).trans rfl, (blk_cell bI.out 2).trans rfl⟩ (fun hHeld => ?_)
   clear hK K
   refine norm_ (a' := ?_) ?_ ?_
   rotate_left
   ·show Act.put _ (some 10) _ = _
    simp only [Act.put, List.setIfInBounds_toArray, List.set_cons_zero, List.set_cons_succ, i64_w, i32_w]
    rfl
   refine one_ (i := 2) (N := some 8) (M_ 5 6) rfl rfl (one_of HT_.out (by kernel_rfl)) (by decide) (fun K hK => ?_)
   refine Kd.R_append_rows_step k90 (w0 := w) w.heap.size (by rfl) (.tmp 6) (.tmp 7) 42 90 (.agg #[(.int .i64 0), (.int .i64 0), (.int .i64 0)]) 24 rfl Try.underlying42 info90 rfl (by decide) (by omega) uh n6 l0 _ _ _ (fun k_ => some k_ ≠ (qG : Value).ownBlock ∧ k_ ≠ et) (fun _ => False) rfl rfl ?aO ?aR (fun _ _ h => h) (fun _ h => h.elim) ?aF ?aB ?aS ?aL ?_
   (case aR => exact Z15 HR0)
   (case aB => exact Z53)
   (case aF => exact (fun k_ hk => ⟨Kd.fresh' (Yd_ e7) k_ hk, Kd.freshB (g := et) (o := .cells #[.int .i64 a1_0, .int .i64 a1_1, .int .i64 a1_2] 90 (0, 0)) (Z1 bI) k_ hk⟩))
   (case aO => exact (by (with_reducible repeat (first | apply Kd.R_alloc | apply Kd.R_drewN | apply Kd.R_drew)); exact Kd.R_mono iI.out (fun _ hk => ⟨hk.2, hk.1.2⟩)))
   (case aS => exact (below_size (Z53)))
   (case aL => exact Z182 zp)
   intro rV yI ho hb hg hat
   rw [← BB.out] at ho
   have n0_ := Aside0.mk (blk_grown (g := et) (o := .cells #[.int .i64 a1_0, .int .i64 a1_1, .int .i64 a1_2] 90 (0, 0)) (Z1 bI) hg (Kd.R_away iI.out (fun _ hk => hk.1.2)))
   have n1_ := Aside0.mk (Kd.R_after (ok := (fun k_ => k_ ≠ et)) (by (with_reducible repeat (first | apply Kd.R_alloc | apply Kd.R_drewN | apply Kd.R_drew)); exact Kd.R_mono e7.out (fun _ hk => ⟨hk.2, hk.1.2⟩)) hg hat)
   have n2_ := Aside0.mk (hb)
   have n3_ := Aside0.mk (ho)
   clear bI
   clear e7
   clear HB
   clear iI
   have bI := n0_
   have e7 := n1_
   have HB := n2_
   have jf := n3_
   clear n0_ n1_ n2_ n3_
   clear ho hb hg hat
   refine hK.out _ _ ⟨(blk_cell bI.out 0).trans rfl, (blk_cell bI.out 1).trans rfl, (blk_cell bI.out 2).trans rfl⟩ (fun hHeld => ?_)
   clear hK K
   refine norm_ (a' := ?_) ?_ ?_
   rotate_left
   ·show Act.put _ (some 8) _ = _
    simp only [Act.put, List.setIfInBounds_toArray, List.set_cons_zero, List.set_cons_succ, i64_w, i32_w]
    rfl
   exact norm_ (Z158) (hCont (uh, rV, qG) _ ⟨hHeld, (Z2 jf), (Z210 e7), (Z1 bI), (Z53)⟩)
  skip
  refine Kd.R_lit_step k90 _ 90 ?hg (N := 10) ?hd (xs := ([(⟨a1_0, a1_1, a1_2⟩ : S90)] : List (S90))) (inner := [.int .i64 a1_0, .int .i64 a1_1, .int .i64 a1_2]) (ok := fun _ => True) (okp := fun _ => True) ?hr ?hp (fun _ hk => hk) trivial (Below.refl _ _) (Nat.le_refl _) (by simp) ?_; (case hd => rfl); (case hg => rfl); (case hr => exact Z110); (case hp => exact (Reps.c3 (show Kd.M k90 _ _ _ (⟨a1_0, a1_1, a1_2⟩ : S90) [.int .i64 a1_0, .int .i64 a1_1, .int .i64 a1_2] from (k90_mkM _ _ _ (⟨a1_0, a1_1, a1_2⟩ : S90) )) (Reps.none _ _)))
  intro qG w8 ho9 hb hg_ hnew_
  clear hg_ hnew_
  (first | rw [← q7.out] at ho9 | (simp only [Int.reduceToNat] at ho9; rw [← q7.out] at ho9))
  have n0_ := Aside0.mk (Kd.R_lower (Kd.R_newB ho9 (g := et) (o := .cells #[.int .i64 a1_0, .int .i64 a1_1, .int .i64 a1_2] 90 (0, 0)) (Z1 bI)) (below_size (Z53)))
  have n1_ := Aside0.mk (Ye_ bI)
  have n2_ := Aside0.mk (below_step (Z53) hb)
  clear bI
  clear HB
  have e7 := n0_
  have bI := n1_
  have HB := n2_
  clear n0_ n1_ n2_
  clear hb ho9
  refine hK.out _ _ ⟨(blk_cell bI.out 0).trans rfl, (blk_cell bI.out 1).trans rfl, (blk_cell bI.out 2).trans rfl⟩ (fun hHeld => ?_)
  clear hK K
  refine norm_ (a' := ?_) ?_ ?_
  rotate_left
  ·show Act.put _ (some 10) _ = _
   simp only [Act.put, List.setIfInBounds_toArray, List.set_cons_zero, List.set_cons_succ, i64_w, i32_w]
   rfl
  refine one_ (i := 0) (N := some 6) (N_ 11 27) rfl rfl (one_of HT_.out (by kernel_rfl)) (by decide) (fun K hK => ?_)
  refine Kd.R_lit_step k90 _ 90 ?hg (N := 6) ?hd (xs := ([] : List (S90))) (inner := []) (ok := fun _ => True) (okp := fun _ => True) ?hr ?hp (fun _ hk => hk) trivial (Below.refl _ _) (Nat.le_refl _) (by simp) ?_; (case hd => rfl); (case hg => rfl); (case hr => exact Z110); (case hp => exact (Reps.none _ _))
  intro uh oB ho11 hb hg_ hnew_
  clear hg_ hnew_
  (first | rw [← xF.out] at ho11 | (simp only [Int.reduceToNat] at ho11; rw [← xF.out] at ho11))
  have n0_ := Aside0.mk (Kd.R_elder' (Z2 e7) (Kd.R_base ho11) hb)
  have n1_ := Aside0.mk (Kd.R_lower (Kd.R_newB (Kd.R_new' ho11 (Yd_ e7)) (g := et) (o := .cells #[.int .i64 a1_0, .int .i64 a1_1, .int .i64 a1_2] 90 (0, 0)) (Z1 bI)) (below_size (Z53)))
  have n2_ := Aside0.mk (Ye_ bI)
  have n3_ := Aside0.mk (below_step (Z53) hb)
  clear e7
  clear bI
  clear HB
  have e7 := n0_
  have iI := n1_
  have bI := n2_
  have HB := n3_
  clear n0_ n1_ n2_ n3_
  clear hb ho11
  refine hK.out _ _ ⟨(blk_cell bI.out 0).trans rfl, (blk_cell bI.out 1).trans rfl, (blk_cell bI.out 2).trans rfl⟩ (fun hHeld => ?_)
  clear hK K
  refine norm_ (a' := ?_) ?_ ?_
  rotate_left
  ·show Act.put _ (some 6) _ = _
   simp only [Act.put, List.setIfInBounds_toArray, List.set_cons_zero, List.set_cons_succ, i64_w, i32_w]
   rfl
  refine one_ (i := 2) (N := some 8) (M_ 5 6) rfl rfl (one_of HT_.out (by kernel_rfl)) (by decide) (fun K hK => ?_)
  refine Kd.R_append_rows_step k90 (w0 := w) w.heap.size (by rfl) (.tmp 6) (.tmp 7) 42 90 (.agg #[(.int .i64 0), (.int .i64 0), (.int .i64 0)]) 24 rfl Try.underlying42 info90 rfl (by decide) (by omega) uh n6 l0 _ _ _ (fun k_ => some k_ ≠ (qG : Value).ownBlock ∧ k_ ≠ et) (fun _ => False) rfl rfl ?aO ?aR (fun _ _ h => h) (fun _ h => h.elim) ?aF ?aB ?aS ?aL ?_
  (case aR => exact Z15 HR0)
  (case aB => exact Z53)
  (case aF => exact (fun k_ hk => ⟨Kd.fresh' (Yd_ e7) k_ hk, Kd.freshB (g := et) (o := .cells #[.int .i64 a1_0, .int .i64 a1_1, .int .i64 a1_2] 90 (0, 0)) (Z1 bI) k_ hk⟩))
  (case aO => exact (Z175 iI))
  (case aS => exact (below_size (Z53)))
  (case aL => exact Z182 zp)
  intro rV yI ho hb hg hat
  rw [← BB.out] at ho
  have n0_ := Aside0.mk (blk_grown (g := et) (o := .cells #[.int .i64 a1_0, .int .i64 a1_1, .int .i64 a1_2] 90 (0, 0)) (Z1 bI) hg (Kd.R_away iI.out (fun _ hk => hk.2)))
  have n1_ := Aside0.mk (Kd.R_after (ok := (fun k_ => k_ ≠ et)) (Z175 e7) hg hat)
  have n2_ := Aside0.mk (hb)
  have n3_ := Aside0.mk (ho)
  clear bI
  clear e7
  clear HB
  clear iI
  have bI := n0_
  have e7 := n1_
  have HB := n2_
  have jf := n3_
  clear n0_ n1_ n2_ n3_
  clear ho hb hg hat
  refine hK.out _ _ ⟨(blk_cell bI.out 0).trans rfl, (blk_cell bI.out 1).trans rfl, (blk_cell bI.out 2).trans rfl⟩ (fun hHeld => ?_)
  clear hK K
  refine norm_ (a' := ?_) ?_ ?_
  rotate_left
  ·show Act.put _ (some 8) _ = _
   simp only [Act.put, List.setIfInBounds_toArray, List.set_cons_zero, List.set_cons_succ, i64_w, i32_w]
   rfl
  exact norm_ (Z158) (hCont (uh, rV, qG) _ ⟨hHeld, (Z2 jf), (Z210 e7), (Z1 bI), (Z53)⟩)
 rintro ⟨uh, rV, qG⟩ lG ⟨hS_, h0_, h1_, h2_, h3_⟩
 have n0_ : Aside0 (Kd.R k90 90 lG w.heap.size (fun k_ => some k_ ≠ (qG : Value).ownBlock ∧ k_ ≠ et) rV jW) := ⟨h0_⟩
 have n1_ : Aside0 (Kd.R k90 90 lG w.heap.size (fun k_ => some k_ ≠ (rV : Value).ownBlock ∧ k_ ≠ et) qG je) := ⟨h1_⟩
 have n2_ : Aside0 (lG.heap[et]? = some (.cells #[.int .i64 a1_0, .int .i64 a1_1, .int .i64 a1_2] 90 (0, 0))) := ⟨h2_⟩
 have n3_ : Aside0 (Below w.heap.size w lG) := ⟨h3_⟩
 clear bI
 clear HB
 clear h0_ h1_ h2_ h3_
 have jf := n0_
 have e7 := n1_
 have bI := n2_
 have HB := n3_
 clear n0_ n1_ n2_ n3_
 have hHeld : lG.cell? ⟨et, 0, none⟩ = some (.int .i64 a1_0) ∧ lG.cell? ⟨et, 1, none⟩ = some (.int .i64 a1_1) ∧ lG.cell? ⟨et, 2, none⟩ = some (.int .i64 a1_2) := hS_
 obtain ⟨yj, rU, tU⟩ := Kd.R_slice e7.out
 (first | subst tU | (injection tU with f1_ f2_ f3_; have f4_ := f1_.symm; have f5_ := f3_.symm; clear f1_ f2_ f3_; subst f4_; subst f5_))
 refine norm_ (a' := ?_) ?_ ?_
 rotate_left
 ·simp only [putAll, Act.put, List.setIfInBounds_toArray, List.set_cons_zero, List.set_cons_succ]
  rfl
 refine one_ (i := 5) (N := some 11) (M_ 6 5) rfl rfl (one_of HT_.out (by kernel_rfl)) (by decide) (fun K hK => ?_)
 refine Kd.R_append_rows_step k90 (w0 := w) w.heap.size (by rfl) (.tmp 8) (.tmp 10) 42 90 (.agg #[(.int .i64 0), (.int .i64 0), (.int .i64 0)]) 24 rfl Try.underlying42 info90 rfl (by decide) (by omega) rV jW je _ _ _ (fun k_ => some k_ ≠ (.slice yj je.length rU : Value).ownBlock ∧ k_ ≠ et) (fun _ => False) rfl rfl ?aO ?aR (fun _ _ h => h) (fun _ h => h.elim) ?aF ?aB ?aS ?aL ?_
 (case aR => exact Z7 e7)
 (case aB => exact Z53)
 (case aF => exact (fun k_ hk => ⟨Kd.fresh' (Yd_ e7) k_ hk, Kd.freshB (g := et) (o := .cells #[.int .i64 a1_0, .int .i64 a1_1, .int .i64 a1_2] 90 (0, 0)) (Z1 bI) k_ hk⟩))
 (case aO => exact (Z2 jf))
 (case aS => exact (below_size (Z53)))
 (case aL => exact Z182 LMc4)
 intro v217 oC ho hb hg hat
 rw [← Ny216.out] at ho
 have n0_ := Aside0.mk (blk_grown (g := et) (o := .cells #[.int .i64 a1_0, .int .i64 a1_1, .int .i64 a1_2] 90 (0, 0)) (Z1 bI) hg (Kd.R_away jf.out (fun _ hk => hk.2)))
 have n1_ := Aside0.mk (Kd.R_after (ok := (fun k_ => k_ ≠ et)) (Z210 e7) hg hat)
 have n2_ := Aside0.mk (hb)
 have n3_ := Aside0.mk (ho)
 clear bI
 clear e7
 clear HB
 clear jf
 have bI := n0_
 have e7 := n1_
 have HB := n2_
 have qd := n3_
 clear n0_ n1_ n2_ n3_
 clear ho hb hg hat
 obtain ⟨pA, pB, rg⟩ := Kd.R_slice qd.out
 (first | subst rg | (injection rg with f1_ f2_ f3_; have f4_ := f1_.symm; have f5_ := f3_.symm; clear f1_ f2_ f3_; subst f4_; subst f5_))
 refine hK.out _ _ ⟨(blk_cell bI.out 0).trans rfl, (blk_cell bI.out 1).trans rfl, (blk_cell bI.out 2).trans rfl⟩ (fun hHeld => ?_)
 clear hK K
 refine norm_ (a' := ?_) ?_ ?_
 rotate_left
 ·show Act.put _ (some 11) _ = _
  simp only [Act.put, List.setIfInBounds_toArray, List.set_cons_zero, List.set_cons_succ, i64_w, i32_w]
  rfl
 refine one_ (i := 6) (N := some 12) (M_ 7 4) rfl rfl (one_of HT_.out (by kernel_rfl)) (by decide) (fun K hK => ?_)
 refine goes_ Try.func103 (by kernel_rfl) rfl #[.slice pA Gn.length pB] (by rfl) rfl rfl (Z107) ?_
 with_reducible refine (spec_shSorted.calls k _ _ Gn Im In _ ?side1 ?side2 A5.out).mono ?_
 (case side1 => exact Z7 qd)
 (case side2 => exact (Kd.R_reads' qd.out).2.1)
 rintro e ws ⟨v221, rfl, ho0, hb⟩
 refine ⟨_, rfl, ?_⟩
 have n0_ := Aside0.mk (Yb_ e7)
 have n1_ := Aside0.mk (Yb_ qd)
 have n2_ := Aside0.mk (Kd.R_lower (Kd.R_newB (Kd.R_new' (Kd.R_new' ho0 (Yd_ e7)) (Yd_ qd)) (g := et) (o := .cells #[.int .i64 a1_0, .int .i64 a1_1, .int .i64 a1_2] 90 (0, 0)) (Z1 bI)) (below_size (Z53)))
 have n3_ := Aside0.mk (Ye_ bI)
 have n4_ := Aside0.mk (below_step (Z53) hb)
 clear e7
 clear qd
 clear bI
 clear HB
 have e7 := n0_
 have qd := n1_
 have HO222 := n2_
 have bI := n3_
 have HB := n4_
 clear n0_ n1_ n2_ n3_ n4_
 (try clear hb)
 (try clear hb2)
 (try clear hk)
 (try clear hi)
 (try clear ho0)
 refine hK.out _ _ ⟨(blk_cell bI.out 0).trans rfl, (blk_cell bI.out 1).trans rfl, (blk_cell bI.out 2).trans rfl⟩ (fun hHeld => ?_)
 clear hK K
 refine norm_ (a' := ?_) ?_ ?_
 rotate_left
 ·show Act.put _ (some 12) _ = _
  simp only [Act.put, List.setIfInBounds_toArray, List.set_cons_zero, List.set_cons_succ, i64_w, i32_w]
  rfl
 refine pu_ 7 13 (M_ 8 3) ?_
 refine pu_ 8 14 (M_ 9 2) ?_
 refine pu_ 9 4 (M_ 10 1) ?_
 refine pu_ 10 5 (M_ 11 0) ?_
 refine done_ (done_of HT_.out (by kernel_rfl)) ?_
 try go_wp2
 go_ret2
 exact ⟨_, Z11, Z47 HO222, Z53⟩

/-! ### spec_l1Cur_hole: function 112 -/
def spec_l1Cur_hole.f (s0_0 : List Int) (s0_1 : Int) (s0_2 : Int) : Option (Int × Int × Int × Int × Int) := (spec_l1Cur_pick.f s0_0 s0_1 s0_2 40).bind fun qe => ((spec_l1Cur_pick.f s0_0 qe.2.1 qe.2.2 60).bind fun qf => ((spec_l1Cur_among.f s0_0 qf.2.1 qf.2.2 (([0, 2, 5, qe.1, qf.1, 1990] : List Int))).bind fun iJ => ((spec_l1Cur_pick.f s0_0 iJ.2.1 iJ.2.2 20).bind fun ls => ((spec_l1Cur_among.f s0_0 ls.2.1 ls.2.2 (([0, 1, 2, 3, 5, ls.1] : List Int))).bind fun ij => ((spec_l1Cur_among.f s0_0 ij.2.1 ij.2.2 (([1, 2, 3, 4, 10] : List Int))).bind fun gl => (some (ij.1, iJ.1, wrap64 (iJ.1 + gl.1), gl.2.1, gl.2.2)))))))
set_option maxHeartbeats 8000000 in
set_option maxRecDepth 100000 in
theorem spec_l1Cur_hole.calls (g : Nat) (s0_0 : List Int) (s0_1 : Int) (s0_2 : Int) (r1 : Int) (r2 : Int) (r3 : Int) (r4 : Int) (r5 : Int) (w0 w : World) (hI : IsS69 w0 w g s0_0 s0_1 s0_2) (hB : Below w0.heap.size w0 w) (h : spec_l1Cur_hole.f s0_0 s0_1 s0_2 = some (r1, r2, r3, r4, r5)) :
  Calls Try.prog 112 #[.pointer (some ⟨g, 0, none⟩)] w fun e w' => e = .returned (.agg #[.int .i64 r1, .int .i64 r2, .int .i64 r3]) ∧ IsS69 w0 w' g s0_0 r4 r5 ∧ Below w0.heap.size w0 w' ∧ KeepBut w w' g none := by
 have hu90 := Try.underlying90
 have HI0 := Aside0.mk hI
 have HK := Aside0.mk (KeepBut.refl w g none)
 have HL := Aside0.mk hB.size
 clear hI
 have HW0 := Aside0.mk hB.size
 have HB := Aside0.mk hB
 clear hB
 have H : ((spec_l1Cur_pick.f s0_0 s0_1 s0_2 40).bind fun qe => ((spec_l1Cur_pick.f s0_0 qe.2.1 qe.2.2 60).bind fun qf => ((spec_l1Cur_among.f s0_0 qf.2.1 qf.2.2 (([0, 2, 5, qe.1, qf.1, 1990] : List Int))).bind fun iJ => ((spec_l1Cur_pick.f s0_0 iJ.2.1 iJ.2.2 20).bind fun ls => ((spec_l1Cur_among.f s0_0 ls.2.1 ls.2.2 (([0, 1, 2, 3, 5, ls.1] : List Int))).bind fun ij => ((spec_l1Cur_among.f s0_0 ij.2.1 ij.2.2 (([1, 2, 3, 4, 10] : List Int))).bind fun gl => (some (ij.1, iJ.1, wrap64 (iJ.1 + gl.1), gl.2.1, gl.2.2)))))))) = some (r1, r2, r3, r4, r5) := h
 clear h
 obtain ⟨⟨yn, Io, Ip⟩, A2, H⟩ := bd_ H
 (try dsimp only at H)
 obtain ⟨⟨yo, CS, CT⟩, A3, H⟩ := bd_ H
 (try dsimp only at H)
 obtain ⟨Gp, ui⟩ : ∃ y_ : List Int, y_ = (([0, 2, 5, yn, yo, 1990] : List Int)) := ⟨_, rfl⟩
 replace H : ((spec_l1Cur_among.f s0_0 CS CT Gp).bind fun iJ => ((spec_l1Cur_pick.f s0_0 iJ.2.1 iJ.2.2 20).bind fun ls => ((spec_l1Cur_among.f s0_0 ls.2.1 ls.2.2 (([0, 1, 2, 3, 5, ls.1] : List Int))).bind fun ij => ((spec_l1Cur_among.f s0_0 ij.2.1 ij.2.2 (([1, 2, 3, 4, 10] : List Int))).bind fun gl => (some (ij.1, iJ.1, wrap64 (iJ.1 + gl.1), gl.2.1, gl.2.2)))))) = some (r1, r2, r3, r4, r5) := hx_ ui H
 have EV := Aside0.mk ui
 clear ui
 obtain ⟨⟨uj, i5, Gq⟩, A4, H⟩ := bd_ H
 (try dsimp only at H)
 obtain ⟨⟨yp, pE, mC⟩, A5, H⟩ := bd_ H
 (try dsimp only at H)
 obtain ⟨Gr, uk⟩ : ∃ y_ : List Int, y_ = (([0, 1, 2, 3, 5, yp] : List Int)) := ⟨_, rfl⟩
 replace H : ((spec_l1Cur_among.f s0_0 pE mC Gr).bind fun ij => ((spec_l1Cur_among.f s0_0 ij.2.1 ij.2.2 (([1, 2, 3, 4, 10] : List Int))).bind fun gl => (some (ij.1, uj, wrap64 (uj + gl.1), gl.2.1, gl.2.2)))) = some (r1, r2, r3, r4, r5) := hx_ uk H
 have EW := Aside0.mk uk
 clear uk
 obtain ⟨⟨BC, yq, yr⟩, A6, H⟩ := bd_ H
 (try dsimp only at H)
 obtain ⟨Gs, ul⟩ : ∃ y_ : List Int, y_ = (([1, 2, 3, 4, 10] : List Int)) := ⟨_, rfl⟩
 replace H : ((spec_l1Cur_among.f s0_0 yq yr Gs).bind fun gl => (some (BC, uj, wrap64 (uj + gl.1), gl.2.1, gl.2.2))) = some (r1, r2, r3, r4, r5) := hx_ ul H
 have EX := Aside0.mk ul
 clear ul
 obtain ⟨⟨Iq, t249, t250⟩, A7, H⟩ := bd_ H
 (try dsimp only at H)
 simp only [Option.some.injEq, Prod.mk.injEq] at H
 obtain ⟨rfl, rfl, rfl, rfl, rfl⟩ := H
 go_enter Try.func112, Try.ntmps112
 go_wp2_with (first | ((with_reducible refine gate_dst (N := 2) rfl ?_); refine bv_ 2 90 #[.int .i64 0, .int .i64 0, .int .i64 0] ?_; intro jR hg w8 hbox hb; refine k8_ (IsS69.below (Z8 HI0) hb) (KeepBut.trans (Z9) (KeepBut.of_below hb g none) (.inl rfl)) (below_step (Z10) hb) (hbox) ((Z156 : w.heap.size ≤ jR)) ((Nat.le_trans HW0.out (Z156 : w.heap.size ≤ jR) : w0.heap.size ≤ jR)) ((Z195 : g ≠ jR)) ((Z196 : jR ≠ g)) ?_; clear HI0 HK HB; intro HI0 HK HB eZ GW223 GE223 wd jH; clear hb hbox hg) | ((with_reducible refine gate_callee (f := 45) rfl ?_); refine gl_ 6 Try.func45 #[.pointer (some ⟨g, 0, none⟩), .int .i64 40] ?_; (with_reducible refine (spec_l1Cur_pick.calls g s0_0 s0_1 s0_2 40 yn Io Ip w0 _ ?_ ?_ A2.out).mono ?_); exact Z59; exact Z92; rintro e w9 ⟨rfl, hi, hb, hk⟩; refine ⟨_, rfl, ?_⟩; refine k4_ (KeepBut.blk hk (g' := jR) (o := .cells #[.int .i64 0, .int .i64 0, .int .i64 0] 90 (0, 0)) (Z1 eZ) jH.out (by simp)) (KeepBut.trans (Z80) hk (.inl rfl)) (hb) (hi) ?_; clear eZ HK HB HI0; intro eZ HK HB HI0; (try clear hb hk hi)) | ((with_reducible refine gate_callee (f := 45) rfl ?_); refine gl_ 8 Try.func45 #[.pointer (some ⟨g, 0, none⟩), .int .i64 60] ?_; (with_reducible refine (spec_l1Cur_pick.calls g s0_0 Io Ip 60 yo CS CT w0 _ ?_ ?_ A3.out).mono ?_); exact Z59; exact Z92; rintro e oB ⟨rfl, hi, hb, hk⟩; refine ⟨_, rfl, ?_⟩; refine k4_ (KeepBut.blk hk (g' := jR) (o := .cells #[.int .i64 0, .int .i64 0, .int .i64 0] 90 (0, 0)) (Z1 eZ) jH.out (by simp)) (KeepBut.trans (Z80) hk (.inl rfl)) (hb) (hi) ?_; clear eZ HK HB HI0; intro eZ HK HB HI0; (try clear hb hk hi)) | ((with_reducible refine gate_dst (N := 9) rfl ?_); refine Kd.R_lit (Kd.int .i64) _ 3 ?hg (N := 9) ?hd (xs := ([0, 2, 5, yn, yo, 1990] : List Int)) (inner := [.int .i64 0, .int .i64 2, .int .i64 5, .int .i64 yn, .int .i64 yo, .int .i64 1990]) (ok := fun _ => True) (okp := fun _ => True) ?hr ?hp (fun _ hk => hk) trivial (Below.refl _ _) (Nat.le_refl _) (by simp) ?_; (case hd => rfl); (case hg => rfl); (case hr => exact Z110); (case hp => exact (Reps.one (show Kd.M (Kd.int .i64) _ _ _ 0 [.int .i64 0] from rfl) (Reps.one (show Kd.M (Kd.int .i64) _ _ _ 2 [.int .i64 2] from rfl) (Reps.one (show Kd.M (Kd.int .i64) _ _ _ 5 [.int .i64 5] from rfl) (Reps.one (show Kd.M (Kd.int .i64) _ _ _ yn [.int .i64 yn] from rfl) (Reps.one (show Kd.M (Kd.int .i64) _ _ _ yo [.int .i64 yo] from rfl) (Reps.one (show Kd.M (Kd.int .i64) _ _ _ 1990 [.int .i64 1990] from rfl) (Reps.none _ _)))))))); intro v231 mN ho12 hb hg_ hnew_; clear hg_ hnew_; (first | rw [← EV.out] at ho12 | (simp only [Int.reduceToNat] at ho12; rw [← EV.out] at ho12)); refine k5_ (Kd.R_lower ho12 (keep_size (w := w) (g := g) (row := none) (Z80))) (IsS69.below (Z59) hb) (Ye_ eZ) (KeepBut.trans (Z80) (KeepBut.of_below hb g none) (.inl rfl)) (below_step (Z92) hb) ?_; clear HI0 eZ HK HB; intro fG HI0 eZ HK HB; clear hb ho12; obtain ⟨mZ, m0, pp⟩ := Kd.R_slice fG.out; subst pp) | ((with_reducible refine gate_callee (f := 46) rfl ?_); refine gl_ 10 Try.func46 #[.pointer (some ⟨g, 0, none⟩), .slice mZ Gp.length m0] ?_; (with_reducible refine (spec_l1Cur_among.calls g s0_0 CS CT _ _ Gp uj i5 Gq w0 _ ?_ ?_ ?_ ?_ ?_ A4.out).mono ?_); exact Z59; exact Z92; exact (Z7 fG); exact (Kd.R_reads' fG.out).2.1; exact far_slice (IsS69.own_ne HI0.out fG.out (by decide)); rintro e oC ⟨rfl, hi, hb, hk⟩; refine ⟨_, rfl, ?_⟩; refine k5_ (KeepBut.blk hk (g' := jR) (o := .cells #[.int .i64 0, .int .i64 0, .int .i64 0] 90 (0, 0)) (Z1 eZ) jH.out (by simp)) (Kd.R_mono (Kd.R_keep (IsS69.apart (show IsS69 w0 _ g s0_0 CS CT from Z59) (Z2 fG) (by decide)) hk (fun _ h => h.2)) (fun _ h => h.1)) (KeepBut.trans (Z80) hk (.inl rfl)) (hb) (hi) ?_; clear eZ fG HK HB HI0; intro eZ fG HK HB HI0; (try clear hb hk hi)) | ((with_reducible refine gate_callee (f := 45) rfl ?_); refine gl_ 13 Try.func45 #[.pointer (some ⟨g, 0, none⟩), .int .i64 20] ?_; (with_reducible refine (spec_l1Cur_pick.calls g s0_0 i5 Gq 20 yp pE mC w0 _ ?_ ?_ A5.out).mono ?_); exact Z59; exact Z92; rintro e qt ⟨rfl, hi, hb, hk⟩; refine ⟨_, rfl, ?_⟩; refine k5_ (KeepBut.blk hk (g' := jR) (o := .cells #[.int .i64 0, .int .i64 0, .int .i64 0] 90 (0, 0)) (Z1 eZ) jH.out (by simp)) (Kd.R_mono (Kd.R_keep (IsS69.apart (show IsS69 w0 _ g s0_0 i5 Gq from Z59) (Z2 fG) (by decide)) hk (fun _ h => h.2)) (fun _ h => h.1)) (KeepBut.trans (Z80) hk (.inl rfl)) (hb) (hi) ?_; clear eZ fG HK HB HI0; intro eZ fG HK HB HI0; (try clear hb hk hi)) | ((with_reducible refine gate_dst (N := 14) rfl ?_); refine Kd.R_lit (Kd.int .i64) _ 3 ?hg (N := 14) ?hd (xs := ([0, 1, 2, 3, 5, yp] : List Int)) (inner := [.int .i64 0, .int .i64 1, .int .i64 2, .int .i64 3, .int .i64 5, .int .i64 yp]) (ok := fun _ => True) (okp := fun _ => True) ?hr ?hp (fun _ hk => hk) trivial (Below.refl _ _) (Nat.le_refl _) (by simp) ?_; (case hd => rfl); (case hg => rfl); (case hr => exact Z110); (case hp => exact (Reps.one (show Kd.M (Kd.int .i64) _ _ _ 0 [.int .i64 0] from rfl) (Reps.one (show Kd.M (Kd.int .i64) _ _ _ 1 [.int .i64 1] from rfl) (Reps.one (show Kd.M (Kd.int .i64) _ _ _ 2 [.int .i64 2] from rfl) (Reps.one (show Kd.M (Kd.int .i64) _ _ _ 3 [.int .i64 3] from rfl) (Reps.one (show Kd.M (Kd.int .i64) _ _ _ 5 [.int .i64 5] from rfl) (Reps.one (show Kd.M (Kd.int .i64) _ _ _ yp [.int .i64 yp] from rfl) (Reps.none _ _)))))))); intro v240 mT ho17 hb hg_ hnew_; clear hg_ hnew_; (first | rw [← EW.out] at ho17 | (simp only [Int.reduceToNat] at ho17; rw [← EW.out] at ho17)); refine k6_ (Kd.R_elder' (Z2 fG) (Kd.R_base ho17) hb) (Kd.R_lower (Kd.R_new' ho17 (Yd_ fG)) (keep_size (w := w) (g := g) (row := none) (Z80))) (IsS69.below (Z59) hb) (Ye_ eZ) (KeepBut.trans (Z80) (KeepBut.of_below hb g none) (.inl rfl)) (below_step (Z92) hb) ?_; clear fG HI0 eZ HK HB; intro fG iK HI0 eZ HK HB; clear hb ho17; obtain ⟨ru, rv, pV⟩ := Kd.R_slice iK.out; subst pV) | ((with_reducible refine gate_callee (f := 46) rfl ?_); refine gl_ 15 Try.func46 #[.pointer (some ⟨g, 0, none⟩), .slice ru Gr.length rv] ?_; (with_reducible refine (spec_l1Cur_among.calls g s0_0 pE mC _ _ Gr BC yq yr w0 _ ?_ ?_ ?_ ?_ ?_ A6.out).mono ?_); exact Z59; exact Z92; exact (Z7 iK); exact (Kd.R_reads' iK.out).2.1; exact far_slice (IsS69.own_ne HI0.out iK.out (by decide)); rintro e yZ ⟨rfl, hi, hb, hk⟩; refine ⟨_, rfl, ?_⟩; refine k6_ (KeepBut.blk hk (g' := jR) (o := .cells #[.int .i64 0, .int .i64 0, .int .i64 0] 90 (0, 0)) (Z1 eZ) jH.out (by simp)) (Kd.R_mono (Kd.R_keep (IsS69.apart (show IsS69 w0 _ g s0_0 pE mC from Z59) (Z2 fG) (by decide)) hk (fun _ h => h.2)) (fun _ h => h.1)) (Kd.R_mono (Kd.R_keep (IsS69.apart (show IsS69 w0 _ g s0_0 pE mC from Z59) (Z2 iK) (by decide)) hk (fun _ h => h.2)) (fun _ h => h.1)) (KeepBut.trans (Z80) hk (.inl rfl)) (hb) (hi) ?_; clear eZ fG iK HK HB HI0; intro eZ fG iK HK HB HI0; (try clear hb hk hi)) | ((with_reducible refine gate_dst (N := 19) rfl ?_); refine Kd.R_lit (Kd.int .i64) _ 3 ?hg (N := 19) ?hd (xs := ([1, 2, 3, 4, 10] : List Int)) (inner := [.int .i64 1, .int .i64 2, .int .i64 3, .int .i64 4, .int .i64 10]) (ok := fun _ => True) (okp := fun _ => True) ?hr ?hp (fun _ hk => hk) trivial (Below.refl _ _) (Nat.le_refl _) (by simp) ?_; (case hd => rfl); (case hg => rfl); (case hr => exact Z110); (case hp => exact (Reps.one (show Kd.M (Kd.int .i64) _ _ _ 1 [.int .i64 1] from rfl) (Reps.one (show Kd.M (Kd.int .i64) _ _ _ 2 [.int .i64 2] from rfl) (Reps.one (show Kd.M (Kd.int .i64) _ _ _ 3 [.int .i64 3] from rfl) (Reps.one (show Kd.M (Kd.int .i64) _ _ _ 4 [.int .i64 4] from rfl) (Reps.one (show Kd.M (Kd.int .i64) _ _ _ 10 [.int .i64 10] from rfl) (Reps.none _ _))))))); intro v246 ss ho21 hb hg_ hnew_; clear hg_ hnew_; (first | rw [← EX.out] at ho21 | (simp only [Int.reduceToNat] at ho21; rw [← EX.out] at ho21)); refine k7_ (Kd.R_elder' (Z2 fG) (Kd.R_base ho21) hb) (Kd.R_elder' (Z2 iK) (Kd.R_base ho21) hb) (Kd.R_lower (Kd.R_new' (Kd.R_new' ho21 (Yd_ fG)) (Yd_ iK)) (keep_size (w := w) (g := g) (row := none) (Z80))) (IsS69.below (Z59) hb) (Ye_ eZ) (KeepBut.trans (Z80) (KeepBut.of_below hb g none) (.inl rfl)) (below_step (Z92) hb) ?_; clear fG iK HI0 eZ HK HB; intro fG iK qg HI0 eZ HK HB; clear hb ho21; obtain ⟨GQ, zh, xN⟩ := Kd.R_slice qg.out; subst xN) | ((with_reducible refine gate_callee (f := 46) rfl ?_); refine gl_ 20 Try.func46 #[.pointer (some ⟨g, 0, none⟩), .slice GQ Gs.length zh] ?_; (with_reducible refine (spec_l1Cur_among.calls g s0_0 yq yr _ _ Gs Iq t249 t250 w0 _ ?_ ?_ ?_ ?_ ?_ A7.out).mono ?_); exact Z59; exact Z92; exact (Z7 qg); exact (Kd.R_reads' qg.out).2.1; exact far_slice (IsS69.own_ne HI0.out qg.out (by decide)); rintro e st ⟨rfl, hi, hb, hk⟩; refine ⟨_, rfl, ?_⟩; refine k7_ (KeepBut.blk hk (g' := jR) (o := .cells #[.int .i64 0, .int .i64 0, .int .i64 0] 90 (0, 0)) (Z1 eZ) jH.out (by simp)) (Kd.R_mono (Kd.R_keep (IsS69.apart (show IsS69 w0 _ g s0_0 yq yr from Z59) (Z2 fG) (by decide)) hk (fun _ h => h.2)) (fun _ h => h.1)) (Kd.R_mono (Kd.R_keep (IsS69.apart (show IsS69 w0 _ g s0_0 yq yr from Z59) (Z2 iK) (by decide)) hk (fun _ h => h.2)) (fun _ h => h.1)) (Kd.R_mono (Kd.R_keep (IsS69.apart (show IsS69 w0 _ g s0_0 yq yr from Z59) (Z2 qg) (by decide)) hk (fun _ h => h.2)) (fun _ h => h.1)) (KeepBut.trans (Z80) hk (.inl rfl)) (hb) (hi) ?_; clear eZ fG iK qg HK HB HI0; intro eZ fG iK qg HK HB HI0; (try clear hb hk hi); have hnb24 := jH.out; have hnc24 := wd.out; obtain ⟨oX, oY, hcz25_2, oZ, o0, hfz25_2⟩ := bx3_ (w := st) eZ.out))
 refine bodyPost_ret (results_cell_row rfl _ _ jR 90 #[.int .i64 BC, .int .i64 uj, .int .i64 (wrap64 (uj + Iq))] (0, 0) _ rfl (by (with_reducible repeat (first | refine blk_drewN ?_ _ | refine blk_drew ?_ | refine blk_alloc ?_ _)); refine blk_put (cs := #[.int .i64 BC, .int .i64 uj, .int .i64 0]) ?_ 2 _ rfl; (with_reducible repeat (first | refine blk_drewN ?_ _ | refine blk_drew ?_ | refine blk_alloc ?_ _)); refine blk_put (cs := #[.int .i64 BC, .int .i64 0, .int .i64 0]) ?_ 1 _ rfl; (with_reducible repeat (first | refine blk_drewN ?_ _ | refine blk_drew ?_ | refine blk_alloc ?_ _)); refine blk_put (cs := #[.int .i64 0, .int .i64 0, .int .i64 0]) ?_ 0 _ rfl; (with_reducible repeat (first | refine blk_drewN ?_ _ | refine blk_drew ?_ | refine blk_alloc ?_ _)); exact eZ.out) Try.underlying90 rfl (by kernel_rfl)) rfl ?_
 exact ⟨Z11, Z59, Z92, Z80⟩

/-! ### spec_l1Cur_sheet: function 87 -/
mutual
def spec_l1Cur_sheet.l0 : Nat → List (S90) → List Int → Int → Int → Option ((List (S90)) × Int × Int)
 | 0, _, _, _, _ => none
 | k + 1, x3, eR, fH, fI => if (x3.length : Int) < 60 then ((spec_l1Cur_pick.f eR fH fI 5).bind fun BD => (if x3.length < 5864062014805 then (spec_l1Cur_sheet.l0 k (x3 ++ [(⟨3 * ((x3.length : Int) % 5), wrap64 (6 * (wrap64 ((x3.length : Int) / 5))), wrap64 ((wrap64 ((wrap64 (6 * (wrap64 ((x3.length : Int) / 5)))) + 1)) + BD.1)⟩ : S90)]) eR BD.2.1 BD.2.2) else (none))) else (some (x3, fH, fI))
def spec_l1Cur_sheet.l1 : Nat → List (S90) → Int → Int → List Int → Int → Int → Option ((List (S90)) × Int × Int)
 | 0, _, _, _, _, _, _ => none
 | k + 1, x3, x5, x6, eR, fH, fI => if (x3.length : Int) < x5 then (spec_l1Cur_sheet.j2 k x3 x5 x6 (decide (x6 < 60)) eR fH fI) else (spec_l1Cur_sheet.j2 k x3 x5 x6 false eR fH fI)
def spec_l1Cur_sheet.j2 : Nat → List (S90) → Int → Int → Bool → List Int → Int → Int → Option ((List (S90)) × Int × Int)
 | 0, _, _, _, _, _, _, _ => none
 | k + 1, x3, x5, x6, x42, eR, fH, fI => if x42 = true then ((spec_l1Cur_hole.f eR fH fI).bind fun qh => ((spec_shWith.f k x3 qh.1 qh.2.1 qh.2.2.1).bind fun EY => (if EY.2 = true then (spec_l1Cur_sheet.l1 k EY.1 x5 (wrap64 (x6 + 1)) eR qh.2.2.2.1 qh.2.2.2.2) else (spec_l1Cur_sheet.l1 k x3 x5 (wrap64 (x6 + 1)) eR qh.2.2.2.1 qh.2.2.2.2)))) else (some (x3, fH, fI))
end
def spec_l1Cur_sheet.f (k : Nat) (s0_0 : List Int) (s0_1 : Int) (s0_2 : Int) : Option ((List (S90)) × Int × Int) := (spec_l1Cur_one.f s0_0 s0_1 s0_2 24).bind fun lu => (if lu.1 = true then (spec_l1Cur_sheet.l0 k ([] : List (S90)) s0_0 lu.2.1 lu.2.2) else ((spec_l1Cur_pick.f s0_0 lu.2.1 lu.2.2 9).bind fun qi => (spec_l1Cur_sheet.l1 k ([] : List (S90)) qi.1 0 s0_0 qi.2.1 qi.2.2)))
theorem spec_l1Cur_sheet.mono_l : ∀ k, (∀ y0 y1 y2 y3, LeO (spec_l1Cur_sheet.l0 k y0 y1 y2 y3) (spec_l1Cur_sheet.l0 (k + 1) y0 y1 y2 y3)) ∧ (∀ y0 y1 y2 y3 y4 y5, LeO (spec_l1Cur_sheet.l1 k y0 y1 y2 y3 y4 y5) (spec_l1Cur_sheet.l1 (k + 1) y0 y1 y2 y3 y4 y5)) ∧ (∀ y0 y1 y2 y3 y4 y5 y6, LeO (spec_l1Cur_sheet.j2 k y0 y1 y2 y3 y4 y5 y6) (spec_l1Cur_sheet.j2 (k + 1) y0 y1 y2 y3 y4 y5 y6))
 | 0 => ⟨fun _ _ _ _ r h => by simp [spec_l1Cur_sheet.l0] at h, fun _ _ _ _ _ _ r h => by simp [spec_l1Cur_sheet.l1] at h, fun _ _ _ _ _ _ _ r h => by simp [spec_l1Cur_sheet.j2] at h⟩
 | k + 1 => by
  obtain ⟨ih0, ih1, ih2⟩ := spec_l1Cur_sheet.mono_l k
  refine ⟨?_, ?_, ?_⟩
  ·intro y0 y1 y2 y3
   unfold spec_l1Cur_sheet.l0
   exact mo6_
  ·intro y0 y1 y2 y3 y4 y5
   unfold spec_l1Cur_sheet.l1
   exact mo6_
  intro y0 y1 y2 y3 y4 y5 y6
  unfold spec_l1Cur_sheet.j2
  exact mo6_
theorem spec_l1Cur_sheet.mono : ∀ a0 a1 a2 k, LeO (spec_l1Cur_sheet.f k a0 a1 a2) (spec_l1Cur_sheet.f (k + 1) a0 a1 a2) := by
 intro a0 a1 a2 k
 obtain ⟨ih0, ih1, ih2⟩ := spec_l1Cur_sheet.mono_l k
 unfold spec_l1Cur_sheet.f
 exact mo6_
set_option maxHeartbeats 8000000 in
set_option maxRecDepth 100000 in
theorem spec_l1Cur_sheet.calls (k : Nat) (g : Nat) (s0_0 : List Int) (s0_1 : Int) (s0_2 : Int) (r1 : List (S90)) (r2 : Int) (r3 : Int) (w0 w : World) (hI : IsS69 w0 w g s0_0 s0_1 s0_2) (hB : Below w0.heap.size w0 w) (h : spec_l1Cur_sheet.f k s0_0 s0_1 s0_2 = some (r1, r2, r3)) :
  Calls Try.prog 87 #[.pointer (some ⟨g, 0, none⟩)] w fun e w' => ∃ v0_ : Value, e = .returned (v0_) ∧ Kd.R k90 90 w' w.heap.size (fun _ => True) v0_ r1 ∧ IsS69 w0 w' g s0_0 r2 r3 ∧ Below w0.heap.size w0 w' ∧ KeepBut w w' g none := by
 have hu90 := Try.underlying90
 have HI0 := Aside0.mk hI
 have HK := Aside0.mk (KeepBut.refl w g none)
 have HL := Aside0.mk hB.size
 clear hI
 have HW0 := Aside0.mk hB.size
 have HB := Aside0.mk hB
 clear hB
 have H : ((spec_l1Cur_one.f s0_0 s0_1 s0_2 24).bind fun lu => (if lu.1 = true then (spec_l1Cur_sheet.l0 k ([] : List (S90)) s0_0 lu.2.1 lu.2.2) else ((spec_l1Cur_pick.f s0_0 lu.2.1 lu.2.2 9).bind fun qi => (spec_l1Cur_sheet.l1 k ([] : List (S90)) qi.1 0 s0_0 qi.2.1 qi.2.2)))) = some (r1, r2, r3) := h
 clear h
 obtain ⟨⟨t251, CU, CV⟩, A2, H⟩ := bd_ H
 (try dsimp only at H)
 by_cases c3 : t251 = true
 ·subst c3
  rw [if_pos rfl] at H
  have H' := Aside0.mk H
  clear H
  go_enter Try.func87, Try.ntmps87
  go_wp2_with ((with_reducible refine gate_callee (f := 79) rfl ?_); refine gl_ 10 Try.func79 #[.pointer (some ⟨g, 0, none⟩), .int .i64 24] ?_; (with_reducible refine (spec_l1Cur_one.calls g s0_0 s0_1 s0_2 24 true CU CV w0 _ ?_ ?_ A2.out).mono ?_); exact (Z8 HI0); exact Z10; rintro e w4 ⟨rfl, hi, hb, hk⟩; refine ⟨_, rfl, ?_⟩; refine k3_ (KeepBut.trans (Z9) hk (.inl rfl)) (hb) (hi) ?_; clear HK HB HI0; intro HK HB HI0; (try clear hb hk hi))
  (try simp only [Act.put, List.setIfInBounds_toArray, List.set_cons_zero, List.set_cons_succ])
  go_loopg [3] k (fun kq v3 w' => ∃ (bt : List (S90)) (dy : Int) (dz : Int), Aside0 (spec_l1Cur_sheet.l0 kq bt s0_0 dy dz = some (r1, r2, r3)) ∧ Aside0 (kq ≤ k) ∧ Aside0 (Kd.R k90 90 w' w.heap.size (fun _ => True) v3 bt) ∧ Aside0 (IsS69 w0 w' g s0_0 dy dz) ∧ Aside0 (KeepBut w w' g none) ∧ Aside0 (Below w0.heap.size w0 w'))
  case atStart => exact ⟨(([] : List (S90))), (CU), (CV), H', ⟨Nat.le_refl _⟩, ⟨Z44⟩, ⟨Z8 HI0⟩, ⟨Z9⟩, ⟨Z10⟩⟩
  case round =>
   clear H'
   (try clear p2); (try clear c3)
   obtain ⟨bt, dy, dz, HA, HK1, bp, HI0, HK, HB⟩ := hrel
   cases gk with
   | zero => exact absurd HA.out (by simp [spec_l1Cur_sheet.l0])
   | succ k1 =>
    have H := HA.out
    clear HA
    simp only [spec_l1Cur_sheet.l0] at H
    by_cases c5 : (bt.length : Int) < 60
    ·rw [if_pos c5] at H
     have gW : decide ((bt.length : Int) < 60) = true := decide_eq_true c5
     have u2 : decide (bt.length < 60) = true := decide_eq_true (by omega)
     clear c5
     obtain ⟨⟨BE, Gt, Gu⟩, A6, H⟩ := bd_ H
     (try dsimp only at H)
     by_cases c7 : bt.length < 5864062014805
     case neg => rw [if_neg c7] at H; exact absurd H (by simp)
     rw [if_pos c7] at H
     have LMc7 := Aside0.mk c7
     clear c7
     obtain ⟨Ir, um⟩ : ∃ y_ : List (S90), y_ = (bt ++ [(⟨3 * ((bt.length : Int) % 5), wrap64 (6 * (wrap64 ((bt.length : Int) / 5))), wrap64 ((wrap64 ((wrap64 (6 * (wrap64 ((bt.length : Int) / 5)))) + 1)) + BE)⟩ : S90)]) := ⟨_, rfl⟩
     replace H : (spec_l1Cur_sheet.l0 k1 Ir s0_0 Gt Gu) = some (r1, r2, r3) := hx_ um H
     have Ny257 := Aside0.mk um
     clear um
     have H' := Aside0.mk H
     clear H
     obtain ⟨mO, mM, zr⟩ := Kd.R_slice bp.out
     subst zr
     go_wp2_with (first | ((with_reducible refine gate_callee (f := 45) rfl ?_); refine gl_ 27 Try.func45 #[.pointer (some ⟨g, 0, none⟩), .int .i64 5] ?_; (with_reducible refine (spec_l1Cur_pick.calls g s0_0 dy dz 5 BE Gt Gu w0 _ ?_ ?_ A6.out).mono ?_); exact (Z8 HI0); exact Z10; rintro e w9 ⟨rfl, hi, hb, hk⟩; refine ⟨_, rfl, ?_⟩; refine k4_ (Kd.R_mono (Kd.R_keep (IsS69.apart (show IsS69 w0 _ g s0_0 dy dz from Z8 HI0) (Z2 bp) (by decide)) hk (fun _ h => h.2)) (fun _ h => h.1)) (KeepBut.trans (Z9) hk (.inl rfl)) (hb) (hi) ?_; clear bp HK HB HI0; intro bp HK HB HI0; (try clear hb hk hi)) | ((with_reducible refine gate_builtin (b := .append) (xs := #[.tmp 18, .tmp 30]) rfl ?_); at_builtin; refine Kd.R_append k90 w.heap.size rfl (.tmp 18) (.tmp 30) 42 90 (.agg #[(.int .i64 0), (.int .i64 0), (.int .i64 0)]) 24 rfl Try.underlying42 info90 rfl (by decide) (by omega) (.slice mO bt.length mM) bt (⟨3 * ((bt.length : Int) % 5), wrap64 (6 * (wrap64 ((bt.length : Int) / 5))), wrap64 ((wrap64 ((wrap64 (6 * (wrap64 ((bt.length : Int) / 5)))) + 1)) + BE)⟩ : S90) [.int .i64 (3 * ((bt.length : Int) % 5)), .int .i64 (wrap64 (6 * (wrap64 ((bt.length : Int) / 5)))), .int .i64 (wrap64 ((wrap64 ((wrap64 (6 * (wrap64 ((bt.length : Int) / 5)))) + 1)) + BE))] (fun _ => True) (fun _ => False) rfl rfl ?aP (fun _ hk => hk.elim) ?aF ?aO (Below.refl _ _) ?aS ?aL ?_; (case aP => exact k90_mkM _ _ _ (⟨3 * ((bt.length : Int) % 5), wrap64 (6 * (wrap64 ((bt.length : Int) / 5))), wrap64 ((wrap64 ((wrap64 (6 * (wrap64 ((bt.length : Int) / 5)))) + 1)) + BE)⟩ : S90)); (case aF => exact (fun _ _ => trivial)); (case aO => exact (Z2 bp)); (case aS => exact (keep_size (w := w) (g := g) (row := none) (Z9))); (case aL => exact Z182 LMc7); intro v258 oB ho hb hg hat; rw [← Ny257.out] at ho; refine k4_ (IsS69.grown (Z8 HI0) hg (IsS69.own_ne HI0.out bp.out (by decide))) (below_weaken (Z10) HL.out hb) (KeepBut.trans (Z9) (KeepBut.of_grown hg g) (Kd.R_base2 bp.out)) (ho) ?_; clear HI0 HB HK bp; intro HI0 HB HK HO259; clear ho hb hg hat))
     go_roundg k1
     case measure => have := HK1.out; omega
     case rel => exact ⟨(Ir), (Gt), (Gu), H', ⟨Z182 HK1⟩, ⟨Z2 HO259⟩, ⟨Z8 HI0⟩, ⟨Z9⟩, ⟨Z10⟩⟩
    rw [if_neg c5] at H
    have gW : decide ((bt.length : Int) < 60) = false := decide_eq_false c5
    have u2 : decide (bt.length < 60) = false := decide_eq_false (by omega)
    clear c5
    simp only [Option.some.injEq, Prod.mk.injEq] at H
    obtain ⟨rfl, rfl, rfl⟩ := H
    obtain ⟨Ao11, co11, CW⟩ := Kd.R_slice bp.out
    subst CW
    go_wp2
    go_ret
    exact ⟨_, Z11, Z2 bp, Z8 HI0, Z10, Z9⟩
 replace c3 := Bool.eq_false_iff.mpr c3
 subst c3
 rw [if_neg (show ¬ (false = true) by decide)] at H
 obtain ⟨⟨yt, Is, u1⟩, GL, H⟩ := bd_ H
 (try dsimp only at H)
 have H' := Aside0.mk H
 clear H
 go_enter Try.func87, Try.ntmps87
 go_wp2_with (first | ((with_reducible refine gate_callee (f := 79) rfl ?_); refine gl_ 10 Try.func79 #[.pointer (some ⟨g, 0, none⟩), .int .i64 24] ?_; (with_reducible refine (spec_l1Cur_one.calls g s0_0 s0_1 s0_2 24 false CU CV w0 _ ?_ ?_ A2.out).mono ?_); exact (Z8 HI0); exact Z10; rintro e lG ⟨rfl, hi, hb, hk⟩; refine ⟨_, rfl, ?_⟩; refine k3_ (KeepBut.trans (Z9) hk (.inl rfl)) (hb) (hi) ?_; clear HK HB HI0; intro HK HB HI0; (try clear hb hk hi)) | ((with_reducible refine gate_callee (f := 45) rfl ?_); refine gl_ 34 Try.func45 #[.pointer (some ⟨g, 0, none⟩), .int .i64 9] ?_; (with_reducible refine (spec_l1Cur_pick.calls g s0_0 CU CV 9 yt Is u1 w0 _ ?_ ?_ GL.out).mono ?_); exact (Z8 HI0); exact Z10; rintro e oC ⟨rfl, hi, hb, hk⟩; refine ⟨_, rfl, ?_⟩; refine k3_ (KeepBut.trans (Z9) hk (.inl rfl)) (hb) (hi) ?_; clear HK HB HI0; intro HK HB HI0; (try clear hb hk hi)))
 (try simp only [Act.put, List.setIfInBounds_toArray, List.set_cons_zero, List.set_cons_succ])
 go_loopg [3, 6] k (fun kq v3 v6 w' => ∃ (bt : List (S90)) (gp : Int) (dy : Int) (dz : Int), v6 = .int .i64 gp ∧ Aside0 (spec_l1Cur_sheet.l1 kq bt yt gp s0_0 dy dz = some (r1, r2, r3)) ∧ Aside0 (kq ≤ k) ∧ Aside0 (Kd.R k90 90 w' w.heap.size (fun _ => True) v3 bt) ∧ Aside0 (IsS69 w0 w' g s0_0 dy dz) ∧ Aside0 (KeepBut w w' g none) ∧ Aside0 (Below w0.heap.size w0 w'))
 case atStart => exact ⟨(([] : List (S90))), (0), (Is), (u1), (Z41), H', ⟨Nat.le_refl _⟩, ⟨Z44⟩, ⟨Z8 HI0⟩, ⟨Z9⟩, ⟨Z10⟩⟩
 case round =>
  clear H'
  (try clear p2); (try clear c3); (try clear c4); (try clear c5); (try clear gW); (try clear u2); (try clear p6); (try clear c7); (try clear c8)
  obtain ⟨bt, gp, dy, dz, rfl, HA, HK1, bp, HI0, HK, HB⟩ := hrel
  cases gk with
  | zero => exact absurd HA.out (by simp [spec_l1Cur_sheet.l1])
  | succ k1 =>
   have H := HA.out
   clear HA
   simp only [spec_l1Cur_sheet.l1] at H
   have HC15 := Aside0.mk H
   clear H
   go_upto_region 9 with (fail)
   go_cut [42] (fun v42 wc => ∃ (kq : Nat) (rW : Bool), v42 = .bool rW ∧ Aside0 (spec_l1Cur_sheet.j2 kq bt yt gp rW s0_0 dy dz = some (r1, r2, r3)) ∧ Aside0 (kq ≤ k1) ∧ Aside0 (Kd.R k90 90 wc w.heap.size (fun _ => True) u3 bt) ∧ Aside0 (IsS69 w0 wc g s0_0 dy dz) ∧ Aside0 (KeepBut w wc g none) ∧ Aside0 (Below w0.heap.size w0 wc))
   case first =>
    have H := HC15.out
    clear HC15
    by_cases c16 : (bt.length : Int) < yt
    ·rw [if_pos c16] at H
     have mU : decide ((bt.length : Int) < yt) = true := decide_eq_true c16
     clear c16
     (first | rw [mU] | (simp only [i64_w, i32_w]; rw [mU]) | skip)
     have H' := Aside0.mk H
     clear H
     obtain ⟨uJ, sd, zt⟩ := Kd.R_slice bp.out
     subst zt
     go_wp2
     go_meet
     case rel => exact ⟨_, (decide (gp < 60)), (Z41), H', ⟨Z186 HK1⟩, ⟨Z2 bp⟩, ⟨Z8 HI0⟩, ⟨Z9⟩, ⟨Z10⟩⟩
    rw [if_neg c16] at H
    have mU : decide ((bt.length : Int) < yt) = false := decide_eq_false c16
    clear c16
    (first | rw [mU] | (simp only [i64_w, i32_w]; rw [mU]) | skip)
    have H' := Aside0.mk H
    clear H
    obtain ⟨ru, rv, pV⟩ := Kd.R_slice bp.out
    subst pV
    go_wp2
    go_meet
    case rel => exact ⟨_, (false), (Z41), H', ⟨Z186 HK1⟩, ⟨Z2 bp⟩, ⟨Z8 HI0⟩, ⟨Z9⟩, ⟨Z10⟩⟩
   case rest =>
    clear HC15
    (try clear c1); (try clear c16); (try clear mU)
    obtain ⟨kq, rW, rfl, HA, CX, bp, HI0, HK, HB⟩ := hcut
    cases kq with
    | zero => exact absurd HA.out (by simp [spec_l1Cur_sheet.j2])
    | succ CY =>
     have H := HA.out
     clear HA
     simp only [spec_l1Cur_sheet.j2] at H
     by_cases c19 : rW = true
     ·subst c19
      rw [if_pos rfl] at H
      obtain ⟨⟨pJ, yu, yv, CZ, C0⟩, eK, H⟩ := bd_ H
      (try dsimp only at H)
      obtain ⟨⟨Gv, t271⟩, I6, H⟩ := bd_ H
      (try dsimp only at H)
      by_cases c22 : t271 = true
      ·subst c22
       rw [if_pos rfl] at H
       have H' := Aside0.mk H
       clear H
       go_wp2_with (first | ((with_reducible refine gate_callee (f := 112) rfl ?_); refine gl_ 48 Try.func112 #[.pointer (some ⟨g, 0, none⟩)] ?_; (with_reducible refine (spec_l1Cur_hole.calls g s0_0 dy dz pJ yu yv CZ C0 w0 _ ?_ ?_ eK.out).mono ?_); exact (Z8 HI0); exact Z10; rintro e st ⟨rfl, hi, hb, hk⟩; refine ⟨_, rfl, ?_⟩; refine k4_ (Kd.R_mono (Kd.R_keep (IsS69.apart (show IsS69 w0 _ g s0_0 dy dz from Z8 HI0) (Z2 bp) (by decide)) hk (fun _ h => h.2)) (fun _ h => h.1)) (KeepBut.trans (Z9) hk (.inl rfl)) (hb) (hi) ?_; clear bp HK HB HI0; intro bp HK HB HI0; (try clear hb hk hi); obtain ⟨Ao24, co24, eo24⟩ := Kd.R_slice bp.out; subst eo24) | ((with_reducible refine gate_callee (f := 105) rfl ?_); refine gl_ 49 Try.func105 #[.slice Ao24 bt.length co24, .agg #[.int .i64 pJ, .int .i64 yu, .int .i64 yv]] ?_; (with_reducible refine (spec_shWith.calls CY _ _ bt pJ yu yv Gv true _ ?_ ?_ I6.out).mono ?_); exact (Z7 bp); exact (Kd.R_reads' bp.out).2.1; rintro e qN ⟨v269, rfl, ho0, hb⟩; refine ⟨_, rfl, ?_⟩; refine k5_ (Yb_ bp) (Kd.R_lower (Kd.R_new' ho0 (Yd_ bp)) (keep_size (w := w) (g := g) (row := none) (Z9))) (IsS69.below (Z8 HI0) hb) (KeepBut.trans (Z9) (KeepBut.of_below hb g none) (.inl rfl)) (below_step (Z10) hb) ?_; clear bp HI0 HK HB; intro bp EZ HI0 HK HB; (try clear hb ho0)))
       go_roundg CY
       case measure => have := HK1.out; have := CX.out; omega
       case rel => exact ⟨(Gv), (wrap64 (gp + 1)), (CZ), (C0), (Z41), H', ⟨by have := HK1.out; have := CX.out; omega⟩, ⟨Z47 EZ⟩, ⟨Z8 HI0⟩, ⟨Z9⟩, ⟨Z10⟩⟩
      replace c22 := Bool.eq_false_iff.mpr c22
      subst c22
      rw [if_neg (show ¬ (false = true) by decide)] at H
      have H' := Aside0.mk H
      clear H
      go_wp2_with (first | ((with_reducible refine gate_callee (f := 112) rfl ?_); refine gl_ 48 Try.func112 #[.pointer (some ⟨g, 0, none⟩)] ?_; (with_reducible refine (spec_l1Cur_hole.calls g s0_0 dy dz pJ yu yv CZ C0 w0 _ ?_ ?_ eK.out).mono ?_); exact (Z8 HI0); exact Z10; rintro e D3 ⟨rfl, hi, hb, hk⟩; refine ⟨_, rfl, ?_⟩; refine k4_ (Kd.R_mono (Kd.R_keep (IsS69.apart (show IsS69 w0 _ g s0_0 dy dz from Z8 HI0) (Z2 bp) (by decide)) hk (fun _ h => h.2)) (fun _ h => h.1)) (KeepBut.trans (Z9) hk (.inl rfl)) (hb) (hi) ?_; clear bp HK HB HI0; intro bp HK HB HI0; (try clear hb hk hi); obtain ⟨bN, bL, rp⟩ := Kd.R_slice bp.out; subst rp) | ((with_reducible refine gate_callee (f := 105) rfl ?_); refine gl_ 49 Try.func105 #[.slice bN bt.length bL, .agg #[.int .i64 pJ, .int .i64 yu, .int .i64 yv]] ?_; (with_reducible refine (spec_shWith.calls CY _ _ bt pJ yu yv Gv false _ ?_ ?_ I6.out).mono ?_); exact (Z7 bp); exact (Kd.R_reads' bp.out).2.1; rintro e pt ⟨v269, rfl, ho0, hb⟩; refine ⟨_, rfl, ?_⟩; refine k5_ (Yb_ bp) (Kd.R_lower (Kd.R_new' ho0 (Yd_ bp)) (keep_size (w := w) (g := g) (row := none) (Z9))) (IsS69.below (Z8 HI0) hb) (KeepBut.trans (Z9) (KeepBut.of_below hb g none) (.inl rfl)) (below_step (Z10) hb) ?_; clear bp HI0 HK HB; intro bp EZ HI0 HK HB; (try clear hb ho0)))
      go_roundg CY
      case measure => have := HK1.out; have := CX.out; omega
      case rel => exact ⟨(bt), (wrap64 (gp + 1)), (CZ), (C0), (Z41), H', ⟨by have := HK1.out; have := CX.out; omega⟩, ⟨Z47 bp⟩, ⟨Z8 HI0⟩, ⟨Z9⟩, ⟨Z10⟩⟩
     replace c19 := Bool.eq_false_iff.mpr c19
     subst c19
     rw [if_neg (show ¬ (false = true) by decide)] at H
     simp only [Option.some.injEq, Prod.mk.injEq] at H
     obtain ⟨rfl, rfl, rfl⟩ := H
     go_wp2
     go_ret
     exact ⟨_, Z11, Z2 bp, Z8 HI0, Z10, Z9⟩

end Go.Proofs.Ytmnnmddfmmaohaa.PFnPunchJobs
