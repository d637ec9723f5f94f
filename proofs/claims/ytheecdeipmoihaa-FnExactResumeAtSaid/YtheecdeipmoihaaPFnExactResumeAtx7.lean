-- written by a program of this session: the kit's print, with outer functions of the session's own (wip/ext)
import Derived.Test.YtheecdeipmoihaaPFnExactResumeAtx0
import Derived.Test.YtheecdeipmoihaaPFnExactResumeAtx1
import Derived.Test.YtheecdeipmoihaaPFnExactResumeAtx2
import Derived.Test.YtheecdeipmoihaaPFnExactResumeAtx4
import Derived.Test.YtheecdeipmoihaaPFnExactResumeAtx6
namespace Go.Proofs.Ytheecdeipmoihaa.PFnExactResumeAt
open Go.RowKit Go.Proofs.YtheecdeipmoihaaW.PrintWords Go.Proofs.YtheecdeipmoihaaW.PrintLast Go.Proofs.YtheecdeipmoihaaW.PrintMore
attribute [local go_sem] max2_int min2_int max_two min_two max_three min_three max_four min_four   -- for this text's walks alone
set_option linter.unusedVariables false
set_option linter.unusedSimpArgs false

/-! ### laws_FnExactResumeAt: function 5 -/
mutual
def laws_FnExactResumeAt.j0 : Nat → Int → Int → Bool → Int → Bool → Bool → List (S108) → Int → List (S106) → Int → List (S106) → Int → List (S106) → Int → Option (Bool)
  | 0, _, _, _, _, _, _, _, _, _, _, _, _, _, _ => none
  | k + 1, x1, x7, x8, x11, x12, x54, x260000, x260001, x272000, x272001, x277000, x277001, x284000, x284001 => if x54 = true then (some false) else ((laws_toPunchJob.f k x260000 x260001).bind fun bt285 => ((laws_eqPunchJob.f k x277000 x277001 bt285.1 bt285.2).bind fun t289 => (if t289 = true then ((laws_markPunchJob.f k x277000 x277001 1).bind fun bt290 => (if bt290.1 < 0 then (laws_FnExactResumeAt.j1 k x1 x7 x8 true x260000 x260001 x272000 x272001 x284000 x284001) else ((laws_eqPunchJob.f k x284000 x284001 x272000 x272001).bind fun t292 => (if t292 = true then (if x11 = x7 then (laws_FnExactResumeAt.j1 k x1 x7 x8 (x12 != x8) x260000 x260001 x272000 x272001 x284000 x284001) else (laws_FnExactResumeAt.j1 k x1 x7 x8 true x260000 x260001 x272000 x272001 x284000 x284001)) else (laws_FnExactResumeAt.j1 k x1 x7 x8 true x260000 x260001 x272000 x272001 x284000 x284001))))) else (some false))))
def laws_FnExactResumeAt.j1 : Nat → Int → Int → Bool → Bool → List (S108) → Int → List (S106) → Int → List (S106) → Int → Option (Bool)
  | 0, _, _, _, _, _, _, _, _, _, _ => none
  | k + 1, x1, x7, x8, x80, x260000, x260001, x272000, x272001, x284000, x284001 => if x80 = true then (some false) else ((laws_markPunchJob.f k x284000 x284001 1).bind fun bt293 => ((laws_heldPunchJob.f k bt293.2 x284001 1).bind fun t295 => (if t295 < 0 then (some false) else (if t295 = bt293.1 then ((laws_toPunchJob.f k x260000 x260001).bind fun bt296 => ((impl_ResumeAt.f k bt296.1 bt296.2 x1).bind fun bt300 => ((laws_eqPunchJob.f k bt300.1 bt300.2.1 x272000 x272001).bind fun t307 => (if t307 = true then (if bt300.2.2.1 = x7 then (laws_FnExactResumeAt.j2 k bt293.1 (bt300.2.2.2 != x8) bt293.2 x284001) else (laws_FnExactResumeAt.j2 k bt293.1 true bt293.2 x284001)) else (laws_FnExactResumeAt.j2 k bt293.1 true bt293.2 x284001))))) else (some false)))))
def laws_FnExactResumeAt.j2 : Nat → Int → Bool → List (S106) → Int → Option (Bool)
  | 0, _, _, _, _ => none
  | k + 1, x14, x113, x284000, x284001 => if x113 = true then (some false) else ((laws_heldPunchJob.f k x284000 x284001 1).bind fun t308 => (if t308 < 0 then (some false) else (if t308 = x14 then (some true) else (some false))))
end
def laws_FnExactResumeAt.f (k : Nat) (l0_0 : List (S108)) (a0_1 : Int) (a1 : Int) : Option (Bool) := (laws_szPunchJob.f l0_0 a0_1 1048576).bind fun t260 => (if t260 < 0 then (some true) else ((laws_toPunchJob.f k l0_0 a0_1).bind fun bt261 => ((spec_ResumeAt.f k bt261.1 bt261.2 a1).bind fun bt265 => ((laws_toPunchJob.f k l0_0 a0_1).bind fun bt272 => ((impl_ResumeAt.f k bt272.1 bt272.2 a1).bind fun bt277 => ((laws_eqPunchJob.f k bt277.1 bt277.2.1 bt265.1 bt265.2.1).bind fun t284 => (if t284 = true then (if bt277.2.2.1 = bt265.2.2.1 then (laws_FnExactResumeAt.j0 k a1 bt265.2.2.1 bt265.2.2.2 bt277.2.2.1 bt277.2.2.2 (bt277.2.2.2 != bt265.2.2.2) l0_0 a0_1 bt265.1 bt265.2.1 bt272.1 bt272.2 bt277.1 bt277.2.1) else (laws_FnExactResumeAt.j0 k a1 bt265.2.2.1 bt265.2.2.2 bt277.2.2.1 bt277.2.2.2 true l0_0 a0_1 bt265.1 bt265.2.1 bt272.1 bt272.2 bt277.1 bt277.2.1)) else (laws_FnExactResumeAt.j0 k a1 bt265.2.2.1 bt265.2.2.2 bt277.2.2.1 bt277.2.2.2 true l0_0 a0_1 bt265.1 bt265.2.1 bt272.1 bt272.2 bt277.1 bt277.2.1))))))))
theorem laws_FnExactResumeAt.mono_l : ∀ k, (∀ y0 y1 y2 y3 y4 y5 y6 y7 y8 y9 y10 y11 y12 y13, LeO (laws_FnExactResumeAt.j0 k y0 y1 y2 y3 y4 y5 y6 y7 y8 y9 y10 y11 y12 y13) (laws_FnExactResumeAt.j0 (k + 1) y0 y1 y2 y3 y4 y5 y6 y7 y8 y9 y10 y11 y12 y13)) ∧ (∀ y0 y1 y2 y3 y4 y5 y6 y7 y8 y9, LeO (laws_FnExactResumeAt.j1 k y0 y1 y2 y3 y4 y5 y6 y7 y8 y9) (laws_FnExactResumeAt.j1 (k + 1) y0 y1 y2 y3 y4 y5 y6 y7 y8 y9)) ∧ (∀ y0 y1 y2 y3, LeO (laws_FnExactResumeAt.j2 k y0 y1 y2 y3) (laws_FnExactResumeAt.j2 (k + 1) y0 y1 y2 y3))
  | 0 => ⟨fun _ _ _ _ _ _ _ _ _ _ _ _ _ _ r h => by simp [laws_FnExactResumeAt.j0] at h, fun _ _ _ _ _ _ _ _ _ _ r h => by simp [laws_FnExactResumeAt.j1] at h, fun _ _ _ _ r h => by simp [laws_FnExactResumeAt.j2] at h⟩
  | k + 1 => by
    obtain ⟨ih0, ih1, ih2⟩ := laws_FnExactResumeAt.mono_l k
    refine ⟨?_, ?_, ?_⟩
    · intro y0 y1 y2 y3 y4 y5 y6 y7 y8 y9 y10 y11 y12 y13
      unfold laws_FnExactResumeAt.j0
      repeat' first
      | (with_reducible exact ih0 _ _ _ _ _ _ _ _ _ _ _ _ _ _)
      | (with_reducible exact ih1 _ _ _ _ _ _ _ _ _ _)
      | (with_reducible exact ih2 _ _ _ _)
      | (with_reducible exact impl_ResumeAt.mono _ _ _ _)
      | (with_reducible exact laws_eqPunchJob.mono _ _ _ _ _)
      | (with_reducible exact laws_heldPunchJob.mono _ _ _ _)
      | (with_reducible exact laws_markPunchJob.mono _ _ _ _)
      | (with_reducible exact laws_toPunchJob.mono _ _ _)
      | (with_reducible exact spec_ResumeAt.mono _ _ _ _)
      | (with_reducible exact LeO.refl _)
      | (with_reducible exact LeO.none _)
      | (with_reducible refine LeO.ite ?_ ?_)
      | (with_reducible refine LeO.bind ?_ (fun _ => ?_))
      | exact ih0 _ _ _ _ _ _ _ _ _ _ _ _ _ _
      | exact ih1 _ _ _ _ _ _ _ _ _ _
      | exact ih2 _ _ _ _
      | exact impl_ResumeAt.mono _ _ _ _
      | exact laws_eqPunchJob.mono _ _ _ _ _
      | exact laws_heldPunchJob.mono _ _ _ _
      | exact laws_markPunchJob.mono _ _ _ _
      | exact laws_toPunchJob.mono _ _ _
      | exact spec_ResumeAt.mono _ _ _ _
      | exact LeO.none _
      | refine LeO.ite ?_ ?_
      | refine LeO.bind ?_ (fun _ => ?_)
    · intro y0 y1 y2 y3 y4 y5 y6 y7 y8 y9
      unfold laws_FnExactResumeAt.j1
      repeat' first
      | (with_reducible exact ih0 _ _ _ _ _ _ _ _ _ _ _ _ _ _)
      | (with_reducible exact ih1 _ _ _ _ _ _ _ _ _ _)
      | (with_reducible exact ih2 _ _ _ _)
      | (with_reducible exact impl_ResumeAt.mono _ _ _ _)
      | (with_reducible exact laws_eqPunchJob.mono _ _ _ _ _)
      | (with_reducible exact laws_heldPunchJob.mono _ _ _ _)
      | (with_reducible exact laws_markPunchJob.mono _ _ _ _)
      | (with_reducible exact laws_toPunchJob.mono _ _ _)
      | (with_reducible exact spec_ResumeAt.mono _ _ _ _)
      | (with_reducible exact LeO.refl _)
      | (with_reducible exact LeO.none _)
      | (with_reducible refine LeO.ite ?_ ?_)
      | (with_reducible refine LeO.bind ?_ (fun _ => ?_))
      | exact ih0 _ _ _ _ _ _ _ _ _ _ _ _ _ _
      | exact ih1 _ _ _ _ _ _ _ _ _ _
      | exact ih2 _ _ _ _
      | exact impl_ResumeAt.mono _ _ _ _
      | exact laws_eqPunchJob.mono _ _ _ _ _
      | exact laws_heldPunchJob.mono _ _ _ _
      | exact laws_markPunchJob.mono _ _ _ _
      | exact laws_toPunchJob.mono _ _ _
      | exact spec_ResumeAt.mono _ _ _ _
      | exact LeO.none _
      | refine LeO.ite ?_ ?_
      | refine LeO.bind ?_ (fun _ => ?_)
    · intro y0 y1 y2 y3
      unfold laws_FnExactResumeAt.j2
      repeat' first
      | (with_reducible exact ih0 _ _ _ _ _ _ _ _ _ _ _ _ _ _)
      | (with_reducible exact ih1 _ _ _ _ _ _ _ _ _ _)
      | (with_reducible exact ih2 _ _ _ _)
      | (with_reducible exact impl_ResumeAt.mono _ _ _ _)
      | (with_reducible exact laws_eqPunchJob.mono _ _ _ _ _)
      | (with_reducible exact laws_heldPunchJob.mono _ _ _ _)
      | (with_reducible exact laws_markPunchJob.mono _ _ _ _)
      | (with_reducible exact laws_toPunchJob.mono _ _ _)
      | (with_reducible exact spec_ResumeAt.mono _ _ _ _)
      | (with_reducible exact LeO.refl _)
      | (with_reducible exact LeO.none _)
      | (with_reducible refine LeO.ite ?_ ?_)
      | (with_reducible refine LeO.bind ?_ (fun _ => ?_))
      | exact ih0 _ _ _ _ _ _ _ _ _ _ _ _ _ _
      | exact ih1 _ _ _ _ _ _ _ _ _ _
      | exact ih2 _ _ _ _
      | exact impl_ResumeAt.mono _ _ _ _
      | exact laws_eqPunchJob.mono _ _ _ _ _
      | exact laws_heldPunchJob.mono _ _ _ _
      | exact laws_markPunchJob.mono _ _ _ _
      | exact laws_toPunchJob.mono _ _ _
      | exact spec_ResumeAt.mono _ _ _ _
      | exact LeO.none _
      | refine LeO.ite ?_ ?_
      | refine LeO.bind ?_ (fun _ => ?_)
theorem laws_FnExactResumeAt.mono : ∀ a0 a1 a2 k, LeO (laws_FnExactResumeAt.f k a0 a1 a2) (laws_FnExactResumeAt.f (k + 1) a0 a1 a2) := by
  intro a0 a1 a2 k
  obtain ⟨ih0, ih1, ih2⟩ := laws_FnExactResumeAt.mono_l k
  unfold laws_FnExactResumeAt.f
  repeat' first
      | (with_reducible exact ih0 _ _ _ _ _ _ _ _ _ _ _ _ _ _)
      | (with_reducible exact ih1 _ _ _ _ _ _ _ _ _ _)
      | (with_reducible exact ih2 _ _ _ _)
      | (with_reducible exact impl_ResumeAt.mono _ _ _ _)
      | (with_reducible exact laws_eqPunchJob.mono _ _ _ _ _)
      | (with_reducible exact laws_heldPunchJob.mono _ _ _ _)
      | (with_reducible exact laws_markPunchJob.mono _ _ _ _)
      | (with_reducible exact laws_toPunchJob.mono _ _ _)
      | (with_reducible exact spec_ResumeAt.mono _ _ _ _)
      | (with_reducible exact LeO.refl _)
      | (with_reducible exact LeO.none _)
      | (with_reducible refine LeO.ite ?_ ?_)
      | (with_reducible refine LeO.bind ?_ (fun _ => ?_))
      | exact ih0 _ _ _ _ _ _ _ _ _ _ _ _ _ _
      | exact ih1 _ _ _ _ _ _ _ _ _ _
      | exact ih2 _ _ _ _
      | exact impl_ResumeAt.mono _ _ _ _
      | exact laws_eqPunchJob.mono _ _ _ _ _
      | exact laws_heldPunchJob.mono _ _ _ _
      | exact laws_markPunchJob.mono _ _ _ _
      | exact laws_toPunchJob.mono _ _ _
      | exact spec_ResumeAt.mono _ _ _ _
      | exact LeO.none _
      | refine LeO.ite ?_ ?_
      | refine LeO.bind ?_ (fun _ => ?_)
set_option maxHeartbeats 8000000 in
set_option maxRecDepth 100000 in
theorem laws_FnExactResumeAt.calls (k : Nat) (A0_0 : Option Addr) (c0_0 : Nat) (l0_0 : List (S108)) (a0_1 : Int) (a1 : Int) (r : Bool) (w : World) (hr0_0 : Kd.C k108 w A0_0 l0_0.length l0_0) (hc0_0 : l0_0.length ≤ c0_0) (h : laws_FnExactResumeAt.f k l0_0 a0_1 a1 = some r) :
    Calls Try.prog 5 #[.agg #[.slice A0_0 l0_0.length c0_0, .int .i64 a0_1], .int .i64 a1] w fun e w' => e = .returned (.bool r) ∧ Below w.heap.size w w' := by
  have hu43 := Try.underlying43
  have hu33 := Try.underlying33
  have HR0_0 := Aside0.mk hr0_0
  have HC0_0 := Aside0.mk hc0_0
  clear hr0_0 hc0_0
  have HB := Aside0.mk (Below.refl w.heap.size w)
  have H : ((laws_szPunchJob.f l0_0 a0_1 1048576).bind fun t260 => (if t260 < 0 then (some true) else ((laws_toPunchJob.f k l0_0 a0_1).bind fun bt261 => ((spec_ResumeAt.f k bt261.1 bt261.2 a1).bind fun bt265 => ((laws_toPunchJob.f k l0_0 a0_1).bind fun bt272 => ((impl_ResumeAt.f k bt272.1 bt272.2 a1).bind fun bt277 => ((laws_eqPunchJob.f k bt277.1 bt277.2.1 bt265.1 bt265.2.1).bind fun t284 => (if t284 = true then (if bt277.2.2.1 = bt265.2.2.1 then (laws_FnExactResumeAt.j0 k a1 bt265.2.2.1 bt265.2.2.2 bt277.2.2.1 bt277.2.2.2 (bt277.2.2.2 != bt265.2.2.2) l0_0 a0_1 bt265.1 bt265.2.1 bt272.1 bt272.2 bt277.1 bt277.2.1) else (laws_FnExactResumeAt.j0 k a1 bt265.2.2.1 bt265.2.2.2 bt277.2.2.1 bt277.2.2.2 true l0_0 a0_1 bt265.1 bt265.2.1 bt272.1 bt272.2 bt277.1 bt277.2.1)) else (laws_FnExactResumeAt.j0 k a1 bt265.2.2.1 bt265.2.2.2 bt277.2.2.1 bt277.2.2.2 true l0_0 a0_1 bt265.1 bt265.2.1 bt272.1 bt272.2 bt277.1 bt277.2.1))))))))) = some r := h
  clear h
  replace H := Option.bind_eq_some_iff.mp H
  obtain ⟨t260, A30, H⟩ := H
  replace H : (if t260 < 0 then (some true) else ((laws_toPunchJob.f k l0_0 a0_1).bind fun bt261 => ((spec_ResumeAt.f k bt261.1 bt261.2 a1).bind fun bt265 => ((laws_toPunchJob.f k l0_0 a0_1).bind fun bt272 => ((impl_ResumeAt.f k bt272.1 bt272.2 a1).bind fun bt277 => ((laws_eqPunchJob.f k bt277.1 bt277.2.1 bt265.1 bt265.2.1).bind fun t284 => (if t284 = true then (if bt277.2.2.1 = bt265.2.2.1 then (laws_FnExactResumeAt.j0 k a1 bt265.2.2.1 bt265.2.2.2 bt277.2.2.1 bt277.2.2.2 (bt277.2.2.2 != bt265.2.2.2) l0_0 a0_1 bt265.1 bt265.2.1 bt272.1 bt272.2 bt277.1 bt277.2.1) else (laws_FnExactResumeAt.j0 k a1 bt265.2.2.1 bt265.2.2.2 bt277.2.2.1 bt277.2.2.2 true l0_0 a0_1 bt265.1 bt265.2.1 bt272.1 bt272.2 bt277.1 bt277.2.1)) else (laws_FnExactResumeAt.j0 k a1 bt265.2.2.1 bt265.2.2.2 bt277.2.2.1 bt277.2.2.2 true l0_0 a0_1 bt265.1 bt265.2.1 bt272.1 bt272.2 bt277.1 bt277.2.1)))))))) = some r := H
  have A3 := Aside0.mk A30
  clear A30
  by_cases c4 : t260 < 0
  · rw [if_pos c4] at H
    have c4b0 : decide (t260 < 0) = true := decide_eq_true c4
    clear c4
    obtain rfl := Option.some.inj H
    go_enter Try.func5, Try.ntmps5
    go_wp2_with (first | ((with_reducible refine gate_dst (N := 2) rfl ?_); refine box_event ?hg (N := 2) ?hd (cs := #[.slice A0_0 l0_0.length c0_0, .int .i64 a0_1]) (t := 43) ?hr ?_; (case hd => rfl); (case hg => rfl); (case hr => first | (go_simp; done) | (go_simp; rfl)); intro gb259 hg w5 hbox hb; have n0_ := Aside0.mk (below_step (by repeat (first | (with_reducible first | exact HB.out | apply below_alloc | apply pw_below_drewN | apply below_drew1) | exact HB.out)) hb); have n1_ := Aside0.mk (hbox); have n2_ := Aside0.mk ((by rw [hg]; exact (below_size (by repeat (first | (with_reducible first | exact HB.out | apply below_alloc | apply pw_below_drewN | apply below_drew1) | exact HB.out))) : w.heap.size ≤ gb259)); have n3_ := Aside0.mk ((by rw [hg]; exact (below_size (by repeat (first | (with_reducible first | exact HB.out | apply below_alloc | apply pw_below_drewN | apply below_drew1) | exact HB.out))) : w.heap.size ≤ gb259)); clear HB; have HB := n0_; have BK259 := n1_; have GW259 := n2_; have GE259 := n3_; clear n0_ n1_ n2_ n3_; clear hb hbox hg; have hcz6_0 : w5.cell? ⟨gb259, 0, none⟩ = some (.slice A0_0 l0_0.length c0_0) := (blk_cell BK259.out 0).trans rfl; have hcz6_1 : w5.cell? ⟨gb259, 1, none⟩ = some (.int .i64 a0_1) := (blk_cell BK259.out 1).trans rfl; have hfz6_0 := blk_frozen BK259.out 0; have hfz6_1 := blk_frozen BK259.out 1) | ((with_reducible refine gate_callee (f := 29) rfl ?_); refine goesL_ (some 21) rfl rfl Try.func29 (by kernel_rfl) rfl #[.agg #[.slice A0_0 l0_0.length c0_0, .int .i64 a0_1], .int .i64 1048576] rfl (by (try simp only [List.map_toArray, List.map_cons, List.map_nil]); first | done | rfl | (simp only [List.length_drop, List.length_take]; rfl)) ?_; (with_reducible refine (laws_szPunchJob.calls _ _ l0_0 a0_1 1048576 t260 _ ?side1 ?side2 A3.out).mono ?_); (case side1 => repeat (first | exact (Kd.C_below HR0_0.out HB.out) | (with_reducible refine Kd.C_alloc ?_ _) | (with_reducible refine Kd.C_drewN ?_ _) | (with_reducible refine Kd.C_drew ?_))); (case side2 => exact HC0_0.out); rintro e w7 ⟨rfl, hb⟩; refine ⟨_, rfl, ?_⟩; have n0_ := Aside0.mk (blk_below (g := gb259) (o := .cells #[.slice A0_0 l0_0.length c0_0, .int .i64 a0_1] 43 (0, 0)) (by (with_reducible repeat (first | refine blk_drewN ?_ _ | refine blk_drew ?_ | refine blk_alloc ?_ _)); exact BK259.out) hb); have n1_ := Aside0.mk (below_step (by repeat (first | (with_reducible first | exact HB.out | apply below_alloc | apply pw_below_drewN | apply below_drew1 | refine below_set ?_ GE259.out) | exact HB.out)) hb); clear BK259; clear HB; have BK259 := n0_; have HB := n1_; clear n0_ n1_; (try clear hb); (try clear hb2); (try clear hk); (try clear hi)))
    go_ret
    exact ⟨by first | rfl | (simp [errW_none, errW_some] <;> rfl) | (simp [*, errW_none, errW_some] <;> rfl), by repeat (first | (with_reducible first | exact HB.out | apply below_alloc | apply pw_below_drewN | apply below_drew1 | refine below_set ?_ GE259.out) | exact HB.out)⟩
  · rw [if_neg c4] at H
    have c4b0 : decide (t260 < 0) = false := decide_eq_false c4
    clear c4
    replace H := Option.bind_eq_some_iff.mp H
    obtain ⟨⟨t261, t264⟩, A80, H⟩ := H
    replace H : ((spec_ResumeAt.f k t261 t264 a1).bind fun bt265 => ((laws_toPunchJob.f k l0_0 a0_1).bind fun bt272 => ((impl_ResumeAt.f k bt272.1 bt272.2 a1).bind fun bt277 => ((laws_eqPunchJob.f k bt277.1 bt277.2.1 bt265.1 bt265.2.1).bind fun t284 => (if t284 = true then (if bt277.2.2.1 = bt265.2.2.1 then (laws_FnExactResumeAt.j0 k a1 bt265.2.2.1 bt265.2.2.2 bt277.2.2.1 bt277.2.2.2 (bt277.2.2.2 != bt265.2.2.2) l0_0 a0_1 bt265.1 bt265.2.1 bt272.1 bt272.2 bt277.1 bt277.2.1) else (laws_FnExactResumeAt.j0 k a1 bt265.2.2.1 bt265.2.2.2 bt277.2.2.1 bt277.2.2.2 true l0_0 a0_1 bt265.1 bt265.2.1 bt272.1 bt272.2 bt277.1 bt277.2.1)) else (laws_FnExactResumeAt.j0 k a1 bt265.2.2.1 bt265.2.2.2 bt277.2.2.1 bt277.2.2.2 true l0_0 a0_1 bt265.1 bt265.2.1 bt272.1 bt272.2 bt277.1 bt277.2.1)))))) = some r := H
    have A8 := Aside0.mk A80
    clear A80
    replace H := Option.bind_eq_some_iff.mp H
    obtain ⟨⟨t265, t268, t269, t270⟩, A90, H⟩ := H
    replace H : ((laws_toPunchJob.f k l0_0 a0_1).bind fun bt272 => ((impl_ResumeAt.f k bt272.1 bt272.2 a1).bind fun bt277 => ((laws_eqPunchJob.f k bt277.1 bt277.2.1 t265 t268).bind fun t284 => (if t284 = true then (if bt277.2.2.1 = t269 then (laws_FnExactResumeAt.j0 k a1 t269 t270 bt277.2.2.1 bt277.2.2.2 (bt277.2.2.2 != t270) l0_0 a0_1 t265 t268 bt272.1 bt272.2 bt277.1 bt277.2.1) else (laws_FnExactResumeAt.j0 k a1 t269 t270 bt277.2.2.1 bt277.2.2.2 true l0_0 a0_1 t265 t268 bt272.1 bt272.2 bt277.1 bt277.2.1)) else (laws_FnExactResumeAt.j0 k a1 t269 t270 bt277.2.2.1 bt277.2.2.2 true l0_0 a0_1 t265 t268 bt272.1 bt272.2 bt277.1 bt277.2.1))))) = some r := H
    have A9 := Aside0.mk A90
    clear A90
    replace H := Option.bind_eq_some_iff.mp H
    obtain ⟨⟨t272, t275⟩, A100, H⟩ := H
    replace H : ((impl_ResumeAt.f k t272 t275 a1).bind fun bt277 => ((laws_eqPunchJob.f k bt277.1 bt277.2.1 t265 t268).bind fun t284 => (if t284 = true then (if bt277.2.2.1 = t269 then (laws_FnExactResumeAt.j0 k a1 t269 t270 bt277.2.2.1 bt277.2.2.2 (bt277.2.2.2 != t270) l0_0 a0_1 t265 t268 t272 t275 bt277.1 bt277.2.1) else (laws_FnExactResumeAt.j0 k a1 t269 t270 bt277.2.2.1 bt277.2.2.2 true l0_0 a0_1 t265 t268 t272 t275 bt277.1 bt277.2.1)) else (laws_FnExactResumeAt.j0 k a1 t269 t270 bt277.2.2.1 bt277.2.2.2 true l0_0 a0_1 t265 t268 t272 t275 bt277.1 bt277.2.1)))) = some r := H
    have A10 := Aside0.mk A100
    clear A100
    replace H := Option.bind_eq_some_iff.mp H
    obtain ⟨⟨t277, t280, t281, t282⟩, A110, H⟩ := H
    replace H : ((laws_eqPunchJob.f k t277 t280 t265 t268).bind fun t284 => (if t284 = true then (if t281 = t269 then (laws_FnExactResumeAt.j0 k a1 t269 t270 t281 t282 (t282 != t270) l0_0 a0_1 t265 t268 t272 t275 t277 t280) else (laws_FnExactResumeAt.j0 k a1 t269 t270 t281 t282 true l0_0 a0_1 t265 t268 t272 t275 t277 t280)) else (laws_FnExactResumeAt.j0 k a1 t269 t270 t281 t282 true l0_0 a0_1 t265 t268 t272 t275 t277 t280))) = some r := H
    have A11 := Aside0.mk A110
    clear A110
    have HC12 := Aside0.mk H
    clear H
    go_enter Try.func5, Try.ntmps5
    go_upto_region 8 with (first | ((with_reducible refine gate_dst (N := 2) rfl ?_); refine box_event ?hg (N := 2) ?hd (cs := #[.slice A0_0 l0_0.length c0_0, .int .i64 a0_1]) (t := 43) ?hr ?_; (case hd => rfl); (case hg => rfl); (case hr => first | (go_simp; done) | (go_simp; rfl)); intro gb259 hg w13 hbox hb; have n0_ := Aside0.mk (below_step (by repeat (first | (with_reducible first | exact HB.out | apply below_alloc | apply pw_below_drewN | apply below_drew1) | exact HB.out)) hb); have n1_ := Aside0.mk (hbox); have n2_ := Aside0.mk ((by rw [hg]; exact (below_size (by repeat (first | (with_reducible first | exact HB.out | apply below_alloc | apply pw_below_drewN | apply below_drew1) | exact HB.out))) : w.heap.size ≤ gb259)); have n3_ := Aside0.mk ((by rw [hg]; exact (below_size (by repeat (first | (with_reducible first | exact HB.out | apply below_alloc | apply pw_below_drewN | apply below_drew1) | exact HB.out))) : w.heap.size ≤ gb259)); clear HB; have HB := n0_; have BK259 := n1_; have GW259 := n2_; have GE259 := n3_; clear n0_ n1_ n2_ n3_; clear hb hbox hg; have hcz14_0 : w13.cell? ⟨gb259, 0, none⟩ = some (.slice A0_0 l0_0.length c0_0) := (blk_cell BK259.out 0).trans rfl; have hcz14_1 : w13.cell? ⟨gb259, 1, none⟩ = some (.int .i64 a0_1) := (blk_cell BK259.out 1).trans rfl; have hfz14_0 := blk_frozen BK259.out 0; have hfz14_1 := blk_frozen BK259.out 1) | ((with_reducible refine gate_callee (f := 29) rfl ?_); refine goesL_ (some 21) rfl rfl Try.func29 (by kernel_rfl) rfl #[.agg #[.slice A0_0 l0_0.length c0_0, .int .i64 a0_1], .int .i64 1048576] rfl (by (try simp only [List.map_toArray, List.map_cons, List.map_nil]); first | done | rfl | (simp only [List.length_drop, List.length_take]; rfl)) ?_; (with_reducible refine (laws_szPunchJob.calls _ _ l0_0 a0_1 1048576 t260 _ ?side1 ?side2 A3.out).mono ?_); (case side1 => repeat (first | exact (Kd.C_below HR0_0.out HB.out) | (with_reducible refine Kd.C_alloc ?_ _) | (with_reducible refine Kd.C_drewN ?_ _) | (with_reducible refine Kd.C_drew ?_))); (case side2 => exact HC0_0.out); rintro e w15 ⟨rfl, hb⟩; refine ⟨_, rfl, ?_⟩; have n0_ := Aside0.mk (blk_below (g := gb259) (o := .cells #[.slice A0_0 l0_0.length c0_0, .int .i64 a0_1] 43 (0, 0)) (by (with_reducible repeat (first | refine blk_drewN ?_ _ | refine blk_drew ?_ | refine blk_alloc ?_ _)); exact BK259.out) hb); have n1_ := Aside0.mk (below_step (by repeat (first | (with_reducible first | exact HB.out | apply below_alloc | apply pw_below_drewN | apply below_drew1 | refine below_set ?_ GE259.out) | exact HB.out)) hb); clear BK259; clear HB; have BK259 := n0_; have HB := n1_; clear n0_ n1_; (try clear hb); (try clear hb2); (try clear hk); (try clear hi); have hcz16_0 : w15.cell? ⟨gb259, 0, none⟩ = some (.slice A0_0 l0_0.length c0_0) := (blk_cell BK259.out 0).trans rfl; have hcz16_1 : w15.cell? ⟨gb259, 1, none⟩ = some (.int .i64 a0_1) := (blk_cell BK259.out 1).trans rfl; have hfz16_0 := blk_frozen BK259.out 0; have hfz16_1 := blk_frozen BK259.out 1) | ((with_reducible refine gate_callee (f := 31) rfl ?_); refine goesL_ (some 26) rfl rfl Try.func31 (by kernel_rfl) rfl #[.agg #[.slice A0_0 l0_0.length c0_0, .int .i64 a0_1]] rfl (by (try simp only [List.map_toArray, List.map_cons, List.map_nil]); first | done | rfl | (simp only [List.length_drop, List.length_take]; rfl)) ?_; (with_reducible refine (laws_toPunchJob.calls k _ _ l0_0 a0_1 t261 t264 _ ?side1 ?side2 A8.out).mono ?_); (case side1 => repeat (first | exact (Kd.C_below HR0_0.out HB.out) | (with_reducible refine Kd.C_alloc ?_ _) | (with_reducible refine Kd.C_drewN ?_ _) | (with_reducible refine Kd.C_drew ?_))); (case side2 => exact HC0_0.out); rintro e w17 ⟨v262, rfl, ho0, hb⟩; refine ⟨_, rfl, ?_⟩; have n0_ := Aside0.mk (Kd.R_lower ho0 (below_size (by repeat (first | (with_reducible first | exact HB.out | apply below_alloc | apply pw_below_drewN | apply below_drew1 | refine below_set ?_ GE259.out) | exact HB.out)))); have n1_ := Aside0.mk (blk_below (g := gb259) (o := .cells #[.slice A0_0 l0_0.length c0_0, .int .i64 a0_1] 43 (0, 0)) (by (with_reducible repeat (first | refine blk_drewN ?_ _ | refine blk_drew ?_ | refine blk_alloc ?_ _)); exact BK259.out) hb); have n2_ := Aside0.mk (below_step (by repeat (first | (with_reducible first | exact HB.out | apply below_alloc | apply pw_below_drewN | apply below_drew1 | refine below_set ?_ GE259.out) | exact HB.out)) hb); clear BK259; clear HB; have HO263 := n0_; have BK259 := n1_; have HB := n2_; clear n0_ n1_ n2_; (try clear hb); (try clear hb2); (try clear hk); (try clear hi); (try clear ho0); obtain ⟨Ao18, co18, eo18⟩ := Kd.R_slice HO263.out; subst eo18) | ((with_reducible refine gate_callee (f := 30) rfl ?_); refine goesL_ (some 28) rfl rfl Try.func30 (by kernel_rfl) rfl #[.agg #[.slice Ao18 t261.length co18, .int .i64 t264], .int .i64 a1] rfl (by (try simp only [List.map_toArray, List.map_cons, List.map_nil]); first | done | rfl | (simp only [List.length_drop, List.length_take]; rfl)) ?_; (with_reducible refine (spec_ResumeAt.calls k _ _ t261 t264 a1 t265 t268 t269 t270 _ ?side1 ?side2 A9.out).mono ?_); (case side1 => repeat (first | exact (Kd.R_reads' HO263.out).2.2 | (with_reducible refine Kd.C_alloc ?_ _) | (with_reducible refine Kd.C_drewN ?_ _) | (with_reducible refine Kd.C_drew ?_))); (case side2 => exact (Kd.R_reads' HO263.out).2.1); rintro e w19 ⟨v266, rfl, ho0, hb⟩; refine ⟨_, rfl, ?_⟩; have n0_ := Aside0.mk (Kd.R_elder' (by (with_reducible repeat (first | apply Kd.R_alloc | apply Kd.R_drewN | apply Kd.R_drew)); exact HO263.out) (Kd.R_base ho0) hb); have n1_ := Aside0.mk (Kd.R_lower (Kd.R_new' ho0 (Kd.R_lt (by (with_reducible repeat (first | apply Kd.R_alloc | apply Kd.R_drewN | apply Kd.R_drew)); exact HO263.out))) (below_size (by repeat (first | (with_reducible first | exact HB.out | apply below_alloc | apply pw_below_drewN | apply below_drew1 | refine below_set ?_ GE259.out) | exact HB.out)))); have n2_ := Aside0.mk (blk_below (g := gb259) (o := .cells #[.slice A0_0 l0_0.length c0_0, .int .i64 a0_1] 43 (0, 0)) (by (with_reducible repeat (first | refine blk_drewN ?_ _ | refine blk_drew ?_ | refine blk_alloc ?_ _)); exact BK259.out) hb); have n3_ := Aside0.mk (below_step (by repeat (first | (with_reducible first | exact HB.out | apply below_alloc | apply pw_below_drewN | apply below_drew1 | refine below_set ?_ GE259.out) | exact HB.out)) hb); clear HO263; clear BK259; clear HB; have HO263 := n0_; have HO267 := n1_; have BK259 := n2_; have HB := n3_; clear n0_ n1_ n2_ n3_; (try clear hb); (try clear hb2); (try clear hk); (try clear hi); (try clear ho0)) | ((with_reducible refine gate_dst (N := 6) rfl ?_); refine box_event ?hg (N := 6) ?hd (cs := #[.slice none 0 0, .int .i64 0]) (t := 33) ?hr ?_; (case hd => rfl); (case hg => rfl); (case hr => first | (go_simp; done) | (go_simp; rfl)); intro gb271 hg w20 hbox hb; have n0_ := Aside0.mk (Kd.R_below (by (with_reducible repeat (first | apply Kd.R_alloc | apply Kd.R_drewN | apply Kd.R_drew)); exact HO263.out) hb); have n1_ := Aside0.mk (Kd.R_below (by (with_reducible repeat (first | apply Kd.R_alloc | apply Kd.R_drewN | apply Kd.R_drew)); exact HO267.out) hb); have n2_ := Aside0.mk (blk_below (g := gb259) (o := .cells #[.slice A0_0 l0_0.length c0_0, .int .i64 a0_1] 43 (0, 0)) (by (with_reducible repeat (first | refine blk_drewN ?_ _ | refine blk_drew ?_ | refine blk_alloc ?_ _)); exact BK259.out) hb); have n3_ := Aside0.mk (below_step (by repeat (first | (with_reducible first | exact HB.out | apply below_alloc | apply pw_below_drewN | apply below_drew1 | refine below_set ?_ GE259.out) | exact HB.out)) hb); have n4_ := Aside0.mk (hbox); have n5_ := Aside0.mk ((by rw [hg]; exact (below_size (by repeat (first | (with_reducible first | exact HB.out | apply below_alloc | apply pw_below_drewN | apply below_drew1 | refine below_set ?_ GE259.out) | exact HB.out))) : w.heap.size ≤ gb271)); have n6_ := Aside0.mk ((by rw [hg]; exact (below_size (by repeat (first | (with_reducible first | exact HB.out | apply below_alloc | apply pw_below_drewN | apply below_drew1 | refine below_set ?_ GE259.out) | exact HB.out))) : w.heap.size ≤ gb271)); have n7_ := Aside0.mk ((by rw [hg]; exact Nat.ne_of_lt (blk_lt (g := gb259) (o := .cells #[.slice A0_0 l0_0.length c0_0, .int .i64 a0_1] 43 (0, 0)) (by (with_reducible repeat (first | refine blk_drewN ?_ _ | refine blk_drew ?_ | refine blk_alloc ?_ _)); exact BK259.out)) : gb259 ≠ gb271)); have n8_ := Aside0.mk ((by rw [hg]; exact Nat.ne_of_gt (blk_lt (g := gb259) (o := .cells #[.slice A0_0 l0_0.length c0_0, .int .i64 a0_1] 43 (0, 0)) (by (with_reducible repeat (first | refine blk_drewN ?_ _ | refine blk_drew ?_ | refine blk_alloc ?_ _)); exact BK259.out)) : gb271 ≠ gb259)); clear HO263; clear HO267; clear BK259; clear HB; have HO263 := n0_; have HO267 := n1_; have BK259 := n2_; have HB := n3_; have BK271 := n4_; have GW271 := n5_; have GE271 := n6_; have NB259_271 := n7_; have NB271_259 := n8_; clear n0_ n1_ n2_ n3_ n4_ n5_ n6_ n7_ n8_; clear hb hbox hg; obtain ⟨Ao21, co21, eo21⟩ := Kd.R_slice HO267.out; subst eo21; have hnb22 := NB271_259.out; have hnc22 := NB259_271.out; have hcz23_0 : w20.cell? ⟨gb271, 0, none⟩ = some (.slice none 0 0) := (blk_cell BK271.out 0).trans rfl; have hcz23_1 : w20.cell? ⟨gb271, 1, none⟩ = some (.int .i64 0) := (blk_cell BK271.out 1).trans rfl; have hfz23_0 := blk_frozen BK271.out 0; have hfz23_1 := blk_frozen BK271.out 1; have hcz24_0 : w20.cell? ⟨gb259, 0, none⟩ = some (.slice A0_0 l0_0.length c0_0) := (blk_cell BK259.out 0).trans rfl; have hcz24_1 : w20.cell? ⟨gb259, 1, none⟩ = some (.int .i64 a0_1) := (blk_cell BK259.out 1).trans rfl; have hfz24_0 := blk_frozen BK259.out 0; have hfz24_1 := blk_frozen BK259.out 1) | ((with_reducible refine gate_callee (f := 31) rfl ?_); refine goesL_ (some 33) rfl rfl Try.func31 (by kernel_rfl) rfl #[.agg #[.slice A0_0 l0_0.length c0_0, .int .i64 a0_1]] rfl (by (try simp only [List.map_toArray, List.map_cons, List.map_nil]); first | done | rfl | (simp only [List.length_drop, List.length_take]; rfl)) ?_; (with_reducible refine (laws_toPunchJob.calls k _ _ l0_0 a0_1 t272 t275 _ ?side1 ?side2 A10.out).mono ?_); (case side1 => exact Kd.C_below HR0_0.out (by repeat (first | (with_reducible first | exact HB.out | apply below_alloc | apply pw_below_drewN | apply below_drew1 | refine below_set ?_ GE259.out | refine below_set ?_ GE271.out) | exact HB.out))); (case side2 => exact HC0_0.out); rintro e w25 ⟨v273, rfl, ho0, hb⟩; refine ⟨_, rfl, ?_⟩; have n0_ := Aside0.mk (Kd.R_elder' (by (with_reducible repeat (first | apply Kd.R_alloc | apply Kd.R_drewN | apply Kd.R_drew)); exact (Kd.R_mono (Kd.R_far (p := ⟨gb271, 1, none⟩) (Kd.R_far (p := ⟨gb271, 0, none⟩) (Kd.R_types HO263.out BK271.out (by decide)) (fun _ hk => hk.2) (.slice Ao21 t265.length co21)) (fun _ hk => hk.2) (.int .i64 t268)) (fun _ h_ => h_.1))) (Kd.R_base ho0) hb); have n1_ := Aside0.mk (Kd.R_elder' (by (with_reducible repeat (first | apply Kd.R_alloc | apply Kd.R_drewN | apply Kd.R_drew)); exact (Kd.R_mono (Kd.R_far (p := ⟨gb271, 1, none⟩) (Kd.R_far (p := ⟨gb271, 0, none⟩) (Kd.R_types HO267.out BK271.out (by decide)) (fun _ hk => hk.2) (.slice Ao21 t265.length co21)) (fun _ hk => hk.2) (.int .i64 t268)) (fun _ h_ => h_.1))) (Kd.R_base ho0) hb); have n2_ := Aside0.mk (Kd.R_lower (Kd.R_new' (Kd.R_new' ho0 (Kd.R_lt (by (with_reducible repeat (first | apply Kd.R_alloc | apply Kd.R_drewN | apply Kd.R_drew)); exact (Kd.R_mono (Kd.R_far (p := ⟨gb271, 1, none⟩) (Kd.R_far (p := ⟨gb271, 0, none⟩) (Kd.R_types HO263.out BK271.out (by decide)) (fun _ hk => hk.2) (.slice Ao21 t265.length co21)) (fun _ hk => hk.2) (.int .i64 t268)) (fun _ h_ => h_.1))))) (Kd.R_lt (by (with_reducible repeat (first | apply Kd.R_alloc | apply Kd.R_drewN | apply Kd.R_drew)); exact (Kd.R_mono (Kd.R_far (p := ⟨gb271, 1, none⟩) (Kd.R_far (p := ⟨gb271, 0, none⟩) (Kd.R_types HO267.out BK271.out (by decide)) (fun _ hk => hk.2) (.slice Ao21 t265.length co21)) (fun _ hk => hk.2) (.int .i64 t268)) (fun _ h_ => h_.1))))) (below_size (by repeat (first | (with_reducible first | exact HB.out | apply below_alloc | apply pw_below_drewN | apply below_drew1 | refine below_set ?_ GE259.out | refine below_set ?_ GE271.out) | exact HB.out)))); have n3_ := Aside0.mk (blk_below (g := gb259) (o := .cells #[.slice A0_0 l0_0.length c0_0, .int .i64 a0_1] 43 (0, 0)) (by (with_reducible repeat (first | refine blk_drewN ?_ _ | refine blk_drew ?_ | refine blk_alloc ?_ _)); refine blk_far ?_ NB259_271.out _; (with_reducible repeat (first | refine blk_drewN ?_ _ | refine blk_drew ?_ | refine blk_alloc ?_ _)); refine blk_far ?_ NB259_271.out _; (with_reducible repeat (first | refine blk_drewN ?_ _ | refine blk_drew ?_ | refine blk_alloc ?_ _)); exact BK259.out) hb); have n4_ := Aside0.mk (blk_below (g := gb271) (o := .cells #[.slice Ao21 t265.length co21, .int .i64 t268] 33 (0, 0)) (by (with_reducible repeat (first | refine blk_drewN ?_ _ | refine blk_drew ?_ | refine blk_alloc ?_ _)); refine blk_put (cs := #[.slice Ao21 t265.length co21, .int .i64 0]) ?_ 1 _ rfl; (with_reducible repeat (first | refine blk_drewN ?_ _ | refine blk_drew ?_ | refine blk_alloc ?_ _)); refine blk_put (cs := #[.slice none 0 0, .int .i64 0]) ?_ 0 _ rfl; (with_reducible repeat (first | refine blk_drewN ?_ _ | refine blk_drew ?_ | refine blk_alloc ?_ _)); exact BK271.out) hb); have n5_ := Aside0.mk (below_step (by repeat (first | (with_reducible first | exact HB.out | apply below_alloc | apply pw_below_drewN | apply below_drew1 | refine below_set ?_ GE259.out | refine below_set ?_ GE271.out) | exact HB.out)) hb); clear HO263; clear HO267; clear BK259; clear BK271; clear HB; have HO263 := n0_; have HO267 := n1_; have HO274 := n2_; have BK259 := n3_; have BK271 := n4_; have HB := n5_; clear n0_ n1_ n2_ n3_ n4_ n5_; (try clear hb); (try clear hb2); (try clear hk); (try clear hi); (try clear ho0)) | ((with_reducible refine gate_dst (N := 9) rfl ?_); refine box_event ?hg (N := 9) ?hd (cs := #[.slice none 0 0, .int .i64 0]) (t := 33) ?hr ?_; (case hd => rfl); (case hg => rfl); (case hr => first | (go_simp; done) | (go_simp; rfl)); intro gb276 hg w26 hbox hb; have n0_ := Aside0.mk (Kd.R_below (by (with_reducible repeat (first | apply Kd.R_alloc | apply Kd.R_drewN | apply Kd.R_drew)); exact HO263.out) hb); have n1_ := Aside0.mk (Kd.R_below (by (with_reducible repeat (first | apply Kd.R_alloc | apply Kd.R_drewN | apply Kd.R_drew)); exact HO267.out) hb); have n2_ := Aside0.mk (Kd.R_below (by (with_reducible repeat (first | apply Kd.R_alloc | apply Kd.R_drewN | apply Kd.R_drew)); exact HO274.out) hb); have n3_ := Aside0.mk (blk_below (g := gb259) (o := .cells #[.slice A0_0 l0_0.length c0_0, .int .i64 a0_1] 43 (0, 0)) (by (with_reducible repeat (first | refine blk_drewN ?_ _ | refine blk_drew ?_ | refine blk_alloc ?_ _)); exact BK259.out) hb); have n4_ := Aside0.mk (blk_below (g := gb271) (o := .cells #[.slice Ao21 t265.length co21, .int .i64 t268] 33 (0, 0)) (by (with_reducible repeat (first | refine blk_drewN ?_ _ | refine blk_drew ?_ | refine blk_alloc ?_ _)); exact BK271.out) hb); have n5_ := Aside0.mk (below_step (by repeat (first | (with_reducible first | exact HB.out | apply below_alloc | apply pw_below_drewN | apply below_drew1 | refine below_set ?_ GE259.out | refine below_set ?_ GE271.out) | exact HB.out)) hb); have n6_ := Aside0.mk (hbox); have n7_ := Aside0.mk ((by rw [hg]; exact (below_size (by repeat (first | (with_reducible first | exact HB.out | apply below_alloc | apply pw_below_drewN | apply below_drew1 | refine below_set ?_ GE259.out | refine below_set ?_ GE271.out) | exact HB.out))) : w.heap.size ≤ gb276)); have n8_ := Aside0.mk ((by rw [hg]; exact (below_size (by repeat (first | (with_reducible first | exact HB.out | apply below_alloc | apply pw_below_drewN | apply below_drew1 | refine below_set ?_ GE259.out | refine below_set ?_ GE271.out) | exact HB.out))) : w.heap.size ≤ gb276)); have n9_ := Aside0.mk ((by rw [hg]; exact Nat.ne_of_lt (blk_lt (g := gb259) (o := .cells #[.slice A0_0 l0_0.length c0_0, .int .i64 a0_1] 43 (0, 0)) (by (with_reducible repeat (first | refine blk_drewN ?_ _ | refine blk_drew ?_ | refine blk_alloc ?_ _)); exact BK259.out)) : gb259 ≠ gb276)); have n10_ := Aside0.mk ((by rw [hg]; exact Nat.ne_of_gt (blk_lt (g := gb259) (o := .cells #[.slice A0_0 l0_0.length c0_0, .int .i64 a0_1] 43 (0, 0)) (by (with_reducible repeat (first | refine blk_drewN ?_ _ | refine blk_drew ?_ | refine blk_alloc ?_ _)); exact BK259.out)) : gb276 ≠ gb259)); have n11_ := Aside0.mk ((by rw [hg]; exact Nat.ne_of_lt (blk_lt (g := gb271) (o := .cells #[.slice Ao21 t265.length co21, .int .i64 t268] 33 (0, 0)) (by (with_reducible repeat (first | refine blk_drewN ?_ _ | refine blk_drew ?_ | refine blk_alloc ?_ _)); exact BK271.out)) : gb271 ≠ gb276)); have n12_ := Aside0.mk ((by rw [hg]; exact Nat.ne_of_gt (blk_lt (g := gb271) (o := .cells #[.slice Ao21 t265.length co21, .int .i64 t268] 33 (0, 0)) (by (with_reducible repeat (first | refine blk_drewN ?_ _ | refine blk_drew ?_ | refine blk_alloc ?_ _)); exact BK271.out)) : gb276 ≠ gb271)); clear HO263; clear HO267; clear HO274; clear BK259; clear BK271; clear HB; have HO263 := n0_; have HO267 := n1_; have HO274 := n2_; have BK259 := n3_; have BK271 := n4_; have HB := n5_; have BK276 := n6_; have GW276 := n7_; have GE276 := n8_; have NB259_276 := n9_; have NB276_259 := n10_; have NB271_276 := n11_; have NB276_271 := n12_; clear n0_ n1_ n2_ n3_ n4_ n5_ n6_ n7_ n8_ n9_ n10_ n11_ n12_; clear hb hbox hg; obtain ⟨Ao27, co27, eo27⟩ := Kd.R_slice HO274.out; subst eo27; have hnb28 := NB276_259.out; have hnc28 := NB259_276.out; have hnb29 := NB276_271.out; have hnc29 := NB271_276.out; have hcz30_0 : w26.cell? ⟨gb276, 0, none⟩ = some (.slice none 0 0) := (blk_cell BK276.out 0).trans rfl; have hcz30_1 : w26.cell? ⟨gb276, 1, none⟩ = some (.int .i64 0) := (blk_cell BK276.out 1).trans rfl; have hfz30_0 := blk_frozen BK276.out 0; have hfz30_1 := blk_frozen BK276.out 1) | ((with_reducible refine gate_callee (f := 32) rfl ?_); refine goesL_ (some 37) rfl rfl Try.func32 (by kernel_rfl) rfl #[.agg #[.slice Ao27 t272.length co27, .int .i64 t275], .int .i64 a1] rfl (by (try simp only [List.map_toArray, List.map_cons, List.map_nil]); first | done | rfl | (simp only [List.length_drop, List.length_take]; rfl)) ?_; (with_reducible refine (impl_ResumeAt.calls k _ _ t272 t275 a1 t277 t280 t281 t282 _ ?side1 ?side2 A11.out).mono ?_); (case side1 => refine (Kd.R_reads' (e := 106) (base := w.heap.size) (ok := fun k_ => ((True ∧ some k_ ≠ (.slice Ao18 t261.length co18 : Value).ownBlock) ∧ some k_ ≠ (.slice Ao21 t265.length co21 : Value).ownBlock)) (n := t272.length) (c := co27) ?_).2.2; exact (by (with_reducible repeat (first | apply Kd.R_alloc | apply Kd.R_drewN | apply Kd.R_drew)); exact (Kd.R_mono (Kd.R_far (p := ⟨gb276, 1, none⟩) (Kd.R_far (p := ⟨gb276, 0, none⟩) (Kd.R_types HO274.out BK276.out (by decide)) (fun _ hk => hk.2) (.slice Ao27 t272.length co27)) (fun _ hk => hk.2) (.int .i64 t275)) (fun _ h_ => h_.1)))); (case side2 => exact (Kd.R_reads' HO274.out).2.1); rintro e w31 ⟨v278, rfl, ho0, hb⟩; refine ⟨_, rfl, ?_⟩; have n0_ := Aside0.mk (Kd.R_elder' (by (with_reducible repeat (first | apply Kd.R_alloc | apply Kd.R_drewN | apply Kd.R_drew)); exact (Kd.R_mono (Kd.R_far (p := ⟨gb276, 1, none⟩) (Kd.R_far (p := ⟨gb276, 0, none⟩) (Kd.R_types HO263.out BK276.out (by decide)) (fun _ hk => hk.2) (.slice Ao27 t272.length co27)) (fun _ hk => hk.2) (.int .i64 t275)) (fun _ h_ => h_.1))) (Kd.R_base ho0) hb); have n1_ := Aside0.mk (Kd.R_elder' (by (with_reducible repeat (first | apply Kd.R_alloc | apply Kd.R_drewN | apply Kd.R_drew)); exact (Kd.R_mono (Kd.R_far (p := ⟨gb276, 1, none⟩) (Kd.R_far (p := ⟨gb276, 0, none⟩) (Kd.R_types HO267.out BK276.out (by decide)) (fun _ hk => hk.2) (.slice Ao27 t272.length co27)) (fun _ hk => hk.2) (.int .i64 t275)) (fun _ h_ => h_.1))) (Kd.R_base ho0) hb); have n2_ := Aside0.mk (Kd.R_elder' (by (with_reducible repeat (first | apply Kd.R_alloc | apply Kd.R_drewN | apply Kd.R_drew)); exact (Kd.R_mono (Kd.R_far (p := ⟨gb276, 1, none⟩) (Kd.R_far (p := ⟨gb276, 0, none⟩) (Kd.R_types HO274.out BK276.out (by decide)) (fun _ hk => hk.2) (.slice Ao27 t272.length co27)) (fun _ hk => hk.2) (.int .i64 t275)) (fun _ h_ => h_.1))) (Kd.R_base ho0) hb); have n3_ := Aside0.mk (Kd.R_lower (Kd.R_new' (Kd.R_new' (Kd.R_new' ho0 (Kd.R_lt (by (with_reducible repeat (first | apply Kd.R_alloc | apply Kd.R_drewN | apply Kd.R_drew)); exact (Kd.R_mono (Kd.R_far (p := ⟨gb276, 1, none⟩) (Kd.R_far (p := ⟨gb276, 0, none⟩) (Kd.R_types HO263.out BK276.out (by decide)) (fun _ hk => hk.2) (.slice Ao27 t272.length co27)) (fun _ hk => hk.2) (.int .i64 t275)) (fun _ h_ => h_.1))))) (Kd.R_lt (by (with_reducible repeat (first | apply Kd.R_alloc | apply Kd.R_drewN | apply Kd.R_drew)); exact (Kd.R_mono (Kd.R_far (p := ⟨gb276, 1, none⟩) (Kd.R_far (p := ⟨gb276, 0, none⟩) (Kd.R_types HO267.out BK276.out (by decide)) (fun _ hk => hk.2) (.slice Ao27 t272.length co27)) (fun _ hk => hk.2) (.int .i64 t275)) (fun _ h_ => h_.1))))) (Kd.R_lt (by (with_reducible repeat (first | apply Kd.R_alloc | apply Kd.R_drewN | apply Kd.R_drew)); exact (Kd.R_mono (Kd.R_far (p := ⟨gb276, 1, none⟩) (Kd.R_far (p := ⟨gb276, 0, none⟩) (Kd.R_types HO274.out BK276.out (by decide)) (fun _ hk => hk.2) (.slice Ao27 t272.length co27)) (fun _ hk => hk.2) (.int .i64 t275)) (fun _ h_ => h_.1))))) (below_size (by repeat (first | (with_reducible first | exact HB.out | apply below_alloc | apply pw_below_drewN | apply below_drew1 | refine below_set ?_ GE259.out | refine below_set ?_ GE271.out | refine below_set ?_ GE276.out) | exact HB.out)))); have n4_ := Aside0.mk (blk_below (g := gb259) (o := .cells #[.slice A0_0 l0_0.length c0_0, .int .i64 a0_1] 43 (0, 0)) (by (with_reducible repeat (first | refine blk_drewN ?_ _ | refine blk_drew ?_ | refine blk_alloc ?_ _)); refine blk_far ?_ NB259_276.out _; (with_reducible repeat (first | refine blk_drewN ?_ _ | refine blk_drew ?_ | refine blk_alloc ?_ _)); refine blk_far ?_ NB259_276.out _; (with_reducible repeat (first | refine blk_drewN ?_ _ | refine blk_drew ?_ | refine blk_alloc ?_ _)); exact BK259.out) hb); have n5_ := Aside0.mk (blk_below (g := gb271) (o := .cells #[.slice Ao21 t265.length co21, .int .i64 t268] 33 (0, 0)) (by (with_reducible repeat (first | refine blk_drewN ?_ _ | refine blk_drew ?_ | refine blk_alloc ?_ _)); refine blk_far ?_ NB271_276.out _; (with_reducible repeat (first | refine blk_drewN ?_ _ | refine blk_drew ?_ | refine blk_alloc ?_ _)); refine blk_far ?_ NB271_276.out _; (with_reducible repeat (first | refine blk_drewN ?_ _ | refine blk_drew ?_ | refine blk_alloc ?_ _)); exact BK271.out) hb); have n6_ := Aside0.mk (blk_below (g := gb276) (o := .cells #[.slice Ao27 t272.length co27, .int .i64 t275] 33 (0, 0)) (by (with_reducible repeat (first | refine blk_drewN ?_ _ | refine blk_drew ?_ | refine blk_alloc ?_ _)); refine blk_put (cs := #[.slice Ao27 t272.length co27, .int .i64 0]) ?_ 1 _ rfl; (with_reducible repeat (first | refine blk_drewN ?_ _ | refine blk_drew ?_ | refine blk_alloc ?_ _)); refine blk_put (cs := #[.slice none 0 0, .int .i64 0]) ?_ 0 _ rfl; (with_reducible repeat (first | refine blk_drewN ?_ _ | refine blk_drew ?_ | refine blk_alloc ?_ _)); exact BK276.out) hb); have n7_ := Aside0.mk (below_step (by repeat (first | (with_reducible first | exact HB.out | apply below_alloc | apply pw_below_drewN | apply below_drew1 | refine below_set ?_ GE259.out | refine below_set ?_ GE271.out | refine below_set ?_ GE276.out) | exact HB.out)) hb); clear HO263; clear HO267; clear HO274; clear BK259; clear BK271; clear BK276; clear HB; have HO263 := n0_; have HO267 := n1_; have HO274 := n2_; have HO279 := n3_; have BK259 := n4_; have BK271 := n5_; have BK276 := n6_; have HB := n7_; clear n0_ n1_ n2_ n3_ n4_ n5_ n6_ n7_; (try clear hb); (try clear hb2); (try clear hk); (try clear hi); (try clear ho0)) | ((with_reducible refine gate_dst (N := 10) rfl ?_); refine box_event ?hg (N := 10) ?hd (cs := #[.slice none 0 0, .int .i64 0]) (t := 33) ?hr ?_; (case hd => rfl); (case hg => rfl); (case hr => first | (go_simp; done) | (go_simp; rfl)); intro gb283 hg w32 hbox hb; have n0_ := Aside0.mk (Kd.R_below (by (with_reducible repeat (first | apply Kd.R_alloc | apply Kd.R_drewN | apply Kd.R_drew)); exact HO263.out) hb); have n1_ := Aside0.mk (Kd.R_below (by (with_reducible repeat (first | apply Kd.R_alloc | apply Kd.R_drewN | apply Kd.R_drew)); exact HO267.out) hb); have n2_ := Aside0.mk (Kd.R_below (by (with_reducible repeat (first | apply Kd.R_alloc | apply Kd.R_drewN | apply Kd.R_drew)); exact HO274.out) hb); have n3_ := Aside0.mk (Kd.R_below (by (with_reducible repeat (first | apply Kd.R_alloc | apply Kd.R_drewN | apply Kd.R_drew)); exact HO279.out) hb); have n4_ := Aside0.mk (blk_below (g := gb259) (o := .cells #[.slice A0_0 l0_0.length c0_0, .int .i64 a0_1] 43 (0, 0)) (by (with_reducible repeat (first | refine blk_drewN ?_ _ | refine blk_drew ?_ | refine blk_alloc ?_ _)); exact BK259.out) hb); have n5_ := Aside0.mk (blk_below (g := gb271) (o := .cells #[.slice Ao21 t265.length co21, .int .i64 t268] 33 (0, 0)) (by (with_reducible repeat (first | refine blk_drewN ?_ _ | refine blk_drew ?_ | refine blk_alloc ?_ _)); exact BK271.out) hb); have n6_ := Aside0.mk (blk_below (g := gb276) (o := .cells #[.slice Ao27 t272.length co27, .int .i64 t275] 33 (0, 0)) (by (with_reducible repeat (first | refine blk_drewN ?_ _ | refine blk_drew ?_ | refine blk_alloc ?_ _)); exact BK276.out) hb); have n7_ := Aside0.mk (below_step (by repeat (first | (with_reducible first | exact HB.out | apply below_alloc | apply pw_below_drewN | apply below_drew1 | refine below_set ?_ GE259.out | refine below_set ?_ GE271.out | refine below_set ?_ GE276.out) | exact HB.out)) hb); have n8_ := Aside0.mk (hbox); have n9_ := Aside0.mk ((by rw [hg]; exact (below_size (by repeat (first | (with_reducible first | exact HB.out | apply below_alloc | apply pw_below_drewN | apply below_drew1 | refine below_set ?_ GE259.out | refine below_set ?_ GE271.out | refine below_set ?_ GE276.out) | exact HB.out))) : w.heap.size ≤ gb283)); have n10_ := Aside0.mk ((by rw [hg]; exact (below_size (by repeat (first | (with_reducible first | exact HB.out | apply below_alloc | apply pw_below_drewN | apply below_drew1 | refine below_set ?_ GE259.out | refine below_set ?_ GE271.out | refine below_set ?_ GE276.out) | exact HB.out))) : w.heap.size ≤ gb283)); have n11_ := Aside0.mk ((by rw [hg]; exact Nat.ne_of_lt (blk_lt (g := gb259) (o := .cells #[.slice A0_0 l0_0.length c0_0, .int .i64 a0_1] 43 (0, 0)) (by (with_reducible repeat (first | refine blk_drewN ?_ _ | refine blk_drew ?_ | refine blk_alloc ?_ _)); exact BK259.out)) : gb259 ≠ gb283)); have n12_ := Aside0.mk ((by rw [hg]; exact Nat.ne_of_gt (blk_lt (g := gb259) (o := .cells #[.slice A0_0 l0_0.length c0_0, .int .i64 a0_1] 43 (0, 0)) (by (with_reducible repeat (first | refine blk_drewN ?_ _ | refine blk_drew ?_ | refine blk_alloc ?_ _)); exact BK259.out)) : gb283 ≠ gb259)); have n13_ := Aside0.mk ((by rw [hg]; exact Nat.ne_of_lt (blk_lt (g := gb271) (o := .cells #[.slice Ao21 t265.length co21, .int .i64 t268] 33 (0, 0)) (by (with_reducible repeat (first | refine blk_drewN ?_ _ | refine blk_drew ?_ | refine blk_alloc ?_ _)); exact BK271.out)) : gb271 ≠ gb283)); have n14_ := Aside0.mk ((by rw [hg]; exact Nat.ne_of_gt (blk_lt (g := gb271) (o := .cells #[.slice Ao21 t265.length co21, .int .i64 t268] 33 (0, 0)) (by (with_reducible repeat (first | refine blk_drewN ?_ _ | refine blk_drew ?_ | refine blk_alloc ?_ _)); exact BK271.out)) : gb283 ≠ gb271)); have n15_ := Aside0.mk ((by rw [hg]; exact Nat.ne_of_lt (blk_lt (g := gb276) (o := .cells #[.slice Ao27 t272.length co27, .int .i64 t275] 33 (0, 0)) (by (with_reducible repeat (first | refine blk_drewN ?_ _ | refine blk_drew ?_ | refine blk_alloc ?_ _)); exact BK276.out)) : gb276 ≠ gb283)); have n16_ := Aside0.mk ((by rw [hg]; exact Nat.ne_of_gt (blk_lt (g := gb276) (o := .cells #[.slice Ao27 t272.length co27, .int .i64 t275] 33 (0, 0)) (by (with_reducible repeat (first | refine blk_drewN ?_ _ | refine blk_drew ?_ | refine blk_alloc ?_ _)); exact BK276.out)) : gb283 ≠ gb276)); clear HO263; clear HO267; clear HO274; clear HO279; clear BK259; clear BK271; clear BK276; clear HB; have HO263 := n0_; have HO267 := n1_; have HO274 := n2_; have HO279 := n3_; have BK259 := n4_; have BK271 := n5_; have BK276 := n6_; have HB := n7_; have BK283 := n8_; have GW283 := n9_; have GE283 := n10_; have NB259_283 := n11_; have NB283_259 := n12_; have NB271_283 := n13_; have NB283_271 := n14_; have NB276_283 := n15_; have NB283_276 := n16_; clear n0_ n1_ n2_ n3_ n4_ n5_ n6_ n7_ n8_ n9_ n10_ n11_ n12_ n13_ n14_ n15_ n16_; clear hb hbox hg; obtain ⟨Ao33, co33, eo33⟩ := Kd.R_slice HO279.out; subst eo33; have hnb34 := NB283_259.out; have hnc34 := NB259_283.out; have hnb35 := NB283_271.out; have hnc35 := NB271_283.out; have hnb36 := NB283_276.out; have hnc36 := NB276_283.out; have hcz37_0 : w32.cell? ⟨gb283, 0, none⟩ = some (.slice none 0 0) := (blk_cell BK283.out 0).trans rfl; have hcz37_1 : w32.cell? ⟨gb283, 1, none⟩ = some (.int .i64 0) := (blk_cell BK283.out 1).trans rfl; have hfz37_0 := blk_frozen BK283.out 0; have hfz37_1 := blk_frozen BK283.out 1))
    (try simp only [Act.put, List.setIfInBounds_toArray, List.set_cons_zero, List.set_cons_succ])
    go_cut [54] (fun v54 wc => ∃ (kq : Nat) (x54_11 : Bool), v54 = .bool x54_11 ∧ Aside0 (laws_FnExactResumeAt.j0 kq a1 t269 t270 t281 t282 x54_11 l0_0 a0_1 t265 t268 t272 t275 t277 t280 = some r) ∧ Aside0 (kq ≤ k) ∧ Aside0 (Kd.R k106 106 wc w.heap.size (fun k_ => some k_ ≠ ((.slice Ao27 t272.length co27) : Value).ownBlock ∧ some k_ ≠ ((.slice Ao33 t277.length co33) : Value).ownBlock) (.slice Ao21 t265.length co21) t265) ∧ Aside0 (Kd.R k106 106 wc w.heap.size (fun k_ => some k_ ≠ ((.slice Ao21 t265.length co21) : Value).ownBlock ∧ some k_ ≠ ((.slice Ao33 t277.length co33) : Value).ownBlock) (.slice Ao27 t272.length co27) t272) ∧ Aside0 (Kd.R k106 106 wc w.heap.size (fun k_ => some k_ ≠ ((.slice Ao21 t265.length co21) : Value).ownBlock ∧ some k_ ≠ ((.slice Ao27 t272.length co27) : Value).ownBlock) (.slice Ao33 t277.length co33) t277) ∧ Aside0 (wc.heap[gb259]? = some (.cells #[(.slice A0_0 l0_0.length c0_0), .int .i64 a0_1] 43 (0, 0))) ∧ Aside0 (wc.heap[gb271]? = some (.cells #[(.slice Ao21 t265.length co21), .int .i64 t268] 33 (0, 0))) ∧ Aside0 (wc.heap[gb276]? = some (.cells #[(.slice Ao27 t272.length co27), .int .i64 t275] 33 (0, 0))) ∧ Aside0 (wc.heap[gb283]? = some (.cells #[(.slice Ao33 t277.length co33), .int .i64 t280] 33 (0, 0))) ∧ Aside0 (Below w.heap.size w wc))
    case first =>
      have H := HC12.out
      clear HC12
      replace H := Option.bind_eq_some_iff.mp H
      obtain ⟨t284, A380, H⟩ := H
      replace H : (if t284 = true then (if t281 = t269 then (laws_FnExactResumeAt.j0 k a1 t269 t270 t281 t282 (t282 != t270) l0_0 a0_1 t265 t268 t272 t275 t277 t280) else (laws_FnExactResumeAt.j0 k a1 t269 t270 t281 t282 true l0_0 a0_1 t265 t268 t272 t275 t277 t280)) else (laws_FnExactResumeAt.j0 k a1 t269 t270 t281 t282 true l0_0 a0_1 t265 t268 t272 t275 t277 t280)) = some r := H
      have A38 := Aside0.mk A380
      clear A380
      by_cases c39 : t284 = true
      · subst c39
        have H1 : (if t281 = t269 then (laws_FnExactResumeAt.j0 k a1 t269 t270 t281 t282 (t282 != t270) l0_0 a0_1 t265 t268 t272 t275 t277 t280) else (laws_FnExactResumeAt.j0 k a1 t269 t270 t281 t282 true l0_0 a0_1 t265 t268 t272 t275 t277 t280)) = some r := by rw [if_pos rfl] at H; exact H
        clear H
        have H := H1
        clear H1
        by_cases c40 : t281 = t269
        · rw [if_pos c40] at H
          have c40b0 : (t281 == t269) = true := beq_iff_eq.mpr c40
          have c40b1 : (t281 != t269) = false := bne_eq_false_iff_eq.mpr c40
          clear c40
          (first | rw [c40b0] | (simp only [i64_w, i32_w]; rw [c40b0]) | skip)
          have H' := Aside0.mk H
          clear H
          have hnb41 := NB283_259.out
          have hnc41 := NB259_283.out
          have hnb42 := NB283_271.out
          have hnc42 := NB271_283.out
          have hnb43 := NB283_276.out
          have hnc43 := NB276_283.out
          have hcz44_0 : w32.cell? ⟨gb283, 0, none⟩ = some (.slice none 0 0) := (blk_cell BK283.out 0).trans rfl
          have hcz44_1 : w32.cell? ⟨gb283, 1, none⟩ = some (.int .i64 0) := (blk_cell BK283.out 1).trans rfl
          have hfz44_0 := blk_frozen BK283.out 0
          have hfz44_1 := blk_frozen BK283.out 1
          have hnb45 := NB271_259.out
          have hnc45 := NB259_271.out
          have hnb46 := NB271_276.out
          have hnc46 := NB276_271.out
          have hcz47_0 : w32.cell? ⟨gb271, 0, none⟩ = some (.slice Ao21 t265.length co21) := (blk_cell BK271.out 0).trans rfl
          have hcz47_1 : w32.cell? ⟨gb271, 1, none⟩ = some (.int .i64 t268) := (blk_cell BK271.out 1).trans rfl
          have hfz47_0 := blk_frozen BK271.out 0
          have hfz47_1 := blk_frozen BK271.out 1
          go_wp2_with (first | ((with_reducible refine gate_callee (f := 24) rfl ?_); refine goesL_ (some 43) rfl rfl Try.func24 (by kernel_rfl) rfl #[.agg #[.slice Ao33 t277.length co33, .int .i64 t280], .agg #[.slice Ao21 t265.length co21, .int .i64 t268]] rfl (by (try simp only [List.map_toArray, List.map_cons, List.map_nil]); first | done | rfl | (simp only [List.length_drop, List.length_take]; rfl)) ?_; (with_reducible refine (laws_eqPunchJob.calls k _ _ t277 t280 _ _ t265 t268 true _ ?side1 ?side2 ?side3 ?side4 A38.out).mono ?_); (case side1 => refine (Kd.R_reads' (e := 106) (base := w.heap.size) (ok := fun k_ => (((True ∧ some k_ ≠ (.slice Ao18 t261.length co18 : Value).ownBlock) ∧ some k_ ≠ (.slice Ao21 t265.length co21 : Value).ownBlock) ∧ some k_ ≠ (.slice Ao27 t272.length co27 : Value).ownBlock)) (n := t277.length) (c := co33) ?_).2.2; exact (by (with_reducible repeat (first | apply Kd.R_alloc | apply Kd.R_drewN | apply Kd.R_drew)); exact (Kd.R_mono (Kd.R_far (p := ⟨gb283, 1, none⟩) (Kd.R_far (p := ⟨gb283, 0, none⟩) (Kd.R_types HO279.out BK283.out (by decide)) (fun _ hk => hk.2) (.slice Ao33 t277.length co33)) (fun _ hk => hk.2) (.int .i64 t280)) (fun _ h_ => h_.1)))); (case side2 => exact (Kd.R_reads' HO279.out).2.1); (case side3 => refine (Kd.R_reads' (e := 106) (base := w.heap.size) (ok := fun k_ => (((True ∧ some k_ ≠ (.slice Ao18 t261.length co18 : Value).ownBlock) ∧ some k_ ≠ (.slice Ao27 t272.length co27 : Value).ownBlock) ∧ some k_ ≠ (.slice Ao33 t277.length co33 : Value).ownBlock)) (n := t265.length) (c := co21) ?_).2.2; exact (by (with_reducible repeat (first | apply Kd.R_alloc | apply Kd.R_drewN | apply Kd.R_drew)); exact (Kd.R_mono (Kd.R_far (p := ⟨gb283, 1, none⟩) (Kd.R_far (p := ⟨gb283, 0, none⟩) (Kd.R_types HO267.out BK283.out (by decide)) (fun _ hk => hk.2) (.slice Ao33 t277.length co33)) (fun _ hk => hk.2) (.int .i64 t280)) (fun _ h_ => h_.1)))); (case side4 => exact (Kd.R_reads' HO267.out).2.1); rintro e w48 ⟨rfl, hb⟩; refine ⟨_, rfl, ?_⟩; have n0_ := Aside0.mk (Kd.R_below (by (with_reducible repeat (first | apply Kd.R_alloc | apply Kd.R_drewN | apply Kd.R_drew)); exact (Kd.R_mono (Kd.R_far (p := ⟨gb283, 1, none⟩) (Kd.R_far (p := ⟨gb283, 0, none⟩) (Kd.R_types HO263.out BK283.out (by decide)) (fun _ hk => hk.2) (.slice Ao33 t277.length co33)) (fun _ hk => hk.2) (.int .i64 t280)) (fun _ h_ => h_.1))) hb); have n1_ := Aside0.mk (Kd.R_below (by (with_reducible repeat (first | apply Kd.R_alloc | apply Kd.R_drewN | apply Kd.R_drew)); exact (Kd.R_mono (Kd.R_far (p := ⟨gb283, 1, none⟩) (Kd.R_far (p := ⟨gb283, 0, none⟩) (Kd.R_types HO267.out BK283.out (by decide)) (fun _ hk => hk.2) (.slice Ao33 t277.length co33)) (fun _ hk => hk.2) (.int .i64 t280)) (fun _ h_ => h_.1))) hb); have n2_ := Aside0.mk (Kd.R_below (by (with_reducible repeat (first | apply Kd.R_alloc | apply Kd.R_drewN | apply Kd.R_drew)); exact (Kd.R_mono (Kd.R_far (p := ⟨gb283, 1, none⟩) (Kd.R_far (p := ⟨gb283, 0, none⟩) (Kd.R_types HO274.out BK283.out (by decide)) (fun _ hk => hk.2) (.slice Ao33 t277.length co33)) (fun _ hk => hk.2) (.int .i64 t280)) (fun _ h_ => h_.1))) hb); have n3_ := Aside0.mk (Kd.R_below (by (with_reducible repeat (first | apply Kd.R_alloc | apply Kd.R_drewN | apply Kd.R_drew)); exact (Kd.R_mono (Kd.R_far (p := ⟨gb283, 1, none⟩) (Kd.R_far (p := ⟨gb283, 0, none⟩) (Kd.R_types HO279.out BK283.out (by decide)) (fun _ hk => hk.2) (.slice Ao33 t277.length co33)) (fun _ hk => hk.2) (.int .i64 t280)) (fun _ h_ => h_.1))) hb); have n4_ := Aside0.mk (blk_below (g := gb259) (o := .cells #[.slice A0_0 l0_0.length c0_0, .int .i64 a0_1] 43 (0, 0)) (by (with_reducible repeat (first | refine blk_drewN ?_ _ | refine blk_drew ?_ | refine blk_alloc ?_ _)); refine blk_far ?_ NB259_283.out _; (with_reducible repeat (first | refine blk_drewN ?_ _ | refine blk_drew ?_ | refine blk_alloc ?_ _)); refine blk_far ?_ NB259_283.out _; (with_reducible repeat (first | refine blk_drewN ?_ _ | refine blk_drew ?_ | refine blk_alloc ?_ _)); exact BK259.out) hb); have n5_ := Aside0.mk (blk_below (g := gb271) (o := .cells #[.slice Ao21 t265.length co21, .int .i64 t268] 33 (0, 0)) (by (with_reducible repeat (first | refine blk_drewN ?_ _ | refine blk_drew ?_ | refine blk_alloc ?_ _)); refine blk_far ?_ NB271_283.out _; (with_reducible repeat (first | refine blk_drewN ?_ _ | refine blk_drew ?_ | refine blk_alloc ?_ _)); refine blk_far ?_ NB271_283.out _; (with_reducible repeat (first | refine blk_drewN ?_ _ | refine blk_drew ?_ | refine blk_alloc ?_ _)); exact BK271.out) hb); have n6_ := Aside0.mk (blk_below (g := gb276) (o := .cells #[.slice Ao27 t272.length co27, .int .i64 t275] 33 (0, 0)) (by (with_reducible repeat (first | refine blk_drewN ?_ _ | refine blk_drew ?_ | refine blk_alloc ?_ _)); refine blk_far ?_ NB276_283.out _; (with_reducible repeat (first | refine blk_drewN ?_ _ | refine blk_drew ?_ | refine blk_alloc ?_ _)); refine blk_far ?_ NB276_283.out _; (with_reducible repeat (first | refine blk_drewN ?_ _ | refine blk_drew ?_ | refine blk_alloc ?_ _)); exact BK276.out) hb); have n7_ := Aside0.mk (blk_below (g := gb283) (o := .cells #[.slice Ao33 t277.length co33, .int .i64 t280] 33 (0, 0)) (by (with_reducible repeat (first | refine blk_drewN ?_ _ | refine blk_drew ?_ | refine blk_alloc ?_ _)); refine blk_put (cs := #[.slice Ao33 t277.length co33, .int .i64 0]) ?_ 1 _ rfl; (with_reducible repeat (first | refine blk_drewN ?_ _ | refine blk_drew ?_ | refine blk_alloc ?_ _)); refine blk_put (cs := #[.slice none 0 0, .int .i64 0]) ?_ 0 _ rfl; (with_reducible repeat (first | refine blk_drewN ?_ _ | refine blk_drew ?_ | refine blk_alloc ?_ _)); exact BK283.out) hb); have n8_ := Aside0.mk (below_step (by repeat (first | (with_reducible first | exact HB.out | apply below_alloc | apply pw_below_drewN | apply below_drew1 | refine below_set ?_ GE259.out | refine below_set ?_ GE271.out | refine below_set ?_ GE276.out | refine below_set ?_ GE283.out) | exact HB.out)) hb); clear HO263; clear HO267; clear HO274; clear HO279; clear BK259; clear BK271; clear BK276; clear BK283; clear HB; have HO263 := n0_; have HO267 := n1_; have HO274 := n2_; have HO279 := n3_; have BK259 := n4_; have BK271 := n5_; have BK276 := n6_; have BK283 := n7_; have HB := n8_; clear n0_ n1_ n2_ n3_ n4_ n5_ n6_ n7_ n8_; (try clear hb); (try clear hb2); (try clear hk); (try clear hi)))
          go_meet
          case rel => exact ⟨_, ((t282 != t270)), (by first | rfl | (simp; done) | (simp [*]; done)), H', ⟨by first | omega | exact Nat.le_refl _⟩, ⟨by (with_reducible repeat (first | apply Kd.R_alloc | apply Kd.R_drewN | apply Kd.R_drew)); exact Kd.R_mono HO267.out (fun _ hk => ⟨hk.1.2, hk.2⟩)⟩, ⟨by (with_reducible repeat (first | apply Kd.R_alloc | apply Kd.R_drewN | apply Kd.R_drew)); exact Kd.R_mono HO274.out (fun _ hk => ⟨hk.1.2, hk.2⟩)⟩, ⟨by (with_reducible repeat (first | apply Kd.R_alloc | apply Kd.R_drewN | apply Kd.R_drew)); exact Kd.R_mono HO279.out (fun _ hk => ⟨hk.1.2, hk.2⟩)⟩, ⟨by (with_reducible repeat (first | refine blk_drewN ?_ _ | refine blk_drew ?_ | refine blk_alloc ?_ _)); exact BK259.out⟩, ⟨by (with_reducible repeat (first | refine blk_drewN ?_ _ | refine blk_drew ?_ | refine blk_alloc ?_ _)); exact BK271.out⟩, ⟨by (with_reducible repeat (first | refine blk_drewN ?_ _ | refine blk_drew ?_ | refine blk_alloc ?_ _)); exact BK276.out⟩, ⟨by (with_reducible repeat (first | refine blk_drewN ?_ _ | refine blk_drew ?_ | refine blk_alloc ?_ _)); exact BK283.out⟩, ⟨by repeat (first | (with_reducible first | exact HB.out | apply below_alloc | apply pw_below_drewN | apply below_drew1 | refine below_set ?_ GE259.out | refine below_set ?_ GE271.out | refine below_set ?_ GE276.out | refine below_set ?_ GE283.out) | exact HB.out)⟩⟩
        · rw [if_neg c40] at H
          have c40b0 : (t281 == t269) = false := beq_eq_false_iff_ne.mpr c40
          have c40b1 : (t281 != t269) = true := bne_iff_ne.mpr c40
          (first | rw [c40b0] | (simp only [i64_w, i32_w]; rw [c40b0]) | skip)
          have H' := Aside0.mk H
          clear H
          have hnb49 := NB283_259.out
          have hnc49 := NB259_283.out
          have hnb50 := NB283_271.out
          have hnc50 := NB271_283.out
          have hnb51 := NB283_276.out
          have hnc51 := NB276_283.out
          have hcz52_0 : w32.cell? ⟨gb283, 0, none⟩ = some (.slice none 0 0) := (blk_cell BK283.out 0).trans rfl
          have hcz52_1 : w32.cell? ⟨gb283, 1, none⟩ = some (.int .i64 0) := (blk_cell BK283.out 1).trans rfl
          have hfz52_0 := blk_frozen BK283.out 0
          have hfz52_1 := blk_frozen BK283.out 1
          have hnb53 := NB271_259.out
          have hnc53 := NB259_271.out
          have hnb54 := NB271_276.out
          have hnc54 := NB276_271.out
          have hcz55_0 : w32.cell? ⟨gb271, 0, none⟩ = some (.slice Ao21 t265.length co21) := (blk_cell BK271.out 0).trans rfl
          have hcz55_1 : w32.cell? ⟨gb271, 1, none⟩ = some (.int .i64 t268) := (blk_cell BK271.out 1).trans rfl
          have hfz55_0 := blk_frozen BK271.out 0
          have hfz55_1 := blk_frozen BK271.out 1
          go_wp2_with (first | ((with_reducible refine gate_callee (f := 24) rfl ?_); refine goesL_ (some 43) rfl rfl Try.func24 (by kernel_rfl) rfl #[.agg #[.slice Ao33 t277.length co33, .int .i64 t280], .agg #[.slice Ao21 t265.length co21, .int .i64 t268]] rfl (by (try simp only [List.map_toArray, List.map_cons, List.map_nil]); first | done | rfl | (simp only [List.length_drop, List.length_take]; rfl)) ?_; (with_reducible refine (laws_eqPunchJob.calls k _ _ t277 t280 _ _ t265 t268 true _ ?side1 ?side2 ?side3 ?side4 A38.out).mono ?_); (case side1 => refine (Kd.R_reads' (e := 106) (base := w.heap.size) (ok := fun k_ => (((True ∧ some k_ ≠ (.slice Ao18 t261.length co18 : Value).ownBlock) ∧ some k_ ≠ (.slice Ao21 t265.length co21 : Value).ownBlock) ∧ some k_ ≠ (.slice Ao27 t272.length co27 : Value).ownBlock)) (n := t277.length) (c := co33) ?_).2.2; exact (by (with_reducible repeat (first | apply Kd.R_alloc | apply Kd.R_drewN | apply Kd.R_drew)); exact (Kd.R_mono (Kd.R_far (p := ⟨gb283, 1, none⟩) (Kd.R_far (p := ⟨gb283, 0, none⟩) (Kd.R_types HO279.out BK283.out (by decide)) (fun _ hk => hk.2) (.slice Ao33 t277.length co33)) (fun _ hk => hk.2) (.int .i64 t280)) (fun _ h_ => h_.1)))); (case side2 => exact (Kd.R_reads' HO279.out).2.1); (case side3 => refine (Kd.R_reads' (e := 106) (base := w.heap.size) (ok := fun k_ => (((True ∧ some k_ ≠ (.slice Ao18 t261.length co18 : Value).ownBlock) ∧ some k_ ≠ (.slice Ao27 t272.length co27 : Value).ownBlock) ∧ some k_ ≠ (.slice Ao33 t277.length co33 : Value).ownBlock)) (n := t265.length) (c := co21) ?_).2.2; exact (by (with_reducible repeat (first | apply Kd.R_alloc | apply Kd.R_drewN | apply Kd.R_drew)); exact (Kd.R_mono (Kd.R_far (p := ⟨gb283, 1, none⟩) (Kd.R_far (p := ⟨gb283, 0, none⟩) (Kd.R_types HO267.out BK283.out (by decide)) (fun _ hk => hk.2) (.slice Ao33 t277.length co33)) (fun _ hk => hk.2) (.int .i64 t280)) (fun _ h_ => h_.1)))); (case side4 => exact (Kd.R_reads' HO267.out).2.1); rintro e w56 ⟨rfl, hb⟩; refine ⟨_, rfl, ?_⟩; have n0_ := Aside0.mk (Kd.R_below (by (with_reducible repeat (first | apply Kd.R_alloc | apply Kd.R_drewN | apply Kd.R_drew)); exact (Kd.R_mono (Kd.R_far (p := ⟨gb283, 1, none⟩) (Kd.R_far (p := ⟨gb283, 0, none⟩) (Kd.R_types HO263.out BK283.out (by decide)) (fun _ hk => hk.2) (.slice Ao33 t277.length co33)) (fun _ hk => hk.2) (.int .i64 t280)) (fun _ h_ => h_.1))) hb); have n1_ := Aside0.mk (Kd.R_below (by (with_reducible repeat (first | apply Kd.R_alloc | apply Kd.R_drewN | apply Kd.R_drew)); exact (Kd.R_mono (Kd.R_far (p := ⟨gb283, 1, none⟩) (Kd.R_far (p := ⟨gb283, 0, none⟩) (Kd.R_types HO267.out BK283.out (by decide)) (fun _ hk => hk.2) (.slice Ao33 t277.length co33)) (fun _ hk => hk.2) (.int .i64 t280)) (fun _ h_ => h_.1))) hb); have n2_ := Aside0.mk (Kd.R_below (by (with_reducible repeat (first | apply Kd.R_alloc | apply Kd.R_drewN | apply Kd.R_drew)); exact (Kd.R_mono (Kd.R_far (p := ⟨gb283, 1, none⟩) (Kd.R_far (p := ⟨gb283, 0, none⟩) (Kd.R_types HO274.out BK283.out (by decide)) (fun _ hk => hk.2) (.slice Ao33 t277.length co33)) (fun _ hk => hk.2) (.int .i64 t280)) (fun _ h_ => h_.1))) hb); have n3_ := Aside0.mk (Kd.R_below (by (with_reducible repeat (first | apply Kd.R_alloc | apply Kd.R_drewN | apply Kd.R_drew)); exact (Kd.R_mono (Kd.R_far (p := ⟨gb283, 1, none⟩) (Kd.R_far (p := ⟨gb283, 0, none⟩) (Kd.R_types HO279.out BK283.out (by decide)) (fun _ hk => hk.2) (.slice Ao33 t277.length co33)) (fun _ hk => hk.2) (.int .i64 t280)) (fun _ h_ => h_.1))) hb); have n4_ := Aside0.mk (blk_below (g := gb259) (o := .cells #[.slice A0_0 l0_0.length c0_0, .int .i64 a0_1] 43 (0, 0)) (by (with_reducible repeat (first | refine blk_drewN ?_ _ | refine blk_drew ?_ | refine blk_alloc ?_ _)); refine blk_far ?_ NB259_283.out _; (with_reducible repeat (first | refine blk_drewN ?_ _ | refine blk_drew ?_ | refine blk_alloc ?_ _)); refine blk_far ?_ NB259_283.out _; (with_reducible repeat (first | refine blk_drewN ?_ _ | refine blk_drew ?_ | refine blk_alloc ?_ _)); exact BK259.out) hb); have n5_ := Aside0.mk (blk_below (g := gb271) (o := .cells #[.slice Ao21 t265.length co21, .int .i64 t268] 33 (0, 0)) (by (with_reducible repeat (first | refine blk_drewN ?_ _ | refine blk_drew ?_ | refine blk_alloc ?_ _)); refine blk_far ?_ NB271_283.out _; (with_reducible repeat (first | refine blk_drewN ?_ _ | refine blk_drew ?_ | refine blk_alloc ?_ _)); refine blk_far ?_ NB271_283.out _; (with_reducible repeat (first | refine blk_drewN ?_ _ | refine blk_drew ?_ | refine blk_alloc ?_ _)); exact BK271.out) hb); have n6_ := Aside0.mk (blk_below (g := gb276) (o := .cells #[.slice Ao27 t272.length co27, .int .i64 t275] 33 (0, 0)) (by (with_reducible repeat (first | refine blk_drewN ?_ _ | refine blk_drew ?_ | refine blk_alloc ?_ _)); refine blk_far ?_ NB276_283.out _; (with_reducible repeat (first | refine blk_drewN ?_ _ | refine blk_drew ?_ | refine blk_alloc ?_ _)); refine blk_far ?_ NB276_283.out _; (with_reducible repeat (first | refine blk_drewN ?_ _ | refine blk_drew ?_ | refine blk_alloc ?_ _)); exact BK276.out) hb); have n7_ := Aside0.mk (blk_below (g := gb283) (o := .cells #[.slice Ao33 t277.length co33, .int .i64 t280] 33 (0, 0)) (by (with_reducible repeat (first | refine blk_drewN ?_ _ | refine blk_drew ?_ | refine blk_alloc ?_ _)); refine blk_put (cs := #[.slice Ao33 t277.length co33, .int .i64 0]) ?_ 1 _ rfl; (with_reducible repeat (first | refine blk_drewN ?_ _ | refine blk_drew ?_ | refine blk_alloc ?_ _)); refine blk_put (cs := #[.slice none 0 0, .int .i64 0]) ?_ 0 _ rfl; (with_reducible repeat (first | refine blk_drewN ?_ _ | refine blk_drew ?_ | refine blk_alloc ?_ _)); exact BK283.out) hb); have n8_ := Aside0.mk (below_step (by repeat (first | (with_reducible first | exact HB.out | apply below_alloc | apply pw_below_drewN | apply below_drew1 | refine below_set ?_ GE259.out | refine below_set ?_ GE271.out | refine below_set ?_ GE276.out | refine below_set ?_ GE283.out) | exact HB.out)) hb); clear HO263; clear HO267; clear HO274; clear HO279; clear BK259; clear BK271; clear BK276; clear BK283; clear HB; have HO263 := n0_; have HO267 := n1_; have HO274 := n2_; have HO279 := n3_; have BK259 := n4_; have BK271 := n5_; have BK276 := n6_; have BK283 := n7_; have HB := n8_; clear n0_ n1_ n2_ n3_ n4_ n5_ n6_ n7_ n8_; (try clear hb); (try clear hb2); (try clear hk); (try clear hi)))
          go_meet
          case rel => exact ⟨_, (true), (by first | rfl | (simp; done) | (simp [*]; done)), H', ⟨by first | omega | exact Nat.le_refl _⟩, ⟨by (with_reducible repeat (first | apply Kd.R_alloc | apply Kd.R_drewN | apply Kd.R_drew)); exact Kd.R_mono HO267.out (fun _ hk => ⟨hk.1.2, hk.2⟩)⟩, ⟨by (with_reducible repeat (first | apply Kd.R_alloc | apply Kd.R_drewN | apply Kd.R_drew)); exact Kd.R_mono HO274.out (fun _ hk => ⟨hk.1.2, hk.2⟩)⟩, ⟨by (with_reducible repeat (first | apply Kd.R_alloc | apply Kd.R_drewN | apply Kd.R_drew)); exact Kd.R_mono HO279.out (fun _ hk => ⟨hk.1.2, hk.2⟩)⟩, ⟨by (with_reducible repeat (first | refine blk_drewN ?_ _ | refine blk_drew ?_ | refine blk_alloc ?_ _)); exact BK259.out⟩, ⟨by (with_reducible repeat (first | refine blk_drewN ?_ _ | refine blk_drew ?_ | refine blk_alloc ?_ _)); exact BK271.out⟩, ⟨by (with_reducible repeat (first | refine blk_drewN ?_ _ | refine blk_drew ?_ | refine blk_alloc ?_ _)); exact BK276.out⟩, ⟨by (with_reducible repeat (first | refine blk_drewN ?_ _ | refine blk_drew ?_ | refine blk_alloc ?_ _)); exact BK283.out⟩, ⟨by repeat (first | (with_reducible first | exact HB.out | apply below_alloc | apply pw_below_drewN | apply below_drew1 | refine below_set ?_ GE259.out | refine below_set ?_ GE271.out | refine below_set ?_ GE276.out | refine below_set ?_ GE283.out) | exact HB.out)⟩⟩
      · replace c39 := Bool.eq_false_iff.mpr c39
        subst c39
        have H1 : (laws_FnExactResumeAt.j0 k a1 t269 t270 t281 t282 true l0_0 a0_1 t265 t268 t272 t275 t277 t280) = some r := by rw [if_neg (show ¬ (false = true) by decide)] at H; exact H
        clear H
        have H := H1
        clear H1
        have H' := Aside0.mk H
        clear H
        have hnb57 := NB283_259.out
        have hnc57 := NB259_283.out
        have hnb58 := NB283_271.out
        have hnc58 := NB271_283.out
        have hnb59 := NB283_276.out
        have hnc59 := NB276_283.out
        have hcz60_0 : w32.cell? ⟨gb283, 0, none⟩ = some (.slice none 0 0) := (blk_cell BK283.out 0).trans rfl
        have hcz60_1 : w32.cell? ⟨gb283, 1, none⟩ = some (.int .i64 0) := (blk_cell BK283.out 1).trans rfl
        have hfz60_0 := blk_frozen BK283.out 0
        have hfz60_1 := blk_frozen BK283.out 1
        have hnb61 := NB271_259.out
        have hnc61 := NB259_271.out
        have hnb62 := NB271_276.out
        have hnc62 := NB276_271.out
        have hcz63_0 : w32.cell? ⟨gb271, 0, none⟩ = some (.slice Ao21 t265.length co21) := (blk_cell BK271.out 0).trans rfl
        have hcz63_1 : w32.cell? ⟨gb271, 1, none⟩ = some (.int .i64 t268) := (blk_cell BK271.out 1).trans rfl
        have hfz63_0 := blk_frozen BK271.out 0
        have hfz63_1 := blk_frozen BK271.out 1
        go_wp2_with (first | ((with_reducible refine gate_callee (f := 24) rfl ?_); refine goesL_ (some 43) rfl rfl Try.func24 (by kernel_rfl) rfl #[.agg #[.slice Ao33 t277.length co33, .int .i64 t280], .agg #[.slice Ao21 t265.length co21, .int .i64 t268]] rfl (by (try simp only [List.map_toArray, List.map_cons, List.map_nil]); first | done | rfl | (simp only [List.length_drop, List.length_take]; rfl)) ?_; (with_reducible refine (laws_eqPunchJob.calls k _ _ t277 t280 _ _ t265 t268 false _ ?side1 ?side2 ?side3 ?side4 A38.out).mono ?_); (case side1 => refine (Kd.R_reads' (e := 106) (base := w.heap.size) (ok := fun k_ => (((True ∧ some k_ ≠ (.slice Ao18 t261.length co18 : Value).ownBlock) ∧ some k_ ≠ (.slice Ao21 t265.length co21 : Value).ownBlock) ∧ some k_ ≠ (.slice Ao27 t272.length co27 : Value).ownBlock)) (n := t277.length) (c := co33) ?_).2.2; exact (by (with_reducible repeat (first | apply Kd.R_alloc | apply Kd.R_drewN | apply Kd.R_drew)); exact (Kd.R_mono (Kd.R_far (p := ⟨gb283, 1, none⟩) (Kd.R_far (p := ⟨gb283, 0, none⟩) (Kd.R_types HO279.out BK283.out (by decide)) (fun _ hk => hk.2) (.slice Ao33 t277.length co33)) (fun _ hk => hk.2) (.int .i64 t280)) (fun _ h_ => h_.1)))); (case side2 => exact (Kd.R_reads' HO279.out).2.1); (case side3 => refine (Kd.R_reads' (e := 106) (base := w.heap.size) (ok := fun k_ => (((True ∧ some k_ ≠ (.slice Ao18 t261.length co18 : Value).ownBlock) ∧ some k_ ≠ (.slice Ao27 t272.length co27 : Value).ownBlock) ∧ some k_ ≠ (.slice Ao33 t277.length co33 : Value).ownBlock)) (n := t265.length) (c := co21) ?_).2.2; exact (by (with_reducible repeat (first | apply Kd.R_alloc | apply Kd.R_drewN | apply Kd.R_drew)); exact (Kd.R_mono (Kd.R_far (p := ⟨gb283, 1, none⟩) (Kd.R_far (p := ⟨gb283, 0, none⟩) (Kd.R_types HO267.out BK283.out (by decide)) (fun _ hk => hk.2) (.slice Ao33 t277.length co33)) (fun _ hk => hk.2) (.int .i64 t280)) (fun _ h_ => h_.1)))); (case side4 => exact (Kd.R_reads' HO267.out).2.1); rintro e w64 ⟨rfl, hb⟩; refine ⟨_, rfl, ?_⟩; have n0_ := Aside0.mk (Kd.R_below (by (with_reducible repeat (first | apply Kd.R_alloc | apply Kd.R_drewN | apply Kd.R_drew)); exact (Kd.R_mono (Kd.R_far (p := ⟨gb283, 1, none⟩) (Kd.R_far (p := ⟨gb283, 0, none⟩) (Kd.R_types HO263.out BK283.out (by decide)) (fun _ hk => hk.2) (.slice Ao33 t277.length co33)) (fun _ hk => hk.2) (.int .i64 t280)) (fun _ h_ => h_.1))) hb); have n1_ := Aside0.mk (Kd.R_below (by (with_reducible repeat (first | apply Kd.R_alloc | apply Kd.R_drewN | apply Kd.R_drew)); exact (Kd.R_mono (Kd.R_far (p := ⟨gb283, 1, none⟩) (Kd.R_far (p := ⟨gb283, 0, none⟩) (Kd.R_types HO267.out BK283.out (by decide)) (fun _ hk => hk.2) (.slice Ao33 t277.length co33)) (fun _ hk => hk.2) (.int .i64 t280)) (fun _ h_ => h_.1))) hb); have n2_ := Aside0.mk (Kd.R_below (by (with_reducible repeat (first | apply Kd.R_alloc | apply Kd.R_drewN | apply Kd.R_drew)); exact (Kd.R_mono (Kd.R_far (p := ⟨gb283, 1, none⟩) (Kd.R_far (p := ⟨gb283, 0, none⟩) (Kd.R_types HO274.out BK283.out (by decide)) (fun _ hk => hk.2) (.slice Ao33 t277.length co33)) (fun _ hk => hk.2) (.int .i64 t280)) (fun _ h_ => h_.1))) hb); have n3_ := Aside0.mk (Kd.R_below (by (with_reducible repeat (first | apply Kd.R_alloc | apply Kd.R_drewN | apply Kd.R_drew)); exact (Kd.R_mono (Kd.R_far (p := ⟨gb283, 1, none⟩) (Kd.R_far (p := ⟨gb283, 0, none⟩) (Kd.R_types HO279.out BK283.out (by decide)) (fun _ hk => hk.2) (.slice Ao33 t277.length co33)) (fun _ hk => hk.2) (.int .i64 t280)) (fun _ h_ => h_.1))) hb); have n4_ := Aside0.mk (blk_below (g := gb259) (o := .cells #[.slice A0_0 l0_0.length c0_0, .int .i64 a0_1] 43 (0, 0)) (by (with_reducible repeat (first | refine blk_drewN ?_ _ | refine blk_drew ?_ | refine blk_alloc ?_ _)); refine blk_far ?_ NB259_283.out _; (with_reducible repeat (first | refine blk_drewN ?_ _ | refine blk_drew ?_ | refine blk_alloc ?_ _)); refine blk_far ?_ NB259_283.out _; (with_reducible repeat (first | refine blk_drewN ?_ _ | refine blk_drew ?_ | refine blk_alloc ?_ _)); exact BK259.out) hb); have n5_ := Aside0.mk (blk_below (g := gb271) (o := .cells #[.slice Ao21 t265.length co21, .int .i64 t268] 33 (0, 0)) (by (with_reducible repeat (first | refine blk_drewN ?_ _ | refine blk_drew ?_ | refine blk_alloc ?_ _)); refine blk_far ?_ NB271_283.out _; (with_reducible repeat (first | refine blk_drewN ?_ _ | refine blk_drew ?_ | refine blk_alloc ?_ _)); refine blk_far ?_ NB271_283.out _; (with_reducible repeat (first | refine blk_drewN ?_ _ | refine blk_drew ?_ | refine blk_alloc ?_ _)); exact BK271.out) hb); have n6_ := Aside0.mk (blk_below (g := gb276) (o := .cells #[.slice Ao27 t272.length co27, .int .i64 t275] 33 (0, 0)) (by (with_reducible repeat (first | refine blk_drewN ?_ _ | refine blk_drew ?_ | refine blk_alloc ?_ _)); refine blk_far ?_ NB276_283.out _; (with_reducible repeat (first | refine blk_drewN ?_ _ | refine blk_drew ?_ | refine blk_alloc ?_ _)); refine blk_far ?_ NB276_283.out _; (with_reducible repeat (first | refine blk_drewN ?_ _ | refine blk_drew ?_ | refine blk_alloc ?_ _)); exact BK276.out) hb); have n7_ := Aside0.mk (blk_below (g := gb283) (o := .cells #[.slice Ao33 t277.length co33, .int .i64 t280] 33 (0, 0)) (by (with_reducible repeat (first | refine blk_drewN ?_ _ | refine blk_drew ?_ | refine blk_alloc ?_ _)); refine blk_put (cs := #[.slice Ao33 t277.length co33, .int .i64 0]) ?_ 1 _ rfl; (with_reducible repeat (first | refine blk_drewN ?_ _ | refine blk_drew ?_ | refine blk_alloc ?_ _)); refine blk_put (cs := #[.slice none 0 0, .int .i64 0]) ?_ 0 _ rfl; (with_reducible repeat (first | refine blk_drewN ?_ _ | refine blk_drew ?_ | refine blk_alloc ?_ _)); exact BK283.out) hb); have n8_ := Aside0.mk (below_step (by repeat (first | (with_reducible first | exact HB.out | apply below_alloc | apply pw_below_drewN | apply below_drew1 | refine below_set ?_ GE259.out | refine below_set ?_ GE271.out | refine below_set ?_ GE276.out | refine below_set ?_ GE283.out) | exact HB.out)) hb); clear HO263; clear HO267; clear HO274; clear HO279; clear BK259; clear BK271; clear BK276; clear BK283; clear HB; have HO263 := n0_; have HO267 := n1_; have HO274 := n2_; have HO279 := n3_; have BK259 := n4_; have BK271 := n5_; have BK276 := n6_; have BK283 := n7_; have HB := n8_; clear n0_ n1_ n2_ n3_ n4_ n5_ n6_ n7_ n8_; (try clear hb); (try clear hb2); (try clear hk); (try clear hi)))
        go_meet
        case rel => exact ⟨_, (true), (by first | rfl | (simp; done) | (simp [*]; done)), H', ⟨by first | omega | exact Nat.le_refl _⟩, ⟨by (with_reducible repeat (first | apply Kd.R_alloc | apply Kd.R_drewN | apply Kd.R_drew)); exact Kd.R_mono HO267.out (fun _ hk => ⟨hk.1.2, hk.2⟩)⟩, ⟨by (with_reducible repeat (first | apply Kd.R_alloc | apply Kd.R_drewN | apply Kd.R_drew)); exact Kd.R_mono HO274.out (fun _ hk => ⟨hk.1.2, hk.2⟩)⟩, ⟨by (with_reducible repeat (first | apply Kd.R_alloc | apply Kd.R_drewN | apply Kd.R_drew)); exact Kd.R_mono HO279.out (fun _ hk => ⟨hk.1.2, hk.2⟩)⟩, ⟨by (with_reducible repeat (first | refine blk_drewN ?_ _ | refine blk_drew ?_ | refine blk_alloc ?_ _)); exact BK259.out⟩, ⟨by (with_reducible repeat (first | refine blk_drewN ?_ _ | refine blk_drew ?_ | refine blk_alloc ?_ _)); exact BK271.out⟩, ⟨by (with_reducible repeat (first | refine blk_drewN ?_ _ | refine blk_drew ?_ | refine blk_alloc ?_ _)); exact BK276.out⟩, ⟨by (with_reducible repeat (first | refine blk_drewN ?_ _ | refine blk_drew ?_ | refine blk_alloc ?_ _)); exact BK283.out⟩, ⟨by repeat (first | (with_reducible first | exact HB.out | apply below_alloc | apply pw_below_drewN | apply below_drew1 | refine below_set ?_ GE259.out | refine below_set ?_ GE271.out | refine below_set ?_ GE276.out | refine below_set ?_ GE283.out) | exact HB.out)⟩⟩
    case rest =>
      clear HC12
      try clear c2
      try clear p2
      try clear c3
      try clear c4
      try clear c4b0
      try clear c5
      try clear c6
      try clear c22
      try clear c24
      try clear c28
      try clear c29
      try clear c30
      try clear c31
      try clear c32
      try clear c34
      try clear c35
      try clear c36
      try clear c39
      try clear c40
      try clear c40b0
      try clear c40b1
      try clear c41
      try clear c42
      try clear c43
      try clear c45
      try clear c46
      try clear c49
      try clear c50
      try clear c51
      try clear c53
      try clear c54
      try clear c57
      try clear c58
      try clear c59
      try clear c61
      try clear c62
      try clear hcz14_0
      try clear hcz14_1
      try clear hcz16_0
      try clear hcz16_1
      try clear hcz23_0
      try clear hcz23_1
      try clear hcz24_0
      try clear hcz24_1
      try clear hcz30_0
      try clear hcz30_1
      try clear hcz37_0
      try clear hcz37_1
      try clear hcz44_0
      try clear hcz44_1
      try clear hcz47_0
      try clear hcz47_1
      try clear hcz52_0
      try clear hcz52_1
      try clear hcz55_0
      try clear hcz55_1
      try clear hcz60_0
      try clear hcz60_1
      try clear hcz63_0
      try clear hcz63_1
      try clear hcz6_0
      try clear hcz6_1
      try clear hfz14_0
      try clear hfz14_1
      try clear hfz16_0
      try clear hfz16_1
      try clear hfz23_0
      try clear hfz23_1
      try clear hfz24_0
      try clear hfz24_1
      try clear hfz30_0
      try clear hfz30_1
      try clear hfz37_0
      try clear hfz37_1
      try clear hfz44_0
      try clear hfz44_1
      try clear hfz47_0
      try clear hfz47_1
      try clear hfz52_0
      try clear hfz52_1
      try clear hfz55_0
      try clear hfz55_1
      try clear hfz60_0
      try clear hfz60_1
      try clear hfz63_0
      try clear hfz63_1
      try clear hfz6_0
      try clear hfz6_1
      obtain ⟨kq, x54_11, rfl, HA, HJ11, HO_272000, HO_277000, HO_284000, BK259, BK271, BK276, BK283, HB⟩ := hcut
      cases kq with
      | zero => exact absurd HA.out (by simp [laws_FnExactResumeAt.j0])
      | succ kj11 =>
        have H := HA.out
        clear HA
        simp only [laws_FnExactResumeAt.j0] at H
        by_cases c65 : x54_11 = true
        · subst c65
          have H1 : (some false) = some r := by rw [if_pos rfl] at H; exact H
          clear H
          have H := H1
          clear H1
          obtain rfl := Option.some.inj H
          go_wp2
          go_ret
          exact ⟨by first | rfl | (simp [errW_none, errW_some] <;> rfl) | (simp [*, errW_none, errW_some] <;> rfl), by repeat (first | (with_reducible first | exact HB.out | apply below_alloc | apply pw_below_drewN | apply below_drew1 | refine below_set ?_ GE259.out | refine below_set ?_ GE271.out | refine below_set ?_ GE276.out | refine below_set ?_ GE283.out) | exact HB.out)⟩
        · replace c65 := Bool.eq_false_iff.mpr c65
          subst c65
          have H1 : ((laws_toPunchJob.f kj11 l0_0 a0_1).bind fun bt285 => ((laws_eqPunchJob.f kj11 t272 t275 bt285.1 bt285.2).bind fun t289 => (if t289 = true then ((laws_markPunchJob.f kj11 t272 t275 1).bind fun bt290 => (if bt290.1 < 0 then (laws_FnExactResumeAt.j1 kj11 a1 t269 t270 true l0_0 a0_1 t265 t268 t277 t280) else ((laws_eqPunchJob.f kj11 t277 t280 t265 t268).bind fun t292 => (if t292 = true then (if t281 = t269 then (laws_FnExactResumeAt.j1 kj11 a1 t269 t270 (t282 != t270) l0_0 a0_1 t265 t268 t277 t280) else (laws_FnExactResumeAt.j1 kj11 a1 t269 t270 true l0_0 a0_1 t265 t268 t277 t280)) else (laws_FnExactResumeAt.j1 kj11 a1 t269 t270 true l0_0 a0_1 t265 t268 t277 t280))))) else (some false)))) = some r := by rw [if_neg (show ¬ (false = true) by decide)] at H; exact H
          clear H
          have H := H1
          clear H1
          replace H := Option.bind_eq_some_iff.mp H
          obtain ⟨⟨t285, t288⟩, A660, H⟩ := H
          replace H : ((laws_eqPunchJob.f kj11 t272 t275 t285 t288).bind fun t289 => (if t289 = true then ((laws_markPunchJob.f kj11 t272 t275 1).bind fun bt290 => (if bt290.1 < 0 then (laws_FnExactResumeAt.j1 kj11 a1 t269 t270 true l0_0 a0_1 t265 t268 t277 t280) else ((laws_eqPunchJob.f kj11 t277 t280 t265 t268).bind fun t292 => (if t292 = true then (if t281 = t269 then (laws_FnExactResumeAt.j1 kj11 a1 t269 t270 (t282 != t270) l0_0 a0_1 t265 t268 t277 t280) else (laws_FnExactResumeAt.j1 kj11 a1 t269 t270 true l0_0 a0_1 t265 t268 t277 t280)) else (laws_FnExactResumeAt.j1 kj11 a1 t269 t270 true l0_0 a0_1 t265 t268 t277 t280))))) else (some false))) = some r := H
          have A66 := Aside0.mk A660
          clear A660
          replace H := Option.bind_eq_some_iff.mp H
          obtain ⟨t289, A670, H⟩ := H
          replace H : (if t289 = true then ((laws_markPunchJob.f kj11 t272 t275 1).bind fun bt290 => (if bt290.1 < 0 then (laws_FnExactResumeAt.j1 kj11 a1 t269 t270 true l0_0 a0_1 t265 t268 t277 t280) else ((laws_eqPunchJob.f kj11 t277 t280 t265 t268).bind fun t292 => (if t292 = true then (if t281 = t269 then (laws_FnExactResumeAt.j1 kj11 a1 t269 t270 (t282 != t270) l0_0 a0_1 t265 t268 t277 t280) else (laws_FnExactResumeAt.j1 kj11 a1 t269 t270 true l0_0 a0_1 t265 t268 t277 t280)) else (laws_FnExactResumeAt.j1 kj11 a1 t269 t270 true l0_0 a0_1 t265 t268 t277 t280))))) else (some false)) = some r := H
          have A67 := Aside0.mk A670
          clear A670
          by_cases c68 : t289 = true
          · subst c68
            have H1 : ((laws_markPunchJob.f kj11 t272 t275 1).bind fun bt290 => (if bt290.1 < 0 then (laws_FnExactResumeAt.j1 kj11 a1 t269 t270 true l0_0 a0_1 t265 t268 t277 t280) else ((laws_eqPunchJob.f kj11 t277 t280 t265 t268).bind fun t292 => (if t292 = true then (if t281 = t269 then (laws_FnExactResumeAt.j1 kj11 a1 t269 t270 (t282 != t270) l0_0 a0_1 t265 t268 t277 t280) else (laws_FnExactResumeAt.j1 kj11 a1 t269 t270 true l0_0 a0_1 t265 t268 t277 t280)) else (laws_FnExactResumeAt.j1 kj11 a1 t269 t270 true l0_0 a0_1 t265 t268 t277 t280))))) = some r := by rw [if_pos rfl] at H; exact H
            clear H
            have H := H1
            clear H1
            replace H := Option.bind_eq_some_iff.mp H
            obtain ⟨⟨t290, t291⟩, A690, H⟩ := H
            replace H : (if t290 < 0 then (laws_FnExactResumeAt.j1 kj11 a1 t269 t270 true l0_0 a0_1 t265 t268 t277 t280) else ((laws_eqPunchJob.f kj11 t277 t280 t265 t268).bind fun t292 => (if t292 = true then (if t281 = t269 then (laws_FnExactResumeAt.j1 kj11 a1 t269 t270 (t282 != t270) l0_0 a0_1 t265 t268 t277 t280) else (laws_FnExactResumeAt.j1 kj11 a1 t269 t270 true l0_0 a0_1 t265 t268 t277 t280)) else (laws_FnExactResumeAt.j1 kj11 a1 t269 t270 true l0_0 a0_1 t265 t268 t277 t280)))) = some r := H
            have A69 := Aside0.mk A690
            clear A690
            have HC70 := Aside0.mk H
            clear H
            try go_wp2
            have n0_ := Aside0.mk (Kd.R_drew HO_272000.out)
            have n1_ := Aside0.mk (Kd.R_drew HO_277000.out)
            have n2_ := Aside0.mk (Kd.R_drew HO_284000.out)
            have n3_ := Aside0.mk (blk_drew BK259.out)
            have n4_ := Aside0.mk (blk_drew BK271.out)
            have n5_ := Aside0.mk (blk_drew BK276.out)
            have n6_ := Aside0.mk (blk_drew BK283.out)
            have n7_ := Aside0.mk (below_drew1 HB.out)
            clear HO_272000
            clear HO_277000
            clear HO_284000
            clear BK259
            clear BK271
            clear BK276
            clear BK283
            clear HB
            have HO_272000 := n0_
            have HO_277000 := n1_
            have HO_284000 := n2_
            have BK259 := n3_
            have BK271 := n4_
            have BK276 := n5_
            have BK283 := n6_
            have HB := n7_
            clear n0_ n1_ n2_ n3_ n4_ n5_ n6_ n7_
            refine start_ (n := 5) (S := fun w' => w'.cell? ⟨gb276, 0, none⟩ = some (.slice Ao27 t272.length co27) ∧ w'.cell? ⟨gb276, 1, none⟩ = some (.int .i64 t275) ∧ w'.cell? ⟨gb259, 0, none⟩ = some (.slice A0_0 l0_0.length c0_0) ∧ w'.cell? ⟨gb259, 1, none⟩ = some (.int .i64 a0_1)) (ds := []) #[false, false, false, false, false] (by kernel_rfl) rfl rfl ⟨(blk_cell BK276.out 0).trans rfl, (blk_cell BK276.out 1).trans rfl, (blk_cell BK259.out 0).trans rfl, (blk_cell BK259.out 1).trans rfl⟩ (fun hHeld => ?_)
            generalize wc.drew = w71 at HO_272000 HO_277000 HO_284000 BK259 BK271 BK276 BK283 HB hHeld ⊢
            refine take_ (i := 0) (N := some 55) (v := ?_) (a' := ?_) #[true, false, false, false, false] rfl rfl (by kernel_rfl) (fun _ _ _ h => h) (Or.inl ⟨by rfl, ?_⟩) hHeld ?_ ?_
            rotate_left
            · rintro w' ⟨s0, s1, s2, s3⟩
              go_simp
              with_reducible rfl
            rotate_left
            · simp only [Act.put, List.setIfInBounds_toArray, List.set_cons_zero, List.set_cons_succ, i64_w, i32_w]
              rfl
            refine take_ (i := 1) (N := some 56) (v := ?_) (a' := ?_) #[true, true, false, false, false] rfl rfl (by kernel_rfl) (fun _ _ _ h => h) (Or.inl ⟨by rfl, ?_⟩) hHeld ?_ ?_
            rotate_left
            · rintro w' ⟨s0, s1, s2, s3⟩
              go_simp
              with_reducible rfl
            rotate_left
            · simp only [Act.put, List.setIfInBounds_toArray, List.set_cons_zero, List.set_cons_succ, i64_w, i32_w]
              rfl
            refine one_ (i := 2) (N := some 57) #[true, true, true, false, false] rfl rfl (by kernel_rfl) (by decide) (fun K hK => ?_)
            refine goes_ Try.func31 (by kernel_rfl) rfl #[.agg #[.slice A0_0 l0_0.length c0_0, .int .i64 a0_1]] (by rfl) rfl rfl (by (try simp only [List.map_toArray, List.map_cons, List.map_nil]); first | done | rfl | (simp only [List.length_drop, List.length_take]; rfl)) ?_
            with_reducible refine (laws_toPunchJob.calls kj11 _ _ l0_0 a0_1 t285 t288 _ ?side1 ?side2 A66.out).mono ?_
            (case side1 => repeat (first | exact (Kd.C_below HR0_0.out HB.out) | (with_reducible refine Kd.C_alloc ?_ _) | (with_reducible refine Kd.C_drewN ?_ _) | (with_reducible refine Kd.C_drew ?_)))
            (case side2 => exact HC0_0.out)
            rintro e w72 ⟨v286, rfl, ho0, hb⟩
            refine ⟨_, rfl, ?_⟩
            have n0_ := Aside0.mk (Kd.R_elder' (by (with_reducible repeat (first | apply Kd.R_alloc | apply Kd.R_drewN | apply Kd.R_drew)); exact HO_272000.out) (Kd.R_base ho0) hb)
            have n1_ := Aside0.mk (Kd.R_elder' (by (with_reducible repeat (first | apply Kd.R_alloc | apply Kd.R_drewN | apply Kd.R_drew)); exact HO_277000.out) (Kd.R_base ho0) hb)
            have n2_ := Aside0.mk (Kd.R_elder' (by (with_reducible repeat (first | apply Kd.R_alloc | apply Kd.R_drewN | apply Kd.R_drew)); exact HO_284000.out) (Kd.R_base ho0) hb)
            have n3_ := Aside0.mk (Kd.R_lower (Kd.R_new' (Kd.R_new' (Kd.R_new' ho0 (Kd.R_lt (by (with_reducible repeat (first | apply Kd.R_alloc | apply Kd.R_drewN | apply Kd.R_drew)); exact HO_272000.out))) (Kd.R_lt (by (with_reducible repeat (first | apply Kd.R_alloc | apply Kd.R_drewN | apply Kd.R_drew)); exact HO_277000.out))) (Kd.R_lt (by (with_reducible repeat (first | apply Kd.R_alloc | apply Kd.R_drewN | apply Kd.R_drew)); exact HO_284000.out))) (below_size (by repeat (first | (with_reducible first | exact HB.out | apply below_alloc | apply pw_below_drewN | apply below_drew1 | refine below_set ?_ GE259.out | refine below_set ?_ GE271.out | refine below_set ?_ GE276.out | refine below_set ?_ GE283.out) | exact HB.out))))
            have n4_ := Aside0.mk (blk_below (g := gb259) (o := .cells #[.slice A0_0 l0_0.length c0_0, .int .i64 a0_1] 43 (0, 0)) (by (with_reducible repeat (first | refine blk_drewN ?_ _ | refine blk_drew ?_ | refine blk_alloc ?_ _)); exact BK259.out) hb)
            have n5_ := Aside0.mk (blk_below (g := gb271) (o := .cells #[.slice Ao21 t265.length co21, .int .i64 t268] 33 (0, 0)) (by (with_reducible repeat (first | refine blk_drewN ?_ _ | refine blk_drew ?_ | refine blk_alloc ?_ _)); exact BK271.out) hb)
            have n6_ := Aside0.mk (blk_below (g := gb276) (o := .cells #[.slice Ao27 t272.length co27, .int .i64 t275] 33 (0, 0)) (by (with_reducible repeat (first | refine blk_drewN ?_ _ | refine blk_drew ?_ | refine blk_alloc ?_ _)); exact BK276.out) hb)
            have n7_ := Aside0.mk (blk_below (g := gb283) (o := .cells #[.slice Ao33 t277.length co33, .int .i64 t280] 33 (0, 0)) (by (with_reducible repeat (first | refine blk_drewN ?_ _ | refine blk_drew ?_ | refine blk_alloc ?_ _)); exact BK283.out) hb)
            have n8_ := Aside0.mk (below_step (by repeat (first | (with_reducible first | exact HB.out | apply below_alloc | apply pw_below_drewN | apply below_drew1 | refine below_set ?_ GE259.out | refine below_set ?_ GE271.out | refine below_set ?_ GE276.out | refine below_set ?_ GE283.out) | exact HB.out)) hb)
            clear HO_272000
            clear HO_277000
            clear HO_284000
            clear BK259
            clear BK271
            clear BK276
            clear BK283
            clear HB
            have HO_272000 := n0_
            have HO_277000 := n1_
            have HO_284000 := n2_
            have HO287 := n3_
            have BK259 := n4_
            have BK271 := n5_
            have BK276 := n6_
            have BK283 := n7_
            have HB := n8_
            clear n0_ n1_ n2_ n3_ n4_ n5_ n6_ n7_ n8_
            (try clear hb)
            (try clear hb2)
            (try clear hk)
            (try clear hi)
            (try clear ho0)
            obtain ⟨Ao73, co73, eo73⟩ := Kd.R_slice HO287.out
            (first | subst eo73 | (injection eo73 with f1_ f2_ f3_; have f4_ := f1_.symm; have f5_ := f3_.symm; clear f1_ f2_ f3_; subst f4_; subst f5_))
            refine hK.out _ _ ⟨(blk_cell BK276.out 0).trans rfl, (blk_cell BK276.out 1).trans rfl, (blk_cell BK259.out 0).trans rfl, (blk_cell BK259.out 1).trans rfl⟩ (fun hHeld => ?_)
            clear hK K
            refine norm_ (a' := ?_) ?_ ?_
            rotate_left
            · show Act.put _ (some 57) _ = _
              simp only [Act.put, List.setIfInBounds_toArray, List.set_cons_zero, List.set_cons_succ, i64_w, i32_w]
              rfl
            refine one_ (i := 3) (N := some 58) #[true, true, true, true, false] rfl rfl (by kernel_rfl) (by decide) (fun K hK => ?_)
            refine goes_ Try.func24 (by kernel_rfl) rfl #[.agg #[.slice Ao27 t272.length co27, .int .i64 t275], .agg #[.slice Ao73 t285.length co73, .int .i64 t288]] (by rfl) rfl rfl (by (try simp only [List.map_toArray, List.map_cons, List.map_nil]); first | done | rfl | (simp only [List.length_drop, List.length_take]; rfl)) ?_
            with_reducible refine (laws_eqPunchJob.calls kj11 _ _ t272 t275 _ _ t285 t288 true _ ?side1 ?side2 ?side3 ?side4 A67.out).mono ?_
            (case side1 => repeat (first | exact (Kd.R_reads' HO_277000.out).2.2 | (with_reducible refine Kd.C_alloc ?_ _) | (with_reducible refine Kd.C_drewN ?_ _) | (with_reducible refine Kd.C_drew ?_)))
            (case side2 => exact (Kd.R_reads' HO_277000.out).2.1)
            (case side3 => repeat (first | exact (Kd.R_reads' HO287.out).2.2 | (with_reducible refine Kd.C_alloc ?_ _) | (with_reducible refine Kd.C_drewN ?_ _) | (with_reducible refine Kd.C_drew ?_)))
            (case side4 => exact (Kd.R_reads' HO287.out).2.1)
            rintro e w74 ⟨rfl, hb⟩
            refine ⟨_, rfl, ?_⟩
            have n0_ := Aside0.mk (Kd.R_below (by (with_reducible repeat (first | apply Kd.R_alloc | apply Kd.R_drewN | apply Kd.R_drew)); exact HO_272000.out) hb)
            have n1_ := Aside0.mk (Kd.R_below (by (with_reducible repeat (first | apply Kd.R_alloc | apply Kd.R_drewN | apply Kd.R_drew)); exact HO_277000.out) hb)
            have n2_ := Aside0.mk (Kd.R_below (by (with_reducible repeat (first | apply Kd.R_alloc | apply Kd.R_drewN | apply Kd.R_drew)); exact HO_284000.out) hb)
            have n3_ := Aside0.mk (Kd.R_below (by (with_reducible repeat (first | apply Kd.R_alloc | apply Kd.R_drewN | apply Kd.R_drew)); exact HO287.out) hb)
            have n4_ := Aside0.mk (blk_below (g := gb259) (o := .cells #[.slice A0_0 l0_0.length c0_0, .int .i64 a0_1] 43 (0, 0)) (by (with_reducible repeat (first | refine blk_drewN ?_ _ | refine blk_drew ?_ | refine blk_alloc ?_ _)); exact BK259.out) hb)
            have n5_ := Aside0.mk (blk_below (g := gb271) (o := .cells #[.slice Ao21 t265.length co21, .int .i64 t268] 33 (0, 0)) (by (with_reducible repeat (first | refine blk_drewN ?_ _ | refine blk_drew ?_ | refine blk_alloc ?_ _)); exact BK271.out) hb)
            have n6_ := Aside0.mk (blk_below (g := gb276) (o := .cells #[.slice Ao27 t272.length co27, .int .i64 t275] 33 (0, 0)) (by (with_reducible repeat (first | refine blk_drewN ?_ _ | refine blk_drew ?_ | refine blk_alloc ?_ _)); exact BK276.out) hb)
            have n7_ := Aside0.mk (blk_below (g := gb283) (o := .cells #[.slice Ao33 t277.length co33, .int .i64 t280] 33 (0, 0)) (by (with_reducible repeat (first | refine blk_drewN ?_ _ | refine blk_drew ?_ | refine blk_alloc ?_ _)); exact BK283.out) hb)
            have n8_ := Aside0.mk (below_step (by repeat (first | (with_reducible first | exact HB.out | apply below_alloc | apply pw_below_drewN | apply below_drew1 | refine below_set ?_ GE259.out | refine below_set ?_ GE271.out | refine below_set ?_ GE276.out | refine below_set ?_ GE283.out) | exact HB.out)) hb)
            clear HO_272000
            clear HO_277000
            clear HO_284000
            clear HO287
            clear BK259
            clear BK271
            clear BK276
            clear BK283
            clear HB
            have HO_272000 := n0_
            have HO_277000 := n1_
            have HO_284000 := n2_
            have HO287 := n3_
            have BK259 := n4_
            have BK271 := n5_
            have BK276 := n6_
            have BK283 := n7_
            have HB := n8_
            clear n0_ n1_ n2_ n3_ n4_ n5_ n6_ n7_ n8_
            (try clear hb)
            (try clear hb2)
            (try clear hk)
            (try clear hi)
            refine hK.out _ _ ⟨(blk_cell BK276.out 0).trans rfl, (blk_cell BK276.out 1).trans rfl, (blk_cell BK259.out 0).trans rfl, (blk_cell BK259.out 1).trans rfl⟩ (fun hHeld => ?_)
            clear hK K
            refine norm_ (a' := ?_) ?_ ?_
            rotate_left
            · show Act.put _ (some 58) _ = _
              simp only [Act.put, List.setIfInBounds_toArray, List.set_cons_zero, List.set_cons_succ, i64_w, i32_w]
              rfl
            refine pure_ (i := 4) (N := some 59) (v := ?_) (a' := ?_) #[true, true, true, true, true] rfl rfl (by kernel_rfl) (fun _ _ _ h => h) (Or.inl ⟨by rfl, ?_⟩) ?_ ?_
            rotate_left
            · intro w'
              go_simp
              with_reducible rfl
            rotate_left
            · simp only [Act.put, List.setIfInBounds_toArray, List.set_cons_zero, List.set_cons_succ, i64_w, i32_w]
              rfl
            refine done_ (by kernel_rfl) ?_
            have hnb75 := NB276_259.out
            have hnc75 := NB259_276.out
            have hnb76 := NB276_271.out
            have hnc76 := NB271_276.out
            have hnb77 := NB276_283.out
            have hnc77 := NB283_276.out
            have hcz78_0 : w74.cell? ⟨gb276, 0, none⟩ = some (.slice Ao27 t272.length co27) := (blk_cell BK276.out 0).trans rfl
            have hcz78_1 : w74.cell? ⟨gb276, 1, none⟩ = some (.int .i64 t275) := (blk_cell BK276.out 1).trans rfl
            have hfz78_0 := blk_frozen BK276.out 0
            have hfz78_1 := blk_frozen BK276.out 1
            go_upto_region 14 with (first | ((with_reducible refine gate_callee (f := 27) rfl ?_); refine goesL_ (some 62) rfl rfl Try.func27 (by kernel_rfl) rfl #[.agg #[.slice Ao27 t272.length co27, .int .i64 t275], .int .i64 1] rfl (by (try simp only [List.map_toArray, List.map_cons, List.map_nil]); first | done | rfl | (simp only [List.length_drop, List.length_take]; rfl)) ?_; (with_reducible refine (laws_markPunchJob.calls kj11 (fun k_ => some k_ = (.slice Ao27 t272.length co27 : Value).ownBlock) (.slice Ao27 t272.length co27) t272 t275 1 t290 t291 w _ ?side1 ?side2 A69.out).mono ?_); (case side1 => repeat (first | (with_reducible first | exact HB.out | apply below_alloc | apply pw_below_drewN | apply below_drew1 | refine below_set ?_ GE259.out | refine below_set ?_ GE271.out | refine below_set ?_ GE276.out | refine below_set ?_ GE283.out) | exact HB.out)); (case side2 => exact Kd.R_tight rfl HO_277000.out); rintro e w79 ⟨rfl, hy0, hb, hkp⟩; refine ⟨_, rfl, ?_⟩; have n0_ := Aside0.mk (Kd.R_mono (ok' := fun k_ => some k_ ≠ (.slice Ao27 t272.length co27 : Value).ownBlock ∧ some k_ ≠ (.slice Ao33 t277.length co33 : Value).ownBlock ∧ some k_ ≠ (.slice Ao73 t285.length co73 : Value).ownBlock) (Kd.R_keptB (HO_272000.out) hkp (fun k_ hk_ hs_ => (hk_.1.1) hs_)) (fun k_ hk_ => ⟨hk_.1.1.1, hk_.1.1.2, hk_.1.2⟩)); have n1_ := Aside0.mk (Kd.R_reok rfl hy0 (fun k_ e_ => HO_277000.out.1 k_ e_)); have n2_ := Aside0.mk (Kd.R_mono (ok' := fun k_ => some k_ ≠ (.slice Ao21 t265.length co21 : Value).ownBlock ∧ some k_ ≠ (.slice Ao27 t272.length co27 : Value).ownBlock ∧ some k_ ≠ (.slice Ao73 t285.length co73 : Value).ownBlock) (Kd.R_keptB (HO_284000.out) hkp (fun k_ hk_ hs_ => (hk_.1.2) hs_)) (fun k_ hk_ => ⟨hk_.1.1.1, hk_.1.1.2, hk_.1.2⟩)); have n3_ := Aside0.mk (blk_kept (by (with_reducible repeat (first | refine blk_drewN ?_ _ | refine blk_drew ?_ | refine blk_alloc ?_ _)); exact BK259.out) hkp (fun hs_ => (fun e_ => (Kd.R_ne HO_277000.out BK259.out (by decide)) e_) hs_)); have n4_ := Aside0.mk (blk_kept (by (with_reducible repeat (first | refine blk_drewN ?_ _ | refine blk_drew ?_ | refine blk_alloc ?_ _)); exact BK271.out) hkp (fun hs_ => (fun e_ => (Kd.R_ne HO_277000.out BK271.out (by decide)) e_) hs_)); have n5_ := Aside0.mk (blk_kept (by (with_reducible repeat (first | refine blk_drewN ?_ _ | refine blk_drew ?_ | refine blk_alloc ?_ _)); exact BK276.out) hkp (fun hs_ => (fun e_ => (Kd.R_ne HO_277000.out BK276.out (by decide)) e_) hs_)); have n6_ := Aside0.mk (blk_kept (by (with_reducible repeat (first | refine blk_drewN ?_ _ | refine blk_drew ?_ | refine blk_alloc ?_ _)); exact BK283.out) hkp (fun hs_ => (fun e_ => (Kd.R_ne HO_277000.out BK283.out (by decide)) e_) hs_)); have n7_ := Aside0.mk (Kd.R_mono (ok' := fun k_ => some k_ ≠ (.slice Ao21 t265.length co21 : Value).ownBlock ∧ some k_ ≠ (.slice Ao27 t272.length co27 : Value).ownBlock ∧ some k_ ≠ (.slice Ao33 t277.length co33 : Value).ownBlock) (Kd.R_keptB (HO287.out) hkp (fun k_ hk_ hs_ => (hk_.1.2) hs_)) (fun k_ hk_ => ⟨hk_.1.1.1.2, hk_.1.1.2, hk_.1.2⟩)); have n8_ := Aside0.mk (hb); clear HO_272000; clear HO_277000; clear HO_284000; clear BK259; clear BK271; clear BK276; clear BK283; clear HO287; clear HB; have HO_272000 := n0_; have HO_277000 := n1_; have HO_284000 := n2_; have BK259 := n3_; have BK271 := n4_; have BK276 := n5_; have BK283 := n6_; have HO287 := n7_; have HB := n8_; clear n0_ n1_ n2_ n3_ n4_ n5_ n6_ n7_ n8_; (try clear hb); (try clear hkp); (try clear hy0)))
            (try simp only [Act.put, List.setIfInBounds_toArray, List.set_cons_zero, List.set_cons_succ])
            go_cut [80] (fun v80 wc => ∃ (kq : Nat) (x80_69 : Bool), v80 = .bool x80_69 ∧ Aside0 (laws_FnExactResumeAt.j1 kq a1 t269 t270 x80_69 l0_0 a0_1 t265 t268 t277 t280 = some r) ∧ Aside0 (kq ≤ kj11) ∧ Aside0 (Kd.R k106 106 wc w.heap.size (fun k_ => some k_ ≠ ((.slice Ao27 t272.length co27) : Value).ownBlock ∧ some k_ ≠ ((.slice Ao33 t277.length co33) : Value).ownBlock) (.slice Ao21 t265.length co21) t265) ∧ Aside0 (Kd.R k106 106 wc w.heap.size (fun k_ => some k_ ≠ ((.slice Ao21 t265.length co21) : Value).ownBlock ∧ some k_ ≠ ((.slice Ao33 t277.length co33) : Value).ownBlock) (.slice Ao27 t272.length co27) t291) ∧ Aside0 (Kd.R k106 106 wc w.heap.size (fun k_ => some k_ ≠ ((.slice Ao21 t265.length co21) : Value).ownBlock ∧ some k_ ≠ ((.slice Ao27 t272.length co27) : Value).ownBlock) (.slice Ao33 t277.length co33) t277) ∧ Aside0 (wc.heap[gb259]? = some (.cells #[(.slice A0_0 l0_0.length c0_0), .int .i64 a0_1] 43 (0, 0))) ∧ Aside0 (wc.heap[gb271]? = some (.cells #[(.slice Ao21 t265.length co21), .int .i64 t268] 33 (0, 0))) ∧ Aside0 (wc.heap[gb276]? = some (.cells #[(.slice Ao27 t272.length co27), .int .i64 t275] 33 (0, 0))) ∧ Aside0 (wc.heap[gb283]? = some (.cells #[(.slice Ao33 t277.length co33), .int .i64 t280] 33 (0, 0))) ∧ Aside0 (Below w.heap.size w wc))
            case first =>
              have H := HC70.out
              clear HC70
              by_cases c80 : t290 < 0
              · rw [if_pos c80] at H
                have c80b0 : decide (t290 < 0) = true := decide_eq_true c80
                clear c80
                (first | rw [c80b0] | (simp only [i64_w, i32_w]; rw [c80b0]) | skip)
                have H' := Aside0.mk H
                clear H
                go_wp2
                go_meet
                case rel => exact ⟨_, (true), (by first | rfl | (simp; done) | (simp [*]; done)), H', ⟨by have := HJ11.out; first | omega | exact Nat.le_refl _⟩, ⟨by (with_reducible repeat (first | apply Kd.R_alloc | apply Kd.R_drewN | apply Kd.R_drew)); exact Kd.R_mono HO_272000.out (fun _ hk => ⟨hk.1, hk.2.1⟩)⟩, ⟨by (with_reducible repeat (first | apply Kd.R_alloc | apply Kd.R_drewN | apply Kd.R_drew)); exact Kd.R_mono HO_277000.out (fun _ hk => ⟨hk.1.1, hk.1.2⟩)⟩, ⟨by (with_reducible repeat (first | apply Kd.R_alloc | apply Kd.R_drewN | apply Kd.R_drew)); exact Kd.R_mono HO_284000.out (fun _ hk => ⟨hk.1, hk.2.1⟩)⟩, ⟨by (with_reducible repeat (first | refine blk_drewN ?_ _ | refine blk_drew ?_ | refine blk_alloc ?_ _)); exact BK259.out⟩, ⟨by (with_reducible repeat (first | refine blk_drewN ?_ _ | refine blk_drew ?_ | refine blk_alloc ?_ _)); exact BK271.out⟩, ⟨by (with_reducible repeat (first | refine blk_drewN ?_ _ | refine blk_drew ?_ | refine blk_alloc ?_ _)); exact BK276.out⟩, ⟨by (with_reducible repeat (first | refine blk_drewN ?_ _ | refine blk_drew ?_ | refine blk_alloc ?_ _)); exact BK283.out⟩, ⟨by repeat (first | (with_reducible first | exact HB.out | apply below_alloc | apply pw_below_drewN | apply below_drew1 | refine below_set ?_ GE259.out | refine below_set ?_ GE271.out | refine below_set ?_ GE276.out | refine below_set ?_ GE283.out) | exact HB.out)⟩⟩
              · rw [if_neg c80] at H
                have c80b0 : decide (t290 < 0) = false := decide_eq_false c80
                clear c80
                (first | rw [c80b0] | (simp only [i64_w, i32_w]; rw [c80b0]) | skip)
                replace H := Option.bind_eq_some_iff.mp H
                obtain ⟨t292, A810, H⟩ := H
                replace H : (if t292 = true then (if t281 = t269 then (laws_FnExactResumeAt.j1 kj11 a1 t269 t270 (t282 != t270) l0_0 a0_1 t265 t268 t277 t280) else (laws_FnExactResumeAt.j1 kj11 a1 t269 t270 true l0_0 a0_1 t265 t268 t277 t280)) else (laws_FnExactResumeAt.j1 kj11 a1 t269 t270 true l0_0 a0_1 t265 t268 t277 t280)) = some r := H
                have A81 := Aside0.mk A810
                clear A810
                by_cases c82 : t292 = true
                · subst c82
                  have H1 : (if t281 = t269 then (laws_FnExactResumeAt.j1 kj11 a1 t269 t270 (t282 != t270) l0_0 a0_1 t265 t268 t277 t280) else (laws_FnExactResumeAt.j1 kj11 a1 t269 t270 true l0_0 a0_1 t265 t268 t277 t280)) = some r := by rw [if_pos rfl] at H; exact H
                  clear H
                  have H := H1
                  clear H1
                  by_cases c83 : t281 = t269
                  · rw [if_pos c83] at H
                    have c83b0 : (t281 == t269) = true := beq_iff_eq.mpr c83
                    have c83b1 : (t281 != t269) = false := bne_eq_false_iff_eq.mpr c83
                    clear c83
                    have H' := Aside0.mk H
                    clear H
                    have hnb84 := NB283_259.out
                    have hnc84 := NB259_283.out
                    have hnb85 := NB283_271.out
                    have hnc85 := NB271_283.out
                    have hnb86 := NB283_276.out
                    have hnc86 := NB276_283.out
                    have hcz87_0 : w79.cell? ⟨gb283, 0, none⟩ = some (.slice Ao33 t277.length co33) := (blk_cell BK283.out 0).trans rfl
                    have hcz87_1 : w79.cell? ⟨gb283, 1, none⟩ = some (.int .i64 t280) := (blk_cell BK283.out 1).trans rfl
                    have hfz87_0 := blk_frozen BK283.out 0
                    have hfz87_1 := blk_frozen BK283.out 1
                    have hnb88 := NB271_259.out
                    have hnc88 := NB259_271.out
                    have hnb89 := NB271_276.out
                    have hnc89 := NB276_271.out
                    have hcz90_0 : w79.cell? ⟨gb271, 0, none⟩ = some (.slice Ao21 t265.length co21) := (blk_cell BK271.out 0).trans rfl
                    have hcz90_1 : w79.cell? ⟨gb271, 1, none⟩ = some (.int .i64 t268) := (blk_cell BK271.out 1).trans rfl
                    have hfz90_0 := blk_frozen BK271.out 0
                    have hfz90_1 := blk_frozen BK271.out 1
                    go_wp2_with (first | (go_at_call 24; (with_reducible refine (laws_eqPunchJob.calls kj11 _ _ t277 t280 _ _ t265 t268 true _ ?side1 ?side2 ?side3 ?side4 A81.out).mono ?_); (case side1 => repeat (first | exact (Kd.R_reads' HO_284000.out).2.2 | (with_reducible refine Kd.C_alloc ?_ _) | (with_reducible refine Kd.C_drewN ?_ _) | (with_reducible refine Kd.C_drew ?_))); (case side2 => exact (Kd.R_reads' HO_284000.out).2.1); (case side3 => repeat (first | exact (Kd.R_reads' HO_272000.out).2.2 | (with_reducible refine Kd.C_alloc ?_ _) | (with_reducible refine Kd.C_drewN ?_ _) | (with_reducible refine Kd.C_drew ?_))); (case side4 => exact (Kd.R_reads' HO_272000.out).2.1); rintro e w91 ⟨rfl, hb⟩; have n0_ := Aside0.mk (Kd.R_below (by (with_reducible repeat (first | apply Kd.R_alloc | apply Kd.R_drewN | apply Kd.R_drew)); exact HO_272000.out) hb); have n1_ := Aside0.mk (Kd.R_below (by (with_reducible repeat (first | apply Kd.R_alloc | apply Kd.R_drewN | apply Kd.R_drew)); exact HO_277000.out) hb); have n2_ := Aside0.mk (Kd.R_below (by (with_reducible repeat (first | apply Kd.R_alloc | apply Kd.R_drewN | apply Kd.R_drew)); exact HO_284000.out) hb); have n3_ := Aside0.mk (Kd.R_below (by (with_reducible repeat (first | apply Kd.R_alloc | apply Kd.R_drewN | apply Kd.R_drew)); exact HO287.out) hb); have n4_ := Aside0.mk (blk_below (g := gb259) (o := .cells #[.slice A0_0 l0_0.length c0_0, .int .i64 a0_1] 43 (0, 0)) (by (with_reducible repeat (first | refine blk_drewN ?_ _ | refine blk_drew ?_ | refine blk_alloc ?_ _)); exact BK259.out) hb); have n5_ := Aside0.mk (blk_below (g := gb271) (o := .cells #[.slice Ao21 t265.length co21, .int .i64 t268] 33 (0, 0)) (by (with_reducible repeat (first | refine blk_drewN ?_ _ | refine blk_drew ?_ | refine blk_alloc ?_ _)); exact BK271.out) hb); have n6_ := Aside0.mk (blk_below (g := gb276) (o := .cells #[.slice Ao27 t272.length co27, .int .i64 t275] 33 (0, 0)) (by (with_reducible repeat (first | refine blk_drewN ?_ _ | refine blk_drew ?_ | refine blk_alloc ?_ _)); exact BK276.out) hb); have n7_ := Aside0.mk (blk_below (g := gb283) (o := .cells #[.slice Ao33 t277.length co33, .int .i64 t280] 33 (0, 0)) (by (with_reducible repeat (first | refine blk_drewN ?_ _ | refine blk_drew ?_ | refine blk_alloc ?_ _)); exact BK283.out) hb); have n8_ := Aside0.mk (below_step (by repeat (first | (with_reducible first | exact HB.out | apply below_alloc | apply pw_below_drewN | apply below_drew1 | refine below_set ?_ GE259.out | refine below_set ?_ GE271.out | refine below_set ?_ GE276.out | refine below_set ?_ GE283.out) | exact HB.out)) hb); clear HO_272000; clear HO_277000; clear HO_284000; clear HO287; clear BK259; clear BK271; clear BK276; clear BK283; clear HB; have HO_272000 := n0_; have HO_277000 := n1_; have HO_284000 := n2_; have HO287 := n3_; have BK259 := n4_; have BK271 := n5_; have BK276 := n6_; have BK283 := n7_; have HB := n8_; clear n0_ n1_ n2_ n3_ n4_ n5_ n6_ n7_ n8_; (try clear hb); (try clear hb2); (try clear hk); (try clear hi)))
                    go_meet
                    case rel => exact ⟨_, ((t282 != t270)), (by first | rfl | (simp; done) | (simp [*]; done)), H', ⟨by have := HJ11.out; first | omega | exact Nat.le_refl _⟩, ⟨by (with_reducible repeat (first | apply Kd.R_alloc | apply Kd.R_drewN | apply Kd.R_drew)); exact Kd.R_mono HO_272000.out (fun _ hk => ⟨hk.1, hk.2.1⟩)⟩, ⟨by (with_reducible repeat (first | apply Kd.R_alloc | apply Kd.R_drewN | apply Kd.R_drew)); exact Kd.R_mono HO_277000.out (fun _ hk => ⟨hk.1.1, hk.1.2⟩)⟩, ⟨by (with_reducible repeat (first | apply Kd.R_alloc | apply Kd.R_drewN | apply Kd.R_drew)); exact Kd.R_mono HO_284000.out (fun _ hk => ⟨hk.1, hk.2.1⟩)⟩, ⟨by (with_reducible repeat (first | refine blk_drewN ?_ _ | refine blk_drew ?_ | refine blk_alloc ?_ _)); exact BK259.out⟩, ⟨by (with_reducible repeat (first | refine blk_drewN ?_ _ | refine blk_drew ?_ | refine blk_alloc ?_ _)); exact BK271.out⟩, ⟨by (with_reducible repeat (first | refine blk_drewN ?_ _ | refine blk_drew ?_ | refine blk_alloc ?_ _)); exact BK276.out⟩, ⟨by (with_reducible repeat (first | refine blk_drewN ?_ _ | refine blk_drew ?_ | refine blk_alloc ?_ _)); exact BK283.out⟩, ⟨by repeat (first | (with_reducible first | exact HB.out | apply below_alloc | apply pw_below_drewN | apply below_drew1 | refine below_set ?_ GE259.out | refine below_set ?_ GE271.out | refine below_set ?_ GE276.out | refine below_set ?_ GE283.out) | exact HB.out)⟩⟩
                  · rw [if_neg c83] at H
                    have c83b0 : (t281 == t269) = false := beq_eq_false_iff_ne.mpr c83
                    have c83b1 : (t281 != t269) = true := bne_iff_ne.mpr c83
                    have H' := Aside0.mk H
                    clear H
                    have hnb92 := NB283_259.out
                    have hnc92 := NB259_283.out
                    have hnb93 := NB283_271.out
                    have hnc93 := NB271_283.out
                    have hnb94 := NB283_276.out
                    have hnc94 := NB276_283.out
                    have hcz95_0 : w79.cell? ⟨gb283, 0, none⟩ = some (.slice Ao33 t277.length co33) := (blk_cell BK283.out 0).trans rfl
                    have hcz95_1 : w79.cell? ⟨gb283, 1, none⟩ = some (.int .i64 t280) := (blk_cell BK283.out 1).trans rfl
                    have hfz95_0 := blk_frozen BK283.out 0
                    have hfz95_1 := blk_frozen BK283.out 1
                    have hnb96 := NB271_259.out
                    have hnc96 := NB259_271.out
                    have hnb97 := NB271_276.out
                    have hnc97 := NB276_271.out
                    have hcz98_0 : w79.cell? ⟨gb271, 0, none⟩ = some (.slice Ao21 t265.length co21) := (blk_cell BK271.out 0).trans rfl
                    have hcz98_1 : w79.cell? ⟨gb271, 1, none⟩ = some (.int .i64 t268) := (blk_cell BK271.out 1).trans rfl
                    have hfz98_0 := blk_frozen BK271.out 0
                    have hfz98_1 := blk_frozen BK271.out 1
                    go_wp2_with (first | (go_at_call 24; (with_reducible refine (laws_eqPunchJob.calls kj11 _ _ t277 t280 _ _ t265 t268 true _ ?side1 ?side2 ?side3 ?side4 A81.out).mono ?_); (case side1 => repeat (first | exact (Kd.R_reads' HO_284000.out).2.2 | (with_reducible refine Kd.C_alloc ?_ _) | (with_reducible refine Kd.C_drewN ?_ _) | (with_reducible refine Kd.C_drew ?_))); (case side2 => exact (Kd.R_reads' HO_284000.out).2.1); (case side3 => repeat (first | exact (Kd.R_reads' HO_272000.out).2.2 | (with_reducible refine Kd.C_alloc ?_ _) | (with_reducible refine Kd.C_drewN ?_ _) | (with_reducible refine Kd.C_drew ?_))); (case side4 => exact (Kd.R_reads' HO_272000.out).2.1); rintro e w99 ⟨rfl, hb⟩; have n0_ := Aside0.mk (Kd.R_below (by (with_reducible repeat (first | apply Kd.R_alloc | apply Kd.R_drewN | apply Kd.R_drew)); exact HO_272000.out) hb); have n1_ := Aside0.mk (Kd.R_below (by (with_reducible repeat (first | apply Kd.R_alloc | apply Kd.R_drewN | apply Kd.R_drew)); exact HO_277000.out) hb); have n2_ := Aside0.mk (Kd.R_below (by (with_reducible repeat (first | apply Kd.R_alloc | apply Kd.R_drewN | apply Kd.R_drew)); exact HO_284000.out) hb); have n3_ := Aside0.mk (Kd.R_below (by (with_reducible repeat (first | apply Kd.R_alloc | apply Kd.R_drewN | apply Kd.R_drew)); exact HO287.out) hb); have n4_ := Aside0.mk (blk_below (g := gb259) (o := .cells #[.slice A0_0 l0_0.length c0_0, .int .i64 a0_1] 43 (0, 0)) (by (with_reducible repeat (first | refine blk_drewN ?_ _ | refine blk_drew ?_ | refine blk_alloc ?_ _)); exact BK259.out) hb); have n5_ := Aside0.mk (blk_below (g := gb271) (o := .cells #[.slice Ao21 t265.length co21, .int .i64 t268] 33 (0, 0)) (by (with_reducible repeat (first | refine blk_drewN ?_ _ | refine blk_drew ?_ | refine blk_alloc ?_ _)); exact BK271.out) hb); have n6_ := Aside0.mk (blk_below (g := gb276) (o := .cells #[.slice Ao27 t272.length co27, .int .i64 t275] 33 (0, 0)) (by (with_reducible repeat (first | refine blk_drewN ?_ _ | refine blk_drew ?_ | refine blk_alloc ?_ _)); exact BK276.out) hb); have n7_ := Aside0.mk (blk_below (g := gb283) (o := .cells #[.slice Ao33 t277.length co33, .int .i64 t280] 33 (0, 0)) (by (with_reducible repeat (first | refine blk_drewN ?_ _ | refine blk_drew ?_ | refine blk_alloc ?_ _)); exact BK283.out) hb); have n8_ := Aside0.mk (below_step (by repeat (first | (with_reducible first | exact HB.out | apply below_alloc | apply pw_below_drewN | apply below_drew1 | refine below_set ?_ GE259.out | refine below_set ?_ GE271.out | refine below_set ?_ GE276.out | refine below_set ?_ GE283.out) | exact HB.out)) hb); clear HO_272000; clear HO_277000; clear HO_284000; clear HO287; clear BK259; clear BK271; clear BK276; clear BK283; clear HB; have HO_272000 := n0_; have HO_277000 := n1_; have HO_284000 := n2_; have HO287 := n3_; have BK259 := n4_; have BK271 := n5_; have BK276 := n6_; have BK283 := n7_; have HB := n8_; clear n0_ n1_ n2_ n3_ n4_ n5_ n6_ n7_ n8_; (try clear hb); (try clear hb2); (try clear hk); (try clear hi)))
                    go_meet
                    case rel => exact ⟨_, (true), (by first | rfl | (simp; done) | (simp [*]; done)), H', ⟨by have := HJ11.out; first | omega | exact Nat.le_refl _⟩, ⟨by (with_reducible repeat (first | apply Kd.R_alloc | apply Kd.R_drewN | apply Kd.R_drew)); exact Kd.R_mono HO_272000.out (fun _ hk => ⟨hk.1, hk.2.1⟩)⟩, ⟨by (with_reducible repeat (first | apply Kd.R_alloc | apply Kd.R_drewN | apply Kd.R_drew)); exact Kd.R_mono HO_277000.out (fun _ hk => ⟨hk.1.1, hk.1.2⟩)⟩, ⟨by (with_reducible repeat (first | apply Kd.R_alloc | apply Kd.R_drewN | apply Kd.R_drew)); exact Kd.R_mono HO_284000.out (fun _ hk => ⟨hk.1, hk.2.1⟩)⟩, ⟨by (with_reducible repeat (first | refine blk_drewN ?_ _ | refine blk_drew ?_ | refine blk_alloc ?_ _)); exact BK259.out⟩, ⟨by (with_reducible repeat (first | refine blk_drewN ?_ _ | refine blk_drew ?_ | refine blk_alloc ?_ _)); exact BK271.out⟩, ⟨by (with_reducible repeat (first | refine blk_drewN ?_ _ | refine blk_drew ?_ | refine blk_alloc ?_ _)); exact BK276.out⟩, ⟨by (with_reducible repeat (first | refine blk_drewN ?_ _ | refine blk_drew ?_ | refine blk_alloc ?_ _)); exact BK283.out⟩, ⟨by repeat (first | (with_reducible first | exact HB.out | apply below_alloc | apply pw_below_drewN | apply below_drew1 | refine below_set ?_ GE259.out | refine below_set ?_ GE271.out | refine below_set ?_ GE276.out | refine below_set ?_ GE283.out) | exact HB.out)⟩⟩
                · replace c82 := Bool.eq_false_iff.mpr c82
                  subst c82
                  have H1 : (laws_FnExactResumeAt.j1 kj11 a1 t269 t270 true l0_0 a0_1 t265 t268 t277 t280) = some r := by rw [if_neg (show ¬ (false = true) by decide)] at H; exact H
                  clear H
                  have H := H1
                  clear H1
                  have H' := Aside0.mk H
                  clear H
                  have hnb100 := NB283_259.out
                  have hnc100 := NB259_283.out
                  have hnb101 := NB283_271.out
                  have hnc101 := NB271_283.out
                  have hnb102 := NB283_276.out
                  have hnc102 := NB276_283.out
                  have hcz103_0 : w79.cell? ⟨gb283, 0, none⟩ = some (.slice Ao33 t277.length co33) := (blk_cell BK283.out 0).trans rfl
                  have hcz103_1 : w79.cell? ⟨gb283, 1, none⟩ = some (.int .i64 t280) := (blk_cell BK283.out 1).trans rfl
                  have hfz103_0 := blk_frozen BK283.out 0
                  have hfz103_1 := blk_frozen BK283.out 1
                  have hnb104 := NB271_259.out
                  have hnc104 := NB259_271.out
                  have hnb105 := NB271_276.out
                  have hnc105 := NB276_271.out
                  have hcz106_0 : w79.cell? ⟨gb271, 0, none⟩ = some (.slice Ao21 t265.length co21) := (blk_cell BK271.out 0).trans rfl
                  have hcz106_1 : w79.cell? ⟨gb271, 1, none⟩ = some (.int .i64 t268) := (blk_cell BK271.out 1).trans rfl
                  have hfz106_0 := blk_frozen BK271.out 0
                  have hfz106_1 := blk_frozen BK271.out 1
                  go_wp2_with (first | (go_at_call 24; (with_reducible refine (laws_eqPunchJob.calls kj11 _ _ t277 t280 _ _ t265 t268 false _ ?side1 ?side2 ?side3 ?side4 A81.out).mono ?_); (case side1 => repeat (first | exact (Kd.R_reads' HO_284000.out).2.2 | (with_reducible refine Kd.C_alloc ?_ _) | (with_reducible refine Kd.C_drewN ?_ _) | (with_reducible refine Kd.C_drew ?_))); (case side2 => exact (Kd.R_reads' HO_284000.out).2.1); (case side3 => repeat (first | exact (Kd.R_reads' HO_272000.out).2.2 | (with_reducible refine Kd.C_alloc ?_ _) | (with_reducible refine Kd.C_drewN ?_ _) | (with_reducible refine Kd.C_drew ?_))); (case side4 => exact (Kd.R_reads' HO_272000.out).2.1); rintro e w107 ⟨rfl, hb⟩; have n0_ := Aside0.mk (Kd.R_below (by (with_reducible repeat (first | apply Kd.R_alloc | apply Kd.R_drewN | apply Kd.R_drew)); exact HO_272000.out) hb); have n1_ := Aside0.mk (Kd.R_below (by (with_reducible repeat (first | apply Kd.R_alloc | apply Kd.R_drewN | apply Kd.R_drew)); exact HO_277000.out) hb); have n2_ := Aside0.mk (Kd.R_below (by (with_reducible repeat (first | apply Kd.R_alloc | apply Kd.R_drewN | apply Kd.R_drew)); exact HO_284000.out) hb); have n3_ := Aside0.mk (Kd.R_below (by (with_reducible repeat (first | apply Kd.R_alloc | apply Kd.R_drewN | apply Kd.R_drew)); exact HO287.out) hb); have n4_ := Aside0.mk (blk_below (g := gb259) (o := .cells #[.slice A0_0 l0_0.length c0_0, .int .i64 a0_1] 43 (0, 0)) (by (with_reducible repeat (first | refine blk_drewN ?_ _ | refine blk_drew ?_ | refine blk_alloc ?_ _)); exact BK259.out) hb); have n5_ := Aside0.mk (blk_below (g := gb271) (o := .cells #[.slice Ao21 t265.length co21, .int .i64 t268] 33 (0, 0)) (by (with_reducible repeat (first | refine blk_drewN ?_ _ | refine blk_drew ?_ | refine blk_alloc ?_ _)); exact BK271.out) hb); have n6_ := Aside0.mk (blk_below (g := gb276) (o := .cells #[.slice Ao27 t272.length co27, .int .i64 t275] 33 (0, 0)) (by (with_reducible repeat (first | refine blk_drewN ?_ _ | refine blk_drew ?_ | refine blk_alloc ?_ _)); exact BK276.out) hb); have n7_ := Aside0.mk (blk_below (g := gb283) (o := .cells #[.slice Ao33 t277.length co33, .int .i64 t280] 33 (0, 0)) (by (with_reducible repeat (first | refine blk_drewN ?_ _ | refine blk_drew ?_ | refine blk_alloc ?_ _)); exact BK283.out) hb); have n8_ := Aside0.mk (below_step (by repeat (first | (with_reducible first | exact HB.out | apply below_alloc | apply pw_below_drewN | apply below_drew1 | refine below_set ?_ GE259.out | refine below_set ?_ GE271.out | refine below_set ?_ GE276.out | refine below_set ?_ GE283.out) | exact HB.out)) hb); clear HO_272000; clear HO_277000; clear HO_284000; clear HO287; clear BK259; clear BK271; clear BK276; clear BK283; clear HB; have HO_272000 := n0_; have HO_277000 := n1_; have HO_284000 := n2_; have HO287 := n3_; have BK259 := n4_; have BK271 := n5_; have BK276 := n6_; have BK283 := n7_; have HB := n8_; clear n0_ n1_ n2_ n3_ n4_ n5_ n6_ n7_ n8_; (try clear hb); (try clear hb2); (try clear hk); (try clear hi)))
                  go_meet
                  case rel => exact ⟨_, (true), (by first | rfl | (simp; done) | (simp [*]; done)), H', ⟨by have := HJ11.out; first | omega | exact Nat.le_refl _⟩, ⟨by (with_reducible repeat (first | apply Kd.R_alloc | apply Kd.R_drewN | apply Kd.R_drew)); exact Kd.R_mono HO_272000.out (fun _ hk => ⟨hk.1, hk.2.1⟩)⟩, ⟨by (with_reducible repeat (first | apply Kd.R_alloc | apply Kd.R_drewN | apply Kd.R_drew)); exact Kd.R_mono HO_277000.out (fun _ hk => ⟨hk.1.1, hk.1.2⟩)⟩, ⟨by (with_reducible repeat (first | apply Kd.R_alloc | apply Kd.R_drewN | apply Kd.R_drew)); exact Kd.R_mono HO_284000.out (fun _ hk => ⟨hk.1, hk.2.1⟩)⟩, ⟨by (with_reducible repeat (first | refine blk_drewN ?_ _ | refine blk_drew ?_ | refine blk_alloc ?_ _)); exact BK259.out⟩, ⟨by (with_reducible repeat (first | refine blk_drewN ?_ _ | refine blk_drew ?_ | refine blk_alloc ?_ _)); exact BK271.out⟩, ⟨by (with_reducible repeat (first | refine blk_drewN ?_ _ | refine blk_drew ?_ | refine blk_alloc ?_ _)); exact BK276.out⟩, ⟨by (with_reducible repeat (first | refine blk_drewN ?_ _ | refine blk_drew ?_ | refine blk_alloc ?_ _)); exact BK283.out⟩, ⟨by repeat (first | (with_reducible first | exact HB.out | apply below_alloc | apply pw_below_drewN | apply below_drew1 | refine below_set ?_ GE259.out | refine below_set ?_ GE271.out | refine below_set ?_ GE276.out | refine below_set ?_ GE283.out) | exact HB.out)⟩⟩
            case rest =>
              clear HC70
              try clear c1
              try clear c2
              try clear p2
              try clear c3
              try clear c4
              try clear c4b0
              try clear c5
              try clear c6
              try clear c7
              try clear c8
              try clear c9
              try clear c10
              try clear c22
              try clear c24
              try clear c27
              try clear c28
              try clear c29
              try clear c30
              try clear c31
              try clear c32
              try clear c34
              try clear c35
              try clear c36
              try clear c39
              try clear c40
              try clear c40b0
              try clear c40b1
              try clear c41
              try clear c42
              try clear c43
              try clear c45
              try clear c46
              try clear c49
              try clear c50
              try clear c51
              try clear c53
              try clear c54
              try clear c57
              try clear c58
              try clear c59
              try clear c61
              try clear c62
              try clear c65
              try clear c68
              try clear c75
              try clear c76
              try clear c77
              try clear c80
              try clear c80b0
              try clear c82
              try clear c83
              try clear c83b0
              try clear c83b1
              try clear c84
              try clear c85
              try clear c86
              try clear c88
              try clear c89
              try clear c92
              try clear c93
              try clear c94
              try clear c96
              try clear c97
              try clear c100
              try clear c101
              try clear c102
              try clear c104
              try clear c105
              try clear hcz103_0
              try clear hcz103_1
              try clear hcz106_0
              try clear hcz106_1
              try clear hcz14_0
              try clear hcz14_1
              try clear hcz16_0
              try clear hcz16_1
              try clear hcz23_0
              try clear hcz23_1
              try clear hcz24_0
              try clear hcz24_1
              try clear hcz30_0
              try clear hcz30_1
              try clear hcz37_0
              try clear hcz37_1
              try clear hcz44_0
              try clear hcz44_1
              try clear hcz47_0
              try clear hcz47_1
              try clear hcz52_0
              try clear hcz52_1
              try clear hcz55_0
              try clear hcz55_1
              try clear hcz60_0
              try clear hcz60_1
              try clear hcz63_0
              try clear hcz63_1
              try clear hcz6_0
              try clear hcz6_1
              try clear hcz78_0
              try clear hcz78_1
              try clear hcz87_0
              try clear hcz87_1
              try clear hcz90_0
              try clear hcz90_1
              try clear hcz95_0
              try clear hcz95_1
              try clear hcz98_0
              try clear hcz98_1
              try clear hfz103_0
              try clear hfz103_1
              try clear hfz106_0
              try clear hfz106_1
              try clear hfz14_0
              try clear hfz14_1
              try clear hfz16_0
              try clear hfz16_1
              try clear hfz23_0
              try clear hfz23_1
              try clear hfz24_0
              try clear hfz24_1
              try clear hfz30_0
              try clear hfz30_1
              try clear hfz37_0
              try clear hfz37_1
              try clear hfz44_0
              try clear hfz44_1
              try clear hfz47_0
              try clear hfz47_1
              try clear hfz52_0
              try clear hfz52_1
              try clear hfz55_0
              try clear hfz55_1
              try clear hfz60_0
              try clear hfz60_1
              try clear hfz63_0
              try clear hfz63_1
              try clear hfz6_0
              try clear hfz6_1
              try clear hfz78_0
              try clear hfz78_1
              try clear hfz87_0
              try clear hfz87_1
              try clear hfz90_0
              try clear hfz90_1
              try clear hfz95_0
              try clear hfz95_1
              try clear hfz98_0
              try clear hfz98_1
              try clear p2
              obtain ⟨kq, x80_69, rfl, HA, HJ69, HO_272000, HO_277000, HO_284000, BK259, BK271, BK276, BK283, HB⟩ := hcut
              have hl277000_69 := (Kd.R_reads' HO_277000.out).1
              rw [hl277000_69] at HO_277000
              (try simp only [hl277000_69])
              (try simp only [hl277000_69] at BK259)
              (try simp only [hl277000_69] at BK271)
              (try simp only [hl277000_69] at BK276)
              (try simp only [hl277000_69] at BK283)
              (try simp only [hl277000_69] at HO_272000)
              (try simp only [hl277000_69] at HO_284000)
              cases kq with
              | zero => exact absurd HA.out (by simp [laws_FnExactResumeAt.j1])
              | succ kj69 =>
                have H := HA.out
                clear HA
                simp only [laws_FnExactResumeAt.j1] at H
                by_cases c108 : x80_69 = true
                · subst c108
                  have H1 : (some false) = some r := by rw [if_pos rfl] at H; exact H
                  clear H
                  have H := H1
                  clear H1
                  obtain rfl := Option.some.inj H
                  go_wp2
                  go_ret
                  exact ⟨by first | rfl | (simp [errW_none, errW_some] <;> rfl) | (simp [*, errW_none, errW_some] <;> rfl), by repeat (first | (with_reducible first | exact HB.out | apply below_alloc | apply pw_below_drewN | apply below_drew1 | refine below_set ?_ GE259.out | refine below_set ?_ GE271.out | refine below_set ?_ GE276.out | refine below_set ?_ GE283.out) | exact HB.out)⟩
                · replace c108 := Bool.eq_false_iff.mpr c108
                  subst c108
                  have H1 : ((laws_markPunchJob.f kj69 t277 t280 1).bind fun bt293 => ((laws_heldPunchJob.f kj69 bt293.2 t280 1).bind fun t295 => (if t295 < 0 then (some false) else (if t295 = bt293.1 then ((laws_toPunchJob.f kj69 l0_0 a0_1).bind fun bt296 => ((impl_ResumeAt.f kj69 bt296.1 bt296.2 a1).bind fun bt300 => ((laws_eqPunchJob.f kj69 bt300.1 bt300.2.1 t265 t268).bind fun t307 => (if t307 = true then (if bt300.2.2.1 = t269 then (laws_FnExactResumeAt.j2 kj69 bt293.1 (bt300.2.2.2 != t270) bt293.2 t280) else (laws_FnExactResumeAt.j2 kj69 bt293.1 true bt293.2 t280)) else (laws_FnExactResumeAt.j2 kj69 bt293.1 true bt293.2 t280))))) else (some false))))) = some r := by rw [if_neg (show ¬ (false = true) by decide)] at H; exact H
                  clear H
                  have H := H1
                  clear H1
                  replace H := Option.bind_eq_some_iff.mp H
                  obtain ⟨⟨t293, t294⟩, A1090, H⟩ := H
                  replace H : ((laws_heldPunchJob.f kj69 t294 t280 1).bind fun t295 => (if t295 < 0 then (some false) else (if t295 = t293 then ((laws_toPunchJob.f kj69 l0_0 a0_1).bind fun bt296 => ((impl_ResumeAt.f kj69 bt296.1 bt296.2 a1).bind fun bt300 => ((laws_eqPunchJob.f kj69 bt300.1 bt300.2.1 t265 t268).bind fun t307 => (if t307 = true then (if bt300.2.2.1 = t269 then (laws_FnExactResumeAt.j2 kj69 t293 (bt300.2.2.2 != t270) t294 t280) else (laws_FnExactResumeAt.j2 kj69 t293 true t294 t280)) else (laws_FnExactResumeAt.j2 kj69 t293 true t294 t280))))) else (some false)))) = some r := H
                  have A109 := Aside0.mk A1090
                  clear A1090
                  replace H := Option.bind_eq_some_iff.mp H
                  obtain ⟨t295, A1100, H⟩ := H
                  replace H : (if t295 < 0 then (some false) else (if t295 = t293 then ((laws_toPunchJob.f kj69 l0_0 a0_1).bind fun bt296 => ((impl_ResumeAt.f kj69 bt296.1 bt296.2 a1).bind fun bt300 => ((laws_eqPunchJob.f kj69 bt300.1 bt300.2.1 t265 t268).bind fun t307 => (if t307 = true then (if bt300.2.2.1 = t269 then (laws_FnExactResumeAt.j2 kj69 t293 (bt300.2.2.2 != t270) t294 t280) else (laws_FnExactResumeAt.j2 kj69 t293 true t294 t280)) else (laws_FnExactResumeAt.j2 kj69 t293 true t294 t280))))) else (some false))) = some r := H
                  have A110 := Aside0.mk A1100
                  clear A1100
                  by_cases c111 : t295 < 0
                  · rw [if_pos c111] at H
                    have c111b0 : decide (t295 < 0) = true := decide_eq_true c111
                    clear c111
                    obtain rfl := Option.some.inj H
                    have hnb112 := NB283_259.out
                    have hnc112 := NB259_283.out
                    have hnb113 := NB283_271.out
                    have hnc113 := NB271_283.out
                    have hnb114 := NB283_276.out
                    have hnc114 := NB276_283.out
                    have hcz115_0 : wc.cell? ⟨gb283, 0, none⟩ = some (.slice Ao33 t277.length co33) := (blk_cell BK283.out 0).trans rfl
                    have hcz115_1 : wc.cell? ⟨gb283, 1, none⟩ = some (.int .i64 t280) := (blk_cell BK283.out 1).trans rfl
                    have hfz115_0 := blk_frozen BK283.out 0
                    have hfz115_1 := blk_frozen BK283.out 1
                    go_wp2_with (first | ((with_reducible refine gate_callee (f := 27) rfl ?_); refine goesL_ (some 83) rfl rfl Try.func27 (by kernel_rfl) rfl #[.agg #[.slice Ao33 t277.length co33, .int .i64 t280], .int .i64 1] rfl (by (try simp only [List.map_toArray, List.map_cons, List.map_nil]); first | done | rfl | (simp only [List.length_drop, List.length_take]; rfl)) ?_; (with_reducible refine (laws_markPunchJob.calls kj69 (fun k_ => some k_ = (.slice Ao33 t277.length co33 : Value).ownBlock) (.slice Ao33 t277.length co33) t277 t280 1 t293 t294 w _ ?side1 ?side2 A109.out).mono ?_); (case side1 => repeat (first | (with_reducible first | exact HB.out | apply below_alloc | apply pw_below_drewN | apply below_drew1 | refine below_set ?_ GE259.out | refine below_set ?_ GE271.out | refine below_set ?_ GE276.out | refine below_set ?_ GE283.out) | exact HB.out)); (case side2 => exact Kd.R_tight rfl HO_284000.out); rintro e w116 ⟨rfl, hy0, hb, hkp⟩; refine ⟨_, rfl, ?_⟩; have n0_ := Aside0.mk (Kd.R_mono (ok' := fun k_ => some k_ ≠ (.slice Ao27 t291.length co27 : Value).ownBlock ∧ some k_ ≠ (.slice Ao33 t277.length co33 : Value).ownBlock) (Kd.R_keptB (HO_272000.out) hkp (fun k_ hk_ hs_ => (hk_.2) hs_)) (fun k_ hk_ => ⟨hk_.1.1, hk_.1.2⟩)); have n1_ := Aside0.mk (Kd.R_mono (ok' := fun k_ => some k_ ≠ (.slice Ao21 t265.length co21 : Value).ownBlock ∧ some k_ ≠ (.slice Ao33 t277.length co33 : Value).ownBlock) (Kd.R_keptB (HO_277000.out) hkp (fun k_ hk_ hs_ => (hk_.2) hs_)) (fun k_ hk_ => ⟨hk_.1.1, hk_.1.2⟩)); have n2_ := Aside0.mk (Kd.R_reok rfl hy0 (fun k_ e_ => HO_284000.out.1 k_ e_)); have n3_ := Aside0.mk (blk_kept (by (with_reducible repeat (first | refine blk_drewN ?_ _ | refine blk_drew ?_ | refine blk_alloc ?_ _)); exact BK259.out) hkp (fun hs_ => (fun e_ => (Kd.R_ne HO_284000.out BK259.out (by decide)) e_) hs_)); have n4_ := Aside0.mk (blk_kept (by (with_reducible repeat (first | refine blk_drewN ?_ _ | refine blk_drew ?_ | refine blk_alloc ?_ _)); exact BK271.out) hkp (fun hs_ => (fun e_ => (Kd.R_ne HO_284000.out BK271.out (by decide)) e_) hs_)); have n5_ := Aside0.mk (blk_kept (by (with_reducible repeat (first | refine blk_drewN ?_ _ | refine blk_drew ?_ | refine blk_alloc ?_ _)); exact BK276.out) hkp (fun hs_ => (fun e_ => (Kd.R_ne HO_284000.out BK276.out (by decide)) e_) hs_)); have n6_ := Aside0.mk (blk_kept (by (with_reducible repeat (first | refine blk_drewN ?_ _ | refine blk_drew ?_ | refine blk_alloc ?_ _)); exact BK283.out) hkp (fun hs_ => (fun e_ => (Kd.R_ne HO_284000.out BK283.out (by decide)) e_) hs_)); have n7_ := Aside0.mk (hb); clear HO_272000; clear HO_277000; clear HO_284000; clear BK259; clear BK271; clear BK276; clear BK283; clear HB; have HO_272000 := n0_; have HO_277000 := n1_; have HO_284000 := n2_; have BK259 := n3_; have BK271 := n4_; have BK276 := n5_; have BK283 := n6_; have HB := n7_; clear n0_ n1_ n2_ n3_ n4_ n5_ n6_ n7_; (try clear hb); (try clear hkp); (try clear hy0); have hcz117_0 : w116.cell? ⟨gb283, 0, none⟩ = some (.slice Ao33 t277.length co33) := (blk_cell BK283.out 0).trans rfl; have hcz117_1 : w116.cell? ⟨gb283, 1, none⟩ = some (.int .i64 t280) := (blk_cell BK283.out 1).trans rfl; have hfz117_0 := blk_frozen BK283.out 0; have hfz117_1 := blk_frozen BK283.out 1) | ((with_reducible refine gate_callee (f := 28) rfl ?_); refine goesL_ (some 86) rfl rfl Try.func28 (by kernel_rfl) rfl #[.agg #[.slice Ao33 t294.length co33, .int .i64 t280], .int .i64 1] rfl (by (try simp only [List.map_toArray, List.map_cons, List.map_nil]); first | done | (rw [show t294.length = t277.length from (Kd.R_reads' HO_284000.out).1.symm] <;> rfl) | rfl | (simp only [List.length_drop, List.length_take]; rfl)) ?_; (with_reducible refine (laws_heldPunchJob.calls kj69 _ _ t294 t280 1 t295 _ ?side1 ?side2 A110.out).mono ?_); (case side1 => repeat (first | exact (Kd.R_reads' HO_284000.out).2.2 | (with_reducible refine Kd.C_alloc ?_ _) | (with_reducible refine Kd.C_drewN ?_ _) | (with_reducible refine Kd.C_drew ?_))); (case side2 => rw [show t294.length = t277.length from (Kd.R_reads' HO_284000.out).1.symm]; exact (Kd.R_reads' HO_284000.out).2.1); rintro e w118 ⟨rfl, hb⟩; refine ⟨_, rfl, ?_⟩; have n0_ := Aside0.mk (Kd.R_below (by (with_reducible repeat (first | apply Kd.R_alloc | apply Kd.R_drewN | apply Kd.R_drew)); exact HO_272000.out) hb); have n1_ := Aside0.mk (Kd.R_below (by (with_reducible repeat (first | apply Kd.R_alloc | apply Kd.R_drewN | apply Kd.R_drew)); exact HO_277000.out) hb); have n2_ := Aside0.mk (Kd.R_below (by (with_reducible repeat (first | apply Kd.R_alloc | apply Kd.R_drewN | apply Kd.R_drew)); exact HO_284000.out) hb); have n3_ := Aside0.mk (blk_below (g := gb259) (o := .cells #[.slice A0_0 l0_0.length c0_0, .int .i64 a0_1] 43 (0, 0)) (by (with_reducible repeat (first | refine blk_drewN ?_ _ | refine blk_drew ?_ | refine blk_alloc ?_ _)); exact BK259.out) hb); have n4_ := Aside0.mk (blk_below (g := gb271) (o := .cells #[.slice Ao21 t265.length co21, .int .i64 t268] 33 (0, 0)) (by (with_reducible repeat (first | refine blk_drewN ?_ _ | refine blk_drew ?_ | refine blk_alloc ?_ _)); exact BK271.out) hb); have n5_ := Aside0.mk (blk_below (g := gb276) (o := .cells #[.slice Ao27 t291.length co27, .int .i64 t275] 33 (0, 0)) (by (with_reducible repeat (first | refine blk_drewN ?_ _ | refine blk_drew ?_ | refine blk_alloc ?_ _)); exact BK276.out) hb); have n6_ := Aside0.mk (blk_below (g := gb283) (o := .cells #[.slice Ao33 t277.length co33, .int .i64 t280] 33 (0, 0)) (by (with_reducible repeat (first | refine blk_drewN ?_ _ | refine blk_drew ?_ | refine blk_alloc ?_ _)); exact BK283.out) hb); have n7_ := Aside0.mk (below_step (by repeat (first | (with_reducible first | exact HB.out | apply below_alloc | apply pw_below_drewN | apply below_drew1 | refine below_set ?_ GE259.out | refine below_set ?_ GE271.out | refine below_set ?_ GE276.out | refine below_set ?_ GE283.out) | exact HB.out)) hb); clear HO_272000; clear HO_277000; clear HO_284000; clear BK259; clear BK271; clear BK276; clear BK283; clear HB; have HO_272000 := n0_; have HO_277000 := n1_; have HO_284000 := n2_; have BK259 := n3_; have BK271 := n4_; have BK276 := n5_; have BK283 := n6_; have HB := n7_; clear n0_ n1_ n2_ n3_ n4_ n5_ n6_ n7_; (try clear hb); (try clear hb2); (try clear hk); (try clear hi)))
                    go_ret
                    exact ⟨by first | rfl | (simp [errW_none, errW_some] <;> rfl) | (simp [*, errW_none, errW_some] <;> rfl), by repeat (first | (with_reducible first | exact HB.out | apply below_alloc | apply pw_below_drewN | apply below_drew1 | refine below_set ?_ GE259.out | refine below_set ?_ GE271.out | refine below_set ?_ GE276.out | refine below_set ?_ GE283.out) | exact HB.out)⟩
                  · rw [if_neg c111] at H
                    have c111b0 : decide (t295 < 0) = false := decide_eq_false c111
                    clear c111
                    by_cases c119 : t295 = t293
                    · rw [if_pos c119] at H
                      have c119b0 : (t295 == t293) = true := beq_iff_eq.mpr c119
                      have c119b1 : (t295 != t293) = false := bne_eq_false_iff_eq.mpr c119
                      clear c119
                      replace H := Option.bind_eq_some_iff.mp H
                      obtain ⟨⟨t296, t299⟩, A1200, H⟩ := H
                      replace H : ((impl_ResumeAt.f kj69 t296 t299 a1).bind fun bt300 => ((laws_eqPunchJob.f kj69 bt300.1 bt300.2.1 t265 t268).bind fun t307 => (if t307 = true then (if bt300.2.2.1 = t269 then (laws_FnExactResumeAt.j2 kj69 t293 (bt300.2.2.2 != t270) t294 t280) else (laws_FnExactResumeAt.j2 kj69 t293 true t294 t280)) else (laws_FnExactResumeAt.j2 kj69 t293 true t294 t280)))) = some r := H
                      have A120 := Aside0.mk A1200
                      clear A1200
                      replace H := Option.bind_eq_some_iff.mp H
                      obtain ⟨⟨t300, t303, t304, t305⟩, A1210, H⟩ := H
                      replace H : ((laws_eqPunchJob.f kj69 t300 t303 t265 t268).bind fun t307 => (if t307 = true then (if t304 = t269 then (laws_FnExactResumeAt.j2 kj69 t293 (t305 != t270) t294 t280) else (laws_FnExactResumeAt.j2 kj69 t293 true t294 t280)) else (laws_FnExactResumeAt.j2 kj69 t293 true t294 t280))) = some r := H
                      have A121 := Aside0.mk A1210
                      clear A1210
                      have HC122 := Aside0.mk H
                      clear H
                      have hnb123 := NB283_259.out
                      have hnc123 := NB259_283.out
                      have hnb124 := NB283_271.out
                      have hnc124 := NB271_283.out
                      have hnb125 := NB283_276.out
                      have hnc125 := NB276_283.out
                      have hcz126_0 : wc.cell? ⟨gb283, 0, none⟩ = some (.slice Ao33 t277.length co33) := (blk_cell BK283.out 0).trans rfl
                      have hcz126_1 : wc.cell? ⟨gb283, 1, none⟩ = some (.int .i64 t280) := (blk_cell BK283.out 1).trans rfl
                      have hfz126_0 := blk_frozen BK283.out 0
                      have hfz126_1 := blk_frozen BK283.out 1
                      go_upto_region 25 with (first | ((with_reducible refine gate_callee (f := 27) rfl ?_); refine goesL_ (some 83) rfl rfl Try.func27 (by kernel_rfl) rfl #[.agg #[.slice Ao33 t277.length co33, .int .i64 t280], .int .i64 1] rfl (by (try simp only [List.map_toArray, List.map_cons, List.map_nil]); first | done | rfl | (simp only [List.length_drop, List.length_take]; rfl)) ?_; (with_reducible refine (laws_markPunchJob.calls kj69 (fun k_ => some k_ = (.slice Ao33 t277.length co33 : Value).ownBlock) (.slice Ao33 t277.length co33) t277 t280 1 t293 t294 w _ ?side1 ?side2 A109.out).mono ?_); (case side1 => repeat (first | (with_reducible first | exact HB.out | apply below_alloc | apply pw_below_drewN | apply below_drew1 | refine below_set ?_ GE259.out | refine below_set ?_ GE271.out | refine below_set ?_ GE276.out | refine below_set ?_ GE283.out) | exact HB.out)); (case side2 => exact Kd.R_tight rfl HO_284000.out); rintro e w127 ⟨rfl, hy0, hb, hkp⟩; refine ⟨_, rfl, ?_⟩; have n0_ := Aside0.mk (Kd.R_mono (ok' := fun k_ => some k_ ≠ (.slice Ao27 t291.length co27 : Value).ownBlock ∧ some k_ ≠ (.slice Ao33 t277.length co33 : Value).ownBlock) (Kd.R_keptB (HO_272000.out) hkp (fun k_ hk_ hs_ => (hk_.2) hs_)) (fun k_ hk_ => ⟨hk_.1.1, hk_.1.2⟩)); have n1_ := Aside0.mk (Kd.R_mono (ok' := fun k_ => some k_ ≠ (.slice Ao21 t265.length co21 : Value).ownBlock ∧ some k_ ≠ (.slice Ao33 t277.length co33 : Value).ownBlock) (Kd.R_keptB (HO_277000.out) hkp (fun k_ hk_ hs_ => (hk_.2) hs_)) (fun k_ hk_ => ⟨hk_.1.1, hk_.1.2⟩)); have n2_ := Aside0.mk (Kd.R_reok rfl hy0 (fun k_ e_ => HO_284000.out.1 k_ e_)); have n3_ := Aside0.mk (blk_kept (by (with_reducible repeat (first | refine blk_drewN ?_ _ | refine blk_drew ?_ | refine blk_alloc ?_ _)); exact BK259.out) hkp (fun hs_ => (fun e_ => (Kd.R_ne HO_284000.out BK259.out (by decide)) e_) hs_)); have n4_ := Aside0.mk (blk_kept (by (with_reducible repeat (first | refine blk_drewN ?_ _ | refine blk_drew ?_ | refine blk_alloc ?_ _)); exact BK271.out) hkp (fun hs_ => (fun e_ => (Kd.R_ne HO_284000.out BK271.out (by decide)) e_) hs_)); have n5_ := Aside0.mk (blk_kept (by (with_reducible repeat (first | refine blk_drewN ?_ _ | refine blk_drew ?_ | refine blk_alloc ?_ _)); exact BK276.out) hkp (fun hs_ => (fun e_ => (Kd.R_ne HO_284000.out BK276.out (by decide)) e_) hs_)); have n6_ := Aside0.mk (blk_kept (by (with_reducible repeat (first | refine blk_drewN ?_ _ | refine blk_drew ?_ | refine blk_alloc ?_ _)); exact BK283.out) hkp (fun hs_ => (fun e_ => (Kd.R_ne HO_284000.out BK283.out (by decide)) e_) hs_)); have n7_ := Aside0.mk (hb); clear HO_272000; clear HO_277000; clear HO_284000; clear BK259; clear BK271; clear BK276; clear BK283; clear HB; have HO_272000 := n0_; have HO_277000 := n1_; have HO_284000 := n2_; have BK259 := n3_; have BK271 := n4_; have BK276 := n5_; have BK283 := n6_; have HB := n7_; clear n0_ n1_ n2_ n3_ n4_ n5_ n6_ n7_; (try clear hb); (try clear hkp); (try clear hy0); have hcz128_0 : w127.cell? ⟨gb283, 0, none⟩ = some (.slice Ao33 t277.length co33) := (blk_cell BK283.out 0).trans rfl; have hcz128_1 : w127.cell? ⟨gb283, 1, none⟩ = some (.int .i64 t280) := (blk_cell BK283.out 1).trans rfl; have hfz128_0 := blk_frozen BK283.out 0; have hfz128_1 := blk_frozen BK283.out 1) | ((with_reducible refine gate_callee (f := 28) rfl ?_); refine goesL_ (some 86) rfl rfl Try.func28 (by kernel_rfl) rfl #[.agg #[.slice Ao33 t294.length co33, .int .i64 t280], .int .i64 1] rfl (by (try simp only [List.map_toArray, List.map_cons, List.map_nil]); first | done | (rw [show t294.length = t277.length from (Kd.R_reads' HO_284000.out).1.symm] <;> rfl) | rfl | (simp only [List.length_drop, List.length_take]; rfl)) ?_; (with_reducible refine (laws_heldPunchJob.calls kj69 _ _ t294 t280 1 t295 _ ?side1 ?side2 A110.out).mono ?_); (case side1 => repeat (first | exact (Kd.R_reads' HO_284000.out).2.2 | (with_reducible refine Kd.C_alloc ?_ _) | (with_reducible refine Kd.C_drewN ?_ _) | (with_reducible refine Kd.C_drew ?_))); (case side2 => rw [show t294.length = t277.length from (Kd.R_reads' HO_284000.out).1.symm]; exact (Kd.R_reads' HO_284000.out).2.1); rintro e w129 ⟨rfl, hb⟩; refine ⟨_, rfl, ?_⟩; have n0_ := Aside0.mk (Kd.R_below (by (with_reducible repeat (first | apply Kd.R_alloc | apply Kd.R_drewN | apply Kd.R_drew)); exact HO_272000.out) hb); have n1_ := Aside0.mk (Kd.R_below (by (with_reducible repeat (first | apply Kd.R_alloc | apply Kd.R_drewN | apply Kd.R_drew)); exact HO_277000.out) hb); have n2_ := Aside0.mk (Kd.R_below (by (with_reducible repeat (first | apply Kd.R_alloc | apply Kd.R_drewN | apply Kd.R_drew)); exact HO_284000.out) hb); have n3_ := Aside0.mk (blk_below (g := gb259) (o := .cells #[.slice A0_0 l0_0.length c0_0, .int .i64 a0_1] 43 (0, 0)) (by (with_reducible repeat (first | refine blk_drewN ?_ _ | refine blk_drew ?_ | refine blk_alloc ?_ _)); exact BK259.out) hb); have n4_ := Aside0.mk (blk_below (g := gb271) (o := .cells #[.slice Ao21 t265.length co21, .int .i64 t268] 33 (0, 0)) (by (with_reducible repeat (first | refine blk_drewN ?_ _ | refine blk_drew ?_ | refine blk_alloc ?_ _)); exact BK271.out) hb); have n5_ := Aside0.mk (blk_below (g := gb276) (o := .cells #[.slice Ao27 t291.length co27, .int .i64 t275] 33 (0, 0)) (by (with_reducible repeat (first | refine blk_drewN ?_ _ | refine blk_drew ?_ | refine blk_alloc ?_ _)); exact BK276.out) hb); have n6_ := Aside0.mk (blk_below (g := gb283) (o := .cells #[.slice Ao33 t277.length co33, .int .i64 t280] 33 (0, 0)) (by (with_reducible repeat (first | refine blk_drewN ?_ _ | refine blk_drew ?_ | refine blk_alloc ?_ _)); exact BK283.out) hb); have n7_ := Aside0.mk (below_step (by repeat (first | (with_reducible first | exact HB.out | apply below_alloc | apply pw_below_drewN | apply below_drew1 | refine below_set ?_ GE259.out | refine below_set ?_ GE271.out | refine below_set ?_ GE276.out | refine below_set ?_ GE283.out) | exact HB.out)) hb); clear HO_272000; clear HO_277000; clear HO_284000; clear BK259; clear BK271; clear BK276; clear BK283; clear HB; have HO_272000 := n0_; have HO_277000 := n1_; have HO_284000 := n2_; have BK259 := n3_; have BK271 := n4_; have BK276 := n5_; have BK283 := n6_; have HB := n7_; clear n0_ n1_ n2_ n3_ n4_ n5_ n6_ n7_; (try clear hb); (try clear hb2); (try clear hk); (try clear hi); have hnb130 := NB259_271.out; have hnc130 := NB271_259.out; have hnb131 := NB259_276.out; have hnc131 := NB276_259.out; have hcz132_0 : w129.cell? ⟨gb259, 0, none⟩ = some (.slice A0_0 l0_0.length c0_0) := (blk_cell BK259.out 0).trans rfl; have hcz132_1 : w129.cell? ⟨gb259, 1, none⟩ = some (.int .i64 a0_1) := (blk_cell BK259.out 1).trans rfl; have hfz132_0 := blk_frozen BK259.out 0; have hfz132_1 := blk_frozen BK259.out 1) | ((with_reducible refine gate_callee (f := 31) rfl ?_); refine goesL_ (some 94) rfl rfl Try.func31 (by kernel_rfl) rfl #[.agg #[.slice A0_0 l0_0.length c0_0, .int .i64 a0_1]] rfl (by (try simp only [List.map_toArray, List.map_cons, List.map_nil]); first | done | rfl | (simp only [List.length_drop, List.length_take]; rfl)) ?_; (with_reducible refine (laws_toPunchJob.calls kj69 _ _ l0_0 a0_1 t296 t299 _ ?side1 ?side2 A120.out).mono ?_); (case side1 => repeat (first | exact (Kd.C_below HR0_0.out HB.out) | (with_reducible refine Kd.C_alloc ?_ _) | (with_reducible refine Kd.C_drewN ?_ _) | (with_reducible refine Kd.C_drew ?_))); (case side2 => exact HC0_0.out); rintro e w133 ⟨v297, rfl, ho0, hb⟩; refine ⟨_, rfl, ?_⟩; have n0_ := Aside0.mk (Kd.R_elder' (by (with_reducible repeat (first | apply Kd.R_alloc | apply Kd.R_drewN | apply Kd.R_drew)); exact HO_272000.out) (Kd.R_base ho0) hb); have n1_ := Aside0.mk (Kd.R_elder' (by (with_reducible repeat (first | apply Kd.R_alloc | apply Kd.R_drewN | apply Kd.R_drew)); exact HO_277000.out) (Kd.R_base ho0) hb); have n2_ := Aside0.mk (Kd.R_elder' (by (with_reducible repeat (first | apply Kd.R_alloc | apply Kd.R_drewN | apply Kd.R_drew)); exact HO_284000.out) (Kd.R_base ho0) hb); have n3_ := Aside0.mk (Kd.R_lower (Kd.R_new' (Kd.R_new' (Kd.R_new' ho0 (Kd.R_lt (by (with_reducible repeat (first | apply Kd.R_alloc | apply Kd.R_drewN | apply Kd.R_drew)); exact HO_272000.out))) (Kd.R_lt (by (with_reducible repeat (first | apply Kd.R_alloc | apply Kd.R_drewN | apply Kd.R_drew)); exact HO_277000.out))) (Kd.R_lt (by (with_reducible repeat (first | apply Kd.R_alloc | apply Kd.R_drewN | apply Kd.R_drew)); exact HO_284000.out))) (below_size (by repeat (first | (with_reducible first | exact HB.out | apply below_alloc | apply pw_below_drewN | apply below_drew1 | refine below_set ?_ GE259.out | refine below_set ?_ GE271.out | refine below_set ?_ GE276.out | refine below_set ?_ GE283.out) | exact HB.out)))); have n4_ := Aside0.mk (blk_below (g := gb259) (o := .cells #[.slice A0_0 l0_0.length c0_0, .int .i64 a0_1] 43 (0, 0)) (by (with_reducible repeat (first | refine blk_drewN ?_ _ | refine blk_drew ?_ | refine blk_alloc ?_ _)); exact BK259.out) hb); have n5_ := Aside0.mk (blk_below (g := gb271) (o := .cells #[.slice Ao21 t265.length co21, .int .i64 t268] 33 (0, 0)) (by (with_reducible repeat (first | refine blk_drewN ?_ _ | refine blk_drew ?_ | refine blk_alloc ?_ _)); exact BK271.out) hb); have n6_ := Aside0.mk (blk_below (g := gb276) (o := .cells #[.slice Ao27 t291.length co27, .int .i64 t275] 33 (0, 0)) (by (with_reducible repeat (first | refine blk_drewN ?_ _ | refine blk_drew ?_ | refine blk_alloc ?_ _)); exact BK276.out) hb); have n7_ := Aside0.mk (blk_below (g := gb283) (o := .cells #[.slice Ao33 t277.length co33, .int .i64 t280] 33 (0, 0)) (by (with_reducible repeat (first | refine blk_drewN ?_ _ | refine blk_drew ?_ | refine blk_alloc ?_ _)); exact BK283.out) hb); have n8_ := Aside0.mk (below_step (by repeat (first | (with_reducible first | exact HB.out | apply below_alloc | apply pw_below_drewN | apply below_drew1 | refine below_set ?_ GE259.out | refine below_set ?_ GE271.out | refine below_set ?_ GE276.out | refine below_set ?_ GE283.out) | exact HB.out)) hb); clear HO_272000; clear HO_277000; clear HO_284000; clear BK259; clear BK271; clear BK276; clear BK283; clear HB; have HO_272000 := n0_; have HO_277000 := n1_; have HO_284000 := n2_; have HO298 := n3_; have BK259 := n4_; have BK271 := n5_; have BK276 := n6_; have BK283 := n7_; have HB := n8_; clear n0_ n1_ n2_ n3_ n4_ n5_ n6_ n7_ n8_; (try clear hb); (try clear hb2); (try clear hk); (try clear hi); (try clear ho0); obtain ⟨Ao134, co134, eo134⟩ := Kd.R_slice HO298.out; subst eo134) | ((with_reducible refine gate_callee (f := 32) rfl ?_); refine goesL_ (some 96) rfl rfl Try.func32 (by kernel_rfl) rfl #[.agg #[.slice Ao134 t296.length co134, .int .i64 t299], .int .i64 a1] rfl (by (try simp only [List.map_toArray, List.map_cons, List.map_nil]); first | done | rfl | (simp only [List.length_drop, List.length_take]; rfl)) ?_; (with_reducible refine (impl_ResumeAt.calls kj69 _ _ t296 t299 a1 t300 t303 t304 t305 _ ?side1 ?side2 A121.out).mono ?_); (case side1 => repeat (first | exact (Kd.R_reads' HO298.out).2.2 | (with_reducible refine Kd.C_alloc ?_ _) | (with_reducible refine Kd.C_drewN ?_ _) | (with_reducible refine Kd.C_drew ?_))); (case side2 => exact (Kd.R_reads' HO298.out).2.1); rintro e w135 ⟨v301, rfl, ho0, hb⟩; refine ⟨_, rfl, ?_⟩; have n0_ := Aside0.mk (Kd.R_elder' (by (with_reducible repeat (first | apply Kd.R_alloc | apply Kd.R_drewN | apply Kd.R_drew)); exact HO_272000.out) (Kd.R_base ho0) hb); have n1_ := Aside0.mk (Kd.R_elder' (by (with_reducible repeat (first | apply Kd.R_alloc | apply Kd.R_drewN | apply Kd.R_drew)); exact HO_277000.out) (Kd.R_base ho0) hb); have n2_ := Aside0.mk (Kd.R_elder' (by (with_reducible repeat (first | apply Kd.R_alloc | apply Kd.R_drewN | apply Kd.R_drew)); exact HO_284000.out) (Kd.R_base ho0) hb); have n3_ := Aside0.mk (Kd.R_elder' (by (with_reducible repeat (first | apply Kd.R_alloc | apply Kd.R_drewN | apply Kd.R_drew)); exact HO298.out) (Kd.R_base ho0) hb); have n4_ := Aside0.mk (Kd.R_lower (Kd.R_new' (Kd.R_new' (Kd.R_new' (Kd.R_new' ho0 (Kd.R_lt (by (with_reducible repeat (first | apply Kd.R_alloc | apply Kd.R_drewN | apply Kd.R_drew)); exact HO_272000.out))) (Kd.R_lt (by (with_reducible repeat (first | apply Kd.R_alloc | apply Kd.R_drewN | apply Kd.R_drew)); exact HO_277000.out))) (Kd.R_lt (by (with_reducible repeat (first | apply Kd.R_alloc | apply Kd.R_drewN | apply Kd.R_drew)); exact HO_284000.out))) (Kd.R_lt (by (with_reducible repeat (first | apply Kd.R_alloc | apply Kd.R_drewN | apply Kd.R_drew)); exact HO298.out))) (below_size (by repeat (first | (with_reducible first | exact HB.out | apply below_alloc | apply pw_below_drewN | apply below_drew1 | refine below_set ?_ GE259.out | refine below_set ?_ GE271.out | refine below_set ?_ GE276.out | refine below_set ?_ GE283.out) | exact HB.out)))); have n5_ := Aside0.mk (blk_below (g := gb259) (o := .cells #[.slice A0_0 l0_0.length c0_0, .int .i64 a0_1] 43 (0, 0)) (by (with_reducible repeat (first | refine blk_drewN ?_ _ | refine blk_drew ?_ | refine blk_alloc ?_ _)); exact BK259.out) hb); have n6_ := Aside0.mk (blk_below (g := gb271) (o := .cells #[.slice Ao21 t265.length co21, .int .i64 t268] 33 (0, 0)) (by (with_reducible repeat (first | refine blk_drewN ?_ _ | refine blk_drew ?_ | refine blk_alloc ?_ _)); exact BK271.out) hb); have n7_ := Aside0.mk (blk_below (g := gb276) (o := .cells #[.slice Ao27 t291.length co27, .int .i64 t275] 33 (0, 0)) (by (with_reducible repeat (first | refine blk_drewN ?_ _ | refine blk_drew ?_ | refine blk_alloc ?_ _)); exact BK276.out) hb); have n8_ := Aside0.mk (blk_below (g := gb283) (o := .cells #[.slice Ao33 t277.length co33, .int .i64 t280] 33 (0, 0)) (by (with_reducible repeat (first | refine blk_drewN ?_ _ | refine blk_drew ?_ | refine blk_alloc ?_ _)); exact BK283.out) hb); have n9_ := Aside0.mk (below_step (by repeat (first | (with_reducible first | exact HB.out | apply below_alloc | apply pw_below_drewN | apply below_drew1 | refine below_set ?_ GE259.out | refine below_set ?_ GE271.out | refine below_set ?_ GE276.out | refine below_set ?_ GE283.out) | exact HB.out)) hb); clear HO_272000; clear HO_277000; clear HO_284000; clear HO298; clear BK259; clear BK271; clear BK276; clear BK283; clear HB; have HO_272000 := n0_; have HO_277000 := n1_; have HO_284000 := n2_; have HO298 := n3_; have HO302 := n4_; have BK259 := n5_; have BK271 := n6_; have BK276 := n7_; have BK283 := n8_; have HB := n9_; clear n0_ n1_ n2_ n3_ n4_ n5_ n6_ n7_ n8_ n9_; (try clear hb); (try clear hb2); (try clear hk); (try clear hi); (try clear ho0)) | ((with_reducible refine gate_dst (N := 16) rfl ?_); refine box_event ?hg (N := 16) ?hd (cs := #[.slice none 0 0, .int .i64 0]) (t := 33) ?hr ?_; (case hd => rfl); (case hg => rfl); (case hr => first | (go_simp; done) | (go_simp; rfl)); intro gb306 hg w136 hbox hb; have n0_ := Aside0.mk (Kd.R_below (by (with_reducible repeat (first | apply Kd.R_alloc | apply Kd.R_drewN | apply Kd.R_drew)); exact HO_272000.out) hb); have n1_ := Aside0.mk (Kd.R_below (by (with_reducible repeat (first | apply Kd.R_alloc | apply Kd.R_drewN | apply Kd.R_drew)); exact HO_277000.out) hb); have n2_ := Aside0.mk (Kd.R_below (by (with_reducible repeat (first | apply Kd.R_alloc | apply Kd.R_drewN | apply Kd.R_drew)); exact HO_284000.out) hb); have n3_ := Aside0.mk (Kd.R_below (by (with_reducible repeat (first | apply Kd.R_alloc | apply Kd.R_drewN | apply Kd.R_drew)); exact HO298.out) hb); have n4_ := Aside0.mk (Kd.R_below (by (with_reducible repeat (first | apply Kd.R_alloc | apply Kd.R_drewN | apply Kd.R_drew)); exact HO302.out) hb); have n5_ := Aside0.mk (blk_below (g := gb259) (o := .cells #[.slice A0_0 l0_0.length c0_0, .int .i64 a0_1] 43 (0, 0)) (by (with_reducible repeat (first | refine blk_drewN ?_ _ | refine blk_drew ?_ | refine blk_alloc ?_ _)); exact BK259.out) hb); have n6_ := Aside0.mk (blk_below (g := gb271) (o := .cells #[.slice Ao21 t265.length co21, .int .i64 t268] 33 (0, 0)) (by (with_reducible repeat (first | refine blk_drewN ?_ _ | refine blk_drew ?_ | refine blk_alloc ?_ _)); exact BK271.out) hb); have n7_ := Aside0.mk (blk_below (g := gb276) (o := .cells #[.slice Ao27 t291.length co27, .int .i64 t275] 33 (0, 0)) (by (with_reducible repeat (first | refine blk_drewN ?_ _ | refine blk_drew ?_ | refine blk_alloc ?_ _)); exact BK276.out) hb); have n8_ := Aside0.mk (blk_below (g := gb283) (o := .cells #[.slice Ao33 t277.length co33, .int .i64 t280] 33 (0, 0)) (by (with_reducible repeat (first | refine blk_drewN ?_ _ | refine blk_drew ?_ | refine blk_alloc ?_ _)); exact BK283.out) hb); have n9_ := Aside0.mk (below_step (by repeat (first | (with_reducible first | exact HB.out | apply below_alloc | apply pw_below_drewN | apply below_drew1 | refine below_set ?_ GE259.out | refine below_set ?_ GE271.out | refine below_set ?_ GE276.out | refine below_set ?_ GE283.out) | exact HB.out)) hb); have n10_ := Aside0.mk (hbox); have n11_ := Aside0.mk ((by rw [hg]; exact (below_size (by repeat (first | (with_reducible first | exact HB.out | apply below_alloc | apply pw_below_drewN | apply below_drew1 | refine below_set ?_ GE259.out | refine below_set ?_ GE271.out | refine below_set ?_ GE276.out | refine below_set ?_ GE283.out) | exact HB.out))) : w.heap.size ≤ gb306)); have n12_ := Aside0.mk ((by rw [hg]; exact (below_size (by repeat (first | (with_reducible first | exact HB.out | apply below_alloc | apply pw_below_drewN | apply below_drew1 | refine below_set ?_ GE259.out | refine below_set ?_ GE271.out | refine below_set ?_ GE276.out | refine below_set ?_ GE283.out) | exact HB.out))) : w.heap.size ≤ gb306)); have n13_ := Aside0.mk ((by rw [hg]; exact Nat.ne_of_lt (blk_lt (g := gb259) (o := .cells #[.slice A0_0 l0_0.length c0_0, .int .i64 a0_1] 43 (0, 0)) (by (with_reducible repeat (first | refine blk_drewN ?_ _ | refine blk_drew ?_ | refine blk_alloc ?_ _)); exact BK259.out)) : gb259 ≠ gb306)); have n14_ := Aside0.mk ((by rw [hg]; exact Nat.ne_of_gt (blk_lt (g := gb259) (o := .cells #[.slice A0_0 l0_0.length c0_0, .int .i64 a0_1] 43 (0, 0)) (by (with_reducible repeat (first | refine blk_drewN ?_ _ | refine blk_drew ?_ | refine blk_alloc ?_ _)); exact BK259.out)) : gb306 ≠ gb259)); have n15_ := Aside0.mk ((by rw [hg]; exact Nat.ne_of_lt (blk_lt (g := gb271) (o := .cells #[.slice Ao21 t265.length co21, .int .i64 t268] 33 (0, 0)) (by (with_reducible repeat (first | refine blk_drewN ?_ _ | refine blk_drew ?_ | refine blk_alloc ?_ _)); exact BK271.out)) : gb271 ≠ gb306)); have n16_ := Aside0.mk ((by rw [hg]; exact Nat.ne_of_gt (blk_lt (g := gb271) (o := .cells #[.slice Ao21 t265.length co21, .int .i64 t268] 33 (0, 0)) (by (with_reducible repeat (first | refine blk_drewN ?_ _ | refine blk_drew ?_ | refine blk_alloc ?_ _)); exact BK271.out)) : gb306 ≠ gb271)); have n17_ := Aside0.mk ((by rw [hg]; exact Nat.ne_of_lt (blk_lt (g := gb276) (o := .cells #[.slice Ao27 t291.length co27, .int .i64 t275] 33 (0, 0)) (by (with_reducible repeat (first | refine blk_drewN ?_ _ | refine blk_drew ?_ | refine blk_alloc ?_ _)); exact BK276.out)) : gb276 ≠ gb306)); have n18_ := Aside0.mk ((by rw [hg]; exact Nat.ne_of_gt (blk_lt (g := gb276) (o := .cells #[.slice Ao27 t291.length co27, .int .i64 t275] 33 (0, 0)) (by (with_reducible repeat (first | refine blk_drewN ?_ _ | refine blk_drew ?_ | refine blk_alloc ?_ _)); exact BK276.out)) : gb306 ≠ gb276)); have n19_ := Aside0.mk ((by rw [hg]; exact Nat.ne_of_lt (blk_lt (g := gb283) (o := .cells #[.slice Ao33 t277.length co33, .int .i64 t280] 33 (0, 0)) (by (with_reducible repeat (first | refine blk_drewN ?_ _ | refine blk_drew ?_ | refine blk_alloc ?_ _)); exact BK283.out)) : gb283 ≠ gb306)); have n20_ := Aside0.mk ((by rw [hg]; exact Nat.ne_of_gt (blk_lt (g := gb283) (o := .cells #[.slice Ao33 t277.length co33, .int .i64 t280] 33 (0, 0)) (by (with_reducible repeat (first | refine blk_drewN ?_ _ | refine blk_drew ?_ | refine blk_alloc ?_ _)); exact BK283.out)) : gb306 ≠ gb283)); clear HO_272000; clear HO_277000; clear HO_284000; clear HO298; clear HO302; clear BK259; clear BK271; clear BK276; clear BK283; clear HB; have HO_272000 := n0_; have HO_277000 := n1_; have HO_284000 := n2_; have HO298 := n3_; have HO302 := n4_; have BK259 := n5_; have BK271 := n6_; have BK276 := n7_; have BK283 := n8_; have HB := n9_; have BK306 := n10_; have GW306 := n11_; have GE306 := n12_; have NB259_306 := n13_; have NB306_259 := n14_; have NB271_306 := n15_; have NB306_271 := n16_; have NB276_306 := n17_; have NB306_276 := n18_; have NB283_306 := n19_; have NB306_283 := n20_; clear n0_ n1_ n2_ n3_ n4_ n5_ n6_ n7_ n8_ n9_ n10_ n11_ n12_ n13_ n14_ n15_ n16_ n17_ n18_ n19_ n20_; clear hb hbox hg; obtain ⟨Ao137, co137, eo137⟩ := Kd.R_slice HO302.out; subst eo137; have hnb138 := NB306_259.out; have hnc138 := NB259_306.out; have hnb139 := NB306_271.out; have hnc139 := NB271_306.out; have hnb140 := NB306_276.out; have hnc140 := NB276_306.out; have hnb141 := NB306_283.out; have hnc141 := NB283_306.out; have hcz142_0 : w136.cell? ⟨gb306, 0, none⟩ = some (.slice none 0 0) := (blk_cell BK306.out 0).trans rfl; have hcz142_1 : w136.cell? ⟨gb306, 1, none⟩ = some (.int .i64 0) := (blk_cell BK306.out 1).trans rfl; have hfz142_0 := blk_frozen BK306.out 0; have hfz142_1 := blk_frozen BK306.out 1))
                      (try simp only [Act.put, List.setIfInBounds_toArray, List.set_cons_zero, List.set_cons_succ])
                      go_cut [113] (fun v113 wc => ∃ (kq : Nat) (x113_121 : Bool), v113 = .bool x113_121 ∧ Aside0 (laws_FnExactResumeAt.j2 kq t293 x113_121 t294 t280 = some r) ∧ Aside0 (kq ≤ kj69) ∧ Aside0 (Kd.R k106 106 wc w.heap.size (fun k_ => some k_ ≠ ((.slice Ao27 t291.length co27) : Value).ownBlock ∧ some k_ ≠ ((.slice Ao33 t277.length co33) : Value).ownBlock ∧ some k_ ≠ ((.slice Ao137 t300.length co137) : Value).ownBlock) (.slice Ao21 t265.length co21) t265) ∧ Aside0 (Kd.R k106 106 wc w.heap.size (fun k_ => some k_ ≠ ((.slice Ao21 t265.length co21) : Value).ownBlock ∧ some k_ ≠ ((.slice Ao33 t277.length co33) : Value).ownBlock ∧ some k_ ≠ ((.slice Ao137 t300.length co137) : Value).ownBlock) (.slice Ao27 t291.length co27) t291) ∧ Aside0 (Kd.R k106 106 wc w.heap.size (fun k_ => some k_ ≠ ((.slice Ao21 t265.length co21) : Value).ownBlock ∧ some k_ ≠ ((.slice Ao27 t291.length co27) : Value).ownBlock ∧ some k_ ≠ ((.slice Ao137 t300.length co137) : Value).ownBlock) (.slice Ao33 t277.length co33) t294) ∧ Aside0 (Kd.R k106 106 wc w.heap.size (fun k_ => some k_ ≠ ((.slice Ao21 t265.length co21) : Value).ownBlock ∧ some k_ ≠ ((.slice Ao27 t291.length co27) : Value).ownBlock ∧ some k_ ≠ ((.slice Ao33 t277.length co33) : Value).ownBlock) (.slice Ao137 t300.length co137) t300) ∧ Aside0 (wc.heap[gb259]? = some (.cells #[(.slice A0_0 l0_0.length c0_0), .int .i64 a0_1] 43 (0, 0))) ∧ Aside0 (wc.heap[gb271]? = some (.cells #[(.slice Ao21 t265.length co21), .int .i64 t268] 33 (0, 0))) ∧ Aside0 (wc.heap[gb276]? = some (.cells #[(.slice Ao27 t291.length co27), .int .i64 t275] 33 (0, 0))) ∧ Aside0 (wc.heap[gb283]? = some (.cells #[(.slice Ao33 t277.length co33), .int .i64 t280] 33 (0, 0))) ∧ Aside0 (wc.heap[gb306]? = some (.cells #[(.slice Ao137 t300.length co137), .int .i64 t303] 33 (0, 0))) ∧ Aside0 (Below w.heap.size w wc))
                      case first =>
                        have H := HC122.out
                        clear HC122
                        replace H := Option.bind_eq_some_iff.mp H
                        obtain ⟨t307, A1430, H⟩ := H
                        replace H : (if t307 = true then (if t304 = t269 then (laws_FnExactResumeAt.j2 kj69 t293 (t305 != t270) t294 t280) else (laws_FnExactResumeAt.j2 kj69 t293 true t294 t280)) else (laws_FnExactResumeAt.j2 kj69 t293 true t294 t280)) = some r := H
                        have A143 := Aside0.mk A1430
                        clear A1430
                        by_cases c144 : t307 = true
                        · subst c144
                          have H1 : (if t304 = t269 then (laws_FnExactResumeAt.j2 kj69 t293 (t305 != t270) t294 t280) else (laws_FnExactResumeAt.j2 kj69 t293 true t294 t280)) = some r := by rw [if_pos rfl] at H; exact H
                          clear H
                          have H := H1
                          clear H1
                          by_cases c145 : t304 = t269
                          · rw [if_pos c145] at H
                            have c145b0 : (t304 == t269) = true := beq_iff_eq.mpr c145
                            have c145b1 : (t304 != t269) = false := bne_eq_false_iff_eq.mpr c145
                            clear c145
                            (first | rw [c145b0] | (simp only [i64_w, i32_w]; rw [c145b0]) | skip)
                            have H' := Aside0.mk H
                            clear H
                            have hnb146 := NB306_259.out
                            have hnc146 := NB259_306.out
                            have hnb147 := NB306_271.out
                            have hnc147 := NB271_306.out
                            have hnb148 := NB306_276.out
                            have hnc148 := NB276_306.out
                            have hnb149 := NB306_283.out
                            have hnc149 := NB283_306.out
                            have hcz150_0 : w136.cell? ⟨gb306, 0, none⟩ = some (.slice none 0 0) := (blk_cell BK306.out 0).trans rfl
                            have hcz150_1 : w136.cell? ⟨gb306, 1, none⟩ = some (.int .i64 0) := (blk_cell BK306.out 1).trans rfl
                            have hfz150_0 := blk_frozen BK306.out 0
                            have hfz150_1 := blk_frozen BK306.out 1
                            have hnb151 := NB271_259.out
                            have hnc151 := NB259_271.out
                            have hnb152 := NB271_276.out
                            have hnc152 := NB276_271.out
                            have hnb153 := NB271_283.out
                            have hnc153 := NB283_271.out
                            have hcz154_0 : w136.cell? ⟨gb271, 0, none⟩ = some (.slice Ao21 t265.length co21) := (blk_cell BK271.out 0).trans rfl
                            have hcz154_1 : w136.cell? ⟨gb271, 1, none⟩ = some (.int .i64 t268) := (blk_cell BK271.out 1).trans rfl
                            have hfz154_0 := blk_frozen BK271.out 0
                            have hfz154_1 := blk_frozen BK271.out 1
                            go_wp2_with (first | ((with_reducible refine gate_callee (f := 24) rfl ?_); refine goesL_ (some 102) rfl rfl Try.func24 (by kernel_rfl) rfl #[.agg #[.slice Ao137 t300.length co137, .int .i64 t303], .agg #[.slice Ao21 t265.length co21, .int .i64 t268]] rfl (by (try simp only [List.map_toArray, List.map_cons, List.map_nil]); first | done | rfl | (simp only [List.length_drop, List.length_take]; rfl)) ?_; (with_reducible refine (laws_eqPunchJob.calls kj69 _ _ t300 t303 _ _ t265 t268 true _ ?side1 ?side2 ?side3 ?side4 A143.out).mono ?_); (case side1 => refine (Kd.R_reads' (e := 106) (base := w.heap.size) (ok := fun k_ => ((((True ∧ some k_ ≠ (.slice Ao21 t265.length co21 : Value).ownBlock) ∧ some k_ ≠ (.slice Ao27 t291.length co27 : Value).ownBlock) ∧ some k_ ≠ (.slice Ao33 t277.length co33 : Value).ownBlock) ∧ some k_ ≠ (.slice Ao134 t296.length co134 : Value).ownBlock)) (n := t300.length) (c := co137) ?_).2.2; exact (by (with_reducible repeat (first | apply Kd.R_alloc | apply Kd.R_drewN | apply Kd.R_drew)); exact (Kd.R_mono (Kd.R_far (p := ⟨gb306, 1, none⟩) (Kd.R_far (p := ⟨gb306, 0, none⟩) (Kd.R_types HO302.out BK306.out (by decide)) (fun _ hk => hk.2) (.slice Ao137 t300.length co137)) (fun _ hk => hk.2) (.int .i64 t303)) (fun _ h_ => h_.1)))); (case side2 => exact (Kd.R_reads' HO302.out).2.1); (case side3 => refine (Kd.R_reads' (e := 106) (base := w.heap.size) (ok := fun k_ => (((some k_ ≠ (.slice Ao27 t291.length co27 : Value).ownBlock ∧ some k_ ≠ (.slice Ao33 t277.length co33 : Value).ownBlock) ∧ some k_ ≠ (.slice Ao134 t296.length co134 : Value).ownBlock) ∧ some k_ ≠ (.slice Ao137 t300.length co137 : Value).ownBlock)) (n := t265.length) (c := co21) ?_).2.2; exact (by (with_reducible repeat (first | apply Kd.R_alloc | apply Kd.R_drewN | apply Kd.R_drew)); exact (Kd.R_mono (Kd.R_far (p := ⟨gb306, 1, none⟩) (Kd.R_far (p := ⟨gb306, 0, none⟩) (Kd.R_types HO_272000.out BK306.out (by decide)) (fun _ hk => hk.2) (.slice Ao137 t300.length co137)) (fun _ hk => hk.2) (.int .i64 t303)) (fun _ h_ => h_.1)))); (case side4 => exact (Kd.R_reads' HO_272000.out).2.1); rintro e w155 ⟨rfl, hb⟩; refine ⟨_, rfl, ?_⟩; have n0_ := Aside0.mk (Kd.R_below (by (with_reducible repeat (first | apply Kd.R_alloc | apply Kd.R_drewN | apply Kd.R_drew)); exact (Kd.R_mono (Kd.R_far (p := ⟨gb306, 1, none⟩) (Kd.R_far (p := ⟨gb306, 0, none⟩) (Kd.R_types HO_272000.out BK306.out (by decide)) (fun _ hk => hk.2) (.slice Ao137 t300.length co137)) (fun _ hk => hk.2) (.int .i64 t303)) (fun _ h_ => h_.1))) hb); have n1_ := Aside0.mk (Kd.R_below (by (with_reducible repeat (first | apply Kd.R_alloc | apply Kd.R_drewN | apply Kd.R_drew)); exact (Kd.R_mono (Kd.R_far (p := ⟨gb306, 1, none⟩) (Kd.R_far (p := ⟨gb306, 0, none⟩) (Kd.R_types HO_277000.out BK306.out (by decide)) (fun _ hk => hk.2) (.slice Ao137 t300.length co137)) (fun _ hk => hk.2) (.int .i64 t303)) (fun _ h_ => h_.1))) hb); have n2_ := Aside0.mk (Kd.R_below (by (with_reducible repeat (first | apply Kd.R_alloc | apply Kd.R_drewN | apply Kd.R_drew)); exact (Kd.R_mono (Kd.R_far (p := ⟨gb306, 1, none⟩) (Kd.R_far (p := ⟨gb306, 0, none⟩) (Kd.R_types HO_284000.out BK306.out (by decide)) (fun _ hk => hk.2) (.slice Ao137 t300.length co137)) (fun _ hk => hk.2) (.int .i64 t303)) (fun _ h_ => h_.1))) hb); have n3_ := Aside0.mk (Kd.R_below (by (with_reducible repeat (first | apply Kd.R_alloc | apply Kd.R_drewN | apply Kd.R_drew)); exact (Kd.R_mono (Kd.R_far (p := ⟨gb306, 1, none⟩) (Kd.R_far (p := ⟨gb306, 0, none⟩) (Kd.R_types HO298.out BK306.out (by decide)) (fun _ hk => hk.2) (.slice Ao137 t300.length co137)) (fun _ hk => hk.2) (.int .i64 t303)) (fun _ h_ => h_.1))) hb); have n4_ := Aside0.mk (Kd.R_below (by (with_reducible repeat (first | apply Kd.R_alloc | apply Kd.R_drewN | apply Kd.R_drew)); exact (Kd.R_mono (Kd.R_far (p := ⟨gb306, 1, none⟩) (Kd.R_far (p := ⟨gb306, 0, none⟩) (Kd.R_types HO302.out BK306.out (by decide)) (fun _ hk => hk.2) (.slice Ao137 t300.length co137)) (fun _ hk => hk.2) (.int .i64 t303)) (fun _ h_ => h_.1))) hb); have n5_ := Aside0.mk (blk_below (g := gb259) (o := .cells #[.slice A0_0 l0_0.length c0_0, .int .i64 a0_1] 43 (0, 0)) (by (with_reducible repeat (first | refine blk_drewN ?_ _ | refine blk_drew ?_ | refine blk_alloc ?_ _)); refine blk_far ?_ NB259_306.out _; (with_reducible repeat (first | refine blk_drewN ?_ _ | refine blk_drew ?_ | refine blk_alloc ?_ _)); refine blk_far ?_ NB259_306.out _; (with_reducible repeat (first | refine blk_drewN ?_ _ | refine blk_drew ?_ | refine blk_alloc ?_ _)); exact BK259.out) hb); have n6_ := Aside0.mk (blk_below (g := gb271) (o := .cells #[.slice Ao21 t265.length co21, .int .i64 t268] 33 (0, 0)) (by (with_reducible repeat (first | refine blk_drewN ?_ _ | refine blk_drew ?_ | refine blk_alloc ?_ _)); refine blk_far ?_ NB271_306.out _; (with_reducible repeat (first | refine blk_drewN ?_ _ | refine blk_drew ?_ | refine blk_alloc ?_ _)); refine blk_far ?_ NB271_306.out _; (with_reducible repeat (first | refine blk_drewN ?_ _ | refine blk_drew ?_ | refine blk_alloc ?_ _)); exact BK271.out) hb); have n7_ := Aside0.mk (blk_below (g := gb276) (o := .cells #[.slice Ao27 t291.length co27, .int .i64 t275] 33 (0, 0)) (by (with_reducible repeat (first | refine blk_drewN ?_ _ | refine blk_drew ?_ | refine blk_alloc ?_ _)); refine blk_far ?_ NB276_306.out _; (with_reducible repeat (first | refine blk_drewN ?_ _ | refine blk_drew ?_ | refine blk_alloc ?_ _)); refine blk_far ?_ NB276_306.out _; (with_reducible repeat (first | refine blk_drewN ?_ _ | refine blk_drew ?_ | refine blk_alloc ?_ _)); exact BK276.out) hb); have n8_ := Aside0.mk (blk_below (g := gb283) (o := .cells #[.slice Ao33 t277.length co33, .int .i64 t280] 33 (0, 0)) (by (with_reducible repeat (first | refine blk_drewN ?_ _ | refine blk_drew ?_ | refine blk_alloc ?_ _)); refine blk_far ?_ NB283_306.out _; (with_reducible repeat (first | refine blk_drewN ?_ _ | refine blk_drew ?_ | refine blk_alloc ?_ _)); refine blk_far ?_ NB283_306.out _; (with_reducible repeat (first | refine blk_drewN ?_ _ | refine blk_drew ?_ | refine blk_alloc ?_ _)); exact BK283.out) hb); have n9_ := Aside0.mk (blk_below (g := gb306) (o := .cells #[.slice Ao137 t300.length co137, .int .i64 t303] 33 (0, 0)) (by (with_reducible repeat (first | refine blk_drewN ?_ _ | refine blk_drew ?_ | refine blk_alloc ?_ _)); refine blk_put (cs := #[.slice Ao137 t300.length co137, .int .i64 0]) ?_ 1 _ rfl; (with_reducible repeat (first | refine blk_drewN ?_ _ | refine blk_drew ?_ | refine blk_alloc ?_ _)); refine blk_put (cs := #[.slice none 0 0, .int .i64 0]) ?_ 0 _ rfl; (with_reducible repeat (first | refine blk_drewN ?_ _ | refine blk_drew ?_ | refine blk_alloc ?_ _)); exact BK306.out) hb); have n10_ := Aside0.mk (below_step (by repeat (first | (with_reducible first | exact HB.out | apply below_alloc | apply pw_below_drewN | apply below_drew1 | refine below_set ?_ GE259.out | refine below_set ?_ GE271.out | refine below_set ?_ GE276.out | refine below_set ?_ GE283.out | refine below_set ?_ GE306.out) | exact HB.out)) hb); clear HO_272000; clear HO_277000; clear HO_284000; clear HO298; clear HO302; clear BK259; clear BK271; clear BK276; clear BK283; clear BK306; clear HB; have HO_272000 := n0_; have HO_277000 := n1_; have HO_284000 := n2_; have HO298 := n3_; have HO302 := n4_; have BK259 := n5_; have BK271 := n6_; have BK276 := n7_; have BK283 := n8_; have BK306 := n9_; have HB := n10_; clear n0_ n1_ n2_ n3_ n4_ n5_ n6_ n7_ n8_ n9_ n10_; (try clear hb); (try clear hb2); (try clear hk); (try clear hi)))
                            go_meet
                            case rel => exact ⟨_, ((t305 != t270)), (by first | rfl | (simp; done) | (simp [*]; done)), H', ⟨by have := HJ11.out; have := HJ69.out; first | omega | exact Nat.le_refl _⟩, ⟨by (try simp only [hl277000_69]); (with_reducible repeat (first | apply Kd.R_alloc | apply Kd.R_drewN | apply Kd.R_drew)); exact Kd.R_mono HO_272000.out (fun _ hk => ⟨hk.1.1.1, ⟨hk.1.1.2, hk.2⟩⟩)⟩, ⟨by (try simp only [hl277000_69]); (with_reducible repeat (first | apply Kd.R_alloc | apply Kd.R_drewN | apply Kd.R_drew)); exact Kd.R_mono HO_277000.out (fun _ hk => ⟨hk.1.1.1, ⟨hk.1.1.2, hk.2⟩⟩)⟩, ⟨by (try simp only [hl277000_69]); (with_reducible repeat (first | apply Kd.R_alloc | apply Kd.R_drewN | apply Kd.R_drew)); exact Kd.R_mono HO_284000.out (fun _ hk => ⟨hk.1.1.1, ⟨hk.1.1.2, hk.2⟩⟩)⟩, ⟨by (try simp only [hl277000_69]); (with_reducible repeat (first | apply Kd.R_alloc | apply Kd.R_drewN | apply Kd.R_drew)); exact Kd.R_mono HO302.out (fun _ hk => ⟨hk.1.1.1.2, ⟨hk.1.1.2, hk.1.2⟩⟩)⟩, ⟨by (try simp only [hl277000_69]); (with_reducible repeat (first | refine blk_drewN ?_ _ | refine blk_drew ?_ | refine blk_alloc ?_ _)); exact BK259.out⟩, ⟨by (try simp only [hl277000_69]); (with_reducible repeat (first | refine blk_drewN ?_ _ | refine blk_drew ?_ | refine blk_alloc ?_ _)); exact BK271.out⟩, ⟨by (try simp only [hl277000_69]); (with_reducible repeat (first | refine blk_drewN ?_ _ | refine blk_drew ?_ | refine blk_alloc ?_ _)); exact BK276.out⟩, ⟨by (try simp only [hl277000_69]); (with_reducible repeat (first | refine blk_drewN ?_ _ | refine blk_drew ?_ | refine blk_alloc ?_ _)); exact BK283.out⟩, ⟨by (try simp only [hl277000_69]); (with_reducible repeat (first | refine blk_drewN ?_ _ | refine blk_drew ?_ | refine blk_alloc ?_ _)); exact BK306.out⟩, ⟨by repeat (first | (with_reducible first | exact HB.out | apply below_alloc | apply pw_below_drewN | apply below_drew1 | refine below_set ?_ GE259.out | refine below_set ?_ GE271.out | refine below_set ?_ GE276.out | refine below_set ?_ GE283.out | refine below_set ?_ GE306.out) | exact HB.out)⟩⟩
                          · rw [if_neg c145] at H
                            have c145b0 : (t304 == t269) = false := beq_eq_false_iff_ne.mpr c145
                            have c145b1 : (t304 != t269) = true := bne_iff_ne.mpr c145
                            (first | rw [c145b0] | (simp only [i64_w, i32_w]; rw [c145b0]) | skip)
                            have H' := Aside0.mk H
                            clear H
                            have hnb156 := NB306_259.out
                            have hnc156 := NB259_306.out
                            have hnb157 := NB306_271.out
                            have hnc157 := NB271_306.out
                            have hnb158 := NB306_276.out
                            have hnc158 := NB276_306.out
                            have hnb159 := NB306_283.out
                            have hnc159 := NB283_306.out
                            have hcz160_0 : w136.cell? ⟨gb306, 0, none⟩ = some (.slice none 0 0) := (blk_cell BK306.out 0).trans rfl
                            have hcz160_1 : w136.cell? ⟨gb306, 1, none⟩ = some (.int .i64 0) := (blk_cell BK306.out 1).trans rfl
                            have hfz160_0 := blk_frozen BK306.out 0
                            have hfz160_1 := blk_frozen BK306.out 1
                            have hnb161 := NB271_259.out
                            have hnc161 := NB259_271.out
                            have hnb162 := NB271_276.out
                            have hnc162 := NB276_271.out
                            have hnb163 := NB271_283.out
                            have hnc163 := NB283_271.out
                            have hcz164_0 : w136.cell? ⟨gb271, 0, none⟩ = some (.slice Ao21 t265.length co21) := (blk_cell BK271.out 0).trans rfl
                            have hcz164_1 : w136.cell? ⟨gb271, 1, none⟩ = some (.int .i64 t268) := (blk_cell BK271.out 1).trans rfl
                            have hfz164_0 := blk_frozen BK271.out 0
                            have hfz164_1 := blk_frozen BK271.out 1
                            go_wp2_with (first | ((with_reducible refine gate_callee (f := 24) rfl ?_); refine goesL_ (some 102) rfl rfl Try.func24 (by kernel_rfl) rfl #[.agg #[.slice Ao137 t300.length co137, .int .i64 t303], .agg #[.slice Ao21 t265.length co21, .int .i64 t268]] rfl (by (try simp only [List.map_toArray, List.map_cons, List.map_nil]); first | done | rfl | (simp only [List.length_drop, List.length_take]; rfl)) ?_; (with_reducible refine (laws_eqPunchJob.calls kj69 _ _ t300 t303 _ _ t265 t268 true _ ?side1 ?side2 ?side3 ?side4 A143.out).mono ?_); (case side1 => refine (Kd.R_reads' (e := 106) (base := w.heap.size) (ok := fun k_ => ((((True ∧ some k_ ≠ (.slice Ao21 t265.length co21 : Value).ownBlock) ∧ some k_ ≠ (.slice Ao27 t291.length co27 : Value).ownBlock) ∧ some k_ ≠ (.slice Ao33 t277.length co33 : Value).ownBlock) ∧ some k_ ≠ (.slice Ao134 t296.length co134 : Value).ownBlock)) (n := t300.length) (c := co137) ?_).2.2; exact (by (with_reducible repeat (first | apply Kd.R_alloc | apply Kd.R_drewN | apply Kd.R_drew)); exact (Kd.R_mono (Kd.R_far (p := ⟨gb306, 1, none⟩) (Kd.R_far (p := ⟨gb306, 0, none⟩) (Kd.R_types HO302.out BK306.out (by decide)) (fun _ hk => hk.2) (.slice Ao137 t300.length co137)) (fun _ hk => hk.2) (.int .i64 t303)) (fun _ h_ => h_.1)))); (case side2 => exact (Kd.R_reads' HO302.out).2.1); (case side3 => refine (Kd.R_reads' (e := 106) (base := w.heap.size) (ok := fun k_ => (((some k_ ≠ (.slice Ao27 t291.length co27 : Value).ownBlock ∧ some k_ ≠ (.slice Ao33 t277.length co33 : Value).ownBlock) ∧ some k_ ≠ (.slice Ao134 t296.length co134 : Value).ownBlock) ∧ some k_ ≠ (.slice Ao137 t300.length co137 : Value).ownBlock)) (n := t265.length) (c := co21) ?_).2.2; exact (by (with_reducible repeat (first | apply Kd.R_alloc | apply Kd.R_drewN | apply Kd.R_drew)); exact (Kd.R_mono (Kd.R_far (p := ⟨gb306, 1, none⟩) (Kd.R_far (p := ⟨gb306, 0, none⟩) (Kd.R_types HO_272000.out BK306.out (by decide)) (fun _ hk => hk.2) (.slice Ao137 t300.length co137)) (fun _ hk => hk.2) (.int .i64 t303)) (fun _ h_ => h_.1)))); (case side4 => exact (Kd.R_reads' HO_272000.out).2.1); rintro e w165 ⟨rfl, hb⟩; refine ⟨_, rfl, ?_⟩; have n0_ := Aside0.mk (Kd.R_below (by (with_reducible repeat (first | apply Kd.R_alloc | apply Kd.R_drewN | apply Kd.R_drew)); exact (Kd.R_mono (Kd.R_far (p := ⟨gb306, 1, none⟩) (Kd.R_far (p := ⟨gb306, 0, none⟩) (Kd.R_types HO_272000.out BK306.out (by decide)) (fun _ hk => hk.2) (.slice Ao137 t300.length co137)) (fun _ hk => hk.2) (.int .i64 t303)) (fun _ h_ => h_.1))) hb); have n1_ := Aside0.mk (Kd.R_below (by (with_reducible repeat (first | apply Kd.R_alloc | apply Kd.R_drewN | apply Kd.R_drew)); exact (Kd.R_mono (Kd.R_far (p := ⟨gb306, 1, none⟩) (Kd.R_far (p := ⟨gb306, 0, none⟩) (Kd.R_types HO_277000.out BK306.out (by decide)) (fun _ hk => hk.2) (.slice Ao137 t300.length co137)) (fun _ hk => hk.2) (.int .i64 t303)) (fun _ h_ => h_.1))) hb); have n2_ := Aside0.mk (Kd.R_below (by (with_reducible repeat (first | apply Kd.R_alloc | apply Kd.R_drewN | apply Kd.R_drew)); exact (Kd.R_mono (Kd.R_far (p := ⟨gb306, 1, none⟩) (Kd.R_far (p := ⟨gb306, 0, none⟩) (Kd.R_types HO_284000.out BK306.out (by decide)) (fun _ hk => hk.2) (.slice Ao137 t300.length co137)) (fun _ hk => hk.2) (.int .i64 t303)) (fun _ h_ => h_.1))) hb); have n3_ := Aside0.mk (Kd.R_below (by (with_reducible repeat (first | apply Kd.R_alloc | apply Kd.R_drewN | apply Kd.R_drew)); exact (Kd.R_mono (Kd.R_far (p := ⟨gb306, 1, none⟩) (Kd.R_far (p := ⟨gb306, 0, none⟩) (Kd.R_types HO298.out BK306.out (by decide)) (fun _ hk => hk.2) (.slice Ao137 t300.length co137)) (fun _ hk => hk.2) (.int .i64 t303)) (fun _ h_ => h_.1))) hb); have n4_ := Aside0.mk (Kd.R_below (by (with_reducible repeat (first | apply Kd.R_alloc | apply Kd.R_drewN | apply Kd.R_drew)); exact (Kd.R_mono (Kd.R_far (p := ⟨gb306, 1, none⟩) (Kd.R_far (p := ⟨gb306, 0, none⟩) (Kd.R_types HO302.out BK306.out (by decide)) (fun _ hk => hk.2) (.slice Ao137 t300.length co137)) (fun _ hk => hk.2) (.int .i64 t303)) (fun _ h_ => h_.1))) hb); have n5_ := Aside0.mk (blk_below (g := gb259) (o := .cells #[.slice A0_0 l0_0.length c0_0, .int .i64 a0_1] 43 (0, 0)) (by (with_reducible repeat (first | refine blk_drewN ?_ _ | refine blk_drew ?_ | refine blk_alloc ?_ _)); refine blk_far ?_ NB259_306.out _; (with_reducible repeat (first | refine blk_drewN ?_ _ | refine blk_drew ?_ | refine blk_alloc ?_ _)); refine blk_far ?_ NB259_306.out _; (with_reducible repeat (first | refine blk_drewN ?_ _ | refine blk_drew ?_ | refine blk_alloc ?_ _)); exact BK259.out) hb); have n6_ := Aside0.mk (blk_below (g := gb271) (o := .cells #[.slice Ao21 t265.length co21, .int .i64 t268] 33 (0, 0)) (by (with_reducible repeat (first | refine blk_drewN ?_ _ | refine blk_drew ?_ | refine blk_alloc ?_ _)); refine blk_far ?_ NB271_306.out _; (with_reducible repeat (first | refine blk_drewN ?_ _ | refine blk_drew ?_ | refine blk_alloc ?_ _)); refine blk_far ?_ NB271_306.out _; (with_reducible repeat (first | refine blk_drewN ?_ _ | refine blk_drew ?_ | refine blk_alloc ?_ _)); exact BK271.out) hb); have n7_ := Aside0.mk (blk_below (g := gb276) (o := .cells #[.slice Ao27 t291.length co27, .int .i64 t275] 33 (0, 0)) (by (with_reducible repeat (first | refine blk_drewN ?_ _ | refine blk_drew ?_ | refine blk_alloc ?_ _)); refine blk_far ?_ NB276_306.out _; (with_reducible repeat (first | refine blk_drewN ?_ _ | refine blk_drew ?_ | refine blk_alloc ?_ _)); refine blk_far ?_ NB276_306.out _; (with_reducible repeat (first | refine blk_drewN ?_ _ | refine blk_drew ?_ | refine blk_alloc ?_ _)); exact BK276.out) hb); have n8_ := Aside0.mk (blk_below (g := gb283) (o := .cells #[.slice Ao33 t277.length co33, .int .i64 t280] 33 (0, 0)) (by (with_reducible repeat (first | refine blk_drewN ?_ _ | refine blk_drew ?_ | refine blk_alloc ?_ _)); refine blk_far ?_ NB283_306.out _; (with_reducible repeat (first | refine blk_drewN ?_ _ | refine blk_drew ?_ | refine blk_alloc ?_ _)); refine blk_far ?_ NB283_306.out _; (with_reducible repeat (first | refine blk_drewN ?_ _ | refine blk_drew ?_ | refine blk_alloc ?_ _)); exact BK283.out) hb); have n9_ := Aside0.mk (blk_below (g := gb306) (o := .cells #[.slice Ao137 t300.length co137, .int .i64 t303] 33 (0, 0)) (by (with_reducible repeat (first | refine blk_drewN ?_ _ | refine blk_drew ?_ | refine blk_alloc ?_ _)); refine blk_put (cs := #[.slice Ao137 t300.length co137, .int .i64 0]) ?_ 1 _ rfl; (with_reducible repeat (first | refine blk_drewN ?_ _ | refine blk_drew ?_ | refine blk_alloc ?_ _)); refine blk_put (cs := #[.slice none 0 0, .int .i64 0]) ?_ 0 _ rfl; (with_reducible repeat (first | refine blk_drewN ?_ _ | refine blk_drew ?_ | refine blk_alloc ?_ _)); exact BK306.out) hb); have n10_ := Aside0.mk (below_step (by repeat (first | (with_reducible first | exact HB.out | apply below_alloc | apply pw_below_drewN | apply below_drew1 | refine below_set ?_ GE259.out | refine below_set ?_ GE271.out | refine below_set ?_ GE276.out | refine below_set ?_ GE283.out | refine below_set ?_ GE306.out) | exact HB.out)) hb); clear HO_272000; clear HO_277000; clear HO_284000; clear HO298; clear HO302; clear BK259; clear BK271; clear BK276; clear BK283; clear BK306; clear HB; have HO_272000 := n0_; have HO_277000 := n1_; have HO_284000 := n2_; have HO298 := n3_; have HO302 := n4_; have BK259 := n5_; have BK271 := n6_; have BK276 := n7_; have BK283 := n8_; have BK306 := n9_; have HB := n10_; clear n0_ n1_ n2_ n3_ n4_ n5_ n6_ n7_ n8_ n9_ n10_; (try clear hb); (try clear hb2); (try clear hk); (try clear hi)))
                            go_meet
                            case rel => exact ⟨_, (true), (by first | rfl | (simp; done) | (simp [*]; done)), H', ⟨by have := HJ11.out; have := HJ69.out; first | omega | exact Nat.le_refl _⟩, ⟨by (try simp only [hl277000_69]); (with_reducible repeat (first | apply Kd.R_alloc | apply Kd.R_drewN | apply Kd.R_drew)); exact Kd.R_mono HO_272000.out (fun _ hk => ⟨hk.1.1.1, ⟨hk.1.1.2, hk.2⟩⟩)⟩, ⟨by (try simp only [hl277000_69]); (with_reducible repeat (first | apply Kd.R_alloc | apply Kd.R_drewN | apply Kd.R_drew)); exact Kd.R_mono HO_277000.out (fun _ hk => ⟨hk.1.1.1, ⟨hk.1.1.2, hk.2⟩⟩)⟩, ⟨by (try simp only [hl277000_69]); (with_reducible repeat (first | apply Kd.R_alloc | apply Kd.R_drewN | apply Kd.R_drew)); exact Kd.R_mono HO_284000.out (fun _ hk => ⟨hk.1.1.1, ⟨hk.1.1.2, hk.2⟩⟩)⟩, ⟨by (try simp only [hl277000_69]); (with_reducible repeat (first | apply Kd.R_alloc | apply Kd.R_drewN | apply Kd.R_drew)); exact Kd.R_mono HO302.out (fun _ hk => ⟨hk.1.1.1.2, ⟨hk.1.1.2, hk.1.2⟩⟩)⟩, ⟨by (try simp only [hl277000_69]); (with_reducible repeat (first | refine blk_drewN ?_ _ | refine blk_drew ?_ | refine blk_alloc ?_ _)); exact BK259.out⟩, ⟨by (try simp only [hl277000_69]); (with_reducible repeat (first | refine blk_drewN ?_ _ | refine blk_drew ?_ | refine blk_alloc ?_ _)); exact BK271.out⟩, ⟨by (try simp only [hl277000_69]); (with_reducible repeat (first | refine blk_drewN ?_ _ | refine blk_drew ?_ | refine blk_alloc ?_ _)); exact BK276.out⟩, ⟨by (try simp only [hl277000_69]); (with_reducible repeat (first | refine blk_drewN ?_ _ | refine blk_drew ?_ | refine blk_alloc ?_ _)); exact BK283.out⟩, ⟨by (try simp only [hl277000_69]); (with_reducible repeat (first | refine blk_drewN ?_ _ | refine blk_drew ?_ | refine blk_alloc ?_ _)); exact BK306.out⟩, ⟨by repeat (first | (with_reducible first | exact HB.out | apply below_alloc | apply pw_below_drewN | apply below_drew1 | refine below_set ?_ GE259.out | refine below_set ?_ GE271.out | refine below_set ?_ GE276.out | refine below_set ?_ GE283.out | refine below_set ?_ GE306.out) | exact HB.out)⟩⟩
                        · replace c144 := Bool.eq_false_iff.mpr c144
                          subst c144
                          have H1 : (laws_FnExactResumeAt.j2 kj69 t293 true t294 t280) = some r := by rw [if_neg (show ¬ (false = true) by decide)] at H; exact H
                          clear H
                          have H := H1
                          clear H1
                          have H' := Aside0.mk H
                          clear H
                          have hnb166 := NB306_259.out
                          have hnc166 := NB259_306.out
                          have hnb167 := NB306_271.out
                          have hnc167 := NB271_306.out
                          have hnb168 := NB306_276.out
                          have hnc168 := NB276_306.out
                          have hnb169 := NB306_283.out
                          have hnc169 := NB283_306.out
                          have hcz170_0 : w136.cell? ⟨gb306, 0, none⟩ = some (.slice none 0 0) := (blk_cell BK306.out 0).trans rfl
                          have hcz170_1 : w136.cell? ⟨gb306, 1, none⟩ = some (.int .i64 0) := (blk_cell BK306.out 1).trans rfl
                          have hfz170_0 := blk_frozen BK306.out 0
                          have hfz170_1 := blk_frozen BK306.out 1
                          have hnb171 := NB271_259.out
                          have hnc171 := NB259_271.out
                          have hnb172 := NB271_276.out
                          have hnc172 := NB276_271.out
                          have hnb173 := NB271_283.out
                          have hnc173 := NB283_271.out
                          have hcz174_0 : w136.cell? ⟨gb271, 0, none⟩ = some (.slice Ao21 t265.length co21) := (blk_cell BK271.out 0).trans rfl
                          have hcz174_1 : w136.cell? ⟨gb271, 1, none⟩ = some (.int .i64 t268) := (blk_cell BK271.out 1).trans rfl
                          have hfz174_0 := blk_frozen BK271.out 0
                          have hfz174_1 := blk_frozen BK271.out 1
                          go_wp2_with (first | ((with_reducible refine gate_callee (f := 24) rfl ?_); refine goesL_ (some 102) rfl rfl Try.func24 (by kernel_rfl) rfl #[.agg #[.slice Ao137 t300.length co137, .int .i64 t303], .agg #[.slice Ao21 t265.length co21, .int .i64 t268]] rfl (by (try simp only [List.map_toArray, List.map_cons, List.map_nil]); first | done | rfl | (simp only [List.length_drop, List.length_take]; rfl)) ?_; (with_reducible refine (laws_eqPunchJob.calls kj69 _ _ t300 t303 _ _ t265 t268 false _ ?side1 ?side2 ?side3 ?side4 A143.out).mono ?_); (case side1 => refine (Kd.R_reads' (e := 106) (base := w.heap.size) (ok := fun k_ => ((((True ∧ some k_ ≠ (.slice Ao21 t265.length co21 : Value).ownBlock) ∧ some k_ ≠ (.slice Ao27 t291.length co27 : Value).ownBlock) ∧ some k_ ≠ (.slice Ao33 t277.length co33 : Value).ownBlock) ∧ some k_ ≠ (.slice Ao134 t296.length co134 : Value).ownBlock)) (n := t300.length) (c := co137) ?_).2.2; exact (by (with_reducible repeat (first | apply Kd.R_alloc | apply Kd.R_drewN | apply Kd.R_drew)); exact (Kd.R_mono (Kd.R_far (p := ⟨gb306, 1, none⟩) (Kd.R_far (p := ⟨gb306, 0, none⟩) (Kd.R_types HO302.out BK306.out (by decide)) (fun _ hk => hk.2) (.slice Ao137 t300.length co137)) (fun _ hk => hk.2) (.int .i64 t303)) (fun _ h_ => h_.1)))); (case side2 => exact (Kd.R_reads' HO302.out).2.1); (case side3 => refine (Kd.R_reads' (e := 106) (base := w.heap.size) (ok := fun k_ => (((some k_ ≠ (.slice Ao27 t291.length co27 : Value).ownBlock ∧ some k_ ≠ (.slice Ao33 t277.length co33 : Value).ownBlock) ∧ some k_ ≠ (.slice Ao134 t296.length co134 : Value).ownBlock) ∧ some k_ ≠ (.slice Ao137 t300.length co137 : Value).ownBlock)) (n := t265.length) (c := co21) ?_).2.2; exact (by (with_reducible repeat (first | apply Kd.R_alloc | apply Kd.R_drewN | apply Kd.R_drew)); exact (Kd.R_mono (Kd.R_far (p := ⟨gb306, 1, none⟩) (Kd.R_far (p := ⟨gb306, 0, none⟩) (Kd.R_types HO_272000.out BK306.out (by decide)) (fun _ hk => hk.2) (.slice Ao137 t300.length co137)) (fun _ hk => hk.2) (.int .i64 t303)) (fun _ h_ => h_.1)))); (case side4 => exact (Kd.R_reads' HO_272000.out).2.1); rintro e w175 ⟨rfl, hb⟩; refine ⟨_, rfl, ?_⟩; have n0_ := Aside0.mk (Kd.R_below (by (with_reducible repeat (first | apply Kd.R_alloc | apply Kd.R_drewN | apply Kd.R_drew)); exact (Kd.R_mono (Kd.R_far (p := ⟨gb306, 1, none⟩) (Kd.R_far (p := ⟨gb306, 0, none⟩) (Kd.R_types HO_272000.out BK306.out (by decide)) (fun _ hk => hk.2) (.slice Ao137 t300.length co137)) (fun _ hk => hk.2) (.int .i64 t303)) (fun _ h_ => h_.1))) hb); have n1_ := Aside0.mk (Kd.R_below (by (with_reducible repeat (first | apply Kd.R_alloc | apply Kd.R_drewN | apply Kd.R_drew)); exact (Kd.R_mono (Kd.R_far (p := ⟨gb306, 1, none⟩) (Kd.R_far (p := ⟨gb306, 0, none⟩) (Kd.R_types HO_277000.out BK306.out (by decide)) (fun _ hk => hk.2) (.slice Ao137 t300.length co137)) (fun _ hk => hk.2) (.int .i64 t303)) (fun _ h_ => h_.1))) hb); have n2_ := Aside0.mk (Kd.R_below (by (with_reducible repeat (first | apply Kd.R_alloc | apply Kd.R_drewN | apply Kd.R_drew)); exact (Kd.R_mono (Kd.R_far (p := ⟨gb306, 1, none⟩) (Kd.R_far (p := ⟨gb306, 0, none⟩) (Kd.R_types HO_284000.out BK306.out (by decide)) (fun _ hk => hk.2) (.slice Ao137 t300.length co137)) (fun _ hk => hk.2) (.int .i64 t303)) (fun _ h_ => h_.1))) hb); have n3_ := Aside0.mk (Kd.R_below (by (with_reducible repeat (first | apply Kd.R_alloc | apply Kd.R_drewN | apply Kd.R_drew)); exact (Kd.R_mono (Kd.R_far (p := ⟨gb306, 1, none⟩) (Kd.R_far (p := ⟨gb306, 0, none⟩) (Kd.R_types HO298.out BK306.out (by decide)) (fun _ hk => hk.2) (.slice Ao137 t300.length co137)) (fun _ hk => hk.2) (.int .i64 t303)) (fun _ h_ => h_.1))) hb); have n4_ := Aside0.mk (Kd.R_below (by (with_reducible repeat (first | apply Kd.R_alloc | apply Kd.R_drewN | apply Kd.R_drew)); exact (Kd.R_mono (Kd.R_far (p := ⟨gb306, 1, none⟩) (Kd.R_far (p := ⟨gb306, 0, none⟩) (Kd.R_types HO302.out BK306.out (by decide)) (fun _ hk => hk.2) (.slice Ao137 t300.length co137)) (fun _ hk => hk.2) (.int .i64 t303)) (fun _ h_ => h_.1))) hb); have n5_ := Aside0.mk (blk_below (g := gb259) (o := .cells #[.slice A0_0 l0_0.length c0_0, .int .i64 a0_1] 43 (0, 0)) (by (with_reducible repeat (first | refine blk_drewN ?_ _ | refine blk_drew ?_ | refine blk_alloc ?_ _)); refine blk_far ?_ NB259_306.out _; (with_reducible repeat (first | refine blk_drewN ?_ _ | refine blk_drew ?_ | refine blk_alloc ?_ _)); refine blk_far ?_ NB259_306.out _; (with_reducible repeat (first | refine blk_drewN ?_ _ | refine blk_drew ?_ | refine blk_alloc ?_ _)); exact BK259.out) hb); have n6_ := Aside0.mk (blk_below (g := gb271) (o := .cells #[.slice Ao21 t265.length co21, .int .i64 t268] 33 (0, 0)) (by (with_reducible repeat (first | refine blk_drewN ?_ _ | refine blk_drew ?_ | refine blk_alloc ?_ _)); refine blk_far ?_ NB271_306.out _; (with_reducible repeat (first | refine blk_drewN ?_ _ | refine blk_drew ?_ | refine blk_alloc ?_ _)); refine blk_far ?_ NB271_306.out _; (with_reducible repeat (first | refine blk_drewN ?_ _ | refine blk_drew ?_ | refine blk_alloc ?_ _)); exact BK271.out) hb); have n7_ := Aside0.mk (blk_below (g := gb276) (o := .cells #[.slice Ao27 t291.length co27, .int .i64 t275] 33 (0, 0)) (by (with_reducible repeat (first | refine blk_drewN ?_ _ | refine blk_drew ?_ | refine blk_alloc ?_ _)); refine blk_far ?_ NB276_306.out _; (with_reducible repeat (first | refine blk_drewN ?_ _ | refine blk_drew ?_ | refine blk_alloc ?_ _)); refine blk_far ?_ NB276_306.out _; (with_reducible repeat (first | refine blk_drewN ?_ _ | refine blk_drew ?_ | refine blk_alloc ?_ _)); exact BK276.out) hb); have n8_ := Aside0.mk (blk_below (g := gb283) (o := .cells #[.slice Ao33 t277.length co33, .int .i64 t280] 33 (0, 0)) (by (with_reducible repeat (first | refine blk_drewN ?_ _ | refine blk_drew ?_ | refine blk_alloc ?_ _)); refine blk_far ?_ NB283_306.out _; (with_reducible repeat (first | refine blk_drewN ?_ _ | refine blk_drew ?_ | refine blk_alloc ?_ _)); refine blk_far ?_ NB283_306.out _; (with_reducible repeat (first | refine blk_drewN ?_ _ | refine blk_drew ?_ | refine blk_alloc ?_ _)); exact BK283.out) hb); have n9_ := Aside0.mk (blk_below (g := gb306) (o := .cells #[.slice Ao137 t300.length co137, .int .i64 t303] 33 (0, 0)) (by (with_reducible repeat (first | refine blk_drewN ?_ _ | refine blk_drew ?_ | refine blk_alloc ?_ _)); refine blk_put (cs := #[.slice Ao137 t300.length co137, .int .i64 0]) ?_ 1 _ rfl; (with_reducible repeat (first | refine blk_drewN ?_ _ | refine blk_drew ?_ | refine blk_alloc ?_ _)); refine blk_put (cs := #[.slice none 0 0, .int .i64 0]) ?_ 0 _ rfl; (with_reducible repeat (first | refine blk_drewN ?_ _ | refine blk_drew ?_ | refine blk_alloc ?_ _)); exact BK306.out) hb); have n10_ := Aside0.mk (below_step (by repeat (first | (with_reducible first | exact HB.out | apply below_alloc | apply pw_below_drewN | apply below_drew1 | refine below_set ?_ GE259.out | refine below_set ?_ GE271.out | refine below_set ?_ GE276.out | refine below_set ?_ GE283.out | refine below_set ?_ GE306.out) | exact HB.out)) hb); clear HO_272000; clear HO_277000; clear HO_284000; clear HO298; clear HO302; clear BK259; clear BK271; clear BK276; clear BK283; clear BK306; clear HB; have HO_272000 := n0_; have HO_277000 := n1_; have HO_284000 := n2_; have HO298 := n3_; have HO302 := n4_; have BK259 := n5_; have BK271 := n6_; have BK276 := n7_; have BK283 := n8_; have BK306 := n9_; have HB := n10_; clear n0_ n1_ n2_ n3_ n4_ n5_ n6_ n7_ n8_ n9_ n10_; (try clear hb); (try clear hb2); (try clear hk); (try clear hi)))
                          go_meet
                          case rel => exact ⟨_, (true), (by first | rfl | (simp; done) | (simp [*]; done)), H', ⟨by have := HJ11.out; have := HJ69.out; first | omega | exact Nat.le_refl _⟩, ⟨by (try simp only [hl277000_69]); (with_reducible repeat (first | apply Kd.R_alloc | apply Kd.R_drewN | apply Kd.R_drew)); exact Kd.R_mono HO_272000.out (fun _ hk => ⟨hk.1.1.1, ⟨hk.1.1.2, hk.2⟩⟩)⟩, ⟨by (try simp only [hl277000_69]); (with_reducible repeat (first | apply Kd.R_alloc | apply Kd.R_drewN | apply Kd.R_drew)); exact Kd.R_mono HO_277000.out (fun _ hk => ⟨hk.1.1.1, ⟨hk.1.1.2, hk.2⟩⟩)⟩, ⟨by (try simp only [hl277000_69]); (with_reducible repeat (first | apply Kd.R_alloc | apply Kd.R_drewN | apply Kd.R_drew)); exact Kd.R_mono HO_284000.out (fun _ hk => ⟨hk.1.1.1, ⟨hk.1.1.2, hk.2⟩⟩)⟩, ⟨by (try simp only [hl277000_69]); (with_reducible repeat (first | apply Kd.R_alloc | apply Kd.R_drewN | apply Kd.R_drew)); exact Kd.R_mono HO302.out (fun _ hk => ⟨hk.1.1.1.2, ⟨hk.1.1.2, hk.1.2⟩⟩)⟩, ⟨by (try simp only [hl277000_69]); (with_reducible repeat (first | refine blk_drewN ?_ _ | refine blk_drew ?_ | refine blk_alloc ?_ _)); exact BK259.out⟩, ⟨by (try simp only [hl277000_69]); (with_reducible repeat (first | refine blk_drewN ?_ _ | refine blk_drew ?_ | refine blk_alloc ?_ _)); exact BK271.out⟩, ⟨by (try simp only [hl277000_69]); (with_reducible repeat (first | refine blk_drewN ?_ _ | refine blk_drew ?_ | refine blk_alloc ?_ _)); exact BK276.out⟩, ⟨by (try simp only [hl277000_69]); (with_reducible repeat (first | refine blk_drewN ?_ _ | refine blk_drew ?_ | refine blk_alloc ?_ _)); exact BK283.out⟩, ⟨by (try simp only [hl277000_69]); (with_reducible repeat (first | refine blk_drewN ?_ _ | refine blk_drew ?_ | refine blk_alloc ?_ _)); exact BK306.out⟩, ⟨by repeat (first | (with_reducible first | exact HB.out | apply below_alloc | apply pw_below_drewN | apply below_drew1 | refine below_set ?_ GE259.out | refine below_set ?_ GE271.out | refine below_set ?_ GE276.out | refine below_set ?_ GE283.out | refine below_set ?_ GE306.out) | exact HB.out)⟩⟩
                      case rest =>
                        clear HC122
                        try clear c1
                        try clear c2
                        try clear p2
                        try clear c3
                        try clear c4
                        try clear c4b0
                        try clear c5
                        try clear c6
                        try clear c7
                        try clear c8
                        try clear c9
                        try clear c10
                        try clear c11
                        try clear c12
                        try clear c13
                        try clear c14
                        try clear c15
                        try clear c16
                        try clear c17
                        try clear c22
                        try clear c24
                        try clear c27
                        try clear c28
                        try clear c29
                        try clear c30
                        try clear c31
                        try clear c32
                        try clear c34
                        try clear c35
                        try clear c36
                        try clear c39
                        try clear c40
                        try clear c40b0
                        try clear c40b1
                        try clear c41
                        try clear c42
                        try clear c43
                        try clear c45
                        try clear c46
                        try clear c49
                        try clear c50
                        try clear c51
                        try clear c53
                        try clear c54
                        try clear c57
                        try clear c58
                        try clear c59
                        try clear c61
                        try clear c62
                        try clear c65
                        try clear c68
                        try clear c75
                        try clear c76
                        try clear c77
                        try clear c80
                        try clear c80b0
                        try clear c82
                        try clear c83
                        try clear c83b0
                        try clear c83b1
                        try clear c84
                        try clear c85
                        try clear c86
                        try clear c88
                        try clear c89
                        try clear c92
                        try clear c93
                        try clear c94
                        try clear c96
                        try clear c97
                        try clear c100
                        try clear c101
                        try clear c102
                        try clear c104
                        try clear c105
                        try clear c108
                        try clear c111
                        try clear c111b0
                        try clear c112
                        try clear c113
                        try clear c114
                        try clear c119
                        try clear c119b0
                        try clear c119b1
                        try clear c123
                        try clear c124
                        try clear c125
                        try clear c130
                        try clear c131
                        try clear c138
                        try clear c139
                        try clear c140
                        try clear c141
                        try clear c144
                        try clear c145
                        try clear c145b0
                        try clear c145b1
                        try clear c146
                        try clear c147
                        try clear c148
                        try clear c149
                        try clear c151
                        try clear c152
                        try clear c153
                        try clear c156
                        try clear c157
                        try clear c158
                        try clear c159
                        try clear c161
                        try clear c162
                        try clear c163
                        try clear c166
                        try clear c167
                        try clear c168
                        try clear c169
                        try clear c171
                        try clear c172
                        try clear c173
                        try clear hcz103_0
                        try clear hcz103_1
                        try clear hcz106_0
                        try clear hcz106_1
                        try clear hcz115_0
                        try clear hcz115_1
                        try clear hcz117_0
                        try clear hcz117_1
                        try clear hcz126_0
                        try clear hcz126_1
                        try clear hcz128_0
                        try clear hcz128_1
                        try clear hcz132_0
                        try clear hcz132_1
                        try clear hcz142_0
                        try clear hcz142_1
                        try clear hcz14_0
                        try clear hcz14_1
                        try clear hcz150_0
                        try clear hcz150_1
                        try clear hcz154_0
                        try clear hcz154_1
                        try clear hcz160_0
                        try clear hcz160_1
                        try clear hcz164_0
                        try clear hcz164_1
                        try clear hcz16_0
                        try clear hcz16_1
                        try clear hcz170_0
                        try clear hcz170_1
                        try clear hcz174_0
                        try clear hcz174_1
                        try clear hcz23_0
                        try clear hcz23_1
                        try clear hcz24_0
                        try clear hcz24_1
                        try clear hcz30_0
                        try clear hcz30_1
                        try clear hcz37_0
                        try clear hcz37_1
                        try clear hcz44_0
                        try clear hcz44_1
                        try clear hcz47_0
                        try clear hcz47_1
                        try clear hcz52_0
                        try clear hcz52_1
                        try clear hcz55_0
                        try clear hcz55_1
                        try clear hcz60_0
                        try clear hcz60_1
                        try clear hcz63_0
                        try clear hcz63_1
                        try clear hcz6_0
                        try clear hcz6_1
                        try clear hcz78_0
                        try clear hcz78_1
                        try clear hcz87_0
                        try clear hcz87_1
                        try clear hcz90_0
                        try clear hcz90_1
                        try clear hcz95_0
                        try clear hcz95_1
                        try clear hcz98_0
                        try clear hcz98_1
                        try clear hfz103_0
                        try clear hfz103_1
                        try clear hfz106_0
                        try clear hfz106_1
                        try clear hfz115_0
                        try clear hfz115_1
                        try clear hfz117_0
                        try clear hfz117_1
                        try clear hfz126_0
                        try clear hfz126_1
                        try clear hfz128_0
                        try clear hfz128_1
                        try clear hfz132_0
                        try clear hfz132_1
                        try clear hfz142_0
                        try clear hfz142_1
                        try clear hfz14_0
                        try clear hfz14_1
                        try clear hfz150_0
                        try clear hfz150_1
                        try clear hfz154_0
                        try clear hfz154_1
                        try clear hfz160_0
                        try clear hfz160_1
                        try clear hfz164_0
                        try clear hfz164_1
                        try clear hfz16_0
                        try clear hfz16_1
                        try clear hfz170_0
                        try clear hfz170_1
                        try clear hfz174_0
                        try clear hfz174_1
                        try clear hfz23_0
                        try clear hfz23_1
                        try clear hfz24_0
                        try clear hfz24_1
                        try clear hfz30_0
                        try clear hfz30_1
                        try clear hfz37_0
                        try clear hfz37_1
                        try clear hfz44_0
                        try clear hfz44_1
                        try clear hfz47_0
                        try clear hfz47_1
                        try clear hfz52_0
                        try clear hfz52_1
                        try clear hfz55_0
                        try clear hfz55_1
                        try clear hfz60_0
                        try clear hfz60_1
                        try clear hfz63_0
                        try clear hfz63_1
                        try clear hfz6_0
                        try clear hfz6_1
                        try clear hfz78_0
                        try clear hfz78_1
                        try clear hfz87_0
                        try clear hfz87_1
                        try clear hfz90_0
                        try clear hfz90_1
                        try clear hfz95_0
                        try clear hfz95_1
                        try clear hfz98_0
                        try clear hfz98_1
                        try clear p2
                        obtain ⟨kq, x113_121, rfl, HA, HJ121, HO_272000, HO_277000, HO_284000, HO_307000, BK259, BK271, BK276, BK283, BK306, HB⟩ := hcut
                        have hl284000_121 := (Kd.R_reads' HO_284000.out).1
                        rw [hl284000_121] at HO_284000
                        (try simp only [hl284000_121])
                        (try simp only [hl284000_121] at BK259)
                        (try simp only [hl284000_121] at BK271)
                        (try simp only [hl284000_121] at BK276)
                        (try simp only [hl284000_121] at BK283)
                        (try simp only [hl284000_121] at BK306)
                        (try simp only [hl284000_121] at HO_272000)
                        (try simp only [hl284000_121] at HO_277000)
                        (try simp only [hl284000_121] at HO_307000)
                        cases kq with
                        | zero => exact absurd HA.out (by simp [laws_FnExactResumeAt.j2])
                        | succ kj121 =>
                          have H := HA.out
                          clear HA
                          simp only [laws_FnExactResumeAt.j2] at H
                          by_cases c176 : x113_121 = true
                          · subst c176
                            have H1 : (some false) = some r := by rw [if_pos rfl] at H; exact H
                            clear H
                            have H := H1
                            clear H1
                            obtain rfl := Option.some.inj H
                            go_wp2
                            go_ret
                            exact ⟨by first | rfl | (simp [errW_none, errW_some] <;> rfl) | (simp [*, errW_none, errW_some] <;> rfl), by repeat (first | (with_reducible first | exact HB.out | apply below_alloc | apply pw_below_drewN | apply below_drew1 | refine below_set ?_ GE259.out | refine below_set ?_ GE271.out | refine below_set ?_ GE276.out | refine below_set ?_ GE283.out | refine below_set ?_ GE306.out) | exact HB.out)⟩
                          · replace c176 := Bool.eq_false_iff.mpr c176
                            subst c176
                            have H1 : ((laws_heldPunchJob.f kj121 t294 t280 1).bind fun t308 => (if t308 < 0 then (some false) else (if t308 = t293 then (some true) else (some false)))) = some r := by rw [if_neg (show ¬ (false = true) by decide)] at H; exact H
                            clear H
                            have H := H1
                            clear H1
                            replace H := Option.bind_eq_some_iff.mp H
                            obtain ⟨t308, A1770, H⟩ := H
                            replace H : (if t308 < 0 then (some false) else (if t308 = t293 then (some true) else (some false))) = some r := H
                            have A177 := Aside0.mk A1770
                            clear A1770
                            by_cases c178 : t308 < 0
                            · rw [if_pos c178] at H
                              have c178b0 : decide (t308 < 0) = true := decide_eq_true c178
                              clear c178
                              obtain rfl := Option.some.inj H
                              have hnb179 := NB283_259.out
                              have hnc179 := NB259_283.out
                              have hnb180 := NB283_271.out
                              have hnc180 := NB271_283.out
                              have hnb181 := NB283_276.out
                              have hnc181 := NB276_283.out
                              have hnb182 := NB283_306.out
                              have hnc182 := NB306_283.out
                              have hcz183_0 : wc.cell? ⟨gb283, 0, none⟩ = some (.slice Ao33 t294.length co33) := (blk_cell BK283.out 0).trans rfl
                              have hcz183_1 : wc.cell? ⟨gb283, 1, none⟩ = some (.int .i64 t280) := (blk_cell BK283.out 1).trans rfl
                              have hfz183_0 := blk_frozen BK283.out 0
                              have hfz183_1 := blk_frozen BK283.out 1
                              go_wp2_with (first | ((with_reducible refine gate_callee (f := 28) rfl ?_); refine goesL_ (some 116) rfl rfl Try.func28 (by kernel_rfl) rfl #[.agg #[.slice Ao33 t294.length co33, .int .i64 t280], .int .i64 1] rfl (by (try simp only [List.map_toArray, List.map_cons, List.map_nil]); first | done | rfl | (simp only [List.length_drop, List.length_take]; rfl)) ?_; (with_reducible refine (laws_heldPunchJob.calls kj121 _ _ t294 t280 1 t308 _ ?side1 ?side2 A177.out).mono ?_); (case side1 => repeat (first | exact (Kd.R_reads' HO_284000.out).2.2 | (with_reducible refine Kd.C_alloc ?_ _) | (with_reducible refine Kd.C_drewN ?_ _) | (with_reducible refine Kd.C_drew ?_))); (case side2 => exact (Kd.R_reads' HO_284000.out).2.1); rintro e w184 ⟨rfl, hb⟩; refine ⟨_, rfl, ?_⟩; have n0_ := Aside0.mk (Kd.R_below (by (with_reducible repeat (first | apply Kd.R_alloc | apply Kd.R_drewN | apply Kd.R_drew)); exact HO_272000.out) hb); have n1_ := Aside0.mk (Kd.R_below (by (with_reducible repeat (first | apply Kd.R_alloc | apply Kd.R_drewN | apply Kd.R_drew)); exact HO_277000.out) hb); have n2_ := Aside0.mk (Kd.R_below (by (with_reducible repeat (first | apply Kd.R_alloc | apply Kd.R_drewN | apply Kd.R_drew)); exact HO_284000.out) hb); have n3_ := Aside0.mk (Kd.R_below (by (with_reducible repeat (first | apply Kd.R_alloc | apply Kd.R_drewN | apply Kd.R_drew)); exact HO_307000.out) hb); have n4_ := Aside0.mk (blk_below (g := gb259) (o := .cells #[.slice A0_0 l0_0.length c0_0, .int .i64 a0_1] 43 (0, 0)) (by (with_reducible repeat (first | refine blk_drewN ?_ _ | refine blk_drew ?_ | refine blk_alloc ?_ _)); exact BK259.out) hb); have n5_ := Aside0.mk (blk_below (g := gb271) (o := .cells #[.slice Ao21 t265.length co21, .int .i64 t268] 33 (0, 0)) (by (with_reducible repeat (first | refine blk_drewN ?_ _ | refine blk_drew ?_ | refine blk_alloc ?_ _)); exact BK271.out) hb); have n6_ := Aside0.mk (blk_below (g := gb276) (o := .cells #[.slice Ao27 t291.length co27, .int .i64 t275] 33 (0, 0)) (by (with_reducible repeat (first | refine blk_drewN ?_ _ | refine blk_drew ?_ | refine blk_alloc ?_ _)); exact BK276.out) hb); have n7_ := Aside0.mk (blk_below (g := gb283) (o := .cells #[.slice Ao33 t294.length co33, .int .i64 t280] 33 (0, 0)) (by (with_reducible repeat (first | refine blk_drewN ?_ _ | refine blk_drew ?_ | refine blk_alloc ?_ _)); exact BK283.out) hb); have n8_ := Aside0.mk (blk_below (g := gb306) (o := .cells #[.slice Ao137 t300.length co137, .int .i64 t303] 33 (0, 0)) (by (with_reducible repeat (first | refine blk_drewN ?_ _ | refine blk_drew ?_ | refine blk_alloc ?_ _)); exact BK306.out) hb); have n9_ := Aside0.mk (below_step (by repeat (first | (with_reducible first | exact HB.out | apply below_alloc | apply pw_below_drewN | apply below_drew1 | refine below_set ?_ GE259.out | refine below_set ?_ GE271.out | refine below_set ?_ GE276.out | refine below_set ?_ GE283.out | refine below_set ?_ GE306.out) | exact HB.out)) hb); clear HO_272000; clear HO_277000; clear HO_284000; clear HO_307000; clear BK259; clear BK271; clear BK276; clear BK283; clear BK306; clear HB; have HO_272000 := n0_; have HO_277000 := n1_; have HO_284000 := n2_; have HO_307000 := n3_; have BK259 := n4_; have BK271 := n5_; have BK276 := n6_; have BK283 := n7_; have BK306 := n8_; have HB := n9_; clear n0_ n1_ n2_ n3_ n4_ n5_ n6_ n7_ n8_ n9_; (try clear hb); (try clear hb2); (try clear hk); (try clear hi)))
                              go_ret
                              exact ⟨by first | rfl | (simp [errW_none, errW_some] <;> rfl) | (simp [*, errW_none, errW_some] <;> rfl), by repeat (first | (with_reducible first | exact HB.out | apply below_alloc | apply pw_below_drewN | apply below_drew1 | refine below_set ?_ GE259.out | refine below_set ?_ GE271.out | refine below_set ?_ GE276.out | refine below_set ?_ GE283.out | refine below_set ?_ GE306.out) | exact HB.out)⟩
                            · rw [if_neg c178] at H
                              have c178b0 : decide (t308 < 0) = false := decide_eq_false c178
                              clear c178
                              by_cases c185 : t308 = t293
                              · rw [if_pos c185] at H
                                have c185b0 : (t308 == t293) = true := beq_iff_eq.mpr c185
                                have c185b1 : (t308 != t293) = false := bne_eq_false_iff_eq.mpr c185
                                clear c185
                                obtain rfl := Option.some.inj H
                                have hnb186 := NB283_259.out
                                have hnc186 := NB259_283.out
                                have hnb187 := NB283_271.out
                                have hnc187 := NB271_283.out
                                have hnb188 := NB283_276.out
                                have hnc188 := NB276_283.out
                                have hnb189 := NB283_306.out
                                have hnc189 := NB306_283.out
                                have hcz190_0 : wc.cell? ⟨gb283, 0, none⟩ = some (.slice Ao33 t294.length co33) := (blk_cell BK283.out 0).trans rfl
                                have hcz190_1 : wc.cell? ⟨gb283, 1, none⟩ = some (.int .i64 t280) := (blk_cell BK283.out 1).trans rfl
                                have hfz190_0 := blk_frozen BK283.out 0
                                have hfz190_1 := blk_frozen BK283.out 1
                                go_wp2_with (first | ((with_reducible refine gate_callee (f := 28) rfl ?_); refine goesL_ (some 116) rfl rfl Try.func28 (by kernel_rfl) rfl #[.agg #[.slice Ao33 t294.length co33, .int .i64 t280], .int .i64 1] rfl (by (try simp only [List.map_toArray, List.map_cons, List.map_nil]); first | done | rfl | (simp only [List.length_drop, List.length_take]; rfl)) ?_; (with_reducible refine (laws_heldPunchJob.calls kj121 _ _ t294 t280 1 t308 _ ?side1 ?side2 A177.out).mono ?_); (case side1 => repeat (first | exact (Kd.R_reads' HO_284000.out).2.2 | (with_reducible refine Kd.C_alloc ?_ _) | (with_reducible refine Kd.C_drewN ?_ _) | (with_reducible refine Kd.C_drew ?_))); (case side2 => exact (Kd.R_reads' HO_284000.out).2.1); rintro e w191 ⟨rfl, hb⟩; refine ⟨_, rfl, ?_⟩; have n0_ := Aside0.mk (Kd.R_below (by (with_reducible repeat (first | apply Kd.R_alloc | apply Kd.R_drewN | apply Kd.R_drew)); exact HO_272000.out) hb); have n1_ := Aside0.mk (Kd.R_below (by (with_reducible repeat (first | apply Kd.R_alloc | apply Kd.R_drewN | apply Kd.R_drew)); exact HO_277000.out) hb); have n2_ := Aside0.mk (Kd.R_below (by (with_reducible repeat (first | apply Kd.R_alloc | apply Kd.R_drewN | apply Kd.R_drew)); exact HO_284000.out) hb); have n3_ := Aside0.mk (Kd.R_below (by (with_reducible repeat (first | apply Kd.R_alloc | apply Kd.R_drewN | apply Kd.R_drew)); exact HO_307000.out) hb); have n4_ := Aside0.mk (blk_below (g := gb259) (o := .cells #[.slice A0_0 l0_0.length c0_0, .int .i64 a0_1] 43 (0, 0)) (by (with_reducible repeat (first | refine blk_drewN ?_ _ | refine blk_drew ?_ | refine blk_alloc ?_ _)); exact BK259.out) hb); have n5_ := Aside0.mk (blk_below (g := gb271) (o := .cells #[.slice Ao21 t265.length co21, .int .i64 t268] 33 (0, 0)) (by (with_reducible repeat (first | refine blk_drewN ?_ _ | refine blk_drew ?_ | refine blk_alloc ?_ _)); exact BK271.out) hb); have n6_ := Aside0.mk (blk_below (g := gb276) (o := .cells #[.slice Ao27 t291.length co27, .int .i64 t275] 33 (0, 0)) (by (with_reducible repeat (first | refine blk_drewN ?_ _ | refine blk_drew ?_ | refine blk_alloc ?_ _)); exact BK276.out) hb); have n7_ := Aside0.mk (blk_below (g := gb283) (o := .cells #[.slice Ao33 t294.length co33, .int .i64 t280] 33 (0, 0)) (by (with_reducible repeat (first | refine blk_drewN ?_ _ | refine blk_drew ?_ | refine blk_alloc ?_ _)); exact BK283.out) hb); have n8_ := Aside0.mk (blk_below (g := gb306) (o := .cells #[.slice Ao137 t300.length co137, .int .i64 t303] 33 (0, 0)) (by (with_reducible repeat (first | refine blk_drewN ?_ _ | refine blk_drew ?_ | refine blk_alloc ?_ _)); exact BK306.out) hb); have n9_ := Aside0.mk (below_step (by repeat (first | (with_reducible first | exact HB.out | apply below_alloc | apply pw_below_drewN | apply below_drew1 | refine below_set ?_ GE259.out | refine below_set ?_ GE271.out | refine below_set ?_ GE276.out | refine below_set ?_ GE283.out | refine below_set ?_ GE306.out) | exact HB.out)) hb); clear HO_272000; clear HO_277000; clear HO_284000; clear HO_307000; clear BK259; clear BK271; clear BK276; clear BK283; clear BK306; clear HB; have HO_272000 := n0_; have HO_277000 := n1_; have HO_284000 := n2_; have HO_307000 := n3_; have BK259 := n4_; have BK271 := n5_; have BK276 := n6_; have BK283 := n7_; have BK306 := n8_; have HB := n9_; clear n0_ n1_ n2_ n3_ n4_ n5_ n6_ n7_ n8_ n9_; (try clear hb); (try clear hb2); (try clear hk); (try clear hi)))
                                go_ret
                                exact ⟨by first | rfl | (simp [errW_none, errW_some] <;> rfl) | (simp [*, errW_none, errW_some] <;> rfl), by repeat (first | (with_reducible first | exact HB.out | apply below_alloc | apply pw_below_drewN | apply below_drew1 | refine below_set ?_ GE259.out | refine below_set ?_ GE271.out | refine below_set ?_ GE276.out | refine below_set ?_ GE283.out | refine below_set ?_ GE306.out) | exact HB.out)⟩
                              · rw [if_neg c185] at H
                                have c185b0 : (t308 == t293) = false := beq_eq_false_iff_ne.mpr c185
                                have c185b1 : (t308 != t293) = true := bne_iff_ne.mpr c185
                                obtain rfl := Option.some.inj H
                                have hnb192 := NB283_259.out
                                have hnc192 := NB259_283.out
                                have hnb193 := NB283_271.out
                                have hnc193 := NB271_283.out
                                have hnb194 := NB283_276.out
                                have hnc194 := NB276_283.out
                                have hnb195 := NB283_306.out
                                have hnc195 := NB306_283.out
                                have hcz196_0 : wc.cell? ⟨gb283, 0, none⟩ = some (.slice Ao33 t294.length co33) := (blk_cell BK283.out 0).trans rfl
                                have hcz196_1 : wc.cell? ⟨gb283, 1, none⟩ = some (.int .i64 t280) := (blk_cell BK283.out 1).trans rfl
                                have hfz196_0 := blk_frozen BK283.out 0
                                have hfz196_1 := blk_frozen BK283.out 1
                                go_wp2_with (first | ((with_reducible refine gate_callee (f := 28) rfl ?_); refine goesL_ (some 116) rfl rfl Try.func28 (by kernel_rfl) rfl #[.agg #[.slice Ao33 t294.length co33, .int .i64 t280], .int .i64 1] rfl (by (try simp only [List.map_toArray, List.map_cons, List.map_nil]); first | done | rfl | (simp only [List.length_drop, List.length_take]; rfl)) ?_; (with_reducible refine (laws_heldPunchJob.calls kj121 _ _ t294 t280 1 t308 _ ?side1 ?side2 A177.out).mono ?_); (case side1 => repeat (first | exact (Kd.R_reads' HO_284000.out).2.2 | (with_reducible refine Kd.C_alloc ?_ _) | (with_reducible refine Kd.C_drewN ?_ _) | (with_reducible refine Kd.C_drew ?_))); (case side2 => exact (Kd.R_reads' HO_284000.out).2.1); rintro e w197 ⟨rfl, hb⟩; refine ⟨_, rfl, ?_⟩; have n0_ := Aside0.mk (Kd.R_below (by (with_reducible repeat (first | apply Kd.R_alloc | apply Kd.R_drewN | apply Kd.R_drew)); exact HO_272000.out) hb); have n1_ := Aside0.mk (Kd.R_below (by (with_reducible repeat (first | apply Kd.R_alloc | apply Kd.R_drewN | apply Kd.R_drew)); exact HO_277000.out) hb); have n2_ := Aside0.mk (Kd.R_below (by (with_reducible repeat (first | apply Kd.R_alloc | apply Kd.R_drewN | apply Kd.R_drew)); exact HO_284000.out) hb); have n3_ := Aside0.mk (Kd.R_below (by (with_reducible repeat (first | apply Kd.R_alloc | apply Kd.R_drewN | apply Kd.R_drew)); exact HO_307000.out) hb); have n4_ := Aside0.mk (blk_below (g := gb259) (o := .cells #[.slice A0_0 l0_0.length c0_0, .int .i64 a0_1] 43 (0, 0)) (by (with_reducible repeat (first | refine blk_drewN ?_ _ | refine blk_drew ?_ | refine blk_alloc ?_ _)); exact BK259.out) hb); have n5_ := Aside0.mk (blk_below (g := gb271) (o := .cells #[.slice Ao21 t265.length co21, .int .i64 t268] 33 (0, 0)) (by (with_reducible repeat (first | refine blk_drewN ?_ _ | refine blk_drew ?_ | refine blk_alloc ?_ _)); exact BK271.out) hb); have n6_ := Aside0.mk (blk_below (g := gb276) (o := .cells #[.slice Ao27 t291.length co27, .int .i64 t275] 33 (0, 0)) (by (with_reducible repeat (first | refine blk_drewN ?_ _ | refine blk_drew ?_ | refine blk_alloc ?_ _)); exact BK276.out) hb); have n7_ := Aside0.mk (blk_below (g := gb283) (o := .cells #[.slice Ao33 t294.length co33, .int .i64 t280] 33 (0, 0)) (by (with_reducible repeat (first | refine blk_drewN ?_ _ | refine blk_drew ?_ | refine blk_alloc ?_ _)); exact BK283.out) hb); have n8_ := Aside0.mk (blk_below (g := gb306) (o := .cells #[.slice Ao137 t300.length co137, .int .i64 t303] 33 (0, 0)) (by (with_reducible repeat (first | refine blk_drewN ?_ _ | refine blk_drew ?_ | refine blk_alloc ?_ _)); exact BK306.out) hb); have n9_ := Aside0.mk (below_step (by repeat (first | (with_reducible first | exact HB.out | apply below_alloc | apply pw_below_drewN | apply below_drew1 | refine below_set ?_ GE259.out | refine below_set ?_ GE271.out | refine below_set ?_ GE276.out | refine below_set ?_ GE283.out | refine below_set ?_ GE306.out) | exact HB.out)) hb); clear HO_272000; clear HO_277000; clear HO_284000; clear HO_307000; clear BK259; clear BK271; clear BK276; clear BK283; clear BK306; clear HB; have HO_272000 := n0_; have HO_277000 := n1_; have HO_284000 := n2_; have HO_307000 := n3_; have BK259 := n4_; have BK271 := n5_; have BK276 := n6_; have BK283 := n7_; have BK306 := n8_; have HB := n9_; clear n0_ n1_ n2_ n3_ n4_ n5_ n6_ n7_ n8_ n9_; (try clear hb); (try clear hb2); (try clear hk); (try clear hi)))
                                go_ret
                                exact ⟨by first | rfl | (simp [errW_none, errW_some] <;> rfl) | (simp [*, errW_none, errW_some] <;> rfl), by repeat (first | (with_reducible first | exact HB.out | apply below_alloc | apply pw_below_drewN | apply below_drew1 | refine below_set ?_ GE259.out | refine below_set ?_ GE271.out | refine below_set ?_ GE276.out | refine below_set ?_ GE283.out | refine below_set ?_ GE306.out) | exact HB.out)⟩
                    · rw [if_neg c119] at H
                      have c119b0 : (t295 == t293) = false := beq_eq_false_iff_ne.mpr c119
                      have c119b1 : (t295 != t293) = true := bne_iff_ne.mpr c119
                      obtain rfl := Option.some.inj H
                      have hnb198 := NB283_259.out
                      have hnc198 := NB259_283.out
                      have hnb199 := NB283_271.out
                      have hnc199 := NB271_283.out
                      have hnb200 := NB283_276.out
                      have hnc200 := NB276_283.out
                      have hcz201_0 : wc.cell? ⟨gb283, 0, none⟩ = some (.slice Ao33 t277.length co33) := (blk_cell BK283.out 0).trans rfl
                      have hcz201_1 : wc.cell? ⟨gb283, 1, none⟩ = some (.int .i64 t280) := (blk_cell BK283.out 1).trans rfl
                      have hfz201_0 := blk_frozen BK283.out 0
                      have hfz201_1 := blk_frozen BK283.out 1
                      go_wp2_with (first | ((with_reducible refine gate_callee (f := 27) rfl ?_); refine goesL_ (some 83) rfl rfl Try.func27 (by kernel_rfl) rfl #[.agg #[.slice Ao33 t277.length co33, .int .i64 t280], .int .i64 1] rfl (by (try simp only [List.map_toArray, List.map_cons, List.map_nil]); first | done | rfl | (simp only [List.length_drop, List.length_take]; rfl)) ?_; (with_reducible refine (laws_markPunchJob.calls kj69 (fun k_ => some k_ = (.slice Ao33 t277.length co33 : Value).ownBlock) (.slice Ao33 t277.length co33) t277 t280 1 t293 t294 w _ ?side1 ?side2 A109.out).mono ?_); (case side1 => repeat (first | (with_reducible first | exact HB.out | apply below_alloc | apply pw_below_drewN | apply below_drew1 | refine below_set ?_ GE259.out | refine below_set ?_ GE271.out | refine below_set ?_ GE276.out | refine below_set ?_ GE283.out) | exact HB.out)); (case side2 => exact Kd.R_tight rfl HO_284000.out); rintro e w202 ⟨rfl, hy0, hb, hkp⟩; refine ⟨_, rfl, ?_⟩; have n0_ := Aside0.mk (Kd.R_mono (ok' := fun k_ => some k_ ≠ (.slice Ao27 t291.length co27 : Value).ownBlock ∧ some k_ ≠ (.slice Ao33 t277.length co33 : Value).ownBlock) (Kd.R_keptB (HO_272000.out) hkp (fun k_ hk_ hs_ => (hk_.2) hs_)) (fun k_ hk_ => ⟨hk_.1.1, hk_.1.2⟩)); have n1_ := Aside0.mk (Kd.R_mono (ok' := fun k_ => some k_ ≠ (.slice Ao21 t265.length co21 : Value).ownBlock ∧ some k_ ≠ (.slice Ao33 t277.length co33 : Value).ownBlock) (Kd.R_keptB (HO_277000.out) hkp (fun k_ hk_ hs_ => (hk_.2) hs_)) (fun k_ hk_ => ⟨hk_.1.1, hk_.1.2⟩)); have n2_ := Aside0.mk (Kd.R_reok rfl hy0 (fun k_ e_ => HO_284000.out.1 k_ e_)); have n3_ := Aside0.mk (blk_kept (by (with_reducible repeat (first | refine blk_drewN ?_ _ | refine blk_drew ?_ | refine blk_alloc ?_ _)); exact BK259.out) hkp (fun hs_ => (fun e_ => (Kd.R_ne HO_284000.out BK259.out (by decide)) e_) hs_)); have n4_ := Aside0.mk (blk_kept (by (with_reducible repeat (first | refine blk_drewN ?_ _ | refine blk_drew ?_ | refine blk_alloc ?_ _)); exact BK271.out) hkp (fun hs_ => (fun e_ => (Kd.R_ne HO_284000.out BK271.out (by decide)) e_) hs_)); have n5_ := Aside0.mk (blk_kept (by (with_reducible repeat (first | refine blk_drewN ?_ _ | refine blk_drew ?_ | refine blk_alloc ?_ _)); exact BK276.out) hkp (fun hs_ => (fun e_ => (Kd.R_ne HO_284000.out BK276.out (by decide)) e_) hs_)); have n6_ := Aside0.mk (blk_kept (by (with_reducible repeat (first | refine blk_drewN ?_ _ | refine blk_drew ?_ | refine blk_alloc ?_ _)); exact BK283.out) hkp (fun hs_ => (fun e_ => (Kd.R_ne HO_284000.out BK283.out (by decide)) e_) hs_)); have n7_ := Aside0.mk (hb); clear HO_272000; clear HO_277000; clear HO_284000; clear BK259; clear BK271; clear BK276; clear BK283; clear HB; have HO_272000 := n0_; have HO_277000 := n1_; have HO_284000 := n2_; have BK259 := n3_; have BK271 := n4_; have BK276 := n5_; have BK283 := n6_; have HB := n7_; clear n0_ n1_ n2_ n3_ n4_ n5_ n6_ n7_; (try clear hb); (try clear hkp); (try clear hy0); have hcz203_0 : w202.cell? ⟨gb283, 0, none⟩ = some (.slice Ao33 t277.length co33) := (blk_cell BK283.out 0).trans rfl; have hcz203_1 : w202.cell? ⟨gb283, 1, none⟩ = some (.int .i64 t280) := (blk_cell BK283.out 1).trans rfl; have hfz203_0 := blk_frozen BK283.out 0; have hfz203_1 := blk_frozen BK283.out 1) | ((with_reducible refine gate_callee (f := 28) rfl ?_); refine goesL_ (some 86) rfl rfl Try.func28 (by kernel_rfl) rfl #[.agg #[.slice Ao33 t294.length co33, .int .i64 t280], .int .i64 1] rfl (by (try simp only [List.map_toArray, List.map_cons, List.map_nil]); first | done | (rw [show t294.length = t277.length from (Kd.R_reads' HO_284000.out).1.symm] <;> rfl) | rfl | (simp only [List.length_drop, List.length_take]; rfl)) ?_; (with_reducible refine (laws_heldPunchJob.calls kj69 _ _ t294 t280 1 t295 _ ?side1 ?side2 A110.out).mono ?_); (case side1 => repeat (first | exact (Kd.R_reads' HO_284000.out).2.2 | (with_reducible refine Kd.C_alloc ?_ _) | (with_reducible refine Kd.C_drewN ?_ _) | (with_reducible refine Kd.C_drew ?_))); (case side2 => rw [show t294.length = t277.length from (Kd.R_reads' HO_284000.out).1.symm]; exact (Kd.R_reads' HO_284000.out).2.1); rintro e w204 ⟨rfl, hb⟩; refine ⟨_, rfl, ?_⟩; have n0_ := Aside0.mk (Kd.R_below (by (with_reducible repeat (first | apply Kd.R_alloc | apply Kd.R_drewN | apply Kd.R_drew)); exact HO_272000.out) hb); have n1_ := Aside0.mk (Kd.R_below (by (with_reducible repeat (first | apply Kd.R_alloc | apply Kd.R_drewN | apply Kd.R_drew)); exact HO_277000.out) hb); have n2_ := Aside0.mk (Kd.R_below (by (with_reducible repeat (first | apply Kd.R_alloc | apply Kd.R_drewN | apply Kd.R_drew)); exact HO_284000.out) hb); have n3_ := Aside0.mk (blk_below (g := gb259) (o := .cells #[.slice A0_0 l0_0.length c0_0, .int .i64 a0_1] 43 (0, 0)) (by (with_reducible repeat (first | refine blk_drewN ?_ _ | refine blk_drew ?_ | refine blk_alloc ?_ _)); exact BK259.out) hb); have n4_ := Aside0.mk (blk_below (g := gb271) (o := .cells #[.slice Ao21 t265.length co21, .int .i64 t268] 33 (0, 0)) (by (with_reducible repeat (first | refine blk_drewN ?_ _ | refine blk_drew ?_ | refine blk_alloc ?_ _)); exact BK271.out) hb); have n5_ := Aside0.mk (blk_below (g := gb276) (o := .cells #[.slice Ao27 t291.length co27, .int .i64 t275] 33 (0, 0)) (by (with_reducible repeat (first | refine blk_drewN ?_ _ | refine blk_drew ?_ | refine blk_alloc ?_ _)); exact BK276.out) hb); have n6_ := Aside0.mk (blk_below (g := gb283) (o := .cells #[.slice Ao33 t277.length co33, .int .i64 t280] 33 (0, 0)) (by (with_reducible repeat (first | refine blk_drewN ?_ _ | refine blk_drew ?_ | refine blk_alloc ?_ _)); exact BK283.out) hb); have n7_ := Aside0.mk (below_step (by repeat (first | (with_reducible first | exact HB.out | apply below_alloc | apply pw_below_drewN | apply below_drew1 | refine below_set ?_ GE259.out | refine below_set ?_ GE271.out | refine below_set ?_ GE276.out | refine below_set ?_ GE283.out) | exact HB.out)) hb); clear HO_272000; clear HO_277000; clear HO_284000; clear BK259; clear BK271; clear BK276; clear BK283; clear HB; have HO_272000 := n0_; have HO_277000 := n1_; have HO_284000 := n2_; have BK259 := n3_; have BK271 := n4_; have BK276 := n5_; have BK283 := n6_; have HB := n7_; clear n0_ n1_ n2_ n3_ n4_ n5_ n6_ n7_; (try clear hb); (try clear hb2); (try clear hk); (try clear hi)))
                      go_ret
                      exact ⟨by first | rfl | (simp [errW_none, errW_some] <;> rfl) | (simp [*, errW_none, errW_some] <;> rfl), by repeat (first | (with_reducible first | exact HB.out | apply below_alloc | apply pw_below_drewN | apply below_drew1 | refine below_set ?_ GE259.out | refine below_set ?_ GE271.out | refine below_set ?_ GE276.out | refine below_set ?_ GE283.out) | exact HB.out)⟩
          · replace c68 := Bool.eq_false_iff.mpr c68
            subst c68
            have H1 : (some false) = some r := by rw [if_neg (show ¬ (false = true) by decide)] at H; exact H
            clear H
            have H := H1
            clear H1
            obtain rfl := Option.some.inj H
            try go_wp2
            have n0_ := Aside0.mk (Kd.R_drew HO_272000.out)
            have n1_ := Aside0.mk (Kd.R_drew HO_277000.out)
            have n2_ := Aside0.mk (Kd.R_drew HO_284000.out)
            have n3_ := Aside0.mk (blk_drew BK259.out)
            have n4_ := Aside0.mk (blk_drew BK271.out)
            have n5_ := Aside0.mk (blk_drew BK276.out)
            have n6_ := Aside0.mk (blk_drew BK283.out)
            have n7_ := Aside0.mk (below_drew1 HB.out)
            clear HO_272000
            clear HO_277000
            clear HO_284000
            clear BK259
            clear BK271
            clear BK276
            clear BK283
            clear HB
            have HO_272000 := n0_
            have HO_277000 := n1_
            have HO_284000 := n2_
            have BK259 := n3_
            have BK271 := n4_
            have BK276 := n5_
            have BK283 := n6_
            have HB := n7_
            clear n0_ n1_ n2_ n3_ n4_ n5_ n6_ n7_
            refine start_ (n := 5) (S := fun w' => w'.cell? ⟨gb276, 0, none⟩ = some (.slice Ao27 t272.length co27) ∧ w'.cell? ⟨gb276, 1, none⟩ = some (.int .i64 t275) ∧ w'.cell? ⟨gb259, 0, none⟩ = some (.slice A0_0 l0_0.length c0_0) ∧ w'.cell? ⟨gb259, 1, none⟩ = some (.int .i64 a0_1)) (ds := []) #[false, false, false, false, false] (by kernel_rfl) rfl rfl ⟨(blk_cell BK276.out 0).trans rfl, (blk_cell BK276.out 1).trans rfl, (blk_cell BK259.out 0).trans rfl, (blk_cell BK259.out 1).trans rfl⟩ (fun hHeld => ?_)
            generalize wc.drew = w205 at HO_272000 HO_277000 HO_284000 BK259 BK271 BK276 BK283 HB hHeld ⊢
            refine take_ (i := 0) (N := some 55) (v := ?_) (a' := ?_) #[true, false, false, false, false] rfl rfl (by kernel_rfl) (fun _ _ _ h => h) (Or.inl ⟨by rfl, ?_⟩) hHeld ?_ ?_
            rotate_left
            · rintro w' ⟨s0, s1, s2, s3⟩
              go_simp
              with_reducible rfl
            rotate_left
            · simp only [Act.put, List.setIfInBounds_toArray, List.set_cons_zero, List.set_cons_succ, i64_w, i32_w]
              rfl
            refine take_ (i := 1) (N := some 56) (v := ?_) (a' := ?_) #[true, true, false, false, false] rfl rfl (by kernel_rfl) (fun _ _ _ h => h) (Or.inl ⟨by rfl, ?_⟩) hHeld ?_ ?_
            rotate_left
            · rintro w' ⟨s0, s1, s2, s3⟩
              go_simp
              with_reducible rfl
            rotate_left
            · simp only [Act.put, List.setIfInBounds_toArray, List.set_cons_zero, List.set_cons_succ, i64_w, i32_w]
              rfl
            refine one_ (i := 2) (N := some 57) #[true, true, true, false, false] rfl rfl (by kernel_rfl) (by decide) (fun K hK => ?_)
            refine goes_ Try.func31 (by kernel_rfl) rfl #[.agg #[.slice A0_0 l0_0.length c0_0, .int .i64 a0_1]] (by rfl) rfl rfl (by (try simp only [List.map_toArray, List.map_cons, List.map_nil]); first | done | rfl | (simp only [List.length_drop, List.length_take]; rfl)) ?_
            with_reducible refine (laws_toPunchJob.calls kj11 _ _ l0_0 a0_1 t285 t288 _ ?side1 ?side2 A66.out).mono ?_
            (case side1 => repeat (first | exact (Kd.C_below HR0_0.out HB.out) | (with_reducible refine Kd.C_alloc ?_ _) | (with_reducible refine Kd.C_drewN ?_ _) | (with_reducible refine Kd.C_drew ?_)))
            (case side2 => exact HC0_0.out)
            rintro e w206 ⟨v286, rfl, ho0, hb⟩
            refine ⟨_, rfl, ?_⟩
            have n0_ := Aside0.mk (Kd.R_elder' (by (with_reducible repeat (first | apply Kd.R_alloc | apply Kd.R_drewN | apply Kd.R_drew)); exact HO_272000.out) (Kd.R_base ho0) hb)
            have n1_ := Aside0.mk (Kd.R_elder' (by (with_reducible repeat (first | apply Kd.R_alloc | apply Kd.R_drewN | apply Kd.R_drew)); exact HO_277000.out) (Kd.R_base ho0) hb)
            have n2_ := Aside0.mk (Kd.R_elder' (by (with_reducible repeat (first | apply Kd.R_alloc | apply Kd.R_drewN | apply Kd.R_drew)); exact HO_284000.out) (Kd.R_base ho0) hb)
            have n3_ := Aside0.mk (Kd.R_lower (Kd.R_new' (Kd.R_new' (Kd.R_new' ho0 (Kd.R_lt (by (with_reducible repeat (first | apply Kd.R_alloc | apply Kd.R_drewN | apply Kd.R_drew)); exact HO_272000.out))) (Kd.R_lt (by (with_reducible repeat (first | apply Kd.R_alloc | apply Kd.R_drewN | apply Kd.R_drew)); exact HO_277000.out))) (Kd.R_lt (by (with_reducible repeat (first | apply Kd.R_alloc | apply Kd.R_drewN | apply Kd.R_drew)); exact HO_284000.out))) (below_size (by repeat (first | (with_reducible first | exact HB.out | apply below_alloc | apply pw_below_drewN | apply below_drew1 | refine below_set ?_ GE259.out | refine below_set ?_ GE271.out | refine below_set ?_ GE276.out | refine below_set ?_ GE283.out) | exact HB.out))))
            have n4_ := Aside0.mk (blk_below (g := gb259) (o := .cells #[.slice A0_0 l0_0.length c0_0, .int .i64 a0_1] 43 (0, 0)) (by (with_reducible repeat (first | refine blk_drewN ?_ _ | refine blk_drew ?_ | refine blk_alloc ?_ _)); exact BK259.out) hb)
            have n5_ := Aside0.mk (blk_below (g := gb271) (o := .cells #[.slice Ao21 t265.length co21, .int .i64 t268] 33 (0, 0)) (by (with_reducible repeat (first | refine blk_drewN ?_ _ | refine blk_drew ?_ | refine blk_alloc ?_ _)); exact BK271.out) hb)
            have n6_ := Aside0.mk (blk_below (g := gb276) (o := .cells #[.slice Ao27 t272.length co27, .int .i64 t275] 33 (0, 0)) (by (with_reducible repeat (first | refine blk_drewN ?_ _ | refine blk_drew ?_ | refine blk_alloc ?_ _)); exact BK276.out) hb)
            have n7_ := Aside0.mk (blk_below (g := gb283) (o := .cells #[.slice Ao33 t277.length co33, .int .i64 t280] 33 (0, 0)) (by (with_reducible repeat (first | refine blk_drewN ?_ _ | refine blk_drew ?_ | refine blk_alloc ?_ _)); exact BK283.out) hb)
            have n8_ := Aside0.mk (below_step (by repeat (first | (with_reducible first | exact HB.out | apply below_alloc | apply pw_below_drewN | apply below_drew1 | refine below_set ?_ GE259.out | refine below_set ?_ GE271.out | refine below_set ?_ GE276.out | refine below_set ?_ GE283.out) | exact HB.out)) hb)
            clear HO_272000
            clear HO_277000
            clear HO_284000
            clear BK259
            clear BK271
            clear BK276
            clear BK283
            clear HB
            have HO_272000 := n0_
            have HO_277000 := n1_
            have HO_284000 := n2_
            have HO287 := n3_
            have BK259 := n4_
            have BK271 := n5_
            have BK276 := n6_
            have BK283 := n7_
            have HB := n8_
            clear n0_ n1_ n2_ n3_ n4_ n5_ n6_ n7_ n8_
            (try clear hb)
            (try clear hb2)
            (try clear hk)
            (try clear hi)
            (try clear ho0)
            obtain ⟨Ao207, co207, eo207⟩ := Kd.R_slice HO287.out
            (first | subst eo207 | (injection eo207 with f1_ f2_ f3_; have f4_ := f1_.symm; have f5_ := f3_.symm; clear f1_ f2_ f3_; subst f4_; subst f5_))
            refine hK.out _ _ ⟨(blk_cell BK276.out 0).trans rfl, (blk_cell BK276.out 1).trans rfl, (blk_cell BK259.out 0).trans rfl, (blk_cell BK259.out 1).trans rfl⟩ (fun hHeld => ?_)
            clear hK K
            refine norm_ (a' := ?_) ?_ ?_
            rotate_left
            · show Act.put _ (some 57) _ = _
              simp only [Act.put, List.setIfInBounds_toArray, List.set_cons_zero, List.set_cons_succ, i64_w, i32_w]
              rfl
            refine one_ (i := 3) (N := some 58) #[true, true, true, true, false] rfl rfl (by kernel_rfl) (by decide) (fun K hK => ?_)
            refine goes_ Try.func24 (by kernel_rfl) rfl #[.agg #[.slice Ao27 t272.length co27, .int .i64 t275], .agg #[.slice Ao207 t285.length co207, .int .i64 t288]] (by rfl) rfl rfl (by (try simp only [List.map_toArray, List.map_cons, List.map_nil]); first | done | rfl | (simp only [List.length_drop, List.length_take]; rfl)) ?_
            with_reducible refine (laws_eqPunchJob.calls kj11 _ _ t272 t275 _ _ t285 t288 false _ ?side1 ?side2 ?side3 ?side4 A67.out).mono ?_
            (case side1 => repeat (first | exact (Kd.R_reads' HO_277000.out).2.2 | (with_reducible refine Kd.C_alloc ?_ _) | (with_reducible refine Kd.C_drewN ?_ _) | (with_reducible refine Kd.C_drew ?_)))
            (case side2 => exact (Kd.R_reads' HO_277000.out).2.1)
            (case side3 => repeat (first | exact (Kd.R_reads' HO287.out).2.2 | (with_reducible refine Kd.C_alloc ?_ _) | (with_reducible refine Kd.C_drewN ?_ _) | (with_reducible refine Kd.C_drew ?_)))
            (case side4 => exact (Kd.R_reads' HO287.out).2.1)
            rintro e w208 ⟨rfl, hb⟩
            refine ⟨_, rfl, ?_⟩
            have n0_ := Aside0.mk (Kd.R_below (by (with_reducible repeat (first | apply Kd.R_alloc | apply Kd.R_drewN | apply Kd.R_drew)); exact HO_272000.out) hb)
            have n1_ := Aside0.mk (Kd.R_below (by (with_reducible repeat (first | apply Kd.R_alloc | apply Kd.R_drewN | apply Kd.R_drew)); exact HO_277000.out) hb)
            have n2_ := Aside0.mk (Kd.R_below (by (with_reducible repeat (first | apply Kd.R_alloc | apply Kd.R_drewN | apply Kd.R_drew)); exact HO_284000.out) hb)
            have n3_ := Aside0.mk (Kd.R_below (by (with_reducible repeat (first | apply Kd.R_alloc | apply Kd.R_drewN | apply Kd.R_drew)); exact HO287.out) hb)
            have n4_ := Aside0.mk (blk_below (g := gb259) (o := .cells #[.slice A0_0 l0_0.length c0_0, .int .i64 a0_1] 43 (0, 0)) (by (with_reducible repeat (first | refine blk_drewN ?_ _ | refine blk_drew ?_ | refine blk_alloc ?_ _)); exact BK259.out) hb)
            have n5_ := Aside0.mk (blk_below (g := gb271) (o := .cells #[.slice Ao21 t265.length co21, .int .i64 t268] 33 (0, 0)) (by (with_reducible repeat (first | refine blk_drewN ?_ _ | refine blk_drew ?_ | refine blk_alloc ?_ _)); exact BK271.out) hb)
            have n6_ := Aside0.mk (blk_below (g := gb276) (o := .cells #[.slice Ao27 t272.length co27, .int .i64 t275] 33 (0, 0)) (by (with_reducible repeat (first | refine blk_drewN ?_ _ | refine blk_drew ?_ | refine blk_alloc ?_ _)); exact BK276.out) hb)
            have n7_ := Aside0.mk (blk_below (g := gb283) (o := .cells #[.slice Ao33 t277.length co33, .int .i64 t280] 33 (0, 0)) (by (with_reducible repeat (first | refine blk_drewN ?_ _ | refine blk_drew ?_ | refine blk_alloc ?_ _)); exact BK283.out) hb)
            have n8_ := Aside0.mk (below_step (by repeat (first | (with_reducible first | exact HB.out | apply below_alloc | apply pw_below_drewN | apply below_drew1 | refine below_set ?_ GE259.out | refine below_set ?_ GE271.out | refine below_set ?_ GE276.out | refine below_set ?_ GE283.out) | exact HB.out)) hb)
            clear HO_272000
            clear HO_277000
            clear HO_284000
            clear HO287
            clear BK259
            clear BK271
            clear BK276
            clear BK283
            clear HB
            have HO_272000 := n0_
            have HO_277000 := n1_
            have HO_284000 := n2_
            have HO287 := n3_
            have BK259 := n4_
            have BK271 := n5_
            have BK276 := n6_
            have BK283 := n7_
            have HB := n8_
            clear n0_ n1_ n2_ n3_ n4_ n5_ n6_ n7_ n8_
            (try clear hb)
            (try clear hb2)
            (try clear hk)
            (try clear hi)
            refine hK.out _ _ ⟨(blk_cell BK276.out 0).trans rfl, (blk_cell BK276.out 1).trans rfl, (blk_cell BK259.out 0).trans rfl, (blk_cell BK259.out 1).trans rfl⟩ (fun hHeld => ?_)
            clear hK K
            refine norm_ (a' := ?_) ?_ ?_
            rotate_left
            · show Act.put _ (some 58) _ = _
              simp only [Act.put, List.setIfInBounds_toArray, List.set_cons_zero, List.set_cons_succ, i64_w, i32_w]
              rfl
            refine pure_ (i := 4) (N := some 59) (v := ?_) (a' := ?_) #[true, true, true, true, true] rfl rfl (by kernel_rfl) (fun _ _ _ h => h) (Or.inl ⟨by rfl, ?_⟩) ?_ ?_
            rotate_left
            · intro w'
              go_simp
              with_reducible rfl
            rotate_left
            · simp only [Act.put, List.setIfInBounds_toArray, List.set_cons_zero, List.set_cons_succ, i64_w, i32_w]
              rfl
            refine done_ (by kernel_rfl) ?_
            try go_wp2
            go_ret
            exact ⟨by first | rfl | (simp [errW_none, errW_some] <;> rfl) | (simp [*, errW_none, errW_some] <;> rfl), by repeat (first | (with_reducible first | exact HB.out | apply below_alloc | apply pw_below_drewN | apply below_drew1 | refine below_set ?_ GE259.out | refine below_set ?_ GE271.out | refine below_set ?_ GE276.out | refine below_set ?_ GE283.out) | exact HB.out)⟩

end Go.Proofs.Ytheecdeipmoihaa.PFnExactResumeAt
