-- written by a program of this session: the kit's print, with outer functions of the session's own (wip/ext)
import Derived.Test.YtheecdeipmoihaaPFnExactMakeStrokesx0
import Derived.Test.YtheecdeipmoihaaPFnExactMakeStrokesx1
import Derived.Test.YtheecdeipmoihaaPFnExactMakeStrokesx2
import Derived.Test.YtheecdeipmoihaaPFnExactMakeStrokesx4
import Derived.Test.YtheecdeipmoihaaPFnExactMakeStrokesx6
namespace Go.Proofs.Ytheecdeipmoihaa.PFnExactMakeStrokes
open Go.RowKit Go.Proofs.YtheecdeipmoihaaW.PrintWords Go.Proofs.YtheecdeipmoihaaW.PrintLast Go.Proofs.YtheecdeipmoihaaW.PrintMore
attribute [local go_sem] max2_int min2_int max_two min_two max_three min_three max_four min_four   -- for this text's walks alone
set_option linter.unusedVariables false
set_option linter.unusedSimpArgs false

/-! ### laws_FnExactMakeStrokes: function 6 -/
mutual
def laws_FnExactMakeStrokes.j0 : Nat → Int → Int → Bool → Int → Bool → Bool → List (S108) → Int → List (S106) → Int → List (S106) → Int → List (S106) → Int → Option (Bool)
  | 0, _, _, _, _, _, _, _, _, _, _, _, _, _, _ => none
  | k + 1, x1, x7, x8, x11, x12, x54, x257000, x257001, x269000, x269001, x274000, x274001, x281000, x281001 => if x54 = true then (some false) else ((laws_toPunchJob.f k x257000 x257001).bind fun bt282 => ((laws_eqPunchJob.f k x274000 x274001 bt282.1 bt282.2).bind fun t286 => (if t286 = true then ((laws_markPunchJob.f k x274000 x274001 1).bind fun bt287 => (if bt287.1 < 0 then (laws_FnExactMakeStrokes.j1 k x1 x7 x8 true x257000 x257001 x269000 x269001 x281000 x281001) else ((laws_eqPunchJob.f k x281000 x281001 x269000 x269001).bind fun t289 => (if t289 = true then (if x11 = x7 then (laws_FnExactMakeStrokes.j1 k x1 x7 x8 (x12 != x8) x257000 x257001 x269000 x269001 x281000 x281001) else (laws_FnExactMakeStrokes.j1 k x1 x7 x8 true x257000 x257001 x269000 x269001 x281000 x281001)) else (laws_FnExactMakeStrokes.j1 k x1 x7 x8 true x257000 x257001 x269000 x269001 x281000 x281001))))) else (some false))))
def laws_FnExactMakeStrokes.j1 : Nat → Int → Int → Bool → Bool → List (S108) → Int → List (S106) → Int → List (S106) → Int → Option (Bool)
  | 0, _, _, _, _, _, _, _, _, _, _ => none
  | k + 1, x1, x7, x8, x80, x257000, x257001, x269000, x269001, x281000, x281001 => if x80 = true then (some false) else ((laws_markPunchJob.f k x281000 x281001 1).bind fun bt290 => ((laws_heldPunchJob.f k bt290.2 x281001 1).bind fun t292 => (if t292 < 0 then (some false) else (if t292 = bt290.1 then ((laws_toPunchJob.f k x257000 x257001).bind fun bt293 => ((impl_MakeStrokes.f k bt293.1 bt293.2 x1).bind fun bt297 => ((laws_eqPunchJob.f k bt297.1 bt297.2.1 x269000 x269001).bind fun t304 => (if t304 = true then (if bt297.2.2.1 = x7 then (laws_FnExactMakeStrokes.j2 k bt290.1 (bt297.2.2.2 != x8) bt290.2 x281001) else (laws_FnExactMakeStrokes.j2 k bt290.1 true bt290.2 x281001)) else (laws_FnExactMakeStrokes.j2 k bt290.1 true bt290.2 x281001))))) else (some false)))))
def laws_FnExactMakeStrokes.j2 : Nat → Int → Bool → List (S106) → Int → Option (Bool)
  | 0, _, _, _, _ => none
  | k + 1, x14, x113, x281000, x281001 => if x113 = true then (some false) else ((laws_heldPunchJob.f k x281000 x281001 1).bind fun t305 => (if t305 < 0 then (some false) else (if t305 = x14 then (some true) else (some false))))
end
def laws_FnExactMakeStrokes.f (k : Nat) (l0_0 : List (S108)) (a0_1 : Int) (a1 : Int) : Option (Bool) := (laws_szPunchJob.f l0_0 a0_1 1048576).bind fun t257 => (if t257 < 0 then (some true) else ((laws_toPunchJob.f k l0_0 a0_1).bind fun bt258 => ((spec_MakeStrokes.f k bt258.1 bt258.2 a1).bind fun bt262 => ((laws_toPunchJob.f k l0_0 a0_1).bind fun bt269 => ((impl_MakeStrokes.f k bt269.1 bt269.2 a1).bind fun bt274 => ((laws_eqPunchJob.f k bt274.1 bt274.2.1 bt262.1 bt262.2.1).bind fun t281 => (if t281 = true then (if bt274.2.2.1 = bt262.2.2.1 then (laws_FnExactMakeStrokes.j0 k a1 bt262.2.2.1 bt262.2.2.2 bt274.2.2.1 bt274.2.2.2 (bt274.2.2.2 != bt262.2.2.2) l0_0 a0_1 bt262.1 bt262.2.1 bt269.1 bt269.2 bt274.1 bt274.2.1) else (laws_FnExactMakeStrokes.j0 k a1 bt262.2.2.1 bt262.2.2.2 bt274.2.2.1 bt274.2.2.2 true l0_0 a0_1 bt262.1 bt262.2.1 bt269.1 bt269.2 bt274.1 bt274.2.1)) else (laws_FnExactMakeStrokes.j0 k a1 bt262.2.2.1 bt262.2.2.2 bt274.2.2.1 bt274.2.2.2 true l0_0 a0_1 bt262.1 bt262.2.1 bt269.1 bt269.2 bt274.1 bt274.2.1))))))))
theorem laws_FnExactMakeStrokes.mono_l : ∀ k, (∀ y0 y1 y2 y3 y4 y5 y6 y7 y8 y9 y10 y11 y12 y13, LeO (laws_FnExactMakeStrokes.j0 k y0 y1 y2 y3 y4 y5 y6 y7 y8 y9 y10 y11 y12 y13) (laws_FnExactMakeStrokes.j0 (k + 1) y0 y1 y2 y3 y4 y5 y6 y7 y8 y9 y10 y11 y12 y13)) ∧ (∀ y0 y1 y2 y3 y4 y5 y6 y7 y8 y9, LeO (laws_FnExactMakeStrokes.j1 k y0 y1 y2 y3 y4 y5 y6 y7 y8 y9) (laws_FnExactMakeStrokes.j1 (k + 1) y0 y1 y2 y3 y4 y5 y6 y7 y8 y9)) ∧ (∀ y0 y1 y2 y3, LeO (laws_FnExactMakeStrokes.j2 k y0 y1 y2 y3) (laws_FnExactMakeStrokes.j2 (k + 1) y0 y1 y2 y3))
  | 0 => ⟨fun _ _ _ _ _ _ _ _ _ _ _ _ _ _ r h => by simp [laws_FnExactMakeStrokes.j0] at h, fun _ _ _ _ _ _ _ _ _ _ r h => by simp [laws_FnExactMakeStrokes.j1] at h, fun _ _ _ _ r h => by simp [laws_FnExactMakeStrokes.j2] at h⟩
  | k + 1 => by
    obtain ⟨ih0, ih1, ih2⟩ := laws_FnExactMakeStrokes.mono_l k
    refine ⟨?_, ?_, ?_⟩
    · intro y0 y1 y2 y3 y4 y5 y6 y7 y8 y9 y10 y11 y12 y13
      unfold laws_FnExactMakeStrokes.j0
      repeat' first
      | (with_reducible exact ih0 _ _ _ _ _ _ _ _ _ _ _ _ _ _)
      | (with_reducible exact ih1 _ _ _ _ _ _ _ _ _ _)
      | (with_reducible exact ih2 _ _ _ _)
      | (with_reducible exact impl_MakeStrokes.mono _ _ _ _)
      | (with_reducible exact laws_eqPunchJob.mono _ _ _ _ _)
      | (with_reducible exact laws_heldPunchJob.mono _ _ _ _)
      | (with_reducible exact laws_markPunchJob.mono _ _ _ _)
      | (with_reducible exact laws_toPunchJob.mono _ _ _)
      | (with_reducible exact spec_MakeStrokes.mono _ _ _ _)
      | (with_reducible exact LeO.refl _)
      | (with_reducible exact LeO.none _)
      | (with_reducible refine LeO.ite ?_ ?_)
      | (with_reducible refine LeO.bind ?_ (fun _ => ?_))
      | exact ih0 _ _ _ _ _ _ _ _ _ _ _ _ _ _
      | exact ih1 _ _ _ _ _ _ _ _ _ _
      | exact ih2 _ _ _ _
      | exact impl_MakeStrokes.mono _ _ _ _
      | exact laws_eqPunchJob.mono _ _ _ _ _
      | exact laws_heldPunchJob.mono _ _ _ _
      | exact laws_markPunchJob.mono _ _ _ _
      | exact laws_toPunchJob.mono _ _ _
      | exact spec_MakeStrokes.mono _ _ _ _
      | exact LeO.none _
      | refine LeO.ite ?_ ?_
      | refine LeO.bind ?_ (fun _ => ?_)
    · intro y0 y1 y2 y3 y4 y5 y6 y7 y8 y9
      unfold laws_FnExactMakeStrokes.j1
      repeat' first
      | (with_reducible exact ih0 _ _ _ _ _ _ _ _ _ _ _ _ _ _)
      | (with_reducible exact ih1 _ _ _ _ _ _ _ _ _ _)
      | (with_reducible exact ih2 _ _ _ _)
      | (with_reducible exact impl_MakeStrokes.mono _ _ _ _)
      | (with_reducible exact laws_eqPunchJob.mono _ _ _ _ _)
      | (with_reducible exact laws_heldPunchJob.mono _ _ _ _)
      | (with_reducible exact laws_markPunchJob.mono _ _ _ _)
      | (with_reducible exact laws_toPunchJob.mono _ _ _)
      | (with_reducible exact spec_MakeStrokes.mono _ _ _ _)
      | (with_reducible exact LeO.refl _)
      | (with_reducible exact LeO.none _)
      | (with_reducible refine LeO.ite ?_ ?_)
      | (with_reducible refine LeO.bind ?_ (fun _ => ?_))
      | exact ih0 _ _ _ _ _ _ _ _ _ _ _ _ _ _
      | exact ih1 _ _ _ _ _ _ _ _ _ _
      | exact ih2 _ _ _ _
      | exact impl_MakeStrokes.mono _ _ _ _
      | exact laws_eqPunchJob.mono _ _ _ _ _
      | exact laws_heldPunchJob.mono _ _ _ _
      | exact laws_markPunchJob.mono _ _ _ _
      | exact laws_toPunchJob.mono _ _ _
      | exact spec_MakeStrokes.mono _ _ _ _
      | exact LeO.none _
      | refine LeO.ite ?_ ?_
      | refine LeO.bind ?_ (fun _ => ?_)
    · intro y0 y1 y2 y3
      unfold laws_FnExactMakeStrokes.j2
      repeat' first
      | (with_reducible exact ih0 _ _ _ _ _ _ _ _ _ _ _ _ _ _)
      | (with_reducible exact ih1 _ _ _ _ _ _ _ _ _ _)
      | (with_reducible exact ih2 _ _ _ _)
      | (with_reducible exact impl_MakeStrokes.mono _ _ _ _)
      | (with_reducible exact laws_eqPunchJob.mono _ _ _ _ _)
      | (with_reducible exact laws_heldPunchJob.mono _ _ _ _)
      | (with_reducible exact laws_markPunchJob.mono _ _ _ _)
      | (with_reducible exact laws_toPunchJob.mono _ _ _)
      | (with_reducible exact spec_MakeStrokes.mono _ _ _ _)
      | (with_reducible exact LeO.refl _)
      | (with_reducible exact LeO.none _)
      | (with_reducible refine LeO.ite ?_ ?_)
      | (with_reducible refine LeO.bind ?_ (fun _ => ?_))
      | exact ih0 _ _ _ _ _ _ _ _ _ _ _ _ _ _
      | exact ih1 _ _ _ _ _ _ _ _ _ _
      | exact ih2 _ _ _ _
      | exact impl_MakeStrokes.mono _ _ _ _
      | exact laws_eqPunchJob.mono _ _ _ _ _
      | exact laws_heldPunchJob.mono _ _ _ _
      | exact laws_markPunchJob.mono _ _ _ _
      | exact laws_toPunchJob.mono _ _ _
      | exact spec_MakeStrokes.mono _ _ _ _
      | exact LeO.none _
      | refine LeO.ite ?_ ?_
      | refine LeO.bind ?_ (fun _ => ?_)
theorem laws_FnExactMakeStrokes.mono : ∀ a0 a1 a2 k, LeO (laws_FnExactMakeStrokes.f k a0 a1 a2) (laws_FnExactMakeStrokes.f (k + 1) a0 a1 a2) := by
  intro a0 a1 a2 k
  obtain ⟨ih0, ih1, ih2⟩ := laws_FnExactMakeStrokes.mono_l k
  unfold laws_FnExactMakeStrokes.f
  repeat' first
      | (with_reducible exact ih0 _ _ _ _ _ _ _ _ _ _ _ _ _ _)
      | (with_reducible exact ih1 _ _ _ _ _ _ _ _ _ _)
      | (with_reducible exact ih2 _ _ _ _)
      | (with_reducible exact impl_MakeStrokes.mono _ _ _ _)
      | (with_reducible exact laws_eqPunchJob.mono _ _ _ _ _)
      | (with_reducible exact laws_heldPunchJob.mono _ _ _ _)
      | (with_reducible exact laws_markPunchJob.mono _ _ _ _)
      | (with_reducible exact laws_toPunchJob.mono _ _ _)
      | (with_reducible exact spec_MakeStrokes.mono _ _ _ _)
      | (with_reducible exact LeO.refl _)
      | (with_reducible exact LeO.none _)
      | (with_reducible refine LeO.ite ?_ ?_)
      | (with_reducible refine LeO.bind ?_ (fun _ => ?_))
      | exact ih0 _ _ _ _ _ _ _ _ _ _ _ _ _ _
      | exact ih1 _ _ _ _ _ _ _ _ _ _
      | exact ih2 _ _ _ _
      | exact impl_MakeStrokes.mono _ _ _ _
      | exact laws_eqPunchJob.mono _ _ _ _ _
      | exact laws_heldPunchJob.mono _ _ _ _
      | exact laws_markPunchJob.mono _ _ _ _
      | exact laws_toPunchJob.mono _ _ _
      | exact spec_MakeStrokes.mono _ _ _ _
      | exact LeO.none _
      | refine LeO.ite ?_ ?_
      | refine LeO.bind ?_ (fun _ => ?_)
set_option maxHeartbeats 8000000 in
set_option maxRecDepth 100000 in
theorem laws_FnExactMakeStrokes.calls (k : Nat) (A0_0 : Option Addr) (c0_0 : Nat) (l0_0 : List (S108)) (a0_1 : Int) (a1 : Int) (r : Bool) (w : World) (hr0_0 : Kd.C k108 w A0_0 l0_0.length l0_0) (hc0_0 : l0_0.length ≤ c0_0) (h : laws_FnExactMakeStrokes.f k l0_0 a0_1 a1 = some r) :
    Calls Try.prog 6 #[.agg #[.slice A0_0 l0_0.length c0_0, .int .i64 a0_1], .int .i64 a1] w fun e w' => e = .returned (.bool r) ∧ Below w.heap.size w w' := by
  have hu43 := Try.underlying43
  have hu33 := Try.underlying33
  have HR0_0 := Aside0.mk hr0_0
  have HC0_0 := Aside0.mk hc0_0
  clear hr0_0 hc0_0
  have HB := Aside0.mk (Below.refl w.heap.size w)
  have H : ((laws_szPunchJob.f l0_0 a0_1 1048576).bind fun t257 => (if t257 < 0 then (some true) else ((laws_toPunchJob.f k l0_0 a0_1).bind fun bt258 => ((spec_MakeStrokes.f k bt258.1 bt258.2 a1).bind fun bt262 => ((laws_toPunchJob.f k l0_0 a0_1).bind fun bt269 => ((impl_MakeStrokes.f k bt269.1 bt269.2 a1).bind fun bt274 => ((laws_eqPunchJob.f k bt274.1 bt274.2.1 bt262.1 bt262.2.1).bind fun t281 => (if t281 = true then (if bt274.2.2.1 = bt262.2.2.1 then (laws_FnExactMakeStrokes.j0 k a1 bt262.2.2.1 bt262.2.2.2 bt274.2.2.1 bt274.2.2.2 (bt274.2.2.2 != bt262.2.2.2) l0_0 a0_1 bt262.1 bt262.2.1 bt269.1 bt269.2 bt274.1 bt274.2.1) else (laws_FnExactMakeStrokes.j0 k a1 bt262.2.2.1 bt262.2.2.2 bt274.2.2.1 bt274.2.2.2 true l0_0 a0_1 bt262.1 bt262.2.1 bt269.1 bt269.2 bt274.1 bt274.2.1)) else (laws_FnExactMakeStrokes.j0 k a1 bt262.2.2.1 bt262.2.2.2 bt274.2.2.1 bt274.2.2.2 true l0_0 a0_1 bt262.1 bt262.2.1 bt269.1 bt269.2 bt274.1 bt274.2.1))))))))) = some r := h
  clear h
  replace H := Option.bind_eq_some_iff.mp H
  obtain ⟨t257, A30, H⟩ := H
  replace H : (if t257 < 0 then (some true) else ((laws_toPunchJob.f k l0_0 a0_1).bind fun bt258 => ((spec_MakeStrokes.f k bt258.1 bt258.2 a1).bind fun bt262 => ((laws_toPunchJob.f k l0_0 a0_1).bind fun bt269 => ((impl_MakeStrokes.f k bt269.1 bt269.2 a1).bind fun bt274 => ((laws_eqPunchJob.f k bt274.1 bt274.2.1 bt262.1 bt262.2.1).bind fun t281 => (if t281 = true then (if bt274.2.2.1 = bt262.2.2.1 then (laws_FnExactMakeStrokes.j0 k a1 bt262.2.2.1 bt262.2.2.2 bt274.2.2.1 bt274.2.2.2 (bt274.2.2.2 != bt262.2.2.2) l0_0 a0_1 bt262.1 bt262.2.1 bt269.1 bt269.2 bt274.1 bt274.2.1) else (laws_FnExactMakeStrokes.j0 k a1 bt262.2.2.1 bt262.2.2.2 bt274.2.2.1 bt274.2.2.2 true l0_0 a0_1 bt262.1 bt262.2.1 bt269.1 bt269.2 bt274.1 bt274.2.1)) else (laws_FnExactMakeStrokes.j0 k a1 bt262.2.2.1 bt262.2.2.2 bt274.2.2.1 bt274.2.2.2 true l0_0 a0_1 bt262.1 bt262.2.1 bt269.1 bt269.2 bt274.1 bt274.2.1)))))))) = some r := H
  have A3 := Aside0.mk A30
  clear A30
  by_cases c4 : t257 < 0
  · rw [if_pos c4] at H
    have c4b0 : decide (t257 < 0) = true := decide_eq_true c4
    clear c4
    obtain rfl := Option.some.inj H
    go_enter Try.func6, Try.ntmps6
    go_wp2_with (first | ((with_reducible refine gate_dst (N := 2) rfl ?_); refine box_event ?hg (N := 2) ?hd (cs := #[.slice A0_0 l0_0.length c0_0, .int .i64 a0_1]) (t := 43) ?hr ?_; (case hd => rfl); (case hg => rfl); (case hr => first | (go_simp; done) | (go_simp; rfl)); intro gb256 hg w5 hbox hb; have n0_ := Aside0.mk (below_step (by repeat (first | (with_reducible first | exact HB.out | apply below_alloc | apply pw_below_drewN | apply below_drew1) | exact HB.out)) hb); have n1_ := Aside0.mk (hbox); have n2_ := Aside0.mk ((by rw [hg]; exact (below_size (by repeat (first | (with_reducible first | exact HB.out | apply below_alloc | apply pw_below_drewN | apply below_drew1) | exact HB.out))) : w.heap.size ≤ gb256)); have n3_ := Aside0.mk ((by rw [hg]; exact (below_size (by repeat (first | (with_reducible first | exact HB.out | apply below_alloc | apply pw_below_drewN | apply below_drew1) | exact HB.out))) : w.heap.size ≤ gb256)); clear HB; have HB := n0_; have BK256 := n1_; have GW256 := n2_; have GE256 := n3_; clear n0_ n1_ n2_ n3_; clear hb hbox hg; have hcz6_0 : w5.cell? ⟨gb256, 0, none⟩ = some (.slice A0_0 l0_0.length c0_0) := (blk_cell BK256.out 0).trans rfl; have hcz6_1 : w5.cell? ⟨gb256, 1, none⟩ = some (.int .i64 a0_1) := (blk_cell BK256.out 1).trans rfl; have hfz6_0 := blk_frozen BK256.out 0; have hfz6_1 := blk_frozen BK256.out 1) | ((with_reducible refine gate_callee (f := 29) rfl ?_); refine goesL_ (some 21) rfl rfl Try.func29 (by kernel_rfl) rfl #[.agg #[.slice A0_0 l0_0.length c0_0, .int .i64 a0_1], .int .i64 1048576] rfl (by (try simp only [List.map_toArray, List.map_cons, List.map_nil]); first | done | rfl | (simp only [List.length_drop, List.length_take]; rfl)) ?_; (with_reducible refine (laws_szPunchJob.calls _ _ l0_0 a0_1 1048576 t257 _ ?side1 ?side2 A3.out).mono ?_); (case side1 => repeat (first | exact (Kd.C_below HR0_0.out HB.out) | (with_reducible refine Kd.C_alloc ?_ _) | (with_reducible refine Kd.C_drewN ?_ _) | (with_reducible refine Kd.C_drew ?_))); (case side2 => exact HC0_0.out); rintro e w7 ⟨rfl, hb⟩; refine ⟨_, rfl, ?_⟩; have n0_ := Aside0.mk (blk_below (g := gb256) (o := .cells #[.slice A0_0 l0_0.length c0_0, .int .i64 a0_1] 43 (0, 0)) (by (with_reducible repeat (first | refine blk_drewN ?_ _ | refine blk_drew ?_ | refine blk_alloc ?_ _)); exact BK256.out) hb); have n1_ := Aside0.mk (below_step (by repeat (first | (with_reducible first | exact HB.out | apply below_alloc | apply pw_below_drewN | apply below_drew1 | refine below_set ?_ GE256.out) | exact HB.out)) hb); clear BK256; clear HB; have BK256 := n0_; have HB := n1_; clear n0_ n1_; (try clear hb); (try clear hb2); (try clear hk); (try clear hi)))
    go_ret
    exact ⟨by first | rfl | (simp [errW_none, errW_some] <;> rfl) | (simp [*, errW_none, errW_some] <;> rfl), by repeat (first | (with_reducible first | exact HB.out | apply below_alloc | apply pw_below_drewN | apply below_drew1 | refine below_set ?_ GE256.out) | exact HB.out)⟩
  · rw [if_neg c4] at H
    have c4b0 : decide (t257 < 0) = false := decide_eq_false c4
    clear c4
    replace H := Option.bind_eq_some_iff.mp H
    obtain ⟨⟨t258, t261⟩, A80, H⟩ := H
    replace H : ((spec_MakeStrokes.f k t258 t261 a1).bind fun bt262 => ((laws_toPunchJob.f k l0_0 a0_1).bind fun bt269 => ((impl_MakeStrokes.f k bt269.1 bt269.2 a1).bind fun bt274 => ((laws_eqPunchJob.f k bt274.1 bt274.2.1 bt262.1 bt262.2.1).bind fun t281 => (if t281 = true then (if bt274.2.2.1 = bt262.2.2.1 then (laws_FnExactMakeStrokes.j0 k a1 bt262.2.2.1 bt262.2.2.2 bt274.2.2.1 bt274.2.2.2 (bt274.2.2.2 != bt262.2.2.2) l0_0 a0_1 bt262.1 bt262.2.1 bt269.1 bt269.2 bt274.1 bt274.2.1) else (laws_FnExactMakeStrokes.j0 k a1 bt262.2.2.1 bt262.2.2.2 bt274.2.2.1 bt274.2.2.2 true l0_0 a0_1 bt262.1 bt262.2.1 bt269.1 bt269.2 bt274.1 bt274.2.1)) else (laws_FnExactMakeStrokes.j0 k a1 bt262.2.2.1 bt262.2.2.2 bt274.2.2.1 bt274.2.2.2 true l0_0 a0_1 bt262.1 bt262.2.1 bt269.1 bt269.2 bt274.1 bt274.2.1)))))) = some r := H
    have A8 := Aside0.mk A80
    clear A80
    replace H := Option.bind_eq_some_iff.mp H
    obtain ⟨⟨t262, t265, t266, t267⟩, A90, H⟩ := H
    replace H : ((laws_toPunchJob.f k l0_0 a0_1).bind fun bt269 => ((impl_MakeStrokes.f k bt269.1 bt269.2 a1).bind fun bt274 => ((laws_eqPunchJob.f k bt274.1 bt274.2.1 t262 t265).bind fun t281 => (if t281 = true then (if bt274.2.2.1 = t266 then (laws_FnExactMakeStrokes.j0 k a1 t266 t267 bt274.2.2.1 bt274.2.2.2 (bt274.2.2.2 != t267) l0_0 a0_1 t262 t265 bt269.1 bt269.2 bt274.1 bt274.2.1) else (laws_FnExactMakeStrokes.j0 k a1 t266 t267 bt274.2.2.1 bt274.2.2.2 true l0_0 a0_1 t262 t265 bt269.1 bt269.2 bt274.1 bt274.2.1)) else (laws_FnExactMakeStrokes.j0 k a1 t266 t267 bt274.2.2.1 bt274.2.2.2 true l0_0 a0_1 t262 t265 bt269.1 bt269.2 bt274.1 bt274.2.1))))) = some r := H
    have A9 := Aside0.mk A90
    clear A90
    replace H := Option.bind_eq_some_iff.mp H
    obtain ⟨⟨t269, t272⟩, A100, H⟩ := H
    replace H : ((impl_MakeStrokes.f k t269 t272 a1).bind fun bt274 => ((laws_eqPunchJob.f k bt274.1 bt274.2.1 t262 t265).bind fun t281 => (if t281 = true then (if bt274.2.2.1 = t266 then (laws_FnExactMakeStrokes.j0 k a1 t266 t267 bt274.2.2.1 bt274.2.2.2 (bt274.2.2.2 != t267) l0_0 a0_1 t262 t265 t269 t272 bt274.1 bt274.2.1) else (laws_FnExactMakeStrokes.j0 k a1 t266 t267 bt274.2.2.1 bt274.2.2.2 true l0_0 a0_1 t262 t265 t269 t272 bt274.1 bt274.2.1)) else (laws_FnExactMakeStrokes.j0 k a1 t266 t267 bt274.2.2.1 bt274.2.2.2 true l0_0 a0_1 t262 t265 t269 t272 bt274.1 bt274.2.1)))) = some r := H
    have A10 := Aside0.mk A100
    clear A100
    replace H := Option.bind_eq_some_iff.mp H
    obtain ⟨⟨t274, t277, t278, t279⟩, A110, H⟩ := H
    replace H : ((laws_eqPunchJob.f k t274 t277 t262 t265).bind fun t281 => (if t281 = true then (if t278 = t266 then (laws_FnExactMakeStrokes.j0 k a1 t266 t267 t278 t279 (t279 != t267) l0_0 a0_1 t262 t265 t269 t272 t274 t277) else (laws_FnExactMakeStrokes.j0 k a1 t266 t267 t278 t279 true l0_0 a0_1 t262 t265 t269 t272 t274 t277)) else (laws_FnExactMakeStrokes.j0 k a1 t266 t267 t278 t279 true l0_0 a0_1 t262 t265 t269 t272 t274 t277))) = some r := H
    have A11 := Aside0.mk A110
    clear A110
    have HC12 := Aside0.mk H
    clear H
    go_enter Try.func6, Try.ntmps6
    go_upto_region 8 with (first | ((with_reducible refine gate_dst (N := 2) rfl ?_); refine box_event ?hg (N := 2) ?hd (cs := #[.slice A0_0 l0_0.length c0_0, .int .i64 a0_1]) (t := 43) ?hr ?_; (case hd => rfl); (case hg => rfl); (case hr => first | (go_simp; done) | (go_simp; rfl)); intro gb256 hg w13 hbox hb; have n0_ := Aside0.mk (below_step (by repeat (first | (with_reducible first | exact HB.out | apply below_alloc | apply pw_below_drewN | apply below_drew1) | exact HB.out)) hb); have n1_ := Aside0.mk (hbox); have n2_ := Aside0.mk ((by rw [hg]; exact (below_size (by repeat (first | (with_reducible first | exact HB.out | apply below_alloc | apply pw_below_drewN | apply below_drew1) | exact HB.out))) : w.heap.size ≤ gb256)); have n3_ := Aside0.mk ((by rw [hg]; exact (below_size (by repeat (first | (with_reducible first | exact HB.out | apply below_alloc | apply pw_below_drewN | apply below_drew1) | exact HB.out))) : w.heap.size ≤ gb256)); clear HB; have HB := n0_; have BK256 := n1_; have GW256 := n2_; have GE256 := n3_; clear n0_ n1_ n2_ n3_; clear hb hbox hg; have hcz14_0 : w13.cell? ⟨gb256, 0, none⟩ = some (.slice A0_0 l0_0.length c0_0) := (blk_cell BK256.out 0).trans rfl; have hcz14_1 : w13.cell? ⟨gb256, 1, none⟩ = some (.int .i64 a0_1) := (blk_cell BK256.out 1).trans rfl; have hfz14_0 := blk_frozen BK256.out 0; have hfz14_1 := blk_frozen BK256.out 1) | ((with_reducible refine gate_callee (f := 29) rfl ?_); refine goesL_ (some 21) rfl rfl Try.func29 (by kernel_rfl) rfl #[.agg #[.slice A0_0 l0_0.length c0_0, .int .i64 a0_1], .int .i64 1048576] rfl (by (try simp only [List.map_toArray, List.map_cons, List.map_nil]); first | done | rfl | (simp only [List.length_drop, List.length_take]; rfl)) ?_; (with_reducible refine (laws_szPunchJob.calls _ _ l0_0 a0_1 1048576 t257 _ ?side1 ?side2 A3.out).mono ?_); (case side1 => repeat (first | exact (Kd.C_below HR0_0.out HB.out) | (with_reducible refine Kd.C_alloc ?_ _) | (with_reducible refine Kd.C_drewN ?_ _) | (with_reducible refine Kd.C_drew ?_))); (case side2 => exact HC0_0.out); rintro e w15 ⟨rfl, hb⟩; refine ⟨_, rfl, ?_⟩; have n0_ := Aside0.mk (blk_below (g := gb256) (o := .cells #[.slice A0_0 l0_0.length c0_0, .int .i64 a0_1] 43 (0, 0)) (by (with_reducible repeat (first | refine blk_drewN ?_ _ | refine blk_drew ?_ | refine blk_alloc ?_ _)); exact BK256.out) hb); have n1_ := Aside0.mk (below_step (by repeat (first | (with_reducible first | exact HB.out | apply below_alloc | apply pw_below_drewN | apply below_drew1 | refine below_set ?_ GE256.out) | exact HB.out)) hb); clear BK256; clear HB; have BK256 := n0_; have HB := n1_; clear n0_ n1_; (try clear hb); (try clear hb2); (try clear hk); (try clear hi); have hcz16_0 : w15.cell? ⟨gb256, 0, none⟩ = some (.slice A0_0 l0_0.length c0_0) := (blk_cell BK256.out 0).trans rfl; have hcz16_1 : w15.cell? ⟨gb256, 1, none⟩ = some (.int .i64 a0_1) := (blk_cell BK256.out 1).trans rfl; have hfz16_0 := blk_frozen BK256.out 0; have hfz16_1 := blk_frozen BK256.out 1) | ((with_reducible refine gate_callee (f := 31) rfl ?_); refine goesL_ (some 26) rfl rfl Try.func31 (by kernel_rfl) rfl #[.agg #[.slice A0_0 l0_0.length c0_0, .int .i64 a0_1]] rfl (by (try simp only [List.map_toArray, List.map_cons, List.map_nil]); first | done | rfl | (simp only [List.length_drop, List.length_take]; rfl)) ?_; (with_reducible refine (laws_toPunchJob.calls k _ _ l0_0 a0_1 t258 t261 _ ?side1 ?side2 A8.out).mono ?_); (case side1 => repeat (first | exact (Kd.C_below HR0_0.out HB.out) | (with_reducible refine Kd.C_alloc ?_ _) | (with_reducible refine Kd.C_drewN ?_ _) | (with_reducible refine Kd.C_drew ?_))); (case side2 => exact HC0_0.out); rintro e w17 ⟨v259, rfl, ho0, hb⟩; refine ⟨_, rfl, ?_⟩; have n0_ := Aside0.mk (Kd.R_lower ho0 (below_size (by repeat (first | (with_reducible first | exact HB.out | apply below_alloc | apply pw_below_drewN | apply below_drew1 | refine below_set ?_ GE256.out) | exact HB.out)))); have n1_ := Aside0.mk (blk_below (g := gb256) (o := .cells #[.slice A0_0 l0_0.length c0_0, .int .i64 a0_1] 43 (0, 0)) (by (with_reducible repeat (first | refine blk_drewN ?_ _ | refine blk_drew ?_ | refine blk_alloc ?_ _)); exact BK256.out) hb); have n2_ := Aside0.mk (below_step (by repeat (first | (with_reducible first | exact HB.out | apply below_alloc | apply pw_below_drewN | apply below_drew1 | refine below_set ?_ GE256.out) | exact HB.out)) hb); clear BK256; clear HB; have HO260 := n0_; have BK256 := n1_; have HB := n2_; clear n0_ n1_ n2_; (try clear hb); (try clear hb2); (try clear hk); (try clear hi); (try clear ho0); obtain ⟨Ao18, co18, eo18⟩ := Kd.R_slice HO260.out; subst eo18) | ((with_reducible refine gate_callee (f := 33) rfl ?_); refine goesL_ (some 28) rfl rfl Try.func33 (by kernel_rfl) rfl #[.agg #[.slice Ao18 t258.length co18, .int .i64 t261], .int .i64 a1] rfl (by (try simp only [List.map_toArray, List.map_cons, List.map_nil]); first | done | rfl | (simp only [List.length_drop, List.length_take]; rfl)) ?_; (with_reducible refine (spec_MakeStrokes.calls k _ _ t258 t261 a1 t262 t265 t266 t267 _ ?side1 ?side2 A9.out).mono ?_); (case side1 => repeat (first | exact (Kd.R_reads' HO260.out).2.2 | (with_reducible refine Kd.C_alloc ?_ _) | (with_reducible refine Kd.C_drewN ?_ _) | (with_reducible refine Kd.C_drew ?_))); (case side2 => exact (Kd.R_reads' HO260.out).2.1); rintro e w19 ⟨v263, rfl, ho0, hb⟩; refine ⟨_, rfl, ?_⟩; have n0_ := Aside0.mk (Kd.R_elder' (by (with_reducible repeat (first | apply Kd.R_alloc | apply Kd.R_drewN | apply Kd.R_drew)); exact HO260.out) (Kd.R_base ho0) hb); have n1_ := Aside0.mk (Kd.R_lower (Kd.R_new' ho0 (Kd.R_lt (by (with_reducible repeat (first | apply Kd.R_alloc | apply Kd.R_drewN | apply Kd.R_drew)); exact HO260.out))) (below_size (by repeat (first | (with_reducible first | exact HB.out | apply below_alloc | apply pw_below_drewN | apply below_drew1 | refine below_set ?_ GE256.out) | exact HB.out)))); have n2_ := Aside0.mk (blk_below (g := gb256) (o := .cells #[.slice A0_0 l0_0.length c0_0, .int .i64 a0_1] 43 (0, 0)) (by (with_reducible repeat (first | refine blk_drewN ?_ _ | refine blk_drew ?_ | refine blk_alloc ?_ _)); exact BK256.out) hb); have n3_ := Aside0.mk (below_step (by repeat (first | (with_reducible first | exact HB.out | apply below_alloc | apply pw_below_drewN | apply below_drew1 | refine below_set ?_ GE256.out) | exact HB.out)) hb); clear HO260; clear BK256; clear HB; have HO260 := n0_; have HO264 := n1_; have BK256 := n2_; have HB := n3_; clear n0_ n1_ n2_ n3_; (try clear hb); (try clear hb2); (try clear hk); (try clear hi); (try clear ho0)) | ((with_reducible refine gate_dst (N := 6) rfl ?_); refine box_event ?hg (N := 6) ?hd (cs := #[.slice none 0 0, .int .i64 0]) (t := 33) ?hr ?_; (case hd => rfl); (case hg => rfl); (case hr => first | (go_simp; done) | (go_simp; rfl)); intro gb268 hg w20 hbox hb; have n0_ := Aside0.mk (Kd.R_below (by (with_reducible repeat (first | apply Kd.R_alloc | apply Kd.R_drewN | apply Kd.R_drew)); exact HO260.out) hb); have n1_ := Aside0.mk (Kd.R_below (by (with_reducible repeat (first | apply Kd.R_alloc | apply Kd.R_drewN | apply Kd.R_drew)); exact HO264.out) hb); have n2_ := Aside0.mk (blk_below (g := gb256) (o := .cells #[.slice A0_0 l0_0.length c0_0, .int .i64 a0_1] 43 (0, 0)) (by (with_reducible repeat (first | refine blk_drewN ?_ _ | refine blk_drew ?_ | refine blk_alloc ?_ _)); exact BK256.out) hb); have n3_ := Aside0.mk (below_step (by repeat (first | (with_reducible first | exact HB.out | apply below_alloc | apply pw_below_drewN | apply below_drew1 | refine below_set ?_ GE256.out) | exact HB.out)) hb); have n4_ := Aside0.mk (hbox); have n5_ := Aside0.mk ((by rw [hg]; exact (below_size (by repeat (first | (with_reducible first | exact HB.out | apply below_alloc | apply pw_below_drewN | apply below_drew1 | refine below_set ?_ GE256.out) | exact HB.out))) : w.heap.size ≤ gb268)); have n6_ := Aside0.mk ((by rw [hg]; exact (below_size (by repeat (first | (with_reducible first | exact HB.out | apply below_alloc | apply pw_below_drewN | apply below_drew1 | refine below_set ?_ GE256.out) | exact HB.out))) : w.heap.size ≤ gb268)); have n7_ := Aside0.mk ((by rw [hg]; exact Nat.ne_of_lt (blk_lt (g := gb256) (o := .cells #[.slice A0_0 l0_0.length c0_0, .int .i64 a0_1] 43 (0, 0)) (by (with_reducible repeat (first | refine blk_drewN ?_ _ | refine blk_drew ?_ | refine blk_alloc ?_ _)); exact BK256.out)) : gb256 ≠ gb268)); have n8_ := Aside0.mk ((by rw [hg]; exact Nat.ne_of_gt (blk_lt (g := gb256) (o := .cells #[.slice A0_0 l0_0.length c0_0, .int .i64 a0_1] 43 (0, 0)) (by (with_reducible repeat (first | refine blk_drewN ?_ _ | refine blk_drew ?_ | refine blk_alloc ?_ _)); exact BK256.out)) : gb268 ≠ gb256)); clear HO260; clear HO264; clear BK256; clear HB; have HO260 := n0_; have HO264 := n1_; have BK256 := n2_; have HB := n3_; have BK268 := n4_; have GW268 := n5_; have GE268 := n6_; have NB256_268 := n7_; have NB268_256 := n8_; clear n0_ n1_ n2_ n3_ n4_ n5_ n6_ n7_ n8_; clear hb hbox hg; obtain ⟨Ao21, co21, eo21⟩ := Kd.R_slice HO264.out; subst eo21; have hnb22 := NB268_256.out; have hnc22 := NB256_268.out; have hcz23_0 : w20.cell? ⟨gb268, 0, none⟩ = some (.slice none 0 0) := (blk_cell BK268.out 0).trans rfl; have hcz23_1 : w20.cell? ⟨gb268, 1, none⟩ = some (.int .i64 0) := (blk_cell BK268.out 1).trans rfl; have hfz23_0 := blk_frozen BK268.out 0; have hfz23_1 := blk_frozen BK268.out 1; have hcz24_0 : w20.cell? ⟨gb256, 0, none⟩ = some (.slice A0_0 l0_0.length c0_0) := (blk_cell BK256.out 0).trans rfl; have hcz24_1 : w20.cell? ⟨gb256, 1, none⟩ = some (.int .i64 a0_1) := (blk_cell BK256.out 1).trans rfl; have hfz24_0 := blk_frozen BK256.out 0; have hfz24_1 := blk_frozen BK256.out 1) | ((with_reducible refine gate_callee (f := 31) rfl ?_); refine goesL_ (some 33) rfl rfl Try.func31 (by kernel_rfl) rfl #[.agg #[.slice A0_0 l0_0.length c0_0, .int .i64 a0_1]] rfl (by (try simp only [List.map_toArray, List.map_cons, List.map_nil]); first | done | rfl | (simp only [List.length_drop, List.length_take]; rfl)) ?_; (with_reducible refine (laws_toPunchJob.calls k _ _ l0_0 a0_1 t269 t272 _ ?side1 ?side2 A10.out).mono ?_); (case side1 => exact Kd.C_below HR0_0.out (by repeat (first | (with_reducible first | exact HB.out | apply below_alloc | apply pw_below_drewN | apply below_drew1 | refine below_set ?_ GE256.out | refine below_set ?_ GE268.out) | exact HB.out))); (case side2 => exact HC0_0.out); rintro e w25 ⟨v270, rfl, ho0, hb⟩; refine ⟨_, rfl, ?_⟩; have n0_ := Aside0.mk (Kd.R_elder' (by (with_reducible repeat (first | apply Kd.R_alloc | apply Kd.R_drewN | apply Kd.R_drew)); exact (Kd.R_mono (Kd.R_far (p := ⟨gb268, 1, none⟩) (Kd.R_far (p := ⟨gb268, 0, none⟩) (Kd.R_types HO260.out BK268.out (by decide)) (fun _ hk => hk.2) (.slice Ao21 t262.length co21)) (fun _ hk => hk.2) (.int .i64 t265)) (fun _ h_ => h_.1))) (Kd.R_base ho0) hb); have n1_ := Aside0.mk (Kd.R_elder' (by (with_reducible repeat (first | apply Kd.R_alloc | apply Kd.R_drewN | apply Kd.R_drew)); exact (Kd.R_mono (Kd.R_far (p := ⟨gb268, 1, none⟩) (Kd.R_far (p := ⟨gb268, 0, none⟩) (Kd.R_types HO264.out BK268.out (by decide)) (fun _ hk => hk.2) (.slice Ao21 t262.length co21)) (fun _ hk => hk.2) (.int .i64 t265)) (fun _ h_ => h_.1))) (Kd.R_base ho0) hb); have n2_ := Aside0.mk (Kd.R_lower (Kd.R_new' (Kd.R_new' ho0 (Kd.R_lt (by (with_reducible repeat (first | apply Kd.R_alloc | apply Kd.R_drewN | apply Kd.R_drew)); exact (Kd.R_mono (Kd.R_far (p := ⟨gb268, 1, none⟩) (Kd.R_far (p := ⟨gb268, 0, none⟩) (Kd.R_types HO260.out BK268.out (by decide)) (fun _ hk => hk.2) (.slice Ao21 t262.length co21)) (fun _ hk => hk.2) (.int .i64 t265)) (fun _ h_ => h_.1))))) (Kd.R_lt (by (with_reducible repeat (first | apply Kd.R_alloc | apply Kd.R_drewN | apply Kd.R_drew)); exact (Kd.R_mono (Kd.R_far (p := ⟨gb268, 1, none⟩) (Kd.R_far (p := ⟨gb268, 0, none⟩) (Kd.R_types HO264.out BK268.out (by decide)) (fun _ hk => hk.2) (.slice Ao21 t262.length co21)) (fun _ hk => hk.2) (.int .i64 t265)) (fun _ h_ => h_.1))))) (below_size (by repeat (first | (with_reducible first | exact HB.out | apply below_alloc | apply pw_below_drewN | apply below_drew1 | refine below_set ?_ GE256.out | refine below_set ?_ GE268.out) | exact HB.out)))); have n3_ := Aside0.mk (blk_below (g := gb256) (o := .cells #[.slice A0_0 l0_0.length c0_0, .int .i64 a0_1] 43 (0, 0)) (by (with_reducible repeat (first | refine blk_drewN ?_ _ | refine blk_drew ?_ | refine blk_alloc ?_ _)); refine blk_far ?_ NB256_268.out _; (with_reducible repeat (first | refine blk_drewN ?_ _ | refine blk_drew ?_ | refine blk_alloc ?_ _)); refine blk_far ?_ NB256_268.out _; (with_reducible repeat (first | refine blk_drewN ?_ _ | refine blk_drew ?_ | refine blk_alloc ?_ _)); exact BK256.out) hb); have n4_ := Aside0.mk (blk_below (g := gb268) (o := .cells #[.slice Ao21 t262.length co21, .int .i64 t265] 33 (0, 0)) (by (with_reducible repeat (first | refine blk_drewN ?_ _ | refine blk_drew ?_ | refine blk_alloc ?_ _)); refine blk_put (cs := #[.slice Ao21 t262.length co21, .int .i64 0]) ?_ 1 _ rfl; (with_reducible repeat (first | refine blk_drewN ?_ _ | refine blk_drew ?_ | refine blk_alloc ?_ _)); refine blk_put (cs := #[.slice none 0 0, .int .i64 0]) ?_ 0 _ rfl; (with_reducible repeat (first | refine blk_drewN ?_ _ | refine blk_drew ?_ | refine blk_alloc ?_ _)); exact BK268.out) hb); have n5_ := Aside0.mk (below_step (by repeat (first | (with_reducible first | exact HB.out | apply below_alloc | apply pw_below_drewN | apply below_drew1 | refine below_set ?_ GE256.out | refine below_set ?_ GE268.out) | exact HB.out)) hb); clear HO260; clear HO264; clear BK256; clear BK268; clear HB; have HO260 := n0_; have HO264 := n1_; have HO271 := n2_; have BK256 := n3_; have BK268 := n4_; have HB := n5_; clear n0_ n1_ n2_ n3_ n4_ n5_; (try clear hb); (try clear hb2); (try clear hk); (try clear hi); (try clear ho0)) | ((with_reducible refine gate_dst (N := 9) rfl ?_); refine box_event ?hg (N := 9) ?hd (cs := #[.slice none 0 0, .int .i64 0]) (t := 33) ?hr ?_; (case hd => rfl); (case hg => rfl); (case hr => first | (go_simp; done) | (go_simp; rfl)); intro gb273 hg w26 hbox hb; have n0_ := Aside0.mk (Kd.R_below (by (with_reducible repeat (first | apply Kd.R_alloc | apply Kd.R_drewN | apply Kd.R_drew)); exact HO260.out) hb); have n1_ := Aside0.mk (Kd.R_below (by (with_reducible repeat (first | apply Kd.R_alloc | apply Kd.R_drewN | apply Kd.R_drew)); exact HO264.out) hb); have n2_ := Aside0.mk (Kd.R_below (by (with_reducible repeat (first | apply Kd.R_alloc | apply Kd.R_drewN | apply Kd.R_drew)); exact HO271.out) hb); have n3_ := Aside0.mk (blk_below (g := gb256) (o := .cells #[.slice A0_0 l0_0.length c0_0, .int .i64 a0_1] 43 (0, 0)) (by (with_reducible repeat (first | refine blk_drewN ?_ _ | refine blk_drew ?_ | refine blk_alloc ?_ _)); exact BK256.out) hb); have n4_ := Aside0.mk (blk_below (g := gb268) (o := .cells #[.slice Ao21 t262.length co21, .int .i64 t265] 33 (0, 0)) (by (with_reducible repeat (first | refine blk_drewN ?_ _ | refine blk_drew ?_ | refine blk_alloc ?_ _)); exact BK268.out) hb); have n5_ := Aside0.mk (below_step (by repeat (first | (with_reducible first | exact HB.out | apply below_alloc | apply pw_below_drewN | apply below_drew1 | refine below_set ?_ GE256.out | refine below_set ?_ GE268.out) | exact HB.out)) hb); have n6_ := Aside0.mk (hbox); have n7_ := Aside0.mk ((by rw [hg]; exact (below_size (by repeat (first | (with_reducible first | exact HB.out | apply below_alloc | apply pw_below_drewN | apply below_drew1 | refine below_set ?_ GE256.out | refine below_set ?_ GE268.out) | exact HB.out))) : w.heap.size ≤ gb273)); have n8_ := Aside0.mk ((by rw [hg]; exact (below_size (by repeat (first | (with_reducible first | exact HB.out | apply below_alloc | apply pw_below_drewN | apply below_drew1 | refine below_set ?_ GE256.out | refine below_set ?_ GE268.out) | exact HB.out))) : w.heap.size ≤ gb273)); have n9_ := Aside0.mk ((by rw [hg]; exact Nat.ne_of_lt (blk_lt (g := gb256) (o := .cells #[.slice A0_0 l0_0.length c0_0, .int .i64 a0_1] 43 (0, 0)) (by (with_reducible repeat (first | refine blk_drewN ?_ _ | refine blk_drew ?_ | refine blk_alloc ?_ _)); exact BK256.out)) : gb256 ≠ gb273)); have n10_ := Aside0.mk ((by rw [hg]; exact Nat.ne_of_gt (blk_lt (g := gb256) (o := .cells #[.slice A0_0 l0_0.length c0_0, .int .i64 a0_1] 43 (0, 0)) (by (with_reducible repeat (first | refine blk_drewN ?_ _ | refine blk_drew ?_ | refine blk_alloc ?_ _)); exact BK256.out)) : gb273 ≠ gb256)); have n11_ := Aside0.mk ((by rw [hg]; exact Nat.ne_of_lt (blk_lt (g := gb268) (o := .cells #[.slice Ao21 t262.length co21, .int .i64 t265] 33 (0, 0)) (by (with_reducible repeat (first | refine blk_drewN ?_ _ | refine blk_drew ?_ | refine blk_alloc ?_ _)); exact BK268.out)) : gb268 ≠ gb273)); have n12_ := Aside0.mk ((by rw [hg]; exact Nat.ne_of_gt (blk_lt (g := gb268) (o := .cells #[.slice Ao21 t262.length co21, .int .i64 t265] 33 (0, 0)) (by (with_reducible repeat (first | refine blk_drewN ?_ _ | refine blk_drew ?_ | refine blk_alloc ?_ _)); exact BK268.out)) : gb273 ≠ gb268)); clear HO260; clear HO264; clear HO271; clear BK256; clear BK268; clear HB; have HO260 := n0_; have HO264 := n1_; have HO271 := n2_; have BK256 := n3_; have BK268 := n4_; have HB := n5_; have BK273 := n6_; have GW273 := n7_; have GE273 := n8_; have NB256_273 := n9_; have NB273_256 := n10_; have NB268_273 := n11_; have NB273_268 := n12_; clear n0_ n1_ n2_ n3_ n4_ n5_ n6_ n7_ n8_ n9_ n10_ n11_ n12_; clear hb hbox hg; obtain ⟨Ao27, co27, eo27⟩ := Kd.R_slice HO271.out; subst eo27; have hnb28 := NB273_256.out; have hnc28 := NB256_273.out; have hnb29 := NB273_268.out; have hnc29 := NB268_273.out; have hcz30_0 : w26.cell? ⟨gb273, 0, none⟩ = some (.slice none 0 0) := (blk_cell BK273.out 0).trans rfl; have hcz30_1 : w26.cell? ⟨gb273, 1, none⟩ = some (.int .i64 0) := (blk_cell BK273.out 1).trans rfl; have hfz30_0 := blk_frozen BK273.out 0; have hfz30_1 := blk_frozen BK273.out 1) | ((with_reducible refine gate_callee (f := 34) rfl ?_); refine goesL_ (some 37) rfl rfl Try.func34 (by kernel_rfl) rfl #[.agg #[.slice Ao27 t269.length co27, .int .i64 t272], .int .i64 a1] rfl (by (try simp only [List.map_toArray, List.map_cons, List.map_nil]); first | done | rfl | (simp only [List.length_drop, List.length_take]; rfl)) ?_; (with_reducible refine (impl_MakeStrokes.calls k _ _ t269 t272 a1 t274 t277 t278 t279 _ ?side1 ?side2 A11.out).mono ?_); (case side1 => refine (Kd.R_reads' (e := 106) (base := w.heap.size) (ok := fun k_ => ((True ∧ some k_ ≠ (.slice Ao18 t258.length co18 : Value).ownBlock) ∧ some k_ ≠ (.slice Ao21 t262.length co21 : Value).ownBlock)) (n := t269.length) (c := co27) ?_).2.2; exact (by (with_reducible repeat (first | apply Kd.R_alloc | apply Kd.R_drewN | apply Kd.R_drew)); exact (Kd.R_mono (Kd.R_far (p := ⟨gb273, 1, none⟩) (Kd.R_far (p := ⟨gb273, 0, none⟩) (Kd.R_types HO271.out BK273.out (by decide)) (fun _ hk => hk.2) (.slice Ao27 t269.length co27)) (fun _ hk => hk.2) (.int .i64 t272)) (fun _ h_ => h_.1)))); (case side2 => exact (Kd.R_reads' HO271.out).2.1); rintro e w31 ⟨v275, rfl, ho0, hb⟩; refine ⟨_, rfl, ?_⟩; have n0_ := Aside0.mk (Kd.R_elder' (by (with_reducible repeat (first | apply Kd.R_alloc | apply Kd.R_drewN | apply Kd.R_drew)); exact (Kd.R_mono (Kd.R_far (p := ⟨gb273, 1, none⟩) (Kd.R_far (p := ⟨gb273, 0, none⟩) (Kd.R_types HO260.out BK273.out (by decide)) (fun _ hk => hk.2) (.slice Ao27 t269.length co27)) (fun _ hk => hk.2) (.int .i64 t272)) (fun _ h_ => h_.1))) (Kd.R_base ho0) hb); have n1_ := Aside0.mk (Kd.R_elder' (by (with_reducible repeat (first | apply Kd.R_alloc | apply Kd.R_drewN | apply Kd.R_drew)); exact (Kd.R_mono (Kd.R_far (p := ⟨gb273, 1, none⟩) (Kd.R_far (p := ⟨gb273, 0, none⟩) (Kd.R_types HO264.out BK273.out (by decide)) (fun _ hk => hk.2) (.slice Ao27 t269.length co27)) (fun _ hk => hk.2) (.int .i64 t272)) (fun _ h_ => h_.1))) (Kd.R_base ho0) hb); have n2_ := Aside0.mk (Kd.R_elder' (by (with_reducible repeat (first | apply Kd.R_alloc | apply Kd.R_drewN | apply Kd.R_drew)); exact (Kd.R_mono (Kd.R_far (p := ⟨gb273, 1, none⟩) (Kd.R_far (p := ⟨gb273, 0, none⟩) (Kd.R_types HO271.out BK273.out (by decide)) (fun _ hk => hk.2) (.slice Ao27 t269.length co27)) (fun _ hk => hk.2) (.int .i64 t272)) (fun _ h_ => h_.1))) (Kd.R_base ho0) hb); have n3_ := Aside0.mk (Kd.R_lower (Kd.R_new' (Kd.R_new' (Kd.R_new' ho0 (Kd.R_lt (by (with_reducible repeat (first | apply Kd.R_alloc | apply Kd.R_drewN | apply Kd.R_drew)); exact (Kd.R_mono (Kd.R_far (p := ⟨gb273, 1, none⟩) (Kd.R_far (p := ⟨gb273, 0, none⟩) (Kd.R_types HO260.out BK273.out (by decide)) (fun _ hk => hk.2) (.slice Ao27 t269.length co27)) (fun _ hk => hk.2) (.int .i64 t272)) (fun _ h_ => h_.1))))) (Kd.R_lt (by (with_reducible repeat (first | apply Kd.R_alloc | apply Kd.R_drewN | apply Kd.R_drew)); exact (Kd.R_mono (Kd.R_far (p := ⟨gb273, 1, none⟩) (Kd.R_far (p := ⟨gb273, 0, none⟩) (Kd.R_types HO264.out BK273.out (by decide)) (fun _ hk => hk.2) (.slice Ao27 t269.length co27)) (fun _ hk => hk.2) (.int .i64 t272)) (fun _ h_ => h_.1))))) (Kd.R_lt (by (with_reducible repeat (first | apply Kd.R_alloc | apply Kd.R_drewN | apply Kd.R_drew)); exact (Kd.R_mono (Kd.R_far (p := ⟨gb273, 1, none⟩) (Kd.R_far (p := ⟨gb273, 0, none⟩) (Kd.R_types HO271.out BK273.out (by decide)) (fun _ hk => hk.2) (.slice Ao27 t269.length co27)) (fun _ hk => hk.2) (.int .i64 t272)) (fun _ h_ => h_.1))))) (below_size (by repeat (first | (with_reducible first | exact HB.out | apply below_alloc | apply pw_below_drewN | apply below_drew1 | refine below_set ?_ GE256.out | refine below_set ?_ GE268.out | refine below_set ?_ GE273.out) | exact HB.out)))); have n4_ := Aside0.mk (blk_below (g := gb256) (o := .cells #[.slice A0_0 l0_0.length c0_0, .int .i64 a0_1] 43 (0, 0)) (by (with_reducible repeat (first | refine blk_drewN ?_ _ | refine blk_drew ?_ | refine blk_alloc ?_ _)); refine blk_far ?_ NB256_273.out _; (with_reducible repeat (first | refine blk_drewN ?_ _ | refine blk_drew ?_ | refine blk_alloc ?_ _)); refine blk_far ?_ NB256_273.out _; (with_reducible repeat (first | refine blk_drewN ?_ _ | refine blk_drew ?_ | refine blk_alloc ?_ _)); exact BK256.out) hb); have n5_ := Aside0.mk (blk_below (g := gb268) (o := .cells #[.slice Ao21 t262.length co21, .int .i64 t265] 33 (0, 0)) (by (with_reducible repeat (first | refine blk_drewN ?_ _ | refine blk_drew ?_ | refine blk_alloc ?_ _)); refine blk_far ?_ NB268_273.out _; (with_reducible repeat (first | refine blk_drewN ?_ _ | refine blk_drew ?_ | refine blk_alloc ?_ _)); refine blk_far ?_ NB268_273.out _; (with_reducible repeat (first | refine blk_drewN ?_ _ | refine blk_drew ?_ | refine blk_alloc ?_ _)); exact BK268.out) hb); have n6_ := Aside0.mk (blk_below (g := gb273) (o := .cells #[.slice Ao27 t269.length co27, .int .i64 t272] 33 (0, 0)) (by (with_reducible repeat (first | refine blk_drewN ?_ _ | refine blk_drew ?_ | refine blk_alloc ?_ _)); refine blk_put (cs := #[.slice Ao27 t269.length co27, .int .i64 0]) ?_ 1 _ rfl; (with_reducible repeat (first | refine blk_drewN ?_ _ | refine blk_drew ?_ | refine blk_alloc ?_ _)); refine blk_put (cs := #[.slice none 0 0, .int .i64 0]) ?_ 0 _ rfl; (with_reducible repeat (first | refine blk_drewN ?_ _ | refine blk_drew ?_ | refine blk_alloc ?_ _)); exact BK273.out) hb); have n7_ := Aside0.mk (below_step (by repeat (first | (with_reducible first | exact HB.out | apply below_alloc | apply pw_below_drewN | apply below_drew1 | refine below_set ?_ GE256.out | refine below_set ?_ GE268.out | refine below_set ?_ GE273.out) | exact HB.out)) hb); clear HO260; clear HO264; clear HO271; clear BK256; clear BK268; clear BK273; clear HB; have HO260 := n0_; have HO264 := n1_; have HO271 := n2_; have HO276 := n3_; have BK256 := n4_; have BK268 := n5_; have BK273 := n6_; have HB := n7_; clear n0_ n1_ n2_ n3_ n4_ n5_ n6_ n7_; (try clear hb); (try clear hb2); (try clear hk); (try clear hi); (try clear ho0)) | ((with_reducible refine gate_dst (N := 10) rfl ?_); refine box_event ?hg (N := 10) ?hd (cs := #[.slice none 0 0, .int .i64 0]) (t := 33) ?hr ?_; (case hd => rfl); (case hg => rfl); (case hr => first | (go_simp; done) | (go_simp; rfl)); intro gb280 hg w32 hbox hb; have n0_ := Aside0.mk (Kd.R_below (by (with_reducible repeat (first | apply Kd.R_alloc | apply Kd.R_drewN | apply Kd.R_drew)); exact HO260.out) hb); have n1_ := Aside0.mk (Kd.R_below (by (with_reducible repeat (first | apply Kd.R_alloc | apply Kd.R_drewN | apply Kd.R_drew)); exact HO264.out) hb); have n2_ := Aside0.mk (Kd.R_below (by (with_reducible repeat (first | apply Kd.R_alloc | apply Kd.R_drewN | apply Kd.R_drew)); exact HO271.out) hb); have n3_ := Aside0.mk (Kd.R_below (by (with_reducible repeat (first | apply Kd.R_alloc | apply Kd.R_drewN | apply Kd.R_drew)); exact HO276.out) hb); have n4_ := Aside0.mk (blk_below (g := gb256) (o := .cells #[.slice A0_0 l0_0.length c0_0, .int .i64 a0_1] 43 (0, 0)) (by (with_reducible repeat (first | refine blk_drewN ?_ _ | refine blk_drew ?_ | refine blk_alloc ?_ _)); exact BK256.out) hb); have n5_ := Aside0.mk (blk_below (g := gb268) (o := .cells #[.slice Ao21 t262.length co21, .int .i64 t265] 33 (0, 0)) (by (with_reducible repeat (first | refine blk_drewN ?_ _ | refine blk_drew ?_ | refine blk_alloc ?_ _)); exact BK268.out) hb); have n6_ := Aside0.mk (blk_below (g := gb273) (o := .cells #[.slice Ao27 t269.length co27, .int .i64 t272] 33 (0, 0)) (by (with_reducible repeat (first | refine blk_drewN ?_ _ | refine blk_drew ?_ | refine blk_alloc ?_ _)); exact BK273.out) hb); have n7_ := Aside0.mk (below_step (by repeat (first | (with_reducible first | exact HB.out | apply below_alloc | apply pw_below_drewN | apply below_drew1 | refine below_set ?_ GE256.out | refine below_set ?_ GE268.out | refine below_set ?_ GE273.out) | exact HB.out)) hb); have n8_ := Aside0.mk (hbox); have n9_ := Aside0.mk ((by rw [hg]; exact (below_size (by repeat (first | (with_reducible first | exact HB.out | apply below_alloc | apply pw_below_drewN | apply below_drew1 | refine below_set ?_ GE256.out | refine below_set ?_ GE268.out | refine below_set ?_ GE273.out) | exact HB.out))) : w.heap.size ≤ gb280)); have n10_ := Aside0.mk ((by rw [hg]; exact (below_size (by repeat (first | (with_reducible first | exact HB.out | apply below_alloc | apply pw_below_drewN | apply below_drew1 | refine below_set ?_ GE256.out | refine below_set ?_ GE268.out | refine below_set ?_ GE273.out) | exact HB.out))) : w.heap.size ≤ gb280)); have n11_ := Aside0.mk ((by rw [hg]; exact Nat.ne_of_lt (blk_lt (g := gb256) (o := .cells #[.slice A0_0 l0_0.length c0_0, .int .i64 a0_1] 43 (0, 0)) (by (with_reducible repeat (first | refine blk_drewN ?_ _ | refine blk_drew ?_ | refine blk_alloc ?_ _)); exact BK256.out)) : gb256 ≠ gb280)); have n12_ := Aside0.mk ((by rw [hg]; exact Nat.ne_of_gt (blk_lt (g := gb256) (o := .cells #[.slice A0_0 l0_0.length c0_0, .int .i64 a0_1] 43 (0, 0)) (by (with_reducible repeat (first | refine blk_drewN ?_ _ | refine blk_drew ?_ | refine blk_alloc ?_ _)); exact BK256.out)) : gb280 ≠ gb256)); have n13_ := Aside0.mk ((by rw [hg]; exact Nat.ne_of_lt (blk_lt (g := gb268) (o := .cells #[.slice Ao21 t262.length co21, .int .i64 t265] 33 (0, 0)) (by (with_reducible repeat (first | refine blk_drewN ?_ _ | refine blk_drew ?_ | refine blk_alloc ?_ _)); exact BK268.out)) : gb268 ≠ gb280)); have n14_ := Aside0.mk ((by rw [hg]; exact Nat.ne_of_gt (blk_lt (g := gb268) (o := .cells #[.slice Ao21 t262.length co21, .int .i64 t265] 33 (0, 0)) (by (with_reducible repeat (first | refine blk_drewN ?_ _ | refine blk_drew ?_ | refine blk_alloc ?_ _)); exact BK268.out)) : gb280 ≠ gb268)); have n15_ := Aside0.mk ((by rw [hg]; exact Nat.ne_of_lt (blk_lt (g := gb273) (o := .cells #[.slice Ao27 t269.length co27, .int .i64 t272] 33 (0, 0)) (by (with_reducible repeat (first | refine blk_drewN ?_ _ | refine blk_drew ?_ | refine blk_alloc ?_ _)); exact BK273.out)) : gb273 ≠ gb280)); have n16_ := Aside0.mk ((by rw [hg]; exact Nat.ne_of_gt (blk_lt (g := gb273) (o := .cells #[.slice Ao27 t269.length co27, .int .i64 t272] 33 (0, 0)) (by (with_reducible repeat (first | refine blk_drewN ?_ _ | refine blk_drew ?_ | refine blk_alloc ?_ _)); exact BK273.out)) : gb280 ≠ gb273)); clear HO260; clear HO264; clear HO271; clear HO276; clear BK256; clear BK268; clear BK273; clear HB; have HO260 := n0_; have HO264 := n1_; have HO271 := n2_; have HO276 := n3_; have BK256 := n4_; have BK268 := n5_; have BK273 := n6_; have HB := n7_; have BK280 := n8_; have GW280 := n9_; have GE280 := n10_; have NB256_280 := n11_; have NB280_256 := n12_; have NB268_280 := n13_; have NB280_268 := n14_; have NB273_280 := n15_; have NB280_273 := n16_; clear n0_ n1_ n2_ n3_ n4_ n5_ n6_ n7_ n8_ n9_ n10_ n11_ n12_ n13_ n14_ n15_ n16_; clear hb hbox hg; obtain ⟨Ao33, co33, eo33⟩ := Kd.R_slice HO276.out; subst eo33; have hnb34 := NB280_256.out; have hnc34 := NB256_280.out; have hnb35 := NB280_268.out; have hnc35 := NB268_280.out; have hnb36 := NB280_273.out; have hnc36 := NB273_280.out; have hcz37_0 : w32.cell? ⟨gb280, 0, none⟩ = some (.slice none 0 0) := (blk_cell BK280.out 0).trans rfl; have hcz37_1 : w32.cell? ⟨gb280, 1, none⟩ = some (.int .i64 0) := (blk_cell BK280.out 1).trans rfl; have hfz37_0 := blk_frozen BK280.out 0; have hfz37_1 := blk_frozen BK280.out 1))
    (try simp only [Act.put, List.setIfInBounds_toArray, List.set_cons_zero, List.set_cons_succ])
    go_cut [54] (fun v54 wc => ∃ (kq : Nat) (x54_11 : Bool), v54 = .bool x54_11 ∧ Aside0 (laws_FnExactMakeStrokes.j0 kq a1 t266 t267 t278 t279 x54_11 l0_0 a0_1 t262 t265 t269 t272 t274 t277 = some r) ∧ Aside0 (kq ≤ k) ∧ Aside0 (Kd.R k106 106 wc w.heap.size (fun k_ => some k_ ≠ ((.slice Ao27 t269.length co27) : Value).ownBlock ∧ some k_ ≠ ((.slice Ao33 t274.length co33) : Value).ownBlock) (.slice Ao21 t262.length co21) t262) ∧ Aside0 (Kd.R k106 106 wc w.heap.size (fun k_ => some k_ ≠ ((.slice Ao21 t262.length co21) : Value).ownBlock ∧ some k_ ≠ ((.slice Ao33 t274.length co33) : Value).ownBlock) (.slice Ao27 t269.length co27) t269) ∧ Aside0 (Kd.R k106 106 wc w.heap.size (fun k_ => some k_ ≠ ((.slice Ao21 t262.length co21) : Value).ownBlock ∧ some k_ ≠ ((.slice Ao27 t269.length co27) : Value).ownBlock) (.slice Ao33 t274.length co33) t274) ∧ Aside0 (wc.heap[gb256]? = some (.cells #[(.slice A0_0 l0_0.length c0_0), .int .i64 a0_1] 43 (0, 0))) ∧ Aside0 (wc.heap[gb268]? = some (.cells #[(.slice Ao21 t262.length co21), .int .i64 t265] 33 (0, 0))) ∧ Aside0 (wc.heap[gb273]? = some (.cells #[(.slice Ao27 t269.length co27), .int .i64 t272] 33 (0, 0))) ∧ Aside0 (wc.heap[gb280]? = some (.cells #[(.slice Ao33 t274.length co33), .int .i64 t277] 33 (0, 0))) ∧ Aside0 (Below w.heap.size w wc))
    case first =>
      have H := HC12.out
      clear HC12
      replace H := Option.bind_eq_some_iff.mp H
      obtain ⟨t281, A380, H⟩ := H
      replace H : (if t281 = true then (if t278 = t266 then (laws_FnExactMakeStrokes.j0 k a1 t266 t267 t278 t279 (t279 != t267) l0_0 a0_1 t262 t265 t269 t272 t274 t277) else (laws_FnExactMakeStrokes.j0 k a1 t266 t267 t278 t279 true l0_0 a0_1 t262 t265 t269 t272 t274 t277)) else (laws_FnExactMakeStrokes.j0 k a1 t266 t267 t278 t279 true l0_0 a0_1 t262 t265 t269 t272 t274 t277)) = some r := H
      have A38 := Aside0.mk A380
      clear A380
      by_cases c39 : t281 = true
      · subst c39
        have H1 : (if t278 = t266 then (laws_FnExactMakeStrokes.j0 k a1 t266 t267 t278 t279 (t279 != t267) l0_0 a0_1 t262 t265 t269 t272 t274 t277) else (laws_FnExactMakeStrokes.j0 k a1 t266 t267 t278 t279 true l0_0 a0_1 t262 t265 t269 t272 t274 t277)) = some r := by rw [if_pos rfl] at H; exact H
        clear H
        have H := H1
        clear H1
        by_cases c40 : t278 = t266
        · rw [if_pos c40] at H
          have c40b0 : (t278 == t266) = true := beq_iff_eq.mpr c40
          have c40b1 : (t278 != t266) = false := bne_eq_false_iff_eq.mpr c40
          clear c40
          (first | rw [c40b0] | (simp only [i64_w, i32_w]; rw [c40b0]) | skip)
          have H' := Aside0.mk H
          clear H
          have hnb41 := NB280_256.out
          have hnc41 := NB256_280.out
          have hnb42 := NB280_268.out
          have hnc42 := NB268_280.out
          have hnb43 := NB280_273.out
          have hnc43 := NB273_280.out
          have hcz44_0 : w32.cell? ⟨gb280, 0, none⟩ = some (.slice none 0 0) := (blk_cell BK280.out 0).trans rfl
          have hcz44_1 : w32.cell? ⟨gb280, 1, none⟩ = some (.int .i64 0) := (blk_cell BK280.out 1).trans rfl
          have hfz44_0 := blk_frozen BK280.out 0
          have hfz44_1 := blk_frozen BK280.out 1
          have hnb45 := NB268_256.out
          have hnc45 := NB256_268.out
          have hnb46 := NB268_273.out
          have hnc46 := NB273_268.out
          have hcz47_0 : w32.cell? ⟨gb268, 0, none⟩ = some (.slice Ao21 t262.length co21) := (blk_cell BK268.out 0).trans rfl
          have hcz47_1 : w32.cell? ⟨gb268, 1, none⟩ = some (.int .i64 t265) := (blk_cell BK268.out 1).trans rfl
          have hfz47_0 := blk_frozen BK268.out 0
          have hfz47_1 := blk_frozen BK268.out 1
          go_wp2_with (first | ((with_reducible refine gate_callee (f := 24) rfl ?_); refine goesL_ (some 43) rfl rfl Try.func24 (by kernel_rfl) rfl #[.agg #[.slice Ao33 t274.length co33, .int .i64 t277], .agg #[.slice Ao21 t262.length co21, .int .i64 t265]] rfl (by (try simp only [List.map_toArray, List.map_cons, List.map_nil]); first | done | rfl | (simp only [List.length_drop, List.length_take]; rfl)) ?_; (with_reducible refine (laws_eqPunchJob.calls k _ _ t274 t277 _ _ t262 t265 true _ ?side1 ?side2 ?side3 ?side4 A38.out).mono ?_); (case side1 => refine (Kd.R_reads' (e := 106) (base := w.heap.size) (ok := fun k_ => (((True ∧ some k_ ≠ (.slice Ao18 t258.length co18 : Value).ownBlock) ∧ some k_ ≠ (.slice Ao21 t262.length co21 : Value).ownBlock) ∧ some k_ ≠ (.slice Ao27 t269.length co27 : Value).ownBlock)) (n := t274.length) (c := co33) ?_).2.2; exact (by (with_reducible repeat (first | apply Kd.R_alloc | apply Kd.R_drewN | apply Kd.R_drew)); exact (Kd.R_mono (Kd.R_far (p := ⟨gb280, 1, none⟩) (Kd.R_far (p := ⟨gb280, 0, none⟩) (Kd.R_types HO276.out BK280.out (by decide)) (fun _ hk => hk.2) (.slice Ao33 t274.length co33)) (fun _ hk => hk.2) (.int .i64 t277)) (fun _ h_ => h_.1)))); (case side2 => exact (Kd.R_reads' HO276.out).2.1); (case side3 => refine (Kd.R_reads' (e := 106) (base := w.heap.size) (ok := fun k_ => (((True ∧ some k_ ≠ (.slice Ao18 t258.length co18 : Value).ownBlock) ∧ some k_ ≠ (.slice Ao27 t269.length co27 : Value).ownBlock) ∧ some k_ ≠ (.slice Ao33 t274.length co33 : Value).ownBlock)) (n := t262.length) (c := co21) ?_).2.2; exact (by (with_reducible repeat (first | apply Kd.R_alloc | apply Kd.R_drewN | apply Kd.R_drew)); exact (Kd.R_mono (Kd.R_far (p := ⟨gb280, 1, none⟩) (Kd.R_far (p := ⟨gb280, 0, none⟩) (Kd.R_types HO264.out BK280.out (by decide)) (fun _ hk => hk.2) (.slice Ao33 t274.length co33)) (fun _ hk => hk.2) (.int .i64 t277)) (fun _ h_ => h_.1)))); (case side4 => exact (Kd.R_reads' HO264.out).2.1); rintro e w48 ⟨rfl, hb⟩; refine ⟨_, rfl, ?_⟩; have n0_ := Aside0.mk (Kd.R_below (by (with_reducible repeat (first | apply Kd.R_alloc | apply Kd.R_drewN | apply Kd.R_drew)); exact (Kd.R_mono (Kd.R_far (p := ⟨gb280, 1, none⟩) (Kd.R_far (p := ⟨gb280, 0, none⟩) (Kd.R_types HO260.out BK280.out (by decide)) (fun _ hk => hk.2) (.slice Ao33 t274.length co33)) (fun _ hk => hk.2) (.int .i64 t277)) (fun _ h_ => h_.1))) hb); have n1_ := Aside0.mk (Kd.R_below (by (with_reducible repeat (first | apply Kd.R_alloc | apply Kd.R_drewN | apply Kd.R_drew)); exact (Kd.R_mono (Kd.R_far (p := ⟨gb280, 1, none⟩) (Kd.R_far (p := ⟨gb280, 0, none⟩) (Kd.R_types HO264.out BK280.out (by decide)) (fun _ hk => hk.2) (.slice Ao33 t274.length co33)) (fun _ hk => hk.2) (.int .i64 t277)) (fun _ h_ => h_.1))) hb); have n2_ := Aside0.mk (Kd.R_below (by (with_reducible repeat (first | apply Kd.R_alloc | apply Kd.R_drewN | apply Kd.R_drew)); exact (Kd.R_mono (Kd.R_far (p := ⟨gb280, 1, none⟩) (Kd.R_far (p := ⟨gb280, 0, none⟩) (Kd.R_types HO271.out BK280.out (by decide)) (fun _ hk => hk.2) (.slice Ao33 t274.length co33)) (fun _ hk => hk.2) (.int .i64 t277)) (fun _ h_ => h_.1))) hb); have n3_ := Aside0.mk (Kd.R_below (by (with_reducible repeat (first | apply Kd.R_alloc | apply Kd.R_drewN | apply Kd.R_drew)); exact (Kd.R_mono (Kd.R_far (p := ⟨gb280, 1, none⟩) (Kd.R_far (p := ⟨gb280, 0, none⟩) (Kd.R_types HO276.out BK280.out (by decide)) (fun _ hk => hk.2) (.slice Ao33 t274.length co33)) (fun _ hk => hk.2) (.int .i64 t277)) (fun _ h_ => h_.1))) hb); have n4_ := Aside0.mk (blk_below (g := gb256) (o := .cells #[.slice A0_0 l0_0.length c0_0, .int .i64 a0_1] 43 (0, 0)) (by (with_reducible repeat (first | refine blk_drewN ?_ _ | refine blk_drew ?_ | refine blk_alloc ?_ _)); refine blk_far ?_ NB256_280.out _; (with_reducible repeat (first | refine blk_drewN ?_ _ | refine blk_drew ?_ | refine blk_alloc ?_ _)); refine blk_far ?_ NB256_280.out _; (with_reducible repeat (first | refine blk_drewN ?_ _ | refine blk_drew ?_ | refine blk_alloc ?_ _)); exact BK256.out) hb); have n5_ := Aside0.mk (blk_below (g := gb268) (o := .cells #[.slice Ao21 t262.length co21, .int .i64 t265] 33 (0, 0)) (by (with_reducible repeat (first | refine blk_drewN ?_ _ | refine blk_drew ?_ | refine blk_alloc ?_ _)); refine blk_far ?_ NB268_280.out _; (with_reducible repeat (first | refine blk_drewN ?_ _ | refine blk_drew ?_ | refine blk_alloc ?_ _)); refine blk_far ?_ NB268_280.out _; (with_reducible repeat (first | refine blk_drewN ?_ _ | refine blk_drew ?_ | refine blk_alloc ?_ _)); exact BK268.out) hb); have n6_ := Aside0.mk (blk_below (g := gb273) (o := .cells #[.slice Ao27 t269.length co27, .int .i64 t272] 33 (0, 0)) (by (with_reducible repeat (first | refine blk_drewN ?_ _ | refine blk_drew ?_ | refine blk_alloc ?_ _)); refine blk_far ?_ NB273_280.out _; (with_reducible repeat (first | refine blk_drewN ?_ _ | refine blk_drew ?_ | refine blk_alloc ?_ _)); refine blk_far ?_ NB273_280.out _; (with_reducible repeat (first | refine blk_drewN ?_ _ | refine blk_drew ?_ | refine blk_alloc ?_ _)); exact BK273.out) hb); have n7_ := Aside0.mk (blk_below (g := gb280) (o := .cells #[.slice Ao33 t274.length co33, .int .i64 t277] 33 (0, 0)) (by (with_reducible repeat (first | refine blk_drewN ?_ _ | refine blk_drew ?_ | refine blk_alloc ?_ _)); refine blk_put (cs := #[.slice Ao33 t274.length co33, .int .i64 0]) ?_ 1 _ rfl; (with_reducible repeat (first | refine blk_drewN ?_ _ | refine blk_drew ?_ | refine blk_alloc ?_ _)); refine blk_put (cs := #[.slice none 0 0, .int .i64 0]) ?_ 0 _ rfl; (with_reducible repeat (first | refine blk_drewN ?_ _ | refine blk_drew ?_ | refine blk_alloc ?_ _)); exact BK280.out) hb); have n8_ := Aside0.mk (below_step (by repeat (first | (with_reducible first | exact HB.out | apply below_alloc | apply pw_below_drewN | apply below_drew1 | refine below_set ?_ GE256.out | refine below_set ?_ GE268.out | refine below_set ?_ GE273.out | refine below_set ?_ GE280.out) | exact HB.out)) hb); clear HO260; clear HO264; clear HO271; clear HO276; clear BK256; clear BK268; clear BK273; clear BK280; clear HB; have HO260 := n0_; have HO264 := n1_; have HO271 := n2_; have HO276 := n3_; have BK256 := n4_; have BK268 := n5_; have BK273 := n6_; have BK280 := n7_; have HB := n8_; clear n0_ n1_ n2_ n3_ n4_ n5_ n6_ n7_ n8_; (try clear hb); (try clear hb2); (try clear hk); (try clear hi)))
          go_meet
          case rel => exact ⟨_, ((t279 != t267)), (by first | rfl | (simp; done) | (simp [*]; done)), H', ⟨by first | omega | exact Nat.le_refl _⟩, ⟨by (with_reducible repeat (first | apply Kd.R_alloc | apply Kd.R_drewN | apply Kd.R_drew)); exact Kd.R_mono HO264.out (fun _ hk => ⟨hk.1.2, hk.2⟩)⟩, ⟨by (with_reducible repeat (first | apply Kd.R_alloc | apply Kd.R_drewN | apply Kd.R_drew)); exact Kd.R_mono HO271.out (fun _ hk => ⟨hk.1.2, hk.2⟩)⟩, ⟨by (with_reducible repeat (first | apply Kd.R_alloc | apply Kd.R_drewN | apply Kd.R_drew)); exact Kd.R_mono HO276.out (fun _ hk => ⟨hk.1.2, hk.2⟩)⟩, ⟨by (with_reducible repeat (first | refine blk_drewN ?_ _ | refine blk_drew ?_ | refine blk_alloc ?_ _)); exact BK256.out⟩, ⟨by (with_reducible repeat (first | refine blk_drewN ?_ _ | refine blk_drew ?_ | refine blk_alloc ?_ _)); exact BK268.out⟩, ⟨by (with_reducible repeat (first | refine blk_drewN ?_ _ | refine blk_drew ?_ | refine blk_alloc ?_ _)); exact BK273.out⟩, ⟨by (with_reducible repeat (first | refine blk_drewN ?_ _ | refine blk_drew ?_ | refine blk_alloc ?_ _)); exact BK280.out⟩, ⟨by repeat (first | (with_reducible first | exact HB.out | apply below_alloc | apply pw_below_drewN | apply below_drew1 | refine below_set ?_ GE256.out | refine below_set ?_ GE268.out | refine below_set ?_ GE273.out | refine below_set ?_ GE280.out) | exact HB.out)⟩⟩
        · rw [if_neg c40] at H
          have c40b0 : (t278 == t266) = false := beq_eq_false_iff_ne.mpr c40
          have c40b1 : (t278 != t266) = true := bne_iff_ne.mpr c40
          (first | rw [c40b0] | (simp only [i64_w, i32_w]; rw [c40b0]) | skip)
          have H' := Aside0.mk H
          clear H
          have hnb49 := NB280_256.out
          have hnc49 := NB256_280.out
          have hnb50 := NB280_268.out
          have hnc50 := NB268_280.out
          have hnb51 := NB280_273.out
          have hnc51 := NB273_280.out
          have hcz52_0 : w32.cell? ⟨gb280, 0, none⟩ = some (.slice none 0 0) := (blk_cell BK280.out 0).trans rfl
          have hcz52_1 : w32.cell? ⟨gb280, 1, none⟩ = some (.int .i64 0) := (blk_cell BK280.out 1).trans rfl
          have hfz52_0 := blk_frozen BK280.out 0
          have hfz52_1 := blk_frozen BK280.out 1
          have hnb53 := NB268_256.out
          have hnc53 := NB256_268.out
          have hnb54 := NB268_273.out
          have hnc54 := NB273_268.out
          have hcz55_0 : w32.cell? ⟨gb268, 0, none⟩ = some (.slice Ao21 t262.length co21) := (blk_cell BK268.out 0).trans rfl
          have hcz55_1 : w32.cell? ⟨gb268, 1, none⟩ = some (.int .i64 t265) := (blk_cell BK268.out 1).trans rfl
          have hfz55_0 := blk_frozen BK268.out 0
          have hfz55_1 := blk_frozen BK268.out 1
          go_wp2_with (first | ((with_reducible refine gate_callee (f := 24) rfl ?_); refine goesL_ (some 43) rfl rfl Try.func24 (by kernel_rfl) rfl #[.agg #[.slice Ao33 t274.length co33, .int .i64 t277], .agg #[.slice Ao21 t262.length co21, .int .i64 t265]] rfl (by (try simp only [List.map_toArray, List.map_cons, List.map_nil]); first | done | rfl | (simp only [List.length_drop, List.length_take]; rfl)) ?_; (with_reducible refine (laws_eqPunchJob.calls k _ _ t274 t277 _ _ t262 t265 true _ ?side1 ?side2 ?side3 ?side4 A38.out).mono ?_); (case side1 => refine (Kd.R_reads' (e := 106) (base := w.heap.size) (ok := fun k_ => (((True ∧ some k_ ≠ (.slice Ao18 t258.length co18 : Value).ownBlock) ∧ some k_ ≠ (.slice Ao21 t262.length co21 : Value).ownBlock) ∧ some k_ ≠ (.slice Ao27 t269.length co27 : Value).ownBlock)) (n := t274.length) (c := co33) ?_).2.2; exact (by (with_reducible repeat (first | apply Kd.R_alloc | apply Kd.R_drewN | apply Kd.R_drew)); exact (Kd.R_mono (Kd.R_far (p := ⟨gb280, 1, none⟩) (Kd.R_far (p := ⟨gb280, 0, none⟩) (Kd.R_types HO276.out BK280.out (by decide)) (fun _ hk => hk.2) (.slice Ao33 t274.length co33)) (fun _ hk => hk.2) (.int .i64 t277)) (fun _ h_ => h_.1)))); (case side2 => exact (Kd.R_reads' HO276.out).2.1); (case side3 => refine (Kd.R_reads' (e := 106) (base := w.heap.size) (ok := fun k_ => (((True ∧ some k_ ≠ (.slice Ao18 t258.length co18 : Value).ownBlock) ∧ some k_ ≠ (.slice Ao27 t269.length co27 : Value).ownBlock) ∧ some k_ ≠ (.slice Ao33 t274.length co33 : Value).ownBlock)) (n := t262.length) (c := co21) ?_).2.2; exact (by (with_reducible repeat (first | apply Kd.R_alloc | apply Kd.R_drewN | apply Kd.R_drew)); exact (Kd.R_mono (Kd.R_far (p := ⟨gb280, 1, none⟩) (Kd.R_far (p := ⟨gb280, 0, none⟩) (Kd.R_types HO264.out BK280.out (by decide)) (fun _ hk => hk.2) (.slice Ao33 t274.length co33)) (fun _ hk => hk.2) (.int .i64 t277)) (fun _ h_ => h_.1)))); (case side4 => exact (Kd.R_reads' HO264.out).2.1); rintro e w56 ⟨rfl, hb⟩; refine ⟨_, rfl, ?_⟩; have n0_ := Aside0.mk (Kd.R_below (by (with_reducible repeat (first | apply Kd.R_alloc | apply Kd.R_drewN | apply Kd.R_drew)); exact (Kd.R_mono (Kd.R_far (p := ⟨gb280, 1, none⟩) (Kd.R_far (p := ⟨gb280, 0, none⟩) (Kd.R_types HO260.out BK280.out (by decide)) (fun _ hk => hk.2) (.slice Ao33 t274.length co33)) (fun _ hk => hk.2) (.int .i64 t277)) (fun _ h_ => h_.1))) hb); have n1_ := Aside0.mk (Kd.R_below (by (with_reducible repeat (first | apply Kd.R_alloc | apply Kd.R_drewN | apply Kd.R_drew)); exact (Kd.R_mono (Kd.R_far (p := ⟨gb280, 1, none⟩) (Kd.R_far (p := ⟨gb280, 0, none⟩) (Kd.R_types HO264.out BK280.out (by decide)) (fun _ hk => hk.2) (.slice Ao33 t274.length co33)) (fun _ hk => hk.2) (.int .i64 t277)) (fun _ h_ => h_.1))) hb); have n2_ := Aside0.mk (Kd.R_below (by (with_reducible repeat (first | apply Kd.R_alloc | apply Kd.R_drewN | apply Kd.R_drew)); exact (Kd.R_mono (Kd.R_far (p := ⟨gb280, 1, none⟩) (Kd.R_far (p := ⟨gb280, 0, none⟩) (Kd.R_types HO271.out BK280.out (by decide)) (fun _ hk => hk.2) (.slice Ao33 t274.length co33)) (fun _ hk => hk.2) (.int .i64 t277)) (fun _ h_ => h_.1))) hb); have n3_ := Aside0.mk (Kd.R_below (by (with_reducible repeat (first | apply Kd.R_alloc | apply Kd.R_drewN | apply Kd.R_drew)); exact (Kd.R_mono (Kd.R_far (p := ⟨gb280, 1, none⟩) (Kd.R_far (p := ⟨gb280, 0, none⟩) (Kd.R_types HO276.out BK280.out (by decide)) (fun _ hk => hk.2) (.slice Ao33 t274.length co33)) (fun _ hk => hk.2) (.int .i64 t277)) (fun _ h_ => h_.1))) hb); have n4_ := Aside0.mk (blk_below (g := gb256) (o := .cells #[.slice A0_0 l0_0.length c0_0, .int .i64 a0_1] 43 (0, 0)) (by (with_reducible repeat (first | refine blk_drewN ?_ _ | refine blk_drew ?_ | refine blk_alloc ?_ _)); refine blk_far ?_ NB256_280.out _; (with_reducible repeat (first | refine blk_drewN ?_ _ | refine blk_drew ?_ | refine blk_alloc ?_ _)); refine blk_far ?_ NB256_280.out _; (with_reducible repeat (first | refine blk_drewN ?_ _ | refine blk_drew ?_ | refine blk_alloc ?_ _)); exact BK256.out) hb); have n5_ := Aside0.mk (blk_below (g := gb268) (o := .cells #[.slice Ao21 t262.length co21, .int .i64 t265] 33 (0, 0)) (by (with_reducible repeat (first | refine blk_drewN ?_ _ | refine blk_drew ?_ | refine blk_alloc ?_ _)); refine blk_far ?_ NB268_280.out _; (with_reducible repeat (first | refine blk_drewN ?_ _ | refine blk_drew ?_ | refine blk_alloc ?_ _)); refine blk_far ?_ NB268_280.out _; (with_reducible repeat (first | refine blk_drewN ?_ _ | refine blk_drew ?_ | refine blk_alloc ?_ _)); exact BK268.out) hb); have n6_ := Aside0.mk (blk_below (g := gb273) (o := .cells #[.slice Ao27 t269.length co27, .int .i64 t272] 33 (0, 0)) (by (with_reducible repeat (first | refine blk_drewN ?_ _ | refine blk_drew ?_ | refine blk_alloc ?_ _)); refine blk_far ?_ NB273_280.out _; (with_reducible repeat (first | refine blk_drewN ?_ _ | refine blk_drew ?_ | refine blk_alloc ?_ _)); refine blk_far ?_ NB273_280.out _; (with_reducible repeat (first | refine blk_drewN ?_ _ | refine blk_drew ?_ | refine blk_alloc ?_ _)); exact BK273.out) hb); have n7_ := Aside0.mk (blk_below (g := gb280) (o := .cells #[.slice Ao33 t274.length co33, .int .i64 t277] 33 (0, 0)) (by (with_reducible repeat (first | refine blk_drewN ?_ _ | refine blk_drew ?_ | refine blk_alloc ?_ _)); refine blk_put (cs := #[.slice Ao33 t274.length co33, .int .i64 0]) ?_ 1 _ rfl; (with_reducible repeat (first | refine blk_drewN ?_ _ | refine blk_drew ?_ | refine blk_alloc ?_ _)); refine blk_put (cs := #[.slice none 0 0, .int .i64 0]) ?_ 0 _ rfl; (with_reducible repeat (first | refine blk_drewN ?_ _ | refine blk_drew ?_ | refine blk_alloc ?_ _)); exact BK280.out) hb); have n8_ := Aside0.mk (below_step (by repeat (first | (with_reducible first | exact HB.out | apply below_alloc | apply pw_below_drewN | apply below_drew1 | refine below_set ?_ GE256.out | refine below_set ?_ GE268.out | refine below_set ?_ GE273.out | refine below_set ?_ GE280.out) | exact HB.out)) hb); clear HO260; clear HO264; clear HO271; clear HO276; clear BK256; clear BK268; clear BK273; clear BK280; clear HB; have HO260 := n0_; have HO264 := n1_; have HO271 := n2_; have HO276 := n3_; have BK256 := n4_; have BK268 := n5_; have BK273 := n6_; have BK280 := n7_; have HB := n8_; clear n0_ n1_ n2_ n3_ n4_ n5_ n6_ n7_ n8_; (try clear hb); (try clear hb2); (try clear hk); (try clear hi)))
          go_meet
          case rel => exact ⟨_, (true), (by first | rfl | (simp; done) | (simp [*]; done)), H', ⟨by first | omega | exact Nat.le_refl _⟩, ⟨by (with_reducible repeat (first | apply Kd.R_alloc | apply Kd.R_drewN | apply Kd.R_drew)); exact Kd.R_mono HO264.out (fun _ hk => ⟨hk.1.2, hk.2⟩)⟩, ⟨by (with_reducible repeat (first | apply Kd.R_alloc | apply Kd.R_drewN | apply Kd.R_drew)); exact Kd.R_mono HO271.out (fun _ hk => ⟨hk.1.2, hk.2⟩)⟩, ⟨by (with_reducible repeat (first | apply Kd.R_alloc | apply Kd.R_drewN | apply Kd.R_drew)); exact Kd.R_mono HO276.out (fun _ hk => ⟨hk.1.2, hk.2⟩)⟩, ⟨by (with_reducible repeat (first | refine blk_drewN ?_ _ | refine blk_drew ?_ | refine blk_alloc ?_ _)); exact BK256.out⟩, ⟨by (with_reducible repeat (first | refine blk_drewN ?_ _ | refine blk_drew ?_ | refine blk_alloc ?_ _)); exact BK268.out⟩, ⟨by (with_reducible repeat (first | refine blk_drewN ?_ _ | refine blk_drew ?_ | refine blk_alloc ?_ _)); exact BK273.out⟩, ⟨by (with_reducible repeat (first | refine blk_drewN ?_ _ | refine blk_drew ?_ | refine blk_alloc ?_ _)); exact BK280.out⟩, ⟨by repeat (first | (with_reducible first | exact HB.out | apply below_alloc | apply pw_below_drewN | apply below_drew1 | refine below_set ?_ GE256.out | refine below_set ?_ GE268.out | refine below_set ?_ GE273.out | refine below_set ?_ GE280.out) | exact HB.out)⟩⟩
      · replace c39 := Bool.eq_false_iff.mpr c39
        subst c39
        have H1 : (laws_FnExactMakeStrokes.j0 k a1 t266 t267 t278 t279 true l0_0 a0_1 t262 t265 t269 t272 t274 t277) = some r := by rw [if_neg (show ¬ (false = true) by decide)] at H; exact H
        clear H
        have H := H1
        clear H1
        have H' := Aside0.mk H
        clear H
        have hnb57 := NB280_256.out
        have hnc57 := NB256_280.out
        have hnb58 := NB280_268.out
        have hnc58 := NB268_280.out
        have hnb59 := NB280_273.out
        have hnc59 := NB273_280.out
        have hcz60_0 : w32.cell? ⟨gb280, 0, none⟩ = some (.slice none 0 0) := (blk_cell BK280.out 0).trans rfl
        have hcz60_1 : w32.cell? ⟨gb280, 1, none⟩ = some (.int .i64 0) := (blk_cell BK280.out 1).trans rfl
        have hfz60_0 := blk_frozen BK280.out 0
        have hfz60_1 := blk_frozen BK280.out 1
        have hnb61 := NB268_256.out
        have hnc61 := NB256_268.out
        have hnb62 := NB268_273.out
        have hnc62 := NB273_268.out
        have hcz63_0 : w32.cell? ⟨gb268, 0, none⟩ = some (.slice Ao21 t262.length co21) := (blk_cell BK268.out 0).trans rfl
        have hcz63_1 : w32.cell? ⟨gb268, 1, none⟩ = some (.int .i64 t265) := (blk_cell BK268.out 1).trans rfl
        have hfz63_0 := blk_frozen BK268.out 0
        have hfz63_1 := blk_frozen BK268.out 1
        go_wp2_with (first | ((with_reducible refine gate_callee (f := 24) rfl ?_); refine goesL_ (some 43) rfl rfl Try.func24 (by kernel_rfl) rfl #[.agg #[.slice Ao33 t274.length co33, .int .i64 t277], .agg #[.slice Ao21 t262.length co21, .int .i64 t265]] rfl (by (try simp only [List.map_toArray, List.map_cons, List.map_nil]); first | done | rfl | (simp only [List.length_drop, List.length_take]; rfl)) ?_; (with_reducible refine (laws_eqPunchJob.calls k _ _ t274 t277 _ _ t262 t265 false _ ?side1 ?side2 ?side3 ?side4 A38.out).mono ?_); (case side1 => refine (Kd.R_reads' (e := 106) (base := w.heap.size) (ok := fun k_ => (((True ∧ some k_ ≠ (.slice Ao18 t258.length co18 : Value).ownBlock) ∧ some k_ ≠ (.slice Ao21 t262.length co21 : Value).ownBlock) ∧ some k_ ≠ (.slice Ao27 t269.length co27 : Value).ownBlock)) (n := t274.length) (c := co33) ?_).2.2; exact (by (with_reducible repeat (first | apply Kd.R_alloc | apply Kd.R_drewN | apply Kd.R_drew)); exact (Kd.R_mono (Kd.R_far (p := ⟨gb280, 1, none⟩) (Kd.R_far (p := ⟨gb280, 0, none⟩) (Kd.R_types HO276.out BK280.out (by decide)) (fun _ hk => hk.2) (.slice Ao33 t274.length co33)) (fun _ hk => hk.2) (.int .i64 t277)) (fun _ h_ => h_.1)))); (case side2 => exact (Kd.R_reads' HO276.out).2.1); (case side3 => refine (Kd.R_reads' (e := 106) (base := w.heap.size) (ok := fun k_ => (((True ∧ some k_ ≠ (.slice Ao18 t258.length co18 : Value).ownBlock) ∧ some k_ ≠ (.slice Ao27 t269.length co27 : Value).ownBlock) ∧ some k_ ≠ (.slice Ao33 t274.length co33 : Value).ownBlock)) (n := t262.length) (c := co21) ?_).2.2; exact (by (with_reducible repeat (first | apply Kd.R_alloc | apply Kd.R_drewN | apply Kd.R_drew)); exact (Kd.R_mono (Kd.R_far (p := ⟨gb280, 1, none⟩) (Kd.R_far (p := ⟨gb280, 0, none⟩) (Kd.R_types HO264.out BK280.out (by decide)) (fun _ hk => hk.2) (.slice Ao33 t274.length co33)) (fun _ hk => hk.2) (.int .i64 t277)) (fun _ h_ => h_.1)))); (case side4 => exact (Kd.R_reads' HO264.out).2.1); rintro e w64 ⟨rfl, hb⟩; refine ⟨_, rfl, ?_⟩; have n0_ := Aside0.mk (Kd.R_below (by (with_reducible repeat (first | apply Kd.R_alloc | apply Kd.R_drewN | apply Kd.R_drew)); exact (Kd.R_mono (Kd.R_far (p := ⟨gb280, 1, none⟩) (Kd.R_far (p := ⟨gb280, 0, none⟩) (Kd.R_types HO260.out BK280.out (by decide)) (fun _ hk => hk.2) (.slice Ao33 t274.length co33)) (fun _ hk => hk.2) (.int .i64 t277)) (fun _ h_ => h_.1))) hb); have n1_ := Aside0.mk (Kd.R_below (by (with_reducible repeat (first | apply Kd.R_alloc | apply Kd.R_drewN | apply Kd.R_drew)); exact (Kd.R_mono (Kd.R_far (p := ⟨gb280, 1, none⟩) (Kd.R_far (p := ⟨gb280, 0, none⟩) (Kd.R_types HO264.out BK280.out (by decide)) (fun _ hk => hk.2) (.slice Ao33 t274.length co33)) (fun _ hk => hk.2) (.int .i64 t277)) (fun _ h_ => h_.1))) hb); have n2_ := Aside0.mk (Kd.R_below (by (with_reducible repeat (first | apply Kd.R_alloc | apply Kd.R_drewN | apply Kd.R_drew)); exact (Kd.R_mono (Kd.R_far (p := ⟨gb280, 1, none⟩) (Kd.R_far (p := ⟨gb280, 0, none⟩) (Kd.R_types HO271.out BK280.out (by decide)) (fun _ hk => hk.2) (.slice Ao33 t274.length co33)) (fun _ hk => hk.2) (.int .i64 t277)) (fun _ h_ => h_.1))) hb); have n3_ := Aside0.mk (Kd.R_below (by (with_reducible repeat (first | apply Kd.R_alloc | apply Kd.R_drewN | apply Kd.R_drew)); exact (Kd.R_mono (Kd.R_far (p := ⟨gb280, 1, none⟩) (Kd.R_far (p := ⟨gb280, 0, none⟩) (Kd.R_types HO276.out BK280.out (by decide)) (fun _ hk => hk.2) (.slice Ao33 t274.length co33)) (fun _ hk => hk.2) (.int .i64 t277)) (fun _ h_ => h_.1))) hb); have n4_ := Aside0.mk (blk_below (g := gb256) (o := .cells #[.slice A0_0 l0_0.length c0_0, .int .i64 a0_1] 43 (0, 0)) (by (with_reducible repeat (first | refine blk_drewN ?_ _ | refine blk_drew ?_ | refine blk_alloc ?_ _)); refine blk_far ?_ NB256_280.out _; (with_reducible repeat (first | refine blk_drewN ?_ _ | refine blk_drew ?_ | refine blk_alloc ?_ _)); refine blk_far ?_ NB256_280.out _; (with_reducible repeat (first | refine blk_drewN ?_ _ | refine blk_drew ?_ | refine blk_alloc ?_ _)); exact BK256.out) hb); have n5_ := Aside0.mk (blk_below (g := gb268) (o := .cells #[.slice Ao21 t262.length co21, .int .i64 t265] 33 (0, 0)) (by (with_reducible repeat (first | refine blk_drewN ?_ _ | refine blk_drew ?_ | refine blk_alloc ?_ _)); refine blk_far ?_ NB268_280.out _; (with_reducible repeat (first | refine blk_drewN ?_ _ | refine blk_drew ?_ | refine blk_alloc ?_ _)); refine blk_far ?_ NB268_280.out _; (with_reducible repeat (first | refine blk_drewN ?_ _ | refine blk_drew ?_ | refine blk_alloc ?_ _)); exact BK268.out) hb); have n6_ := Aside0.mk (blk_below (g := gb273) (o := .cells #[.slice Ao27 t269.length co27, .int .i64 t272] 33 (0, 0)) (by (with_reducible repeat (first | refine blk_drewN ?_ _ | refine blk_drew ?_ | refine blk_alloc ?_ _)); refine blk_far ?_ NB273_280.out _; (with_reducible repeat (first | refine blk_drewN ?_ _ | refine blk_drew ?_ | refine blk_alloc ?_ _)); refine blk_far ?_ NB273_280.out _; (with_reducible repeat (first | refine blk_drewN ?_ _ | refine blk_drew ?_ | refine blk_alloc ?_ _)); exact BK273.out) hb); have n7_ := Aside0.mk (blk_below (g := gb280) (o := .cells #[.slice Ao33 t274.length co33, .int .i64 t277] 33 (0, 0)) (by (with_reducible repeat (first | refine blk_drewN ?_ _ | refine blk_drew ?_ | refine blk_alloc ?_ _)); refine blk_put (cs := #[.slice Ao33 t274.length co33, .int .i64 0]) ?_ 1 _ rfl; (with_reducible repeat (first | refine blk_drewN ?_ _ | refine blk_drew ?_ | refine blk_alloc ?_ _)); refine blk_put (cs := #[.slice none 0 0, .int .i64 0]) ?_ 0 _ rfl; (with_reducible repeat (first | refine blk_drewN ?_ _ | refine blk_drew ?_ | refine blk_alloc ?_ _)); exact BK280.out) hb); have n8_ := Aside0.mk (below_step (by repeat (first | (with_reducible first | exact HB.out | apply below_alloc | apply pw_below_drewN | apply below_drew1 | refine below_set ?_ GE256.out | refine below_set ?_ GE268.out | refine below_set ?_ GE273.out | refine below_set ?_ GE280.out) | exact HB.out)) hb); clear HO260; clear HO264; clear HO271; clear HO276; clear BK256; clear BK268; clear BK273; clear BK280; clear HB; have HO260 := n0_; have HO264 := n1_; have HO271 := n2_; have HO276 := n3_; have BK256 := n4_; have BK268 := n5_; have BK273 := n6_; have BK280 := n7_; have HB := n8_; clear n0_ n1_ n2_ n3_ n4_ n5_ n6_ n7_ n8_; (try clear hb); (try clear hb2); (try clear hk); (try clear hi)))
        go_meet
        case rel => exact ⟨_, (true), (by first | rfl | (simp; done) | (simp [*]; done)), H', ⟨by first | omega | exact Nat.le_refl _⟩, ⟨by (with_reducible repeat (first | apply Kd.R_alloc | apply Kd.R_drewN | apply Kd.R_drew)); exact Kd.R_mono HO264.out (fun _ hk => ⟨hk.1.2, hk.2⟩)⟩, ⟨by (with_reducible repeat (first | apply Kd.R_alloc | apply Kd.R_drewN | apply Kd.R_drew)); exact Kd.R_mono HO271.out (fun _ hk => ⟨hk.1.2, hk.2⟩)⟩, ⟨by (with_reducible repeat (first | apply Kd.R_alloc | apply Kd.R_drewN | apply Kd.R_drew)); exact Kd.R_mono HO276.out (fun _ hk => ⟨hk.1.2, hk.2⟩)⟩, ⟨by (with_reducible repeat (first | refine blk_drewN ?_ _ | refine blk_drew ?_ | refine blk_alloc ?_ _)); exact BK256.out⟩, ⟨by (with_reducible repeat (first | refine blk_drewN ?_ _ | refine blk_drew ?_ | refine blk_alloc ?_ _)); exact BK268.out⟩, ⟨by (with_reducible repeat (first | refine blk_drewN ?_ _ | refine blk_drew ?_ | refine blk_alloc ?_ _)); exact BK273.out⟩, ⟨by (with_reducible repeat (first | refine blk_drewN ?_ _ | refine blk_drew ?_ | refine blk_alloc ?_ _)); exact BK280.out⟩, ⟨by repeat (first | (with_reducible first | exact HB.out | apply below_alloc | apply pw_below_drewN | apply below_drew1 | refine below_set ?_ GE256.out | refine below_set ?_ GE268.out | refine below_set ?_ GE273.out | refine below_set ?_ GE280.out) | exact HB.out)⟩⟩
    case rest =>
      clear HC12
      try clear c2
      try clear p2
      try clear c3
      try clear c4
      try clear c4b0
      try clear c5
      try clear c6
      try clear c22
      try clear c24
      try clear c28
      try clear c29
      try clear c31
      try clear c33
      try clear c34
      try clear c35
      try clear c36
      try clear c39
      try clear c40
      try clear c40b0
      try clear c40b1
      try clear c41
      try clear c42
      try clear c43
      try clear c45
      try clear c46
      try clear c49
      try clear c50
      try clear c51
      try clear c53
      try clear c54
      try clear c57
      try clear c58
      try clear c59
      try clear c61
      try clear c62
      try clear hcz14_0
      try clear hcz14_1
      try clear hcz16_0
      try clear hcz16_1
      try clear hcz23_0
      try clear hcz23_1
      try clear hcz24_0
      try clear hcz24_1
      try clear hcz30_0
      try clear hcz30_1
      try clear hcz37_0
      try clear hcz37_1
      try clear hcz44_0
      try clear hcz44_1
      try clear hcz47_0
      try clear hcz47_1
      try clear hcz52_0
      try clear hcz52_1
      try clear hcz55_0
      try clear hcz55_1
      try clear hcz60_0
      try clear hcz60_1
      try clear hcz63_0
      try clear hcz63_1
      try clear hcz6_0
      try clear hcz6_1
      try clear hfz14_0
      try clear hfz14_1
      try clear hfz16_0
      try clear hfz16_1
      try clear hfz23_0
      try clear hfz23_1
      try clear hfz24_0
      try clear hfz24_1
      try clear hfz30_0
      try clear hfz30_1
      try clear hfz37_0
      try clear hfz37_1
      try clear hfz44_0
      try clear hfz44_1
      try clear hfz47_0
      try clear hfz47_1
      try clear hfz52_0
      try clear hfz52_1
      try clear hfz55_0
      try clear hfz55_1
      try clear hfz60_0
      try clear hfz60_1
      try clear hfz63_0
      try clear hfz63_1
      try clear hfz6_0
      try clear hfz6_1
      obtain ⟨kq, x54_11, rfl, HA, HJ11, HO_269000, HO_274000, HO_281000, BK256, BK268, BK273, BK280, HB⟩ := hcut
      cases kq with
      | zero => exact absurd HA.out (by simp [laws_FnExactMakeStrokes.j0])
      | succ kj11 =>
        have H := HA.out
        clear HA
        simp only [laws_FnExactMakeStrokes.j0] at H
        by_cases c65 : x54_11 = true
        · subst c65
          have H1 : (some false) = some r := by rw [if_pos rfl] at H; exact H
          clear H
          have H := H1
          clear H1
          obtain rfl := Option.some.inj H
          go_wp2
          go_ret
          exact ⟨by first | rfl | (simp [errW_none, errW_some] <;> rfl) | (simp [*, errW_none, errW_some] <;> rfl), by repeat (first | (with_reducible first | exact HB.out | apply below_alloc | apply pw_below_drewN | apply below_drew1 | refine below_set ?_ GE256.out | refine below_set ?_ GE268.out | refine below_set ?_ GE273.out | refine below_set ?_ GE280.out) | exact HB.out)⟩
        · replace c65 := Bool.eq_false_iff.mpr c65
          subst c65
          have H1 : ((laws_toPunchJob.f kj11 l0_0 a0_1).bind fun bt282 => ((laws_eqPunchJob.f kj11 t269 t272 bt282.1 bt282.2).bind fun t286 => (if t286 = true then ((laws_markPunchJob.f kj11 t269 t272 1).bind fun bt287 => (if bt287.1 < 0 then (laws_FnExactMakeStrokes.j1 kj11 a1 t266 t267 true l0_0 a0_1 t262 t265 t274 t277) else ((laws_eqPunchJob.f kj11 t274 t277 t262 t265).bind fun t289 => (if t289 = true then (if t278 = t266 then (laws_FnExactMakeStrokes.j1 kj11 a1 t266 t267 (t279 != t267) l0_0 a0_1 t262 t265 t274 t277) else (laws_FnExactMakeStrokes.j1 kj11 a1 t266 t267 true l0_0 a0_1 t262 t265 t274 t277)) else (laws_FnExactMakeStrokes.j1 kj11 a1 t266 t267 true l0_0 a0_1 t262 t265 t274 t277))))) else (some false)))) = some r := by rw [if_neg (show ¬ (false = true) by decide)] at H; exact H
          clear H
          have H := H1
          clear H1
          replace H := Option.bind_eq_some_iff.mp H
          obtain ⟨⟨t282, t285⟩, A660, H⟩ := H
          replace H : ((laws_eqPunchJob.f kj11 t269 t272 t282 t285).bind fun t286 => (if t286 = true then ((laws_markPunchJob.f kj11 t269 t272 1).bind fun bt287 => (if bt287.1 < 0 then (laws_FnExactMakeStrokes.j1 kj11 a1 t266 t267 true l0_0 a0_1 t262 t265 t274 t277) else ((laws_eqPunchJob.f kj11 t274 t277 t262 t265).bind fun t289 => (if t289 = true then (if t278 = t266 then (laws_FnExactMakeStrokes.j1 kj11 a1 t266 t267 (t279 != t267) l0_0 a0_1 t262 t265 t274 t277) else (laws_FnExactMakeStrokes.j1 kj11 a1 t266 t267 true l0_0 a0_1 t262 t265 t274 t277)) else (laws_FnExactMakeStrokes.j1 kj11 a1 t266 t267 true l0_0 a0_1 t262 t265 t274 t277))))) else (some false))) = some r := H
          have A66 := Aside0.mk A660
          clear A660
          replace H := Option.bind_eq_some_iff.mp H
          obtain ⟨t286, A670, H⟩ := H
          replace H : (if t286 = true then ((laws_markPunchJob.f kj11 t269 t272 1).bind fun bt287 => (if bt287.1 < 0 then (laws_FnExactMakeStrokes.j1 kj11 a1 t266 t267 true l0_0 a0_1 t262 t265 t274 t277) else ((laws_eqPunchJob.f kj11 t274 t277 t262 t265).bind fun t289 => (if t289 = true then (if t278 = t266 then (laws_FnExactMakeStrokes.j1 kj11 a1 t266 t267 (t279 != t267) l0_0 a0_1 t262 t265 t274 t277) else (laws_FnExactMakeStrokes.j1 kj11 a1 t266 t267 true l0_0 a0_1 t262 t265 t274 t277)) else (laws_FnExactMakeStrokes.j1 kj11 a1 t266 t267 true l0_0 a0_1 t262 t265 t274 t277))))) else (some false)) = some r := H
          have A67 := Aside0.mk A670
          clear A670
          by_cases c68 : t286 = true
          · subst c68
            have H1 : ((laws_markPunchJob.f kj11 t269 t272 1).bind fun bt287 => (if bt287.1 < 0 then (laws_FnExactMakeStrokes.j1 kj11 a1 t266 t267 true l0_0 a0_1 t262 t265 t274 t277) else ((laws_eqPunchJob.f kj11 t274 t277 t262 t265).bind fun t289 => (if t289 = true then (if t278 = t266 then (laws_FnExactMakeStrokes.j1 kj11 a1 t266 t267 (t279 != t267) l0_0 a0_1 t262 t265 t274 t277) else (laws_FnExactMakeStrokes.j1 kj11 a1 t266 t267 true l0_0 a0_1 t262 t265 t274 t277)) else (laws_FnExactMakeStrokes.j1 kj11 a1 t266 t267 true l0_0 a0_1 t262 t265 t274 t277))))) = some r := by rw [if_pos rfl] at H; exact H
            clear H
            have H := H1
            clear H1
            replace H := Option.bind_eq_some_iff.mp H
            obtain ⟨⟨t287, t288⟩, A690, H⟩ := H
            replace H : (if t287 < 0 then (laws_FnExactMakeStrokes.j1 kj11 a1 t266 t267 true l0_0 a0_1 t262 t265 t274 t277) else ((laws_eqPunchJob.f kj11 t274 t277 t262 t265).bind fun t289 => (if t289 = true then (if t278 = t266 then (laws_FnExactMakeStrokes.j1 kj11 a1 t266 t267 (t279 != t267) l0_0 a0_1 t262 t265 t274 t277) else (laws_FnExactMakeStrokes.j1 kj11 a1 t266 t267 true l0_0 a0_1 t262 t265 t274 t277)) else (laws_FnExactMakeStrokes.j1 kj11 a1 t266 t267 true l0_0 a0_1 t262 t265 t274 t277)))) = some r := H
            have A69 := Aside0.mk A690
            clear A690
            have HC70 := Aside0.mk H
            clear H
            try go_wp2
            have n0_ := Aside0.mk (Kd.R_drew HO_269000.out)
            have n1_ := Aside0.mk (Kd.R_drew HO_274000.out)
            have n2_ := Aside0.mk (Kd.R_drew HO_281000.out)
            have n3_ := Aside0.mk (blk_drew BK256.out)
            have n4_ := Aside0.mk (blk_drew BK268.out)
            have n5_ := Aside0.mk (blk_drew BK273.out)
            have n6_ := Aside0.mk (blk_drew BK280.out)
            have n7_ := Aside0.mk (below_drew1 HB.out)
            clear HO_269000
            clear HO_274000
            clear HO_281000
            clear BK256
            clear BK268
            clear BK273
            clear BK280
            clear HB
            have HO_269000 := n0_
            have HO_274000 := n1_
            have HO_281000 := n2_
            have BK256 := n3_
            have BK268 := n4_
            have BK273 := n5_
            have BK280 := n6_
            have HB := n7_
            clear n0_ n1_ n2_ n3_ n4_ n5_ n6_ n7_
            refine start_ (n := 5) (S := fun w' => w'.cell? ⟨gb273, 0, none⟩ = some (.slice Ao27 t269.length co27) ∧ w'.cell? ⟨gb273, 1, none⟩ = some (.int .i64 t272) ∧ w'.cell? ⟨gb256, 0, none⟩ = some (.slice A0_0 l0_0.length c0_0) ∧ w'.cell? ⟨gb256, 1, none⟩ = some (.int .i64 a0_1)) (ds := []) #[false, false, false, false, false] (by kernel_rfl) rfl rfl ⟨(blk_cell BK273.out 0).trans rfl, (blk_cell BK273.out 1).trans rfl, (blk_cell BK256.out 0).trans rfl, (blk_cell BK256.out 1).trans rfl⟩ (fun hHeld => ?_)
            generalize wc.drew = w71 at HO_269000 HO_274000 HO_281000 BK256 BK268 BK273 BK280 HB hHeld ⊢
            refine take_ (i := 0) (N := some 55) (v := ?_) (a' := ?_) #[true, false, false, false, false] rfl rfl (by kernel_rfl) (fun _ _ _ h => h) (Or.inl ⟨by rfl, ?_⟩) hHeld ?_ ?_
            rotate_left
            · rintro w' ⟨s0, s1, s2, s3⟩
              go_simp
              with_reducible rfl
            rotate_left
            · simp only [Act.put, List.setIfInBounds_toArray, List.set_cons_zero, List.set_cons_succ, i64_w, i32_w]
              rfl
            refine take_ (i := 1) (N := some 56) (v := ?_) (a' := ?_) #[true, true, false, false, false] rfl rfl (by kernel_rfl) (fun _ _ _ h => h) (Or.inl ⟨by rfl, ?_⟩) hHeld ?_ ?_
            rotate_left
            · rintro w' ⟨s0, s1, s2, s3⟩
              go_simp
              with_reducible rfl
            rotate_left
            · simp only [Act.put, List.setIfInBounds_toArray, List.set_cons_zero, List.set_cons_succ, i64_w, i32_w]
              rfl
            refine one_ (i := 2) (N := some 57) #[true, true, true, false, false] rfl rfl (by kernel_rfl) (by decide) (fun K hK => ?_)
            refine goes_ Try.func31 (by kernel_rfl) rfl #[.agg #[.slice A0_0 l0_0.length c0_0, .int .i64 a0_1]] (by rfl) rfl rfl (by (try simp only [List.map_toArray, List.map_cons, List.map_nil]); first | done | rfl | (simp only [List.length_drop, List.length_take]; rfl)) ?_
            with_reducible refine (laws_toPunchJob.calls kj11 _ _ l0_0 a0_1 t282 t285 _ ?side1 ?side2 A66.out).mono ?_
            (case side1 => repeat (first | exact (Kd.C_below HR0_0.out HB.out) | (with_reducible refine Kd.C_alloc ?_ _) | (with_reducible refine Kd.C_drewN ?_ _) | (with_reducible refine Kd.C_drew ?_)))
            (case side2 => exact HC0_0.out)
            rintro e w72 ⟨v283, rfl, ho0, hb⟩
            refine ⟨_, rfl, ?_⟩
            have n0_ := Aside0.mk (Kd.R_elder' (by (with_reducible repeat (first | apply Kd.R_alloc | apply Kd.R_drewN | apply Kd.R_drew)); exact HO_269000.out) (Kd.R_base ho0) hb)
            have n1_ := Aside0.mk (Kd.R_elder' (by (with_reducible repeat (first | apply Kd.R_alloc | apply Kd.R_drewN | apply Kd.R_drew)); exact HO_274000.out) (Kd.R_base ho0) hb)
            have n2_ := Aside0.mk (Kd.R_elder' (by (with_reducible repeat (first | apply Kd.R_alloc | apply Kd.R_drewN | apply Kd.R_drew)); exact HO_281000.out) (Kd.R_base ho0) hb)
            have n3_ := Aside0.mk (Kd.R_lower (Kd.R_new' (Kd.R_new' (Kd.R_new' ho0 (Kd.R_lt (by (with_reducible repeat (first | apply Kd.R_alloc | apply Kd.R_drewN | apply Kd.R_drew)); exact HO_269000.out))) (Kd.R_lt (by (with_reducible repeat (first | apply Kd.R_alloc | apply Kd.R_drewN | apply Kd.R_drew)); exact HO_274000.out))) (Kd.R_lt (by (with_reducible repeat (first | apply Kd.R_alloc | apply Kd.R_drewN | apply Kd.R_drew)); exact HO_281000.out))) (below_size (by repeat (first | (with_reducible first | exact HB.out | apply below_alloc | apply pw_below_drewN | apply below_drew1 | refine below_set ?_ GE256.out | refine below_set ?_ GE268.out | refine below_set ?_ GE273.out | refine below_set ?_ GE280.out) | exact HB.out))))
            have n4_ := Aside0.mk (blk_below (g := gb256) (o := .cells #[.slice A0_0 l0_0.length c0_0, .int .i64 a0_1] 43 (0, 0)) (by (with_reducible repeat (first | refine blk_drewN ?_ _ | refine blk_drew ?_ | refine blk_alloc ?_ _)); exact BK256.out) hb)
            have n5_ := Aside0.mk (blk_below (g := gb268) (o := .cells #[.slice Ao21 t262.length co21, .int .i64 t265] 33 (0, 0)) (by (with_reducible repeat (first | refine blk_drewN ?_ _ | refine blk_drew ?_ | refine blk_alloc ?_ _)); exact BK268.out) hb)
            have n6_ := Aside0.mk (blk_below (g := gb273) (o := .cells #[.slice Ao27 t269.length co27, .int .i64 t272] 33 (0, 0)) (by (with_reducible repeat (first | refine blk_drewN ?_ _ | refine blk_drew ?_ | refine blk_alloc ?_ _)); exact BK273.out) hb)
            have n7_ := Aside0.mk (blk_below (g := gb280) (o := .cells #[.slice Ao33 t274.length co33, .int .i64 t277] 33 (0, 0)) (by (with_reducible repeat (first | refine blk_drewN ?_ _ | refine blk_drew ?_ | refine blk_alloc ?_ _)); exact BK280.out) hb)
            have n8_ := Aside0.mk (below_step (by repeat (first | (with_reducible first | exact HB.out | apply below_alloc | apply pw_below_drewN | apply below_drew1 | refine below_set ?_ GE256.out | refine below_set ?_ GE268.out | refine below_set ?_ GE273.out | refine below_set ?_ GE280.out) | exact HB.out)) hb)
            clear HO_269000
            clear HO_274000
            clear HO_281000
            clear BK256
            clear BK268
            clear BK273
            clear BK280
            clear HB
            have HO_269000 := n0_
            have HO_274000 := n1_
            have HO_281000 := n2_
            have HO284 := n3_
            have BK256 := n4_
            have BK268 := n5_
            have BK273 := n6_
            have BK280 := n7_
            have HB := n8_
            clear n0_ n1_ n2_ n3_ n4_ n5_ n6_ n7_ n8_
            (try clear hb)
            (try clear hb2)
            (try clear hk)
            (try clear hi)
            (try clear ho0)
            obtain ⟨Ao73, co73, eo73⟩ := Kd.R_slice HO284.out
            (first | subst eo73 | (injection eo73 with f1_ f2_ f3_; have f4_ := f1_.symm; have f5_ := f3_.symm; clear f1_ f2_ f3_; subst f4_; subst f5_))
            refine hK.out _ _ ⟨(blk_cell BK273.out 0).trans rfl, (blk_cell BK273.out 1).trans rfl, (blk_cell BK256.out 0).trans rfl, (blk_cell BK256.out 1).trans rfl⟩ (fun hHeld => ?_)
            clear hK K
            refine norm_ (a' := ?_) ?_ ?_
            rotate_left
            · show Act.put _ (some 57) _ = _
              simp only [Act.put, List.setIfInBounds_toArray, List.set_cons_zero, List.set_cons_succ, i64_w, i32_w]
              rfl
            refine one_ (i := 3) (N := some 58) #[true, true, true, true, false] rfl rfl (by kernel_rfl) (by decide) (fun K hK => ?_)
            refine goes_ Try.func24 (by kernel_rfl) rfl #[.agg #[.slice Ao27 t269.length co27, .int .i64 t272], .agg #[.slice Ao73 t282.length co73, .int .i64 t285]] (by rfl) rfl rfl (by (try simp only [List.map_toArray, List.map_cons, List.map_nil]); first | done | rfl | (simp only [List.length_drop, List.length_take]; rfl)) ?_
            with_reducible refine (laws_eqPunchJob.calls kj11 _ _ t269 t272 _ _ t282 t285 true _ ?side1 ?side2 ?side3 ?side4 A67.out).mono ?_
            (case side1 => repeat (first | exact (Kd.R_reads' HO_274000.out).2.2 | (with_reducible refine Kd.C_alloc ?_ _) | (with_reducible refine Kd.C_drewN ?_ _) | (with_reducible refine Kd.C_drew ?_)))
            (case side2 => exact (Kd.R_reads' HO_274000.out).2.1)
            (case side3 => repeat (first | exact (Kd.R_reads' HO284.out).2.2 | (with_reducible refine Kd.C_alloc ?_ _) | (with_reducible refine Kd.C_drewN ?_ _) | (with_reducible refine Kd.C_drew ?_)))
            (case side4 => exact (Kd.R_reads' HO284.out).2.1)
            rintro e w74 ⟨rfl, hb⟩
            refine ⟨_, rfl, ?_⟩
            have n0_ := Aside0.mk (Kd.R_below (by (with_reducible repeat (first | apply Kd.R_alloc | apply Kd.R_drewN | apply Kd.R_drew)); exact HO_269000.out) hb)
            have n1_ := Aside0.mk (Kd.R_below (by (with_reducible repeat (first | apply Kd.R_alloc | apply Kd.R_drewN | apply Kd.R_drew)); exact HO_274000.out) hb)
            have n2_ := Aside0.mk (Kd.R_below (by (with_reducible repeat (first | apply Kd.R_alloc | apply Kd.R_drewN | apply Kd.R_drew)); exact HO_281000.out) hb)
            have n3_ := Aside0.mk (Kd.R_below (by (with_reducible repeat (first | apply Kd.R_alloc | apply Kd.R_drewN | apply Kd.R_drew)); exact HO284.out) hb)
            have n4_ := Aside0.mk (blk_below (g := gb256) (o := .cells #[.slice A0_0 l0_0.length c0_0, .int .i64 a0_1] 43 (0, 0)) (by (with_reducible repeat (first | refine blk_drewN ?_ _ | refine blk_drew ?_ | refine blk_alloc ?_ _)); exact BK256.out) hb)
            have n5_ := Aside0.mk (blk_below (g := gb268) (o := .cells #[.slice Ao21 t262.length co21, .int .i64 t265] 33 (0, 0)) (by (with_reducible repeat (first | refine blk_drewN ?_ _ | refine blk_drew ?_ | refine blk_alloc ?_ _)); exact BK268.out) hb)
            have n6_ := Aside0.mk (blk_below (g := gb273) (o := .cells #[.slice Ao27 t269.length co27, .int .i64 t272] 33 (0, 0)) (by (with_reducible repeat (first | refine blk_drewN ?_ _ | refine blk_drew ?_ | refine blk_alloc ?_ _)); exact BK273.out) hb)
            have n7_ := Aside0.mk (blk_below (g := gb280) (o := .cells #[.slice Ao33 t274.length co33, .int .i64 t277] 33 (0, 0)) (by (with_reducible repeat (first | refine blk_drewN ?_ _ | refine blk_drew ?_ | refine blk_alloc ?_ _)); exact BK280.out) hb)
            have n8_ := Aside0.mk (below_step (by repeat (first | (with_reducible first | exact HB.out | apply below_alloc | apply pw_below_drewN | apply below_drew1 | refine below_set ?_ GE256.out | refine below_set ?_ GE268.out | refine below_set ?_ GE273.out | refine below_set ?_ GE280.out) | exact HB.out)) hb)
            clear HO_269000
            clear HO_274000
            clear HO_281000
            clear HO284
            clear BK256
            clear BK268
            clear BK273
            clear BK280
            clear HB
            have HO_269000 := n0_
            have HO_274000 := n1_
            have HO_281000 := n2_
            have HO284 := n3_
            have BK256 := n4_
            have BK268 := n5_
            have BK273 := n6_
            have BK280 := n7_
            have HB := n8_
            clear n0_ n1_ n2_ n3_ n4_ n5_ n6_ n7_ n8_
            (try clear hb)
            (try clear hb2)
            (try clear hk)
            (try clear hi)
            refine hK.out _ _ ⟨(blk_cell BK273.out 0).trans rfl, (blk_cell BK273.out 1).trans rfl, (blk_cell BK256.out 0).trans rfl, (blk_cell BK256.out 1).trans rfl⟩ (fun hHeld => ?_)
            clear hK K
            refine norm_ (a' := ?_) ?_ ?_
            rotate_left
            · show Act.put _ (some 58) _ = _
              simp only [Act.put, List.setIfInBounds_toArray, List.set_cons_zero, List.set_cons_succ, i64_w, i32_w]
              rfl
            refine pure_ (i := 4) (N := some 59) (v := ?_) (a' := ?_) #[true, true, true, true, true] rfl rfl (by kernel_rfl) (fun _ _ _ h => h) (Or.inl ⟨by rfl, ?_⟩) ?_ ?_
            rotate_left
            · intro w'
              go_simp
              with_reducible rfl
            rotate_left
            · simp only [Act.put, List.setIfInBounds_toArray, List.set_cons_zero, List.set_cons_succ, i64_w, i32_w]
              rfl
            refine done_ (by kernel_rfl) ?_
            have hnb75 := NB273_256.out
            have hnc75 := NB256_273.out
            have hnb76 := NB273_268.out
            have hnc76 := NB268_273.out
            have hnb77 := NB273_280.out
            have hnc77 := NB280_273.out
            have hcz78_0 : w74.cell? ⟨gb273, 0, none⟩ = some (.slice Ao27 t269.length co27) := (blk_cell BK273.out 0).trans rfl
            have hcz78_1 : w74.cell? ⟨gb273, 1, none⟩ = some (.int .i64 t272) := (blk_cell BK273.out 1).trans rfl
            have hfz78_0 := blk_frozen BK273.out 0
            have hfz78_1 := blk_frozen BK273.out 1
            go_upto_region 14 with (first | ((with_reducible refine gate_callee (f := 27) rfl ?_); refine goesL_ (some 62) rfl rfl Try.func27 (by kernel_rfl) rfl #[.agg #[.slice Ao27 t269.length co27, .int .i64 t272], .int .i64 1] rfl (by (try simp only [List.map_toArray, List.map_cons, List.map_nil]); first | done | rfl | (simp only [List.length_drop, List.length_take]; rfl)) ?_; (with_reducible refine (laws_markPunchJob.calls kj11 (fun k_ => some k_ = (.slice Ao27 t269.length co27 : Value).ownBlock) (.slice Ao27 t269.length co27) t269 t272 1 t287 t288 w _ ?side1 ?side2 A69.out).mono ?_); (case side1 => repeat (first | (with_reducible first | exact HB.out | apply below_alloc | apply pw_below_drewN | apply below_drew1 | refine below_set ?_ GE256.out | refine below_set ?_ GE268.out | refine below_set ?_ GE273.out | refine below_set ?_ GE280.out) | exact HB.out)); (case side2 => exact Kd.R_tight rfl HO_274000.out); rintro e w79 ⟨rfl, hy0, hb, hkp⟩; refine ⟨_, rfl, ?_⟩; have n0_ := Aside0.mk (Kd.R_mono (ok' := fun k_ => some k_ ≠ (.slice Ao27 t269.length co27 : Value).ownBlock ∧ some k_ ≠ (.slice Ao33 t274.length co33 : Value).ownBlock ∧ some k_ ≠ (.slice Ao73 t282.length co73 : Value).ownBlock) (Kd.R_keptB (HO_269000.out) hkp (fun k_ hk_ hs_ => (hk_.1.1) hs_)) (fun k_ hk_ => ⟨hk_.1.1.1, hk_.1.1.2, hk_.1.2⟩)); have n1_ := Aside0.mk (Kd.R_reok rfl hy0 (fun k_ e_ => HO_274000.out.1 k_ e_)); have n2_ := Aside0.mk (Kd.R_mono (ok' := fun k_ => some k_ ≠ (.slice Ao21 t262.length co21 : Value).ownBlock ∧ some k_ ≠ (.slice Ao27 t269.length co27 : Value).ownBlock ∧ some k_ ≠ (.slice Ao73 t282.length co73 : Value).ownBlock) (Kd.R_keptB (HO_281000.out) hkp (fun k_ hk_ hs_ => (hk_.1.2) hs_)) (fun k_ hk_ => ⟨hk_.1.1.1, hk_.1.1.2, hk_.1.2⟩)); have n3_ := Aside0.mk (blk_kept (by (with_reducible repeat (first | refine blk_drewN ?_ _ | refine blk_drew ?_ | refine blk_alloc ?_ _)); exact BK256.out) hkp (fun hs_ => (fun e_ => (Kd.R_ne HO_274000.out BK256.out (by decide)) e_) hs_)); have n4_ := Aside0.mk (blk_kept (by (with_reducible repeat (first | refine blk_drewN ?_ _ | refine blk_drew ?_ | refine blk_alloc ?_ _)); exact BK268.out) hkp (fun hs_ => (fun e_ => (Kd.R_ne HO_274000.out BK268.out (by decide)) e_) hs_)); have n5_ := Aside0.mk (blk_kept (by (with_reducible repeat (first | refine blk_drewN ?_ _ | refine blk_drew ?_ | refine blk_alloc ?_ _)); exact BK273.out) hkp (fun hs_ => (fun e_ => (Kd.R_ne HO_274000.out BK273.out (by decide)) e_) hs_)); have n6_ := Aside0.mk (blk_kept (by (with_reducible repeat (first | refine blk_drewN ?_ _ | refine blk_drew ?_ | refine blk_alloc ?_ _)); exact BK280.out) hkp (fun hs_ => (fun e_ => (Kd.R_ne HO_274000.out BK280.out (by decide)) e_) hs_)); have n7_ := Aside0.mk (Kd.R_mono (ok' := fun k_ => some k_ ≠ (.slice Ao21 t262.length co21 : Value).ownBlock ∧ some k_ ≠ (.slice Ao27 t269.length co27 : Value).ownBlock ∧ some k_ ≠ (.slice Ao33 t274.length co33 : Value).ownBlock) (Kd.R_keptB (HO284.out) hkp (fun k_ hk_ hs_ => (hk_.1.2) hs_)) (fun k_ hk_ => ⟨hk_.1.1.1.2, hk_.1.1.2, hk_.1.2⟩)); have n8_ := Aside0.mk (hb); clear HO_269000; clear HO_274000; clear HO_281000; clear BK256; clear BK268; clear BK273; clear BK280; clear HO284; clear HB; have HO_269000 := n0_; have HO_274000 := n1_; have HO_281000 := n2_; have BK256 := n3_; have BK268 := n4_; have BK273 := n5_; have BK280 := n6_; have HO284 := n7_; have HB := n8_; clear n0_ n1_ n2_ n3_ n4_ n5_ n6_ n7_ n8_; (try clear hb); (try clear hkp); (try clear hy0)))
            (try simp only [Act.put, List.setIfInBounds_toArray, List.set_cons_zero, List.set_cons_succ])
            go_cut [80] (fun v80 wc => ∃ (kq : Nat) (x80_69 : Bool), v80 = .bool x80_69 ∧ Aside0 (laws_FnExactMakeStrokes.j1 kq a1 t266 t267 x80_69 l0_0 a0_1 t262 t265 t274 t277 = some r) ∧ Aside0 (kq ≤ kj11) ∧ Aside0 (Kd.R k106 106 wc w.heap.size (fun k_ => some k_ ≠ ((.slice Ao27 t269.length co27) : Value).ownBlock ∧ some k_ ≠ ((.slice Ao33 t274.length co33) : Value).ownBlock) (.slice Ao21 t262.length co21) t262) ∧ Aside0 (Kd.R k106 106 wc w.heap.size (fun k_ => some k_ ≠ ((.slice Ao21 t262.length co21) : Value).ownBlock ∧ some k_ ≠ ((.slice Ao33 t274.length co33) : Value).ownBlock) (.slice Ao27 t269.length co27) t288) ∧ Aside0 (Kd.R k106 106 wc w.heap.size (fun k_ => some k_ ≠ ((.slice Ao21 t262.length co21) : Value).ownBlock ∧ some k_ ≠ ((.slice Ao27 t269.length co27) : Value).ownBlock) (.slice Ao33 t274.length co33) t274) ∧ Aside0 (wc.heap[gb256]? = some (.cells #[(.slice A0_0 l0_0.length c0_0), .int .i64 a0_1] 43 (0, 0))) ∧ Aside0 (wc.heap[gb268]? = some (.cells #[(.slice Ao21 t262.length co21), .int .i64 t265] 33 (0, 0))) ∧ Aside0 (wc.heap[gb273]? = some (.cells #[(.slice Ao27 t269.length co27), .int .i64 t272] 33 (0, 0))) ∧ Aside0 (wc.heap[gb280]? = some (.cells #[(.slice Ao33 t274.length co33), .int .i64 t277] 33 (0, 0))) ∧ Aside0 (Below w.heap.size w wc))
            case first =>
              have H := HC70.out
              clear HC70
              by_cases c80 : t287 < 0
              · rw [if_pos c80] at H
                have c80b0 : decide (t287 < 0) = true := decide_eq_true c80
                clear c80
                (first | rw [c80b0] | (simp only [i64_w, i32_w]; rw [c80b0]) | skip)
                have H' := Aside0.mk H
                clear H
                go_wp2
                go_meet
                case rel => exact ⟨_, (true), (by first | rfl | (simp; done) | (simp [*]; done)), H', ⟨by have := HJ11.out; first | omega | exact Nat.le_refl _⟩, ⟨by (with_reducible repeat (first | apply Kd.R_alloc | apply Kd.R_drewN | apply Kd.R_drew)); exact Kd.R_mono HO_269000.out (fun _ hk => ⟨hk.1, hk.2.1⟩)⟩, ⟨by (with_reducible repeat (first | apply Kd.R_alloc | apply Kd.R_drewN | apply Kd.R_drew)); exact Kd.R_mono HO_274000.out (fun _ hk => ⟨hk.1.1, hk.1.2⟩)⟩, ⟨by (with_reducible repeat (first | apply Kd.R_alloc | apply Kd.R_drewN | apply Kd.R_drew)); exact Kd.R_mono HO_281000.out (fun _ hk => ⟨hk.1, hk.2.1⟩)⟩, ⟨by (with_reducible repeat (first | refine blk_drewN ?_ _ | refine blk_drew ?_ | refine blk_alloc ?_ _)); exact BK256.out⟩, ⟨by (with_reducible repeat (first | refine blk_drewN ?_ _ | refine blk_drew ?_ | refine blk_alloc ?_ _)); exact BK268.out⟩, ⟨by (with_reducible repeat (first | refine blk_drewN ?_ _ | refine blk_drew ?_ | refine blk_alloc ?_ _)); exact BK273.out⟩, ⟨by (with_reducible repeat (first | refine blk_drewN ?_ _ | refine blk_drew ?_ | refine blk_alloc ?_ _)); exact BK280.out⟩, ⟨by repeat (first | (with_reducible first | exact HB.out | apply below_alloc | apply pw_below_drewN | apply below_drew1 | refine below_set ?_ GE256.out | refine below_set ?_ GE268.out | refine below_set ?_ GE273.out | refine below_set ?_ GE280.out) | exact HB.out)⟩⟩
              · rw [if_neg c80] at H
                have c80b0 : decide (t287 < 0) = false := decide_eq_false c80
                clear c80
                (first | rw [c80b0] | (simp only [i64_w, i32_w]; rw [c80b0]) | skip)
                replace H := Option.bind_eq_some_iff.mp H
                obtain ⟨t289, A810, H⟩ := H
                replace H : (if t289 = true then (if t278 = t266 then (laws_FnExactMakeStrokes.j1 kj11 a1 t266 t267 (t279 != t267) l0_0 a0_1 t262 t265 t274 t277) else (laws_FnExactMakeStrokes.j1 kj11 a1 t266 t267 true l0_0 a0_1 t262 t265 t274 t277)) else (laws_FnExactMakeStrokes.j1 kj11 a1 t266 t267 true l0_0 a0_1 t262 t265 t274 t277)) = some r := H
                have A81 := Aside0.mk A810
                clear A810
                by_cases c82 : t289 = true
                · subst c82
                  have H1 : (if t278 = t266 then (laws_FnExactMakeStrokes.j1 kj11 a1 t266 t267 (t279 != t267) l0_0 a0_1 t262 t265 t274 t277) else (laws_FnExactMakeStrokes.j1 kj11 a1 t266 t267 true l0_0 a0_1 t262 t265 t274 t277)) = some r := by rw [if_pos rfl] at H; exact H
                  clear H
                  have H := H1
                  clear H1
                  by_cases c83 : t278 = t266
                  · rw [if_pos c83] at H
                    have c83b0 : (t278 == t266) = true := beq_iff_eq.mpr c83
                    have c83b1 : (t278 != t266) = false := bne_eq_false_iff_eq.mpr c83
                    clear c83
                    have H' := Aside0.mk H
                    clear H
                    have hnb84 := NB280_256.out
                    have hnc84 := NB256_280.out
                    have hnb85 := NB280_268.out
                    have hnc85 := NB268_280.out
                    have hnb86 := NB280_273.out
                    have hnc86 := NB273_280.out
                    have hcz87_0 : w79.cell? ⟨gb280, 0, none⟩ = some (.slice Ao33 t274.length co33) := (blk_cell BK280.out 0).trans rfl
                    have hcz87_1 : w79.cell? ⟨gb280, 1, none⟩ = some (.int .i64 t277) := (blk_cell BK280.out 1).trans rfl
                    have hfz87_0 := blk_frozen BK280.out 0
                    have hfz87_1 := blk_frozen BK280.out 1
                    have hnb88 := NB268_256.out
                    have hnc88 := NB256_268.out
                    have hnb89 := NB268_273.out
                    have hnc89 := NB273_268.out
                    have hcz90_0 : w79.cell? ⟨gb268, 0, none⟩ = some (.slice Ao21 t262.length co21) := (blk_cell BK268.out 0).trans rfl
                    have hcz90_1 : w79.cell? ⟨gb268, 1, none⟩ = some (.int .i64 t265) := (blk_cell BK268.out 1).trans rfl
                    have hfz90_0 := blk_frozen BK268.out 0
                    have hfz90_1 := blk_frozen BK268.out 1
                    go_wp2_with (first | (go_at_call 24; (with_reducible refine (laws_eqPunchJob.calls kj11 _ _ t274 t277 _ _ t262 t265 true _ ?side1 ?side2 ?side3 ?side4 A81.out).mono ?_); (case side1 => repeat (first | exact (Kd.R_reads' HO_281000.out).2.2 | (with_reducible refine Kd.C_alloc ?_ _) | (with_reducible refine Kd.C_drewN ?_ _) | (with_reducible refine Kd.C_drew ?_))); (case side2 => exact (Kd.R_reads' HO_281000.out).2.1); (case side3 => repeat (first | exact (Kd.R_reads' HO_269000.out).2.2 | (with_reducible refine Kd.C_alloc ?_ _) | (with_reducible refine Kd.C_drewN ?_ _) | (with_reducible refine Kd.C_drew ?_))); (case side4 => exact (Kd.R_reads' HO_269000.out).2.1); rintro e w91 ⟨rfl, hb⟩; have n0_ := Aside0.mk (Kd.R_below (by (with_reducible repeat (first | apply Kd.R_alloc | apply Kd.R_drewN | apply Kd.R_drew)); exact HO_269000.out) hb); have n1_ := Aside0.mk (Kd.R_below (by (with_reducible repeat (first | apply Kd.R_alloc | apply Kd.R_drewN | apply Kd.R_drew)); exact HO_274000.out) hb); have n2_ := Aside0.mk (Kd.R_below (by (with_reducible repeat (first | apply Kd.R_alloc | apply Kd.R_drewN | apply Kd.R_drew)); exact HO_281000.out) hb); have n3_ := Aside0.mk (Kd.R_below (by (with_reducible repeat (first | apply Kd.R_alloc | apply Kd.R_drewN | apply Kd.R_drew)); exact HO284.out) hb); have n4_ := Aside0.mk (blk_below (g := gb256) (o := .cells #[.slice A0_0 l0_0.length c0_0, .int .i64 a0_1] 43 (0, 0)) (by (with_reducible repeat (first | refine blk_drewN ?_ _ | refine blk_drew ?_ | refine blk_alloc ?_ _)); exact BK256.out) hb); have n5_ := Aside0.mk (blk_below (g := gb268) (o := .cells #[.slice Ao21 t262.length co21, .int .i64 t265] 33 (0, 0)) (by (with_reducible repeat (first | refine blk_drewN ?_ _ | refine blk_drew ?_ | refine blk_alloc ?_ _)); exact BK268.out) hb); have n6_ := Aside0.mk (blk_below (g := gb273) (o := .cells #[.slice Ao27 t269.length co27, .int .i64 t272] 33 (0, 0)) (by (with_reducible repeat (first | refine blk_drewN ?_ _ | refine blk_drew ?_ | refine blk_alloc ?_ _)); exact BK273.out) hb); have n7_ := Aside0.mk (blk_below (g := gb280) (o := .cells #[.slice Ao33 t274.length co33, .int .i64 t277] 33 (0, 0)) (by (with_reducible repeat (first | refine blk_drewN ?_ _ | refine blk_drew ?_ | refine blk_alloc ?_ _)); exact BK280.out) hb); have n8_ := Aside0.mk (below_step (by repeat (first | (with_reducible first | exact HB.out | apply below_alloc | apply pw_below_drewN | apply below_drew1 | refine below_set ?_ GE256.out | refine below_set ?_ GE268.out | refine below_set ?_ GE273.out | refine below_set ?_ GE280.out) | exact HB.out)) hb); clear HO_269000; clear HO_274000; clear HO_281000; clear HO284; clear BK256; clear BK268; clear BK273; clear BK280; clear HB; have HO_269000 := n0_; have HO_274000 := n1_; have HO_281000 := n2_; have HO284 := n3_; have BK256 := n4_; have BK268 := n5_; have BK273 := n6_; have BK280 := n7_; have HB := n8_; clear n0_ n1_ n2_ n3_ n4_ n5_ n6_ n7_ n8_; (try clear hb); (try clear hb2); (try clear hk); (try clear hi)))
                    go_meet
                    case rel => exact ⟨_, ((t279 != t267)), (by first | rfl | (simp; done) | (simp [*]; done)), H', ⟨by have := HJ11.out; first | omega | exact Nat.le_refl _⟩, ⟨by (with_reducible repeat (first | apply Kd.R_alloc | apply Kd.R_drewN | apply Kd.R_drew)); exact Kd.R_mono HO_269000.out (fun _ hk => ⟨hk.1, hk.2.1⟩)⟩, ⟨by (with_reducible repeat (first | apply Kd.R_alloc | apply Kd.R_drewN | apply Kd.R_drew)); exact Kd.R_mono HO_274000.out (fun _ hk => ⟨hk.1.1, hk.1.2⟩)⟩, ⟨by (with_reducible repeat (first | apply Kd.R_alloc | apply Kd.R_drewN | apply Kd.R_drew)); exact Kd.R_mono HO_281000.out (fun _ hk => ⟨hk.1, hk.2.1⟩)⟩, ⟨by (with_reducible repeat (first | refine blk_drewN ?_ _ | refine blk_drew ?_ | refine blk_alloc ?_ _)); exact BK256.out⟩, ⟨by (with_reducible repeat (first | refine blk_drewN ?_ _ | refine blk_drew ?_ | refine blk_alloc ?_ _)); exact BK268.out⟩, ⟨by (with_reducible repeat (first | refine blk_drewN ?_ _ | refine blk_drew ?_ | refine blk_alloc ?_ _)); exact BK273.out⟩, ⟨by (with_reducible repeat (first | refine blk_drewN ?_ _ | refine blk_drew ?_ | refine blk_alloc ?_ _)); exact BK280.out⟩, ⟨by repeat (first | (with_reducible first | exact HB.out | apply below_alloc | apply pw_below_drewN | apply below_drew1 | refine below_set ?_ GE256.out | refine below_set ?_ GE268.out | refine below_set ?_ GE273.out | refine below_set ?_ GE280.out) | exact HB.out)⟩⟩
                  · rw [if_neg c83] at H
                    have c83b0 : (t278 == t266) = false := beq_eq_false_iff_ne.mpr c83
                    have c83b1 : (t278 != t266) = true := bne_iff_ne.mpr c83
                    have H' := Aside0.mk H
                    clear H
                    have hnb92 := NB280_256.out
                    have hnc92 := NB256_280.out
                    have hnb93 := NB280_268.out
                    have hnc93 := NB268_280.out
                    have hnb94 := NB280_273.out
                    have hnc94 := NB273_280.out
                    have hcz95_0 : w79.cell? ⟨gb280, 0, none⟩ = some (.slice Ao33 t274.length co33) := (blk_cell BK280.out 0).trans rfl
                    have hcz95_1 : w79.cell? ⟨gb280, 1, none⟩ = some (.int .i64 t277) := (blk_cell BK280.out 1).trans rfl
                    have hfz95_0 := blk_frozen BK280.out 0
                    have hfz95_1 := blk_frozen BK280.out 1
                    have hnb96 := NB268_256.out
                    have hnc96 := NB256_268.out
                    have hnb97 := NB268_273.out
                    have hnc97 := NB273_268.out
                    have hcz98_0 : w79.cell? ⟨gb268, 0, none⟩ = some (.slice Ao21 t262.length co21) := (blk_cell BK268.out 0).trans rfl
                    have hcz98_1 : w79.cell? ⟨gb268, 1, none⟩ = some (.int .i64 t265) := (blk_cell BK268.out 1).trans rfl
                    have hfz98_0 := blk_frozen BK268.out 0
                    have hfz98_1 := blk_frozen BK268.out 1
                    go_wp2_with (first | (go_at_call 24; (with_reducible refine (laws_eqPunchJob.calls kj11 _ _ t274 t277 _ _ t262 t265 true _ ?side1 ?side2 ?side3 ?side4 A81.out).mono ?_); (case side1 => repeat (first | exact (Kd.R_reads' HO_281000.out).2.2 | (with_reducible refine Kd.C_alloc ?_ _) | (with_reducible refine Kd.C_drewN ?_ _) | (with_reducible refine Kd.C_drew ?_))); (case side2 => exact (Kd.R_reads' HO_281000.out).2.1); (case side3 => repeat (first | exact (Kd.R_reads' HO_269000.out).2.2 | (with_reducible refine Kd.C_alloc ?_ _) | (with_reducible refine Kd.C_drewN ?_ _) | (with_reducible refine Kd.C_drew ?_))); (case side4 => exact (Kd.R_reads' HO_269000.out).2.1); rintro e w99 ⟨rfl, hb⟩; have n0_ := Aside0.mk (Kd.R_below (by (with_reducible repeat (first | apply Kd.R_alloc | apply Kd.R_drewN | apply Kd.R_drew)); exact HO_269000.out) hb); have n1_ := Aside0.mk (Kd.R_below (by (with_reducible repeat (first | apply Kd.R_alloc | apply Kd.R_drewN | apply Kd.R_drew)); exact HO_274000.out) hb); have n2_ := Aside0.mk (Kd.R_below (by (with_reducible repeat (first | apply Kd.R_alloc | apply Kd.R_drewN | apply Kd.R_drew)); exact HO_281000.out) hb); have n3_ := Aside0.mk (Kd.R_below (by (with_reducible repeat (first | apply Kd.R_alloc | apply Kd.R_drewN | apply Kd.R_drew)); exact HO284.out) hb); have n4_ := Aside0.mk (blk_below (g := gb256) (o := .cells #[.slice A0_0 l0_0.length c0_0, .int .i64 a0_1] 43 (0, 0)) (by (with_reducible repeat (first | refine blk_drewN ?_ _ | refine blk_drew ?_ | refine blk_alloc ?_ _)); exact BK256.out) hb); have n5_ := Aside0.mk (blk_below (g := gb268) (o := .cells #[.slice Ao21 t262.length co21, .int .i64 t265] 33 (0, 0)) (by (with_reducible repeat (first | refine blk_drewN ?_ _ | refine blk_drew ?_ | refine blk_alloc ?_ _)); exact BK268.out) hb); have n6_ := Aside0.mk (blk_below (g := gb273) (o := .cells #[.slice Ao27 t269.length co27, .int .i64 t272] 33 (0, 0)) (by (with_reducible repeat (first | refine blk_drewN ?_ _ | refine blk_drew ?_ | refine blk_alloc ?_ _)); exact BK273.out) hb); have n7_ := Aside0.mk (blk_below (g := gb280) (o := .cells #[.slice Ao33 t274.length co33, .int .i64 t277] 33 (0, 0)) (by (with_reducible repeat (first | refine blk_drewN ?_ _ | refine blk_drew ?_ | refine blk_alloc ?_ _)); exact BK280.out) hb); have n8_ := Aside0.mk (below_step (by repeat (first | (with_reducible first | exact HB.out | apply below_alloc | apply pw_below_drewN | apply below_drew1 | refine below_set ?_ GE256.out | refine below_set ?_ GE268.out | refine below_set ?_ GE273.out | refine below_set ?_ GE280.out) | exact HB.out)) hb); clear HO_269000; clear HO_274000; clear HO_281000; clear HO284; clear BK256; clear BK268; clear BK273; clear BK280; clear HB; have HO_269000 := n0_; have HO_274000 := n1_; have HO_281000 := n2_; have HO284 := n3_; have BK256 := n4_; have BK268 := n5_; have BK273 := n6_; have BK280 := n7_; have HB := n8_; clear n0_ n1_ n2_ n3_ n4_ n5_ n6_ n7_ n8_; (try clear hb); (try clear hb2); (try clear hk); (try clear hi)))
                    go_meet
                    case rel => exact ⟨_, (true), (by first | rfl | (simp; done) | (simp [*]; done)), H', ⟨by have := HJ11.out; first | omega | exact Nat.le_refl _⟩, ⟨by (with_reducible repeat (first | apply Kd.R_alloc | apply Kd.R_drewN | apply Kd.R_drew)); exact Kd.R_mono HO_269000.out (fun _ hk => ⟨hk.1, hk.2.1⟩)⟩, ⟨by (with_reducible repeat (first | apply Kd.R_alloc | apply Kd.R_drewN | apply Kd.R_drew)); exact Kd.R_mono HO_274000.out (fun _ hk => ⟨hk.1.1, hk.1.2⟩)⟩, ⟨by (with_reducible repeat (first | apply Kd.R_alloc | apply Kd.R_drewN | apply Kd.R_drew)); exact Kd.R_mono HO_281000.out (fun _ hk => ⟨hk.1, hk.2.1⟩)⟩, ⟨by (with_reducible repeat (first | refine blk_drewN ?_ _ | refine blk_drew ?_ | refine blk_alloc ?_ _)); exact BK256.out⟩, ⟨by (with_reducible repeat (first | refine blk_drewN ?_ _ | refine blk_drew ?_ | refine blk_alloc ?_ _)); exact BK268.out⟩, ⟨by (with_reducible repeat (first | refine blk_drewN ?_ _ | refine blk_drew ?_ | refine blk_alloc ?_ _)); exact BK273.out⟩, ⟨by (with_reducible repeat (first | refine blk_drewN ?_ _ | refine blk_drew ?_ | refine blk_alloc ?_ _)); exact BK280.out⟩, ⟨by repeat (first | (with_reducible first | exact HB.out | apply below_alloc | apply pw_below_drewN | apply below_drew1 | refine below_set ?_ GE256.out | refine below_set ?_ GE268.out | refine below_set ?_ GE273.out | refine below_set ?_ GE280.out) | exact HB.out)⟩⟩
                · replace c82 := Bool.eq_false_iff.mpr c82
                  subst c82
                  have H1 : (laws_FnExactMakeStrokes.j1 kj11 a1 t266 t267 true l0_0 a0_1 t262 t265 t274 t277) = some r := by rw [if_neg (show ¬ (false = true) by decide)] at H; exact H
                  clear H
                  have H := H1
                  clear H1
                  have H' := Aside0.mk H
                  clear H
                  have hnb100 := NB280_256.out
                  have hnc100 := NB256_280.out
                  have hnb101 := NB280_268.out
                  have hnc101 := NB268_280.out
                  have hnb102 := NB280_273.out
                  have hnc102 := NB273_280.out
                  have hcz103_0 : w79.cell? ⟨gb280, 0, none⟩ = some (.slice Ao33 t274.length co33) := (blk_cell BK280.out 0).trans rfl
                  have hcz103_1 : w79.cell? ⟨gb280, 1, none⟩ = some (.int .i64 t277) := (blk_cell BK280.out 1).trans rfl
                  have hfz103_0 := blk_frozen BK280.out 0
                  have hfz103_1 := blk_frozen BK280.out 1
                  have hnb104 := NB268_256.out
                  have hnc104 := NB256_268.out
                  have hnb105 := NB268_273.out
                  have hnc105 := NB273_268.out
                  have hcz106_0 : w79.cell? ⟨gb268, 0, none⟩ = some (.slice Ao21 t262.length co21) := (blk_cell BK268.out 0).trans rfl
                  have hcz106_1 : w79.cell? ⟨gb268, 1, none⟩ = some (.int .i64 t265) := (blk_cell BK268.out 1).trans rfl
                  have hfz106_0 := blk_frozen BK268.out 0
                  have hfz106_1 := blk_frozen BK268.out 1
                  go_wp2_with (first | (go_at_call 24; (with_reducible refine (laws_eqPunchJob.calls kj11 _ _ t274 t277 _ _ t262 t265 false _ ?side1 ?side2 ?side3 ?side4 A81.out).mono ?_); (case side1 => repeat (first | exact (Kd.R_reads' HO_281000.out).2.2 | (with_reducible refine Kd.C_alloc ?_ _) | (with_reducible refine Kd.C_drewN ?_ _) | (with_reducible refine Kd.C_drew ?_))); (case side2 => exact (Kd.R_reads' HO_281000.out).2.1); (case side3 => repeat (first | exact (Kd.R_reads' HO_269000.out).2.2 | (with_reducible refine Kd.C_alloc ?_ _) | (with_reducible refine Kd.C_drewN ?_ _) | (with_reducible refine Kd.C_drew ?_))); (case side4 => exact (Kd.R_reads' HO_269000.out).2.1); rintro e w107 ⟨rfl, hb⟩; have n0_ := Aside0.mk (Kd.R_below (by (with_reducible repeat (first | apply Kd.R_alloc | apply Kd.R_drewN | apply Kd.R_drew)); exact HO_269000.out) hb); have n1_ := Aside0.mk (Kd.R_below (by (with_reducible repeat (first | apply Kd.R_alloc | apply Kd.R_drewN | apply Kd.R_drew)); exact HO_274000.out) hb); have n2_ := Aside0.mk (Kd.R_below (by (with_reducible repeat (first | apply Kd.R_alloc | apply Kd.R_drewN | apply Kd.R_drew)); exact HO_281000.out) hb); have n3_ := Aside0.mk (Kd.R_below (by (with_reducible repeat (first | apply Kd.R_alloc | apply Kd.R_drewN | apply Kd.R_drew)); exact HO284.out) hb); have n4_ := Aside0.mk (blk_below (g := gb256) (o := .cells #[.slice A0_0 l0_0.length c0_0, .int .i64 a0_1] 43 (0, 0)) (by (with_reducible repeat (first | refine blk_drewN ?_ _ | refine blk_drew ?_ | refine blk_alloc ?_ _)); exact BK256.out) hb); have n5_ := Aside0.mk (blk_below (g := gb268) (o := .cells #[.slice Ao21 t262.length co21, .int .i64 t265] 33 (0, 0)) (by (with_reducible repeat (first | refine blk_drewN ?_ _ | refine blk_drew ?_ | refine blk_alloc ?_ _)); exact BK268.out) hb); have n6_ := Aside0.mk (blk_below (g := gb273) (o := .cells #[.slice Ao27 t269.length co27, .int .i64 t272] 33 (0, 0)) (by (with_reducible repeat (first | refine blk_drewN ?_ _ | refine blk_drew ?_ | refine blk_alloc ?_ _)); exact BK273.out) hb); have n7_ := Aside0.mk (blk_below (g := gb280) (o := .cells #[.slice Ao33 t274.length co33, .int .i64 t277] 33 (0, 0)) (by (with_reducible repeat (first | refine blk_drewN ?_ _ | refine blk_drew ?_ | refine blk_alloc ?_ _)); exact BK280.out) hb); have n8_ := Aside0.mk (below_step (by repeat (first | (with_reducible first | exact HB.out | apply below_alloc | apply pw_below_drewN | apply below_drew1 | refine below_set ?_ GE256.out | refine below_set ?_ GE268.out | refine below_set ?_ GE273.out | refine below_set ?_ GE280.out) | exact HB.out)) hb); clear HO_269000; clear HO_274000; clear HO_281000; clear HO284; clear BK256; clear BK268; clear BK273; clear BK280; clear HB; have HO_269000 := n0_; have HO_274000 := n1_; have HO_281000 := n2_; have HO284 := n3_; have BK256 := n4_; have BK268 := n5_; have BK273 := n6_; have BK280 := n7_; have HB := n8_; clear n0_ n1_ n2_ n3_ n4_ n5_ n6_ n7_ n8_; (try clear hb); (try clear hb2); (try clear hk); (try clear hi)))
                  go_meet
                  case rel => exact ⟨_, (true), (by first | rfl | (simp; done) | (simp [*]; done)), H', ⟨by have := HJ11.out; first | omega | exact Nat.le_refl _⟩, ⟨by (with_reducible repeat (first | apply Kd.R_alloc | apply Kd.R_drewN | apply Kd.R_drew)); exact Kd.R_mono HO_269000.out (fun _ hk => ⟨hk.1, hk.2.1⟩)⟩, ⟨by (with_reducible repeat (first | apply Kd.R_alloc | apply Kd.R_drewN | apply Kd.R_drew)); exact Kd.R_mono HO_274000.out (fun _ hk => ⟨hk.1.1, hk.1.2⟩)⟩, ⟨by (with_reducible repeat (first | apply Kd.R_alloc | apply Kd.R_drewN | apply Kd.R_drew)); exact Kd.R_mono HO_281000.out (fun _ hk => ⟨hk.1, hk.2.1⟩)⟩, ⟨by (with_reducible repeat (first | refine blk_drewN ?_ _ | refine blk_drew ?_ | refine blk_alloc ?_ _)); exact BK256.out⟩, ⟨by (with_reducible repeat (first | refine blk_drewN ?_ _ | refine blk_drew ?_ | refine blk_alloc ?_ _)); exact BK268.out⟩, ⟨by (with_reducible repeat (first | refine blk_drewN ?_ _ | refine blk_drew ?_ | refine blk_alloc ?_ _)); exact BK273.out⟩, ⟨by (with_reducible repeat (first | refine blk_drewN ?_ _ | refine blk_drew ?_ | refine blk_alloc ?_ _)); exact BK280.out⟩, ⟨by repeat (first | (with_reducible first | exact HB.out | apply below_alloc | apply pw_below_drewN | apply below_drew1 | refine below_set ?_ GE256.out | refine below_set ?_ GE268.out | refine below_set ?_ GE273.out | refine below_set ?_ GE280.out) | exact HB.out)⟩⟩
            case rest =>
              clear HC70
              try clear c1
              try clear c2
              try clear p2
              try clear c3
              try clear c4
              try clear c4b0
              try clear c5
              try clear c6
              try clear c7
              try clear c8
              try clear c9
              try clear c10
              try clear c22
              try clear c24
              try clear c27
              try clear c28
              try clear c29
              try clear c31
              try clear c33
              try clear c34
              try clear c35
              try clear c36
              try clear c39
              try clear c40
              try clear c40b0
              try clear c40b1
              try clear c41
              try clear c42
              try clear c43
              try clear c45
              try clear c46
              try clear c49
              try clear c50
              try clear c51
              try clear c53
              try clear c54
              try clear c57
              try clear c58
              try clear c59
              try clear c61
              try clear c62
              try clear c65
              try clear c68
              try clear c75
              try clear c76
              try clear c77
              try clear c80
              try clear c80b0
              try clear c82
              try clear c83
              try clear c83b0
              try clear c83b1
              try clear c84
              try clear c85
              try clear c86
              try clear c88
              try clear c89
              try clear c92
              try clear c93
              try clear c94
              try clear c96
              try clear c97
              try clear c100
              try clear c101
              try clear c102
              try clear c104
              try clear c105
              try clear hcz103_0
              try clear hcz103_1
              try clear hcz106_0
              try clear hcz106_1
              try clear hcz14_0
              try clear hcz14_1
              try clear hcz16_0
              try clear hcz16_1
              try clear hcz23_0
              try clear hcz23_1
              try clear hcz24_0
              try clear hcz24_1
              try clear hcz30_0
              try clear hcz30_1
              try clear hcz37_0
              try clear hcz37_1
              try clear hcz44_0
              try clear hcz44_1
              try clear hcz47_0
              try clear hcz47_1
              try clear hcz52_0
              try clear hcz52_1
              try clear hcz55_0
              try clear hcz55_1
              try clear hcz60_0
              try clear hcz60_1
              try clear hcz63_0
              try clear hcz63_1
              try clear hcz6_0
              try clear hcz6_1
              try clear hcz78_0
              try clear hcz78_1
              try clear hcz87_0
              try clear hcz87_1
              try clear hcz90_0
              try clear hcz90_1
              try clear hcz95_0
              try clear hcz95_1
              try clear hcz98_0
              try clear hcz98_1
              try clear hfz103_0
              try clear hfz103_1
              try clear hfz106_0
              try clear hfz106_1
              try clear hfz14_0
              try clear hfz14_1
              try clear hfz16_0
              try clear hfz16_1
              try clear hfz23_0
              try clear hfz23_1
              try clear hfz24_0
              try clear hfz24_1
              try clear hfz30_0
              try clear hfz30_1
              try clear hfz37_0
              try clear hfz37_1
              try clear hfz44_0
              try clear hfz44_1
              try clear hfz47_0
              try clear hfz47_1
              try clear hfz52_0
              try clear hfz52_1
              try clear hfz55_0
              try clear hfz55_1
              try clear hfz60_0
              try clear hfz60_1
              try clear hfz63_0
              try clear hfz63_1
              try clear hfz6_0
              try clear hfz6_1
              try clear hfz78_0
              try clear hfz78_1
              try clear hfz87_0
              try clear hfz87_1
              try clear hfz90_0
              try clear hfz90_1
              try clear hfz95_0
              try clear hfz95_1
              try clear hfz98_0
              try clear hfz98_1
              try clear p2
              obtain ⟨kq, x80_69, rfl, HA, HJ69, HO_269000, HO_274000, HO_281000, BK256, BK268, BK273, BK280, HB⟩ := hcut
              have hl274000_69 := (Kd.R_reads' HO_274000.out).1
              rw [hl274000_69] at HO_274000
              (try simp only [hl274000_69])
              (try simp only [hl274000_69] at BK256)
              (try simp only [hl274000_69] at BK268)
              (try simp only [hl274000_69] at BK273)
              (try simp only [hl274000_69] at BK280)
              (try simp only [hl274000_69] at HO_269000)
              (try simp only [hl274000_69] at HO_281000)
              cases kq with
              | zero => exact absurd HA.out (by simp [laws_FnExactMakeStrokes.j1])
              | succ kj69 =>
                have H := HA.out
                clear HA
                simp only [laws_FnExactMakeStrokes.j1] at H
                by_cases c108 : x80_69 = true
                · subst c108
                  have H1 : (some false) = some r := by rw [if_pos rfl] at H; exact H
                  clear H
                  have H := H1
                  clear H1
                  obtain rfl := Option.some.inj H
                  go_wp2
                  go_ret
                  exact ⟨by first | rfl | (simp [errW_none, errW_some] <;> rfl) | (simp [*, errW_none, errW_some] <;> rfl), by repeat (first | (with_reducible first | exact HB.out | apply below_alloc | apply pw_below_drewN | apply below_drew1 | refine below_set ?_ GE256.out | refine below_set ?_ GE268.out | refine below_set ?_ GE273.out | refine below_set ?_ GE280.out) | exact HB.out)⟩
                · replace c108 := Bool.eq_false_iff.mpr c108
                  subst c108
                  have H1 : ((laws_markPunchJob.f kj69 t274 t277 1).bind fun bt290 => ((laws_heldPunchJob.f kj69 bt290.2 t277 1).bind fun t292 => (if t292 < 0 then (some false) else (if t292 = bt290.1 then ((laws_toPunchJob.f kj69 l0_0 a0_1).bind fun bt293 => ((impl_MakeStrokes.f kj69 bt293.1 bt293.2 a1).bind fun bt297 => ((laws_eqPunchJob.f kj69 bt297.1 bt297.2.1 t262 t265).bind fun t304 => (if t304 = true then (if bt297.2.2.1 = t266 then (laws_FnExactMakeStrokes.j2 kj69 bt290.1 (bt297.2.2.2 != t267) bt290.2 t277) else (laws_FnExactMakeStrokes.j2 kj69 bt290.1 true bt290.2 t277)) else (laws_FnExactMakeStrokes.j2 kj69 bt290.1 true bt290.2 t277))))) else (some false))))) = some r := by rw [if_neg (show ¬ (false = true) by decide)] at H; exact H
                  clear H
                  have H := H1
                  clear H1
                  replace H := Option.bind_eq_some_iff.mp H
                  obtain ⟨⟨t290, t291⟩, A1090, H⟩ := H
                  replace H : ((laws_heldPunchJob.f kj69 t291 t277 1).bind fun t292 => (if t292 < 0 then (some false) else (if t292 = t290 then ((laws_toPunchJob.f kj69 l0_0 a0_1).bind fun bt293 => ((impl_MakeStrokes.f kj69 bt293.1 bt293.2 a1).bind fun bt297 => ((laws_eqPunchJob.f kj69 bt297.1 bt297.2.1 t262 t265).bind fun t304 => (if t304 = true then (if bt297.2.2.1 = t266 then (laws_FnExactMakeStrokes.j2 kj69 t290 (bt297.2.2.2 != t267) t291 t277) else (laws_FnExactMakeStrokes.j2 kj69 t290 true t291 t277)) else (laws_FnExactMakeStrokes.j2 kj69 t290 true t291 t277))))) else (some false)))) = some r := H
                  have A109 := Aside0.mk A1090
                  clear A1090
                  replace H := Option.bind_eq_some_iff.mp H
                  obtain ⟨t292, A1100, H⟩ := H
                  replace H : (if t292 < 0 then (some false) else (if t292 = t290 then ((laws_toPunchJob.f kj69 l0_0 a0_1).bind fun bt293 => ((impl_MakeStrokes.f kj69 bt293.1 bt293.2 a1).bind fun bt297 => ((laws_eqPunchJob.f kj69 bt297.1 bt297.2.1 t262 t265).bind fun t304 => (if t304 = true then (if bt297.2.2.1 = t266 then (laws_FnExactMakeStrokes.j2 kj69 t290 (bt297.2.2.2 != t267) t291 t277) else (laws_FnExactMakeStrokes.j2 kj69 t290 true t291 t277)) else (laws_FnExactMakeStrokes.j2 kj69 t290 true t291 t277))))) else (some false))) = some r := H
                  have A110 := Aside0.mk A1100
                  clear A1100
                  by_cases c111 : t292 < 0
                  · rw [if_pos c111] at H
                    have c111b0 : decide (t292 < 0) = true := decide_eq_true c111
                    clear c111
                    obtain rfl := Option.some.inj H
                    have hnb112 := NB280_256.out
                    have hnc112 := NB256_280.out
                    have hnb113 := NB280_268.out
                    have hnc113 := NB268_280.out
                    have hnb114 := NB280_273.out
                    have hnc114 := NB273_280.out
                    have hcz115_0 : wc.cell? ⟨gb280, 0, none⟩ = some (.slice Ao33 t274.length co33) := (blk_cell BK280.out 0).trans rfl
                    have hcz115_1 : wc.cell? ⟨gb280, 1, none⟩ = some (.int .i64 t277) := (blk_cell BK280.out 1).trans rfl
                    have hfz115_0 := blk_frozen BK280.out 0
                    have hfz115_1 := blk_frozen BK280.out 1
                    go_wp2_with (first | ((with_reducible refine gate_callee (f := 27) rfl ?_); refine goesL_ (some 83) rfl rfl Try.func27 (by kernel_rfl) rfl #[.agg #[.slice Ao33 t274.length co33, .int .i64 t277], .int .i64 1] rfl (by (try simp only [List.map_toArray, List.map_cons, List.map_nil]); first | done | rfl | (simp only [List.length_drop, List.length_take]; rfl)) ?_; (with_reducible refine (laws_markPunchJob.calls kj69 (fun k_ => some k_ = (.slice Ao33 t274.length co33 : Value).ownBlock) (.slice Ao33 t274.length co33) t274 t277 1 t290 t291 w _ ?side1 ?side2 A109.out).mono ?_); (case side1 => repeat (first | (with_reducible first | exact HB.out | apply below_alloc | apply pw_below_drewN | apply below_drew1 | refine below_set ?_ GE256.out | refine below_set ?_ GE268.out | refine below_set ?_ GE273.out | refine below_set ?_ GE280.out) | exact HB.out)); (case side2 => exact Kd.R_tight rfl HO_281000.out); rintro e w116 ⟨rfl, hy0, hb, hkp⟩; refine ⟨_, rfl, ?_⟩; have n0_ := Aside0.mk (Kd.R_mono (ok' := fun k_ => some k_ ≠ (.slice Ao27 t288.length co27 : Value).ownBlock ∧ some k_ ≠ (.slice Ao33 t274.length co33 : Value).ownBlock) (Kd.R_keptB (HO_269000.out) hkp (fun k_ hk_ hs_ => (hk_.2) hs_)) (fun k_ hk_ => ⟨hk_.1.1, hk_.1.2⟩)); have n1_ := Aside0.mk (Kd.R_mono (ok' := fun k_ => some k_ ≠ (.slice Ao21 t262.length co21 : Value).ownBlock ∧ some k_ ≠ (.slice Ao33 t274.length co33 : Value).ownBlock) (Kd.R_keptB (HO_274000.out) hkp (fun k_ hk_ hs_ => (hk_.2) hs_)) (fun k_ hk_ => ⟨hk_.1.1, hk_.1.2⟩)); have n2_ := Aside0.mk (Kd.R_reok rfl hy0 (fun k_ e_ => HO_281000.out.1 k_ e_)); have n3_ := Aside0.mk (blk_kept (by (with_reducible repeat (first | refine blk_drewN ?_ _ | refine blk_drew ?_ | refine blk_alloc ?_ _)); exact BK256.out) hkp (fun hs_ => (fun e_ => (Kd.R_ne HO_281000.out BK256.out (by decide)) e_) hs_)); have n4_ := Aside0.mk (blk_kept (by (with_reducible repeat (first | refine blk_drewN ?_ _ | refine blk_drew ?_ | refine blk_alloc ?_ _)); exact BK268.out) hkp (fun hs_ => (fun e_ => (Kd.R_ne HO_281000.out BK268.out (by decide)) e_) hs_)); have n5_ := Aside0.mk (blk_kept (by (with_reducible repeat (first | refine blk_drewN ?_ _ | refine blk_drew ?_ | refine blk_alloc ?_ _)); exact BK273.out) hkp (fun hs_ => (fun e_ => (Kd.R_ne HO_281000.out BK273.out (by decide)) e_) hs_)); have n6_ := Aside0.mk (blk_kept (by (with_reducible repeat (first | refine blk_drewN ?_ _ | refine blk_drew ?_ | refine blk_alloc ?_ _)); exact BK280.out) hkp (fun hs_ => (fun e_ => (Kd.R_ne HO_281000.out BK280.out (by decide)) e_) hs_)); have n7_ := Aside0.mk (hb); clear HO_269000; clear HO_274000; clear HO_281000; clear BK256; clear BK268; clear BK273; clear BK280; clear HB; have HO_269000 := n0_; have HO_274000 := n1_; have HO_281000 := n2_; have BK256 := n3_; have BK268 := n4_; have BK273 := n5_; have BK280 := n6_; have HB := n7_; clear n0_ n1_ n2_ n3_ n4_ n5_ n6_ n7_; (try clear hb); (try clear hkp); (try clear hy0); have hcz117_0 : w116.cell? ⟨gb280, 0, none⟩ = some (.slice Ao33 t274.length co33) := (blk_cell BK280.out 0).trans rfl; have hcz117_1 : w116.cell? ⟨gb280, 1, none⟩ = some (.int .i64 t277) := (blk_cell BK280.out 1).trans rfl; have hfz117_0 := blk_frozen BK280.out 0; have hfz117_1 := blk_frozen BK280.out 1) | ((with_reducible refine gate_callee (f := 28) rfl ?_); refine goesL_ (some 86) rfl rfl Try.func28 (by kernel_rfl) rfl #[.agg #[.slice Ao33 t291.length co33, .int .i64 t277], .int .i64 1] rfl (by (try simp only [List.map_toArray, List.map_cons, List.map_nil]); first | done | (rw [show t291.length = t274.length from (Kd.R_reads' HO_281000.out).1.symm] <;> rfl) | rfl | (simp only [List.length_drop, List.length_take]; rfl)) ?_; (with_reducible refine (laws_heldPunchJob.calls kj69 _ _ t291 t277 1 t292 _ ?side1 ?side2 A110.out).mono ?_); (case side1 => repeat (first | exact (Kd.R_reads' HO_281000.out).2.2 | (with_reducible refine Kd.C_alloc ?_ _) | (with_reducible refine Kd.C_drewN ?_ _) | (with_reducible refine Kd.C_drew ?_))); (case side2 => rw [show t291.length = t274.length from (Kd.R_reads' HO_281000.out).1.symm]; exact (Kd.R_reads' HO_281000.out).2.1); rintro e w118 ⟨rfl, hb⟩; refine ⟨_, rfl, ?_⟩; have n0_ := Aside0.mk (Kd.R_below (by (with_reducible repeat (first | apply Kd.R_alloc | apply Kd.R_drewN | apply Kd.R_drew)); exact HO_269000.out) hb); have n1_ := Aside0.mk (Kd.R_below (by (with_reducible repeat (first | apply Kd.R_alloc | apply Kd.R_drewN | apply Kd.R_drew)); exact HO_274000.out) hb); have n2_ := Aside0.mk (Kd.R_below (by (with_reducible repeat (first | apply Kd.R_alloc | apply Kd.R_drewN | apply Kd.R_drew)); exact HO_281000.out) hb); have n3_ := Aside0.mk (blk_below (g := gb256) (o := .cells #[.slice A0_0 l0_0.length c0_0, .int .i64 a0_1] 43 (0, 0)) (by (with_reducible repeat (first | refine blk_drewN ?_ _ | refine blk_drew ?_ | refine blk_alloc ?_ _)); exact BK256.out) hb); have n4_ := Aside0.mk (blk_below (g := gb268) (o := .cells #[.slice Ao21 t262.length co21, .int .i64 t265] 33 (0, 0)) (by (with_reducible repeat (first | refine blk_drewN ?_ _ | refine blk_drew ?_ | refine blk_alloc ?_ _)); exact BK268.out) hb); have n5_ := Aside0.mk (blk_below (g := gb273) (o := .cells #[.slice Ao27 t288.length co27, .int .i64 t272] 33 (0, 0)) (by (with_reducible repeat (first | refine blk_drewN ?_ _ | refine blk_drew ?_ | refine blk_alloc ?_ _)); exact BK273.out) hb); have n6_ := Aside0.mk (blk_below (g := gb280) (o := .cells #[.slice Ao33 t274.length co33, .int .i64 t277] 33 (0, 0)) (by (with_reducible repeat (first | refine blk_drewN ?_ _ | refine blk_drew ?_ | refine blk_alloc ?_ _)); exact BK280.out) hb); have n7_ := Aside0.mk (below_step (by repeat (first | (with_reducible first | exact HB.out | apply below_alloc | apply pw_below_drewN | apply below_drew1 | refine below_set ?_ GE256.out | refine below_set ?_ GE268.out | refine below_set ?_ GE273.out | refine below_set ?_ GE280.out) | exact HB.out)) hb); clear HO_269000; clear HO_274000; clear HO_281000; clear BK256; clear BK268; clear BK273; clear BK280; clear HB; have HO_269000 := n0_; have HO_274000 := n1_; have HO_281000 := n2_; have BK256 := n3_; have BK268 := n4_; have BK273 := n5_; have BK280 := n6_; have HB := n7_; clear n0_ n1_ n2_ n3_ n4_ n5_ n6_ n7_; (try clear hb); (try clear hb2); (try clear hk); (try clear hi)))
                    go_ret
                    exact ⟨by first | rfl | (simp [errW_none, errW_some] <;> rfl) | (simp [*, errW_none, errW_some] <;> rfl), by repeat (first | (with_reducible first | exact HB.out | apply below_alloc | apply pw_below_drewN | apply below_drew1 | refine below_set ?_ GE256.out | refine below_set ?_ GE268.out | refine below_set ?_ GE273.out | refine below_set ?_ GE280.out) | exact HB.out)⟩
                  · rw [if_neg c111] at H
                    have c111b0 : decide (t292 < 0) = false := decide_eq_false c111
                    clear c111
                    by_cases c119 : t292 = t290
                    · rw [if_pos c119] at H
                      have c119b0 : (t292 == t290) = true := beq_iff_eq.mpr c119
                      have c119b1 : (t292 != t290) = false := bne_eq_false_iff_eq.mpr c119
                      clear c119
                      replace H := Option.bind_eq_some_iff.mp H
                      obtain ⟨⟨t293, t296⟩, A1200, H⟩ := H
                      replace H : ((impl_MakeStrokes.f kj69 t293 t296 a1).bind fun bt297 => ((laws_eqPunchJob.f kj69 bt297.1 bt297.2.1 t262 t265).bind fun t304 => (if t304 = true then (if bt297.2.2.1 = t266 then (laws_FnExactMakeStrokes.j2 kj69 t290 (bt297.2.2.2 != t267) t291 t277) else (laws_FnExactMakeStrokes.j2 kj69 t290 true t291 t277)) else (laws_FnExactMakeStrokes.j2 kj69 t290 true t291 t277)))) = some r := H
                      have A120 := Aside0.mk A1200
                      clear A1200
                      replace H := Option.bind_eq_some_iff.mp H
                      obtain ⟨⟨t297, t300, t301, t302⟩, A1210, H⟩ := H
                      replace H : ((laws_eqPunchJob.f kj69 t297 t300 t262 t265).bind fun t304 => (if t304 = true then (if t301 = t266 then (laws_FnExactMakeStrokes.j2 kj69 t290 (t302 != t267) t291 t277) else (laws_FnExactMakeStrokes.j2 kj69 t290 true t291 t277)) else (laws_FnExactMakeStrokes.j2 kj69 t290 true t291 t277))) = some r := H
                      have A121 := Aside0.mk A1210
                      clear A1210
                      have HC122 := Aside0.mk H
                      clear H
                      have hnb123 := NB280_256.out
                      have hnc123 := NB256_280.out
                      have hnb124 := NB280_268.out
                      have hnc124 := NB268_280.out
                      have hnb125 := NB280_273.out
                      have hnc125 := NB273_280.out
                      have hcz126_0 : wc.cell? ⟨gb280, 0, none⟩ = some (.slice Ao33 t274.length co33) := (blk_cell BK280.out 0).trans rfl
                      have hcz126_1 : wc.cell? ⟨gb280, 1, none⟩ = some (.int .i64 t277) := (blk_cell BK280.out 1).trans rfl
                      have hfz126_0 := blk_frozen BK280.out 0
                      have hfz126_1 := blk_frozen BK280.out 1
                      go_upto_region 25 with (first | ((with_reducible refine gate_callee (f := 27) rfl ?_); refine goesL_ (some 83) rfl rfl Try.func27 (by kernel_rfl) rfl #[.agg #[.slice Ao33 t274.length co33, .int .i64 t277], .int .i64 1] rfl (by (try simp only [List.map_toArray, List.map_cons, List.map_nil]); first | done | rfl | (simp only [List.length_drop, List.length_take]; rfl)) ?_; (with_reducible refine (laws_markPunchJob.calls kj69 (fun k_ => some k_ = (.slice Ao33 t274.length co33 : Value).ownBlock) (.slice Ao33 t274.length co33) t274 t277 1 t290 t291 w _ ?side1 ?side2 A109.out).mono ?_); (case side1 => repeat (first | (with_reducible first | exact HB.out | apply below_alloc | apply pw_below_drewN | apply below_drew1 | refine below_set ?_ GE256.out | refine below_set ?_ GE268.out | refine below_set ?_ GE273.out | refine below_set ?_ GE280.out) | exact HB.out)); (case side2 => exact Kd.R_tight rfl HO_281000.out); rintro e w127 ⟨rfl, hy0, hb, hkp⟩; refine ⟨_, rfl, ?_⟩; have n0_ := Aside0.mk (Kd.R_mono (ok' := fun k_ => some k_ ≠ (.slice Ao27 t288.length co27 : Value).ownBlock ∧ some k_ ≠ (.slice Ao33 t274.length co33 : Value).ownBlock) (Kd.R_keptB (HO_269000.out) hkp (fun k_ hk_ hs_ => (hk_.2) hs_)) (fun k_ hk_ => ⟨hk_.1.1, hk_.1.2⟩)); have n1_ := Aside0.mk (Kd.R_mono (ok' := fun k_ => some k_ ≠ (.slice Ao21 t262.length co21 : Value).ownBlock ∧ some k_ ≠ (.slice Ao33 t274.length co33 : Value).ownBlock) (Kd.R_keptB (HO_274000.out) hkp (fun k_ hk_ hs_ => (hk_.2) hs_)) (fun k_ hk_ => ⟨hk_.1.1, hk_.1.2⟩)); have n2_ := Aside0.mk (Kd.R_reok rfl hy0 (fun k_ e_ => HO_281000.out.1 k_ e_)); have n3_ := Aside0.mk (blk_kept (by (with_reducible repeat (first | refine blk_drewN ?_ _ | refine blk_drew ?_ | refine blk_alloc ?_ _)); exact BK256.out) hkp (fun hs_ => (fun e_ => (Kd.R_ne HO_281000.out BK256.out (by decide)) e_) hs_)); have n4_ := Aside0.mk (blk_kept (by (with_reducible repeat (first | refine blk_drewN ?_ _ | refine blk_drew ?_ | refine blk_alloc ?_ _)); exact BK268.out) hkp (fun hs_ => (fun e_ => (Kd.R_ne HO_281000.out BK268.out (by decide)) e_) hs_)); have n5_ := Aside0.mk (blk_kept (by (with_reducible repeat (first | refine blk_drewN ?_ _ | refine blk_drew ?_ | refine blk_alloc ?_ _)); exact BK273.out) hkp (fun hs_ => (fun e_ => (Kd.R_ne HO_281000.out BK273.out (by decide)) e_) hs_)); have n6_ := Aside0.mk (blk_kept (by (with_reducible repeat (first | refine blk_drewN ?_ _ | refine blk_drew ?_ | refine blk_alloc ?_ _)); exact BK280.out) hkp (fun hs_ => (fun e_ => (Kd.R_ne HO_281000.out BK280.out (by decide)) e_) hs_)); have n7_ := Aside0.mk (hb); clear HO_269000; clear HO_274000; clear HO_281000; clear BK256; clear BK268; clear BK273; clear BK280; clear HB; have HO_269000 := n0_; have HO_274000 := n1_; have HO_281000 := n2_; have BK256 := n3_; have BK268 := n4_; have BK273 := n5_; have BK280 := n6_; have HB := n7_; clear n0_ n1_ n2_ n3_ n4_ n5_ n6_ n7_; (try clear hb); (try clear hkp); (try clear hy0); have hcz128_0 : w127.cell? ⟨gb280, 0, none⟩ = some (.slice Ao33 t274.length co33) := (blk_cell BK280.out 0).trans rfl; have hcz128_1 : w127.cell? ⟨gb280, 1, none⟩ = some (.int .i64 t277) := (blk_cell BK280.out 1).trans rfl; have hfz128_0 := blk_frozen BK280.out 0; have hfz128_1 := blk_frozen BK280.out 1) | ((with_reducible refine gate_callee (f := 28) rfl ?_); refine goesL_ (some 86) rfl rfl Try.func28 (by kernel_rfl) rfl #[.agg #[.slice Ao33 t291.length co33, .int .i64 t277], .int .i64 1] rfl (by (try simp only [List.map_toArray, List.map_cons, List.map_nil]); first | done | (rw [show t291.length = t274.length from (Kd.R_reads' HO_281000.out).1.symm] <;> rfl) | rfl | (simp only [List.length_drop, List.length_take]; rfl)) ?_; (with_reducible refine (laws_heldPunchJob.calls kj69 _ _ t291 t277 1 t292 _ ?side1 ?side2 A110.out).mono ?_); (case side1 => repeat (first | exact (Kd.R_reads' HO_281000.out).2.2 | (with_reducible refine Kd.C_alloc ?_ _) | (with_reducible refine Kd.C_drewN ?_ _) | (with_reducible refine Kd.C_drew ?_))); (case side2 => rw [show t291.length = t274.length from (Kd.R_reads' HO_281000.out).1.symm]; exact (Kd.R_reads' HO_281000.out).2.1); rintro e w129 ⟨rfl, hb⟩; refine ⟨_, rfl, ?_⟩; have n0_ := Aside0.mk (Kd.R_below (by (with_reducible repeat (first | apply Kd.R_alloc | apply Kd.R_drewN | apply Kd.R_drew)); exact HO_269000.out) hb); have n1_ := Aside0.mk (Kd.R_below (by (with_reducible repeat (first | apply Kd.R_alloc | apply Kd.R_drewN | apply Kd.R_drew)); exact HO_274000.out) hb); have n2_ := Aside0.mk (Kd.R_below (by (with_reducible repeat (first | apply Kd.R_alloc | apply Kd.R_drewN | apply Kd.R_drew)); exact HO_281000.out) hb); have n3_ := Aside0.mk (blk_below (g := gb256) (o := .cells #[.slice A0_0 l0_0.length c0_0, .int .i64 a0_1] 43 (0, 0)) (by (with_reducible repeat (first | refine blk_drewN ?_ _ | refine blk_drew ?_ | refine blk_alloc ?_ _)); exact BK256.out) hb); have n4_ := Aside0.mk (blk_below (g := gb268) (o := .cells #[.slice Ao21 t262.length co21, .int .i64 t265] 33 (0, 0)) (by (with_reducible repeat (first | refine blk_drewN ?_ _ | refine blk_drew ?_ | refine blk_alloc ?_ _)); exact BK268.out) hb); have n5_ := Aside0.mk (blk_below (g := gb273) (o := .cells #[.slice Ao27 t288.length co27, .int .i64 t272] 33 (0, 0)) (by (with_reducible repeat (first | refine blk_drewN ?_ _ | refine blk_drew ?_ | refine blk_alloc ?_ _)); exact BK273.out) hb); have n6_ := Aside0.mk (blk_below (g := gb280) (o := .cells #[.slice Ao33 t274.length co33, .int .i64 t277] 33 (0, 0)) (by (with_reducible repeat (first | refine blk_drewN ?_ _ | refine blk_drew ?_ | refine blk_alloc ?_ _)); exact BK280.out) hb); have n7_ := Aside0.mk (below_step (by repeat (first | (with_reducible first | exact HB.out | apply below_alloc | apply pw_below_drewN | apply below_drew1 | refine below_set ?_ GE256.out | refine below_set ?_ GE268.out | refine below_set ?_ GE273.out | refine below_set ?_ GE280.out) | exact HB.out)) hb); clear HO_269000; clear HO_274000; clear HO_281000; clear BK256; clear BK268; clear BK273; clear BK280; clear HB; have HO_269000 := n0_; have HO_274000 := n1_; have HO_281000 := n2_; have BK256 := n3_; have BK268 := n4_; have BK273 := n5_; have BK280 := n6_; have HB := n7_; clear n0_ n1_ n2_ n3_ n4_ n5_ n6_ n7_; (try clear hb); (try clear hb2); (try clear hk); (try clear hi); have hnb130 := NB256_268.out; have hnc130 := NB268_256.out; have hnb131 := NB256_273.out; have hnc131 := NB273_256.out; have hcz132_0 : w129.cell? ⟨gb256, 0, none⟩ = some (.slice A0_0 l0_0.length c0_0) := (blk_cell BK256.out 0).trans rfl; have hcz132_1 : w129.cell? ⟨gb256, 1, none⟩ = some (.int .i64 a0_1) := (blk_cell BK256.out 1).trans rfl; have hfz132_0 := blk_frozen BK256.out 0; have hfz132_1 := blk_frozen BK256.out 1) | ((with_reducible refine gate_callee (f := 31) rfl ?_); refine goesL_ (some 94) rfl rfl Try.func31 (by kernel_rfl) rfl #[.agg #[.slice A0_0 l0_0.length c0_0, .int .i64 a0_1]] rfl (by (try simp only [List.map_toArray, List.map_cons, List.map_nil]); first | done | rfl | (simp only [List.length_drop, List.length_take]; rfl)) ?_; (with_reducible refine (laws_toPunchJob.calls kj69 _ _ l0_0 a0_1 t293 t296 _ ?side1 ?side2 A120.out).mono ?_); (case side1 => repeat (first | exact (Kd.C_below HR0_0.out HB.out) | (with_reducible refine Kd.C_alloc ?_ _) | (with_reducible refine Kd.C_drewN ?_ _) | (with_reducible refine Kd.C_drew ?_))); (case side2 => exact HC0_0.out); rintro e w133 ⟨v294, rfl, ho0, hb⟩; refine ⟨_, rfl, ?_⟩; have n0_ := Aside0.mk (Kd.R_elder' (by (with_reducible repeat (first | apply Kd.R_alloc | apply Kd.R_drewN | apply Kd.R_drew)); exact HO_269000.out) (Kd.R_base ho0) hb); have n1_ := Aside0.mk (Kd.R_elder' (by (with_reducible repeat (first | apply Kd.R_alloc | apply Kd.R_drewN | apply Kd.R_drew)); exact HO_274000.out) (Kd.R_base ho0) hb); have n2_ := Aside0.mk (Kd.R_elder' (by (with_reducible repeat (first | apply Kd.R_alloc | apply Kd.R_drewN | apply Kd.R_drew)); exact HO_281000.out) (Kd.R_base ho0) hb); have n3_ := Aside0.mk (Kd.R_lower (Kd.R_new' (Kd.R_new' (Kd.R_new' ho0 (Kd.R_lt (by (with_reducible repeat (first | apply Kd.R_alloc | apply Kd.R_drewN | apply Kd.R_drew)); exact HO_269000.out))) (Kd.R_lt (by (with_reducible repeat (first | apply Kd.R_alloc | apply Kd.R_drewN | apply Kd.R_drew)); exact HO_274000.out))) (Kd.R_lt (by (with_reducible repeat (first | apply Kd.R_alloc | apply Kd.R_drewN | apply Kd.R_drew)); exact HO_281000.out))) (below_size (by repeat (first | (with_reducible first | exact HB.out | apply below_alloc | apply pw_below_drewN | apply below_drew1 | refine below_set ?_ GE256.out | refine below_set ?_ GE268.out | refine below_set ?_ GE273.out | refine below_set ?_ GE280.out) | exact HB.out)))); have n4_ := Aside0.mk (blk_below (g := gb256) (o := .cells #[.slice A0_0 l0_0.length c0_0, .int .i64 a0_1] 43 (0, 0)) (by (with_reducible repeat (first | refine blk_drewN ?_ _ | refine blk_drew ?_ | refine blk_alloc ?_ _)); exact BK256.out) hb); have n5_ := Aside0.mk (blk_below (g := gb268) (o := .cells #[.slice Ao21 t262.length co21, .int .i64 t265] 33 (0, 0)) (by (with_reducible repeat (first | refine blk_drewN ?_ _ | refine blk_drew ?_ | refine blk_alloc ?_ _)); exact BK268.out) hb); have n6_ := Aside0.mk (blk_below (g := gb273) (o := .cells #[.slice Ao27 t288.length co27, .int .i64 t272] 33 (0, 0)) (by (with_reducible repeat (first | refine blk_drewN ?_ _ | refine blk_drew ?_ | refine blk_alloc ?_ _)); exact BK273.out) hb); have n7_ := Aside0.mk (blk_below (g := gb280) (o := .cells #[.slice Ao33 t274.length co33, .int .i64 t277] 33 (0, 0)) (by (with_reducible repeat (first | refine blk_drewN ?_ _ | refine blk_drew ?_ | refine blk_alloc ?_ _)); exact BK280.out) hb); have n8_ := Aside0.mk (below_step (by repeat (first | (with_reducible first | exact HB.out | apply below_alloc | apply pw_below_drewN | apply below_drew1 | refine below_set ?_ GE256.out | refine below_set ?_ GE268.out | refine below_set ?_ GE273.out | refine below_set ?_ GE280.out) | exact HB.out)) hb); clear HO_269000; clear HO_274000; clear HO_281000; clear BK256; clear BK268; clear BK273; clear BK280; clear HB; have HO_269000 := n0_; have HO_274000 := n1_; have HO_281000 := n2_; have HO295 := n3_; have BK256 := n4_; have BK268 := n5_; have BK273 := n6_; have BK280 := n7_; have HB := n8_; clear n0_ n1_ n2_ n3_ n4_ n5_ n6_ n7_ n8_; (try clear hb); (try clear hb2); (try clear hk); (try clear hi); (try clear ho0); obtain ⟨Ao134, co134, eo134⟩ := Kd.R_slice HO295.out; subst eo134) | ((with_reducible refine gate_callee (f := 34) rfl ?_); refine goesL_ (some 96) rfl rfl Try.func34 (by kernel_rfl) rfl #[.agg #[.slice Ao134 t293.length co134, .int .i64 t296], .int .i64 a1] rfl (by (try simp only [List.map_toArray, List.map_cons, List.map_nil]); first | done | rfl | (simp only [List.length_drop, List.length_take]; rfl)) ?_; (with_reducible refine (impl_MakeStrokes.calls kj69 _ _ t293 t296 a1 t297 t300 t301 t302 _ ?side1 ?side2 A121.out).mono ?_); (case side1 => repeat (first | exact (Kd.R_reads' HO295.out).2.2 | (with_reducible refine Kd.C_alloc ?_ _) | (with_reducible refine Kd.C_drewN ?_ _) | (with_reducible refine Kd.C_drew ?_))); (case side2 => exact (Kd.R_reads' HO295.out).2.1); rintro e w135 ⟨v298, rfl, ho0, hb⟩; refine ⟨_, rfl, ?_⟩; have n0_ := Aside0.mk (Kd.R_elder' (by (with_reducible repeat (first | apply Kd.R_alloc | apply Kd.R_drewN | apply Kd.R_drew)); exact HO_269000.out) (Kd.R_base ho0) hb); have n1_ := Aside0.mk (Kd.R_elder' (by (with_reducible repeat (first | apply Kd.R_alloc | apply Kd.R_drewN | apply Kd.R_drew)); exact HO_274000.out) (Kd.R_base ho0) hb); have n2_ := Aside0.mk (Kd.R_elder' (by (with_reducible repeat (first | apply Kd.R_alloc | apply Kd.R_drewN | apply Kd.R_drew)); exact HO_281000.out) (Kd.R_base ho0) hb); have n3_ := Aside0.mk (Kd.R_elder' (by (with_reducible repeat (first | apply Kd.R_alloc | apply Kd.R_drewN | apply Kd.R_drew)); exact HO295.out) (Kd.R_base ho0) hb); have n4_ := Aside0.mk (Kd.R_lower (Kd.R_new' (Kd.R_new' (Kd.R_new' (Kd.R_new' ho0 (Kd.R_lt (by (with_reducible repeat (first | apply Kd.R_alloc | apply Kd.R_drewN | apply Kd.R_drew)); exact HO_269000.out))) (Kd.R_lt (by (with_reducible repeat (first | apply Kd.R_alloc | apply Kd.R_drewN | apply Kd.R_drew)); exact HO_274000.out))) (Kd.R_lt (by (with_reducible repeat (first | apply Kd.R_alloc | apply Kd.R_drewN | apply Kd.R_drew)); exact HO_281000.out))) (Kd.R_lt (by (with_reducible repeat (first | apply Kd.R_alloc | apply Kd.R_drewN | apply Kd.R_drew)); exact HO295.out))) (below_size (by repeat (first | (with_reducible first | exact HB.out | apply below_alloc | apply pw_below_drewN | apply below_drew1 | refine below_set ?_ GE256.out | refine below_set ?_ GE268.out | refine below_set ?_ GE273.out | refine below_set ?_ GE280.out) | exact HB.out)))); have n5_ := Aside0.mk (blk_below (g := gb256) (o := .cells #[.slice A0_0 l0_0.length c0_0, .int .i64 a0_1] 43 (0, 0)) (by (with_reducible repeat (first | refine blk_drewN ?_ _ | refine blk_drew ?_ | refine blk_alloc ?_ _)); exact BK256.out) hb); have n6_ := Aside0.mk (blk_below (g := gb268) (o := .cells #[.slice Ao21 t262.length co21, .int .i64 t265] 33 (0, 0)) (by (with_reducible repeat (first | refine blk_drewN ?_ _ | refine blk_drew ?_ | refine blk_alloc ?_ _)); exact BK268.out) hb); have n7_ := Aside0.mk (blk_below (g := gb273) (o := .cells #[.slice Ao27 t288.length co27, .int .i64 t272] 33 (0, 0)) (by (with_reducible repeat (first | refine blk_drewN ?_ _ | refine blk_drew ?_ | refine blk_alloc ?_ _)); exact BK273.out) hb); have n8_ := Aside0.mk (blk_below (g := gb280) (o := .cells #[.slice Ao33 t274.length co33, .int .i64 t277] 33 (0, 0)) (by (with_reducible repeat (first | refine blk_drewN ?_ _ | refine blk_drew ?_ | refine blk_alloc ?_ _)); exact BK280.out) hb); have n9_ := Aside0.mk (below_step (by repeat (first | (with_reducible first | exact HB.out | apply below_alloc | apply pw_below_drewN | apply below_drew1 | refine below_set ?_ GE256.out | refine below_set ?_ GE268.out | refine below_set ?_ GE273.out | refine below_set ?_ GE280.out) | exact HB.out)) hb); clear HO_269000; clear HO_274000; clear HO_281000; clear HO295; clear BK256; clear BK268; clear BK273; clear BK280; clear HB; have HO_269000 := n0_; have HO_274000 := n1_; have HO_281000 := n2_; have HO295 := n3_; have HO299 := n4_; have BK256 := n5_; have BK268 := n6_; have BK273 := n7_; have BK280 := n8_; have HB := n9_; clear n0_ n1_ n2_ n3_ n4_ n5_ n6_ n7_ n8_ n9_; (try clear hb); (try clear hb2); (try clear hk); (try clear hi); (try clear ho0)) | ((with_reducible refine gate_dst (N := 16) rfl ?_); refine box_event ?hg (N := 16) ?hd (cs := #[.slice none 0 0, .int .i64 0]) (t := 33) ?hr ?_; (case hd => rfl); (case hg => rfl); (case hr => first | (go_simp; done) | (go_simp; rfl)); intro gb303 hg w136 hbox hb; have n0_ := Aside0.mk (Kd.R_below (by (with_reducible repeat (first | apply Kd.R_alloc | apply Kd.R_drewN | apply Kd.R_drew)); exact HO_269000.out) hb); have n1_ := Aside0.mk (Kd.R_below (by (with_reducible repeat (first | apply Kd.R_alloc | apply Kd.R_drewN | apply Kd.R_drew)); exact HO_274000.out) hb); have n2_ := Aside0.mk (Kd.R_below (by (with_reducible repeat (first | apply Kd.R_alloc | apply Kd.R_drewN | apply Kd.R_drew)); exact HO_281000.out) hb); have n3_ := Aside0.mk (Kd.R_below (by (with_reducible repeat (first | apply Kd.R_alloc | apply Kd.R_drewN | apply Kd.R_drew)); exact HO295.out) hb); have n4_ := Aside0.mk (Kd.R_below (by (with_reducible repeat (first | apply Kd.R_alloc | apply Kd.R_drewN | apply Kd.R_drew)); exact HO299.out) hb); have n5_ := Aside0.mk (blk_below (g := gb256) (o := .cells #[.slice A0_0 l0_0.length c0_0, .int .i64 a0_1] 43 (0, 0)) (by (with_reducible repeat (first | refine blk_drewN ?_ _ | refine blk_drew ?_ | refine blk_alloc ?_ _)); exact BK256.out) hb); have n6_ := Aside0.mk (blk_below (g := gb268) (o := .cells #[.slice Ao21 t262.length co21, .int .i64 t265] 33 (0, 0)) (by (with_reducible repeat (first | refine blk_drewN ?_ _ | refine blk_drew ?_ | refine blk_alloc ?_ _)); exact BK268.out) hb); have n7_ := Aside0.mk (blk_below (g := gb273) (o := .cells #[.slice Ao27 t288.length co27, .int .i64 t272] 33 (0, 0)) (by (with_reducible repeat (first | refine blk_drewN ?_ _ | refine blk_drew ?_ | refine blk_alloc ?_ _)); exact BK273.out) hb); have n8_ := Aside0.mk (blk_below (g := gb280) (o := .cells #[.slice Ao33 t274.length co33, .int .i64 t277] 33 (0, 0)) (by (with_reducible repeat (first | refine blk_drewN ?_ _ | refine blk_drew ?_ | refine blk_alloc ?_ _)); exact BK280.out) hb); have n9_ := Aside0.mk (below_step (by repeat (first | (with_reducible first | exact HB.out | apply below_alloc | apply pw_below_drewN | apply below_drew1 | refine below_set ?_ GE256.out | refine below_set ?_ GE268.out | refine below_set ?_ GE273.out | refine below_set ?_ GE280.out) | exact HB.out)) hb); have n10_ := Aside0.mk (hbox); have n11_ := Aside0.mk ((by rw [hg]; exact (below_size (by repeat (first | (with_reducible first | exact HB.out | apply below_alloc | apply pw_below_drewN | apply below_drew1 | refine below_set ?_ GE256.out | refine below_set ?_ GE268.out | refine below_set ?_ GE273.out | refine below_set ?_ GE280.out) | exact HB.out))) : w.heap.size ≤ gb303)); have n12_ := Aside0.mk ((by rw [hg]; exact (below_size (by repeat (first | (with_reducible first | exact HB.out | apply below_alloc | apply pw_below_drewN | apply below_drew1 | refine below_set ?_ GE256.out | refine below_set ?_ GE268.out | refine below_set ?_ GE273.out | refine below_set ?_ GE280.out) | exact HB.out))) : w.heap.size ≤ gb303)); have n13_ := Aside0.mk ((by rw [hg]; exact Nat.ne_of_lt (blk_lt (g := gb256) (o := .cells #[.slice A0_0 l0_0.length c0_0, .int .i64 a0_1] 43 (0, 0)) (by (with_reducible repeat (first | refine blk_drewN ?_ _ | refine blk_drew ?_ | refine blk_alloc ?_ _)); exact BK256.out)) : gb256 ≠ gb303)); have n14_ := Aside0.mk ((by rw [hg]; exact Nat.ne_of_gt (blk_lt (g := gb256) (o := .cells #[.slice A0_0 l0_0.length c0_0, .int .i64 a0_1] 43 (0, 0)) (by (with_reducible repeat (first | refine blk_drewN ?_ _ | refine blk_drew ?_ | refine blk_alloc ?_ _)); exact BK256.out)) : gb303 ≠ gb256)); have n15_ := Aside0.mk ((by rw [hg]; exact Nat.ne_of_lt (blk_lt (g := gb268) (o := .cells #[.slice Ao21 t262.length co21, .int .i64 t265] 33 (0, 0)) (by (with_reducible repeat (first | refine blk_drewN ?_ _ | refine blk_drew ?_ | refine blk_alloc ?_ _)); exact BK268.out)) : gb268 ≠ gb303)); have n16_ := Aside0.mk ((by rw [hg]; exact Nat.ne_of_gt (blk_lt (g := gb268) (o := .cells #[.slice Ao21 t262.length co21, .int .i64 t265] 33 (0, 0)) (by (with_reducible repeat (first | refine blk_drewN ?_ _ | refine blk_drew ?_ | refine blk_alloc ?_ _)); exact BK268.out)) : gb303 ≠ gb268)); have n17_ := Aside0.mk ((by rw [hg]; exact Nat.ne_of_lt (blk_lt (g := gb273) (o := .cells #[.slice Ao27 t288.length co27, .int .i64 t272] 33 (0, 0)) (by (with_reducible repeat (first | refine blk_drewN ?_ _ | refine blk_drew ?_ | refine blk_alloc ?_ _)); exact BK273.out)) : gb273 ≠ gb303)); have n18_ := Aside0.mk ((by rw [hg]; exact Nat.ne_of_gt (blk_lt (g := gb273) (o := .cells #[.slice Ao27 t288.length co27, .int .i64 t272] 33 (0, 0)) (by (with_reducible repeat (first | refine blk_drewN ?_ _ | refine blk_drew ?_ | refine blk_alloc ?_ _)); exact BK273.out)) : gb303 ≠ gb273)); have n19_ := Aside0.mk ((by rw [hg]; exact Nat.ne_of_lt (blk_lt (g := gb280) (o := .cells #[.slice Ao33 t274.length co33, .int .i64 t277] 33 (0, 0)) (by (with_reducible repeat (first | refine blk_drewN ?_ _ | refine blk_drew ?_ | refine blk_alloc ?_ _)); exact BK280.out)) : gb280 ≠ gb303)); have n20_ := Aside0.mk ((by rw [hg]; exact Nat.ne_of_gt (blk_lt (g := gb280) (o := .cells #[.slice Ao33 t274.length co33, .int .i64 t277] 33 (0, 0)) (by (with_reducible repeat (first | refine blk_drewN ?_ _ | refine blk_drew ?_ | refine blk_alloc ?_ _)); exact BK280.out)) : gb303 ≠ gb280)); clear HO_269000; clear HO_274000; clear HO_281000; clear HO295; clear HO299; clear BK256; clear BK268; clear BK273; clear BK280; clear HB; have HO_269000 := n0_; have HO_274000 := n1_; have HO_281000 := n2_; have HO295 := n3_; have HO299 := n4_; have BK256 := n5_; have BK268 := n6_; have BK273 := n7_; have BK280 := n8_; have HB := n9_; have BK303 := n10_; have GW303 := n11_; have GE303 := n12_; have NB256_303 := n13_; have NB303_256 := n14_; have NB268_303 := n15_; have NB303_268 := n16_; have NB273_303 := n17_; have NB303_273 := n18_; have NB280_303 := n19_; have NB303_280 := n20_; clear n0_ n1_ n2_ n3_ n4_ n5_ n6_ n7_ n8_ n9_ n10_ n11_ n12_ n13_ n14_ n15_ n16_ n17_ n18_ n19_ n20_; clear hb hbox hg; obtain ⟨Ao137, co137, eo137⟩ := Kd.R_slice HO299.out; subst eo137; have hnb138 := NB303_256.out; have hnc138 := NB256_303.out; have hnb139 := NB303_268.out; have hnc139 := NB268_303.out; have hnb140 := NB303_273.out; have hnc140 := NB273_303.out; have hnb141 := NB303_280.out; have hnc141 := NB280_303.out; have hcz142_0 : w136.cell? ⟨gb303, 0, none⟩ = some (.slice none 0 0) := (blk_cell BK303.out 0).trans rfl; have hcz142_1 : w136.cell? ⟨gb303, 1, none⟩ = some (.int .i64 0) := (blk_cell BK303.out 1).trans rfl; have hfz142_0 := blk_frozen BK303.out 0; have hfz142_1 := blk_frozen BK303.out 1))
                      (try simp only [Act.put, List.setIfInBounds_toArray, List.set_cons_zero, List.set_cons_succ])
                      go_cut [113] (fun v113 wc => ∃ (kq : Nat) (x113_121 : Bool), v113 = .bool x113_121 ∧ Aside0 (laws_FnExactMakeStrokes.j2 kq t290 x113_121 t291 t277 = some r) ∧ Aside0 (kq ≤ kj69) ∧ Aside0 (Kd.R k106 106 wc w.heap.size (fun k_ => some k_ ≠ ((.slice Ao27 t288.length co27) : Value).ownBlock ∧ some k_ ≠ ((.slice Ao33 t274.length co33) : Value).ownBlock ∧ some k_ ≠ ((.slice Ao137 t297.length co137) : Value).ownBlock) (.slice Ao21 t262.length co21) t262) ∧ Aside0 (Kd.R k106 106 wc w.heap.size (fun k_ => some k_ ≠ ((.slice Ao21 t262.length co21) : Value).ownBlock ∧ some k_ ≠ ((.slice Ao33 t274.length co33) : Value).ownBlock ∧ some k_ ≠ ((.slice Ao137 t297.length co137) : Value).ownBlock) (.slice Ao27 t288.length co27) t288) ∧ Aside0 (Kd.R k106 106 wc w.heap.size (fun k_ => some k_ ≠ ((.slice Ao21 t262.length co21) : Value).ownBlock ∧ some k_ ≠ ((.slice Ao27 t288.length co27) : Value).ownBlock ∧ some k_ ≠ ((.slice Ao137 t297.length co137) : Value).ownBlock) (.slice Ao33 t274.length co33) t291) ∧ Aside0 (Kd.R k106 106 wc w.heap.size (fun k_ => some k_ ≠ ((.slice Ao21 t262.length co21) : Value).ownBlock ∧ some k_ ≠ ((.slice Ao27 t288.length co27) : Value).ownBlock ∧ some k_ ≠ ((.slice Ao33 t274.length co33) : Value).ownBlock) (.slice Ao137 t297.length co137) t297) ∧ Aside0 (wc.heap[gb256]? = some (.cells #[(.slice A0_0 l0_0.length c0_0), .int .i64 a0_1] 43 (0, 0))) ∧ Aside0 (wc.heap[gb268]? = some (.cells #[(.slice Ao21 t262.length co21), .int .i64 t265] 33 (0, 0))) ∧ Aside0 (wc.heap[gb273]? = some (.cells #[(.slice Ao27 t288.length co27), .int .i64 t272] 33 (0, 0))) ∧ Aside0 (wc.heap[gb280]? = some (.cells #[(.slice Ao33 t274.length co33), .int .i64 t277] 33 (0, 0))) ∧ Aside0 (wc.heap[gb303]? = some (.cells #[(.slice Ao137 t297.length co137), .int .i64 t300] 33 (0, 0))) ∧ Aside0 (Below w.heap.size w wc))
                      case first =>
                        have H := HC122.out
                        clear HC122
                        replace H := Option.bind_eq_some_iff.mp H
                        obtain ⟨t304, A1430, H⟩ := H
                        replace H : (if t304 = true then (if t301 = t266 then (laws_FnExactMakeStrokes.j2 kj69 t290 (t302 != t267) t291 t277) else (laws_FnExactMakeStrokes.j2 kj69 t290 true t291 t277)) else (laws_FnExactMakeStrokes.j2 kj69 t290 true t291 t277)) = some r := H
                        have A143 := Aside0.mk A1430
                        clear A1430
                        by_cases c144 : t304 = true
                        · subst c144
                          have H1 : (if t301 = t266 then (laws_FnExactMakeStrokes.j2 kj69 t290 (t302 != t267) t291 t277) else (laws_FnExactMakeStrokes.j2 kj69 t290 true t291 t277)) = some r := by rw [if_pos rfl] at H; exact H
                          clear H
                          have H := H1
                          clear H1
                          by_cases c145 : t301 = t266
                          · rw [if_pos c145] at H
                            have c145b0 : (t301 == t266) = true := beq_iff_eq.mpr c145
                            have c145b1 : (t301 != t266) = false := bne_eq_false_iff_eq.mpr c145
                            clear c145
                            (first | rw [c145b0] | (simp only [i64_w, i32_w]; rw [c145b0]) | skip)
                            have H' := Aside0.mk H
                            clear H
                            have hnb146 := NB303_256.out
                            have hnc146 := NB256_303.out
                            have hnb147 := NB303_268.out
                            have hnc147 := NB268_303.out
                            have hnb148 := NB303_273.out
                            have hnc148 := NB273_303.out
                            have hnb149 := NB303_280.out
                            have hnc149 := NB280_303.out
                            have hcz150_0 : w136.cell? ⟨gb303, 0, none⟩ = some (.slice none 0 0) := (blk_cell BK303.out 0).trans rfl
                            have hcz150_1 : w136.cell? ⟨gb303, 1, none⟩ = some (.int .i64 0) := (blk_cell BK303.out 1).trans rfl
                            have hfz150_0 := blk_frozen BK303.out 0
                            have hfz150_1 := blk_frozen BK303.out 1
                            have hnb151 := NB268_256.out
                            have hnc151 := NB256_268.out
                            have hnb152 := NB268_273.out
                            have hnc152 := NB273_268.out
                            have hnb153 := NB268_280.out
                            have hnc153 := NB280_268.out
                            have hcz154_0 : w136.cell? ⟨gb268, 0, none⟩ = some (.slice Ao21 t262.length co21) := (blk_cell BK268.out 0).trans rfl
                            have hcz154_1 : w136.cell? ⟨gb268, 1, none⟩ = some (.int .i64 t265) := (blk_cell BK268.out 1).trans rfl
                            have hfz154_0 := blk_frozen BK268.out 0
                            have hfz154_1 := blk_frozen BK268.out 1
                            go_wp2_with (first | ((with_reducible refine gate_callee (f := 24) rfl ?_); refine goesL_ (some 102) rfl rfl Try.func24 (by kernel_rfl) rfl #[.agg #[.slice Ao137 t297.length co137, .int .i64 t300], .agg #[.slice Ao21 t262.length co21, .int .i64 t265]] rfl (by (try simp only [List.map_toArray, List.map_cons, List.map_nil]); first | done | rfl | (simp only [List.length_drop, List.length_take]; rfl)) ?_; (with_reducible refine (laws_eqPunchJob.calls kj69 _ _ t297 t300 _ _ t262 t265 true _ ?side1 ?side2 ?side3 ?side4 A143.out).mono ?_); (case side1 => refine (Kd.R_reads' (e := 106) (base := w.heap.size) (ok := fun k_ => ((((True ∧ some k_ ≠ (.slice Ao21 t262.length co21 : Value).ownBlock) ∧ some k_ ≠ (.slice Ao27 t288.length co27 : Value).ownBlock) ∧ some k_ ≠ (.slice Ao33 t274.length co33 : Value).ownBlock) ∧ some k_ ≠ (.slice Ao134 t293.length co134 : Value).ownBlock)) (n := t297.length) (c := co137) ?_).2.2; exact (by (with_reducible repeat (first | apply Kd.R_alloc | apply Kd.R_drewN | apply Kd.R_drew)); exact (Kd.R_mono (Kd.R_far (p := ⟨gb303, 1, none⟩) (Kd.R_far (p := ⟨gb303, 0, none⟩) (Kd.R_types HO299.out BK303.out (by decide)) (fun _ hk => hk.2) (.slice Ao137 t297.length co137)) (fun _ hk => hk.2) (.int .i64 t300)) (fun _ h_ => h_.1)))); (case side2 => exact (Kd.R_reads' HO299.out).2.1); (case side3 => refine (Kd.R_reads' (e := 106) (base := w.heap.size) (ok := fun k_ => (((some k_ ≠ (.slice Ao27 t288.length co27 : Value).ownBlock ∧ some k_ ≠ (.slice Ao33 t274.length co33 : Value).ownBlock) ∧ some k_ ≠ (.slice Ao134 t293.length co134 : Value).ownBlock) ∧ some k_ ≠ (.slice Ao137 t297.length co137 : Value).ownBlock)) (n := t262.length) (c := co21) ?_).2.2; exact (by (with_reducible repeat (first | apply Kd.R_alloc | apply Kd.R_drewN | apply Kd.R_drew)); exact (Kd.R_mono (Kd.R_far (p := ⟨gb303, 1, none⟩) (Kd.R_far (p := ⟨gb303, 0, none⟩) (Kd.R_types HO_269000.out BK303.out (by decide)) (fun _ hk => hk.2) (.slice Ao137 t297.length co137)) (fun _ hk => hk.2) (.int .i64 t300)) (fun _ h_ => h_.1)))); (case side4 => exact (Kd.R_reads' HO_269000.out).2.1); rintro e w155 ⟨rfl, hb⟩; refine ⟨_, rfl, ?_⟩; have n0_ := Aside0.mk (Kd.R_below (by (with_reducible repeat (first | apply Kd.R_alloc | apply Kd.R_drewN | apply Kd.R_drew)); exact (Kd.R_mono (Kd.R_far (p := ⟨gb303, 1, none⟩) (Kd.R_far (p := ⟨gb303, 0, none⟩) (Kd.R_types HO_269000.out BK303.out (by decide)) (fun _ hk => hk.2) (.slice Ao137 t297.length co137)) (fun _ hk => hk.2) (.int .i64 t300)) (fun _ h_ => h_.1))) hb); have n1_ := Aside0.mk (Kd.R_below (by (with_reducible repeat (first | apply Kd.R_alloc | apply Kd.R_drewN | apply Kd.R_drew)); exact (Kd.R_mono (Kd.R_far (p := ⟨gb303, 1, none⟩) (Kd.R_far (p := ⟨gb303, 0, none⟩) (Kd.R_types HO_274000.out BK303.out (by decide)) (fun _ hk => hk.2) (.slice Ao137 t297.length co137)) (fun _ hk => hk.2) (.int .i64 t300)) (fun _ h_ => h_.1))) hb); have n2_ := Aside0.mk (Kd.R_below (by (with_reducible repeat (first | apply Kd.R_alloc | apply Kd.R_drewN | apply Kd.R_drew)); exact (Kd.R_mono (Kd.R_far (p := ⟨gb303, 1, none⟩) (Kd.R_far (p := ⟨gb303, 0, none⟩) (Kd.R_types HO_281000.out BK303.out (by decide)) (fun _ hk => hk.2) (.slice Ao137 t297.length co137)) (fun _ hk => hk.2) (.int .i64 t300)) (fun _ h_ => h_.1))) hb); have n3_ := Aside0.mk (Kd.R_below (by (with_reducible repeat (first | apply Kd.R_alloc | apply Kd.R_drewN | apply Kd.R_drew)); exact (Kd.R_mono (Kd.R_far (p := ⟨gb303, 1, none⟩) (Kd.R_far (p := ⟨gb303, 0, none⟩) (Kd.R_types HO295.out BK303.out (by decide)) (fun _ hk => hk.2) (.slice Ao137 t297.length co137)) (fun _ hk => hk.2) (.int .i64 t300)) (fun _ h_ => h_.1))) hb); have n4_ := Aside0.mk (Kd.R_below (by (with_reducible repeat (first | apply Kd.R_alloc | apply Kd.R_drewN | apply Kd.R_drew)); exact (Kd.R_mono (Kd.R_far (p := ⟨gb303, 1, none⟩) (Kd.R_far (p := ⟨gb303, 0, none⟩) (Kd.R_types HO299.out BK303.out (by decide)) (fun _ hk => hk.2) (.slice Ao137 t297.length co137)) (fun _ hk => hk.2) (.int .i64 t300)) (fun _ h_ => h_.1))) hb); have n5_ := Aside0.mk (blk_below (g := gb256) (o := .cells #[.slice A0_0 l0_0.length c0_0, .int .i64 a0_1] 43 (0, 0)) (by (with_reducible repeat (first | refine blk_drewN ?_ _ | refine blk_drew ?_ | refine blk_alloc ?_ _)); refine blk_far ?_ NB256_303.out _; (with_reducible repeat (first | refine blk_drewN ?_ _ | refine blk_drew ?_ | refine blk_alloc ?_ _)); refine blk_far ?_ NB256_303.out _; (with_reducible repeat (first | refine blk_drewN ?_ _ | refine blk_drew ?_ | refine blk_alloc ?_ _)); exact BK256.out) hb); have n6_ := Aside0.mk (blk_below (g := gb268) (o := .cells #[.slice Ao21 t262.length co21, .int .i64 t265] 33 (0, 0)) (by (with_reducible repeat (first | refine blk_drewN ?_ _ | refine blk_drew ?_ | refine blk_alloc ?_ _)); refine blk_far ?_ NB268_303.out _; (with_reducible repeat (first | refine blk_drewN ?_ _ | refine blk_drew ?_ | refine blk_alloc ?_ _)); refine blk_far ?_ NB268_303.out _; (with_reducible repeat (first | refine blk_drewN ?_ _ | refine blk_drew ?_ | refine blk_alloc ?_ _)); exact BK268.out) hb); have n7_ := Aside0.mk (blk_below (g := gb273) (o := .cells #[.slice Ao27 t288.length co27, .int .i64 t272] 33 (0, 0)) (by (with_reducible repeat (first | refine blk_drewN ?_ _ | refine blk_drew ?_ | refine blk_alloc ?_ _)); refine blk_far ?_ NB273_303.out _; (with_reducible repeat (first | refine blk_drewN ?_ _ | refine blk_drew ?_ | refine blk_alloc ?_ _)); refine blk_far ?_ NB273_303.out _; (with_reducible repeat (first | refine blk_drewN ?_ _ | refine blk_drew ?_ | refine blk_alloc ?_ _)); exact BK273.out) hb); have n8_ := Aside0.mk (blk_below (g := gb280) (o := .cells #[.slice Ao33 t274.length co33, .int .i64 t277] 33 (0, 0)) (by (with_reducible repeat (first | refine blk_drewN ?_ _ | refine blk_drew ?_ | refine blk_alloc ?_ _)); refine blk_far ?_ NB280_303.out _; (with_reducible repeat (first | refine blk_drewN ?_ _ | refine blk_drew ?_ | refine blk_alloc ?_ _)); refine blk_far ?_ NB280_303.out _; (with_reducible repeat (first | refine blk_drewN ?_ _ | refine blk_drew ?_ | refine blk_alloc ?_ _)); exact BK280.out) hb); have n9_ := Aside0.mk (blk_below (g := gb303) (o := .cells #[.slice Ao137 t297.length co137, .int .i64 t300] 33 (0, 0)) (by (with_reducible repeat (first | refine blk_drewN ?_ _ | refine blk_drew ?_ | refine blk_alloc ?_ _)); refine blk_put (cs := #[.slice Ao137 t297.length co137, .int .i64 0]) ?_ 1 _ rfl; (with_reducible repeat (first | refine blk_drewN ?_ _ | refine blk_drew ?_ | refine blk_alloc ?_ _)); refine blk_put (cs := #[.slice none 0 0, .int .i64 0]) ?_ 0 _ rfl; (with_reducible repeat (first | refine blk_drewN ?_ _ | refine blk_drew ?_ | refine blk_alloc ?_ _)); exact BK303.out) hb); have n10_ := Aside0.mk (below_step (by repeat (first | (with_reducible first | exact HB.out | apply below_alloc | apply pw_below_drewN | apply below_drew1 | refine below_set ?_ GE256.out | refine below_set ?_ GE268.out | refine below_set ?_ GE273.out | refine below_set ?_ GE280.out | refine below_set ?_ GE303.out) | exact HB.out)) hb); clear HO_269000; clear HO_274000; clear HO_281000; clear HO295; clear HO299; clear BK256; clear BK268; clear BK273; clear BK280; clear BK303; clear HB; have HO_269000 := n0_; have HO_274000 := n1_; have HO_281000 := n2_; have HO295 := n3_; have HO299 := n4_; have BK256 := n5_; have BK268 := n6_; have BK273 := n7_; have BK280 := n8_; have BK303 := n9_; have HB := n10_; clear n0_ n1_ n2_ n3_ n4_ n5_ n6_ n7_ n8_ n9_ n10_; (try clear hb); (try clear hb2); (try clear hk); (try clear hi)))
                            go_meet
                            case rel => exact ⟨_, ((t302 != t267)), (by first | rfl | (simp; done) | (simp [*]; done)), H', ⟨by have := HJ11.out; have := HJ69.out; first | omega | exact Nat.le_refl _⟩, ⟨by (try simp only [hl274000_69]); (with_reducible repeat (first | apply Kd.R_alloc | apply Kd.R_drewN | apply Kd.R_drew)); exact Kd.R_mono HO_269000.out (fun _ hk => ⟨hk.1.1.1, ⟨hk.1.1.2, hk.2⟩⟩)⟩, ⟨by (try simp only [hl274000_69]); (with_reducible repeat (first | apply Kd.R_alloc | apply Kd.R_drewN | apply Kd.R_drew)); exact Kd.R_mono HO_274000.out (fun _ hk => ⟨hk.1.1.1, ⟨hk.1.1.2, hk.2⟩⟩)⟩, ⟨by (try simp only [hl274000_69]); (with_reducible repeat (first | apply Kd.R_alloc | apply Kd.R_drewN | apply Kd.R_drew)); exact Kd.R_mono HO_281000.out (fun _ hk => ⟨hk.1.1.1, ⟨hk.1.1.2, hk.2⟩⟩)⟩, ⟨by (try simp only [hl274000_69]); (with_reducible repeat (first | apply Kd.R_alloc | apply Kd.R_drewN | apply Kd.R_drew)); exact Kd.R_mono HO299.out (fun _ hk => ⟨hk.1.1.1.2, ⟨hk.1.1.2, hk.1.2⟩⟩)⟩, ⟨by (try simp only [hl274000_69]); (with_reducible repeat (first | refine blk_drewN ?_ _ | refine blk_drew ?_ | refine blk_alloc ?_ _)); exact BK256.out⟩, ⟨by (try simp only [hl274000_69]); (with_reducible repeat (first | refine blk_drewN ?_ _ | refine blk_drew ?_ | refine blk_alloc ?_ _)); exact BK268.out⟩, ⟨by (try simp only [hl274000_69]); (with_reducible repeat (first | refine blk_drewN ?_ _ | refine blk_drew ?_ | refine blk_alloc ?_ _)); exact BK273.out⟩, ⟨by (try simp only [hl274000_69]); (with_reducible repeat (first | refine blk_drewN ?_ _ | refine blk_drew ?_ | refine blk_alloc ?_ _)); exact BK280.out⟩, ⟨by (try simp only [hl274000_69]); (with_reducible repeat (first | refine blk_drewN ?_ _ | refine blk_drew ?_ | refine blk_alloc ?_ _)); exact BK303.out⟩, ⟨by repeat (first | (with_reducible first | exact HB.out | apply below_alloc | apply pw_below_drewN | apply below_drew1 | refine below_set ?_ GE256.out | refine below_set ?_ GE268.out | refine below_set ?_ GE273.out | refine below_set ?_ GE280.out | refine below_set ?_ GE303.out) | exact HB.out)⟩⟩
                          · rw [if_neg c145] at H
                            have c145b0 : (t301 == t266) = false := beq_eq_false_iff_ne.mpr c145
                            have c145b1 : (t301 != t266) = true := bne_iff_ne.mpr c145
                            (first | rw [c145b0] | (simp only [i64_w, i32_w]; rw [c145b0]) | skip)
                            have H' := Aside0.mk H
                            clear H
                            have hnb156 := NB303_256.out
                            have hnc156 := NB256_303.out
                            have hnb157 := NB303_268.out
                            have hnc157 := NB268_303.out
                            have hnb158 := NB303_273.out
                            have hnc158 := NB273_303.out
                            have hnb159 := NB303_280.out
                            have hnc159 := NB280_303.out
                            have hcz160_0 : w136.cell? ⟨gb303, 0, none⟩ = some (.slice none 0 0) := (blk_cell BK303.out 0).trans rfl
                            have hcz160_1 : w136.cell? ⟨gb303, 1, none⟩ = some (.int .i64 0) := (blk_cell BK303.out 1).trans rfl
                            have hfz160_0 := blk_frozen BK303.out 0
                            have hfz160_1 := blk_frozen BK303.out 1
                            have hnb161 := NB268_256.out
                            have hnc161 := NB256_268.out
                            have hnb162 := NB268_273.out
                            have hnc162 := NB273_268.out
                            have hnb163 := NB268_280.out
                            have hnc163 := NB280_268.out
                            have hcz164_0 : w136.cell? ⟨gb268, 0, none⟩ = some (.slice Ao21 t262.length co21) := (blk_cell BK268.out 0).trans rfl
                            have hcz164_1 : w136.cell? ⟨gb268, 1, none⟩ = some (.int .i64 t265) := (blk_cell BK268.out 1).trans rfl
                            have hfz164_0 := blk_frozen BK268.out 0
                            have hfz164_1 := blk_frozen BK268.out 1
                            go_wp2_with (first | ((with_reducible refine gate_callee (f := 24) rfl ?_); refine goesL_ (some 102) rfl rfl Try.func24 (by kernel_rfl) rfl #[.agg #[.slice Ao137 t297.length co137, .int .i64 t300], .agg #[.slice Ao21 t262.length co21, .int .i64 t265]] rfl (by (try simp only [List.map_toArray, List.map_cons, List.map_nil]); first | done | rfl | (simp only [List.length_drop, List.length_take]; rfl)) ?_; (with_reducible refine (laws_eqPunchJob.calls kj69 _ _ t297 t300 _ _ t262 t265 true _ ?side1 ?side2 ?side3 ?side4 A143.out).mono ?_); (case side1 => refine (Kd.R_reads' (e := 106) (base := w.heap.size) (ok := fun k_ => ((((True ∧ some k_ ≠ (.slice Ao21 t262.length co21 : Value).ownBlock) ∧ some k_ ≠ (.slice Ao27 t288.length co27 : Value).ownBlock) ∧ some k_ ≠ (.slice Ao33 t274.length co33 : Value).ownBlock) ∧ some k_ ≠ (.slice Ao134 t293.length co134 : Value).ownBlock)) (n := t297.length) (c := co137) ?_).2.2; exact (by (with_reducible repeat (first | apply Kd.R_alloc | apply Kd.R_drewN | apply Kd.R_drew)); exact (Kd.R_mono (Kd.R_far (p := ⟨gb303, 1, none⟩) (Kd.R_far (p := ⟨gb303, 0, none⟩) (Kd.R_types HO299.out BK303.out (by decide)) (fun _ hk => hk.2) (.slice Ao137 t297.length co137)) (fun _ hk => hk.2) (.int .i64 t300)) (fun _ h_ => h_.1)))); (case side2 => exact (Kd.R_reads' HO299.out).2.1); (case side3 => refine (Kd.R_reads' (e := 106) (base := w.heap.size) (ok := fun k_ => (((some k_ ≠ (.slice Ao27 t288.length co27 : Value).ownBlock ∧ some k_ ≠ (.slice Ao33 t274.length co33 : Value).ownBlock) ∧ some k_ ≠ (.slice Ao134 t293.length co134 : Value).ownBlock) ∧ some k_ ≠ (.slice Ao137 t297.length co137 : Value).ownBlock)) (n := t262.length) (c := co21) ?_).2.2; exact (by (with_reducible repeat (first | apply Kd.R_alloc | apply Kd.R_drewN | apply Kd.R_drew)); exact (Kd.R_mono (Kd.R_far (p := ⟨gb303, 1, none⟩) (Kd.R_far (p := ⟨gb303, 0, none⟩) (Kd.R_types HO_269000.out BK303.out (by decide)) (fun _ hk => hk.2) (.slice Ao137 t297.length co137)) (fun _ hk => hk.2) (.int .i64 t300)) (fun _ h_ => h_.1)))); (case side4 => exact (Kd.R_reads' HO_269000.out).2.1); rintro e w165 ⟨rfl, hb⟩; refine ⟨_, rfl, ?_⟩; have n0_ := Aside0.mk (Kd.R_below (by (with_reducible repeat (first | apply Kd.R_alloc | apply Kd.R_drewN | apply Kd.R_drew)); exact (Kd.R_mono (Kd.R_far (p := ⟨gb303, 1, none⟩) (Kd.R_far (p := ⟨gb303, 0, none⟩) (Kd.R_types HO_269000.out BK303.out (by decide)) (fun _ hk => hk.2) (.slice Ao137 t297.length co137)) (fun _ hk => hk.2) (.int .i64 t300)) (fun _ h_ => h_.1))) hb); have n1_ := Aside0.mk (Kd.R_below (by (with_reducible repeat (first | apply Kd.R_alloc | apply Kd.R_drewN | apply Kd.R_drew)); exact (Kd.R_mono (Kd.R_far (p := ⟨gb303, 1, none⟩) (Kd.R_far (p := ⟨gb303, 0, none⟩) (Kd.R_types HO_274000.out BK303.out (by decide)) (fun _ hk => hk.2) (.slice Ao137 t297.length co137)) (fun _ hk => hk.2) (.int .i64 t300)) (fun _ h_ => h_.1))) hb); have n2_ := Aside0.mk (Kd.R_below (by (with_reducible repeat (first | apply Kd.R_alloc | apply Kd.R_drewN | apply Kd.R_drew)); exact (Kd.R_mono (Kd.R_far (p := ⟨gb303, 1, none⟩) (Kd.R_far (p := ⟨gb303, 0, none⟩) (Kd.R_types HO_281000.out BK303.out (by decide)) (fun _ hk => hk.2) (.slice Ao137 t297.length co137)) (fun _ hk => hk.2) (.int .i64 t300)) (fun _ h_ => h_.1))) hb); have n3_ := Aside0.mk (Kd.R_below (by (with_reducible repeat (first | apply Kd.R_alloc | apply Kd.R_drewN | apply Kd.R_drew)); exact (Kd.R_mono (Kd.R_far (p := ⟨gb303, 1, none⟩) (Kd.R_far (p := ⟨gb303, 0, none⟩) (Kd.R_types HO295.out BK303.out (by decide)) (fun _ hk => hk.2) (.slice Ao137 t297.length co137)) (fun _ hk => hk.2) (.int .i64 t300)) (fun _ h_ => h_.1))) hb); have n4_ := Aside0.mk (Kd.R_below (by (with_reducible repeat (first | apply Kd.R_alloc | apply Kd.R_drewN | apply Kd.R_drew)); exact (Kd.R_mono (Kd.R_far (p := ⟨gb303, 1, none⟩) (Kd.R_far (p := ⟨gb303, 0, none⟩) (Kd.R_types HO299.out BK303.out (by decide)) (fun _ hk => hk.2) (.slice Ao137 t297.length co137)) (fun _ hk => hk.2) (.int .i64 t300)) (fun _ h_ => h_.1))) hb); have n5_ := Aside0.mk (blk_below (g := gb256) (o := .cells #[.slice A0_0 l0_0.length c0_0, .int .i64 a0_1] 43 (0, 0)) (by (with_reducible repeat (first | refine blk_drewN ?_ _ | refine blk_drew ?_ | refine blk_alloc ?_ _)); refine blk_far ?_ NB256_303.out _; (with_reducible repeat (first | refine blk_drewN ?_ _ | refine blk_drew ?_ | refine blk_alloc ?_ _)); refine blk_far ?_ NB256_303.out _; (with_reducible repeat (first | refine blk_drewN ?_ _ | refine blk_drew ?_ | refine blk_alloc ?_ _)); exact BK256.out) hb); have n6_ := Aside0.mk (blk_below (g := gb268) (o := .cells #[.slice Ao21 t262.length co21, .int .i64 t265] 33 (0, 0)) (by (with_reducible repeat (first | refine blk_drewN ?_ _ | refine blk_drew ?_ | refine blk_alloc ?_ _)); refine blk_far ?_ NB268_303.out _; (with_reducible repeat (first | refine blk_drewN ?_ _ | refine blk_drew ?_ | refine blk_alloc ?_ _)); refine blk_far ?_ NB268_303.out _; (with_reducible repeat (first | refine blk_drewN ?_ _ | refine blk_drew ?_ | refine blk_alloc ?_ _)); exact BK268.out) hb); have n7_ := Aside0.mk (blk_below (g := gb273) (o := .cells #[.slice Ao27 t288.length co27, .int .i64 t272] 33 (0, 0)) (by (with_reducible repeat (first | refine blk_drewN ?_ _ | refine blk_drew ?_ | refine blk_alloc ?_ _)); refine blk_far ?_ NB273_303.out _; (with_reducible repeat (first | refine blk_drewN ?_ _ | refine blk_drew ?_ | refine blk_alloc ?_ _)); refine blk_far ?_ NB273_303.out _; (with_reducible repeat (first | refine blk_drewN ?_ _ | refine blk_drew ?_ | refine blk_alloc ?_ _)); exact BK273.out) hb); have n8_ := Aside0.mk (blk_below (g := gb280) (o := .cells #[.slice Ao33 t274.length co33, .int .i64 t277] 33 (0, 0)) (by (with_reducible repeat (first | refine blk_drewN ?_ _ | refine blk_drew ?_ | refine blk_alloc ?_ _)); refine blk_far ?_ NB280_303.out _; (with_reducible repeat (first | refine blk_drewN ?_ _ | refine blk_drew ?_ | refine blk_alloc ?_ _)); refine blk_far ?_ NB280_303.out _; (with_reducible repeat (first | refine blk_drewN ?_ _ | refine blk_drew ?_ | refine blk_alloc ?_ _)); exact BK280.out) hb); have n9_ := Aside0.mk (blk_below (g := gb303) (o := .cells #[.slice Ao137 t297.length co137, .int .i64 t300] 33 (0, 0)) (by (with_reducible repeat (first | refine blk_drewN ?_ _ | refine blk_drew ?_ | refine blk_alloc ?_ _)); refine blk_put (cs := #[.slice Ao137 t297.length co137, .int .i64 0]) ?_ 1 _ rfl; (with_reducible repeat (first | refine blk_drewN ?_ _ | refine blk_drew ?_ | refine blk_alloc ?_ _)); refine blk_put (cs := #[.slice none 0 0, .int .i64 0]) ?_ 0 _ rfl; (with_reducible repeat (first | refine blk_drewN ?_ _ | refine blk_drew ?_ | refine blk_alloc ?_ _)); exact BK303.out) hb); have n10_ := Aside0.mk (below_step (by repeat (first | (with_reducible first | exact HB.out | apply below_alloc | apply pw_below_drewN | apply below_drew1 | refine below_set ?_ GE256.out | refine below_set ?_ GE268.out | refine below_set ?_ GE273.out | refine below_set ?_ GE280.out | refine below_set ?_ GE303.out) | exact HB.out)) hb); clear HO_269000; clear HO_274000; clear HO_281000; clear HO295; clear HO299; clear BK256; clear BK268; clear BK273; clear BK280; clear BK303; clear HB; have HO_269000 := n0_; have HO_274000 := n1_; have HO_281000 := n2_; have HO295 := n3_; have HO299 := n4_; have BK256 := n5_; have BK268 := n6_; have BK273 := n7_; have BK280 := n8_; have BK303 := n9_; have HB := n10_; clear n0_ n1_ n2_ n3_ n4_ n5_ n6_ n7_ n8_ n9_ n10_; (try clear hb); (try clear hb2); (try clear hk); (try clear hi)))
                            go_meet
                            case rel => exact ⟨_, (true), (by first | rfl | (simp; done) | (simp [*]; done)), H', ⟨by have := HJ11.out; have := HJ69.out; first | omega | exact Nat.le_refl _⟩, ⟨by (try simp only [hl274000_69]); (with_reducible repeat (first | apply Kd.R_alloc | apply Kd.R_drewN | apply Kd.R_drew)); exact Kd.R_mono HO_269000.out (fun _ hk => ⟨hk.1.1.1, ⟨hk.1.1.2, hk.2⟩⟩)⟩, ⟨by (try simp only [hl274000_69]); (with_reducible repeat (first | apply Kd.R_alloc | apply Kd.R_drewN | apply Kd.R_drew)); exact Kd.R_mono HO_274000.out (fun _ hk => ⟨hk.1.1.1, ⟨hk.1.1.2, hk.2⟩⟩)⟩, ⟨by (try simp only [hl274000_69]); (with_reducible repeat (first | apply Kd.R_alloc | apply Kd.R_drewN | apply Kd.R_drew)); exact Kd.R_mono HO_281000.out (fun _ hk => ⟨hk.1.1.1, ⟨hk.1.1.2, hk.2⟩⟩)⟩, ⟨by (try simp only [hl274000_69]); (with_reducible repeat (first | apply Kd.R_alloc | apply Kd.R_drewN | apply Kd.R_drew)); exact Kd.R_mono HO299.out (fun _ hk => ⟨hk.1.1.1.2, ⟨hk.1.1.2, hk.1.2⟩⟩)⟩, ⟨by (try simp only [hl274000_69]); (with_reducible repeat (first | refine blk_drewN ?_ _ | refine blk_drew ?_ | refine blk_alloc ?_ _)); exact BK256.out⟩, ⟨by (try simp only [hl274000_69]); (with_reducible repeat (first | refine blk_drewN ?_ _ | refine blk_drew ?_ | refine blk_alloc ?_ _)); exact BK268.out⟩, ⟨by (try simp only [hl274000_69]); (with_reducible repeat (first | refine blk_drewN ?_ _ | refine blk_drew ?_ | refine blk_alloc ?_ _)); exact BK273.out⟩, ⟨by (try simp only [hl274000_69]); (with_reducible repeat (first | refine blk_drewN ?_ _ | refine blk_drew ?_ | refine blk_alloc ?_ _)); exact BK280.out⟩, ⟨by (try simp only [hl274000_69]); (with_reducible repeat (first | refine blk_drewN ?_ _ | refine blk_drew ?_ | refine blk_alloc ?_ _)); exact BK303.out⟩, ⟨by repeat (first | (with_reducible first | exact HB.out | apply below_alloc | apply pw_below_drewN | apply below_drew1 | refine below_set ?_ GE256.out | refine below_set ?_ GE268.out | refine below_set ?_ GE273.out | refine below_set ?_ GE280.out | refine below_set ?_ GE303.out) | exact HB.out)⟩⟩
                        · replace c144 := Bool.eq_false_iff.mpr c144
                          subst c144
                          have H1 : (laws_FnExactMakeStrokes.j2 kj69 t290 true t291 t277) = some r := by rw [if_neg (show ¬ (false = true) by decide)] at H; exact H
                          clear H
                          have H := H1
                          clear H1
                          have H' := Aside0.mk H
                          clear H
                          have hnb166 := NB303_256.out
                          have hnc166 := NB256_303.out
                          have hnb167 := NB303_268.out
                          have hnc167 := NB268_303.out
                          have hnb168 := NB303_273.out
                          have hnc168 := NB273_303.out
                          have hnb169 := NB303_280.out
                          have hnc169 := NB280_303.out
                          have hcz170_0 : w136.cell? ⟨gb303, 0, none⟩ = some (.slice none 0 0) := (blk_cell BK303.out 0).trans rfl
                          have hcz170_1 : w136.cell? ⟨gb303, 1, none⟩ = some (.int .i64 0) := (blk_cell BK303.out 1).trans rfl
                          have hfz170_0 := blk_frozen BK303.out 0
                          have hfz170_1 := blk_frozen BK303.out 1
                          have hnb171 := NB268_256.out
                          have hnc171 := NB256_268.out
                          have hnb172 := NB268_273.out
                          have hnc172 := NB273_268.out
                          have hnb173 := NB268_280.out
                          have hnc173 := NB280_268.out
                          have hcz174_0 : w136.cell? ⟨gb268, 0, none⟩ = some (.slice Ao21 t262.length co21) := (blk_cell BK268.out 0).trans rfl
                          have hcz174_1 : w136.cell? ⟨gb268, 1, none⟩ = some (.int .i64 t265) := (blk_cell BK268.out 1).trans rfl
                          have hfz174_0 := blk_frozen BK268.out 0
                          have hfz174_1 := blk_frozen BK268.out 1
                          go_wp2_with (first | ((with_reducible refine gate_callee (f := 24) rfl ?_); refine goesL_ (some 102) rfl rfl Try.func24 (by kernel_rfl) rfl #[.agg #[.slice Ao137 t297.length co137, .int .i64 t300], .agg #[.slice Ao21 t262.length co21, .int .i64 t265]] rfl (by (try simp only [List.map_toArray, List.map_cons, List.map_nil]); first | done | rfl | (simp only [List.length_drop, List.length_take]; rfl)) ?_; (with_reducible refine (laws_eqPunchJob.calls kj69 _ _ t297 t300 _ _ t262 t265 false _ ?side1 ?side2 ?side3 ?side4 A143.out).mono ?_); (case side1 => refine (Kd.R_reads' (e := 106) (base := w.heap.size) (ok := fun k_ => ((((True ∧ some k_ ≠ (.slice Ao21 t262.length co21 : Value).ownBlock) ∧ some k_ ≠ (.slice Ao27 t288.length co27 : Value).ownBlock) ∧ some k_ ≠ (.slice Ao33 t274.length co33 : Value).ownBlock) ∧ some k_ ≠ (.slice Ao134 t293.length co134 : Value).ownBlock)) (n := t297.length) (c := co137) ?_).2.2; exact (by (with_reducible repeat (first | apply Kd.R_alloc | apply Kd.R_drewN | apply Kd.R_drew)); exact (Kd.R_mono (Kd.R_far (p := ⟨gb303, 1, none⟩) (Kd.R_far (p := ⟨gb303, 0, none⟩) (Kd.R_types HO299.out BK303.out (by decide)) (fun _ hk => hk.2) (.slice Ao137 t297.length co137)) (fun _ hk => hk.2) (.int .i64 t300)) (fun _ h_ => h_.1)))); (case side2 => exact (Kd.R_reads' HO299.out).2.1); (case side3 => refine (Kd.R_reads' (e := 106) (base := w.heap.size) (ok := fun k_ => (((some k_ ≠ (.slice Ao27 t288.length co27 : Value).ownBlock ∧ some k_ ≠ (.slice Ao33 t274.length co33 : Value).ownBlock) ∧ some k_ ≠ (.slice Ao134 t293.length co134 : Value).ownBlock) ∧ some k_ ≠ (.slice Ao137 t297.length co137 : Value).ownBlock)) (n := t262.length) (c := co21) ?_).2.2; exact (by (with_reducible repeat (first | apply Kd.R_alloc | apply Kd.R_drewN | apply Kd.R_drew)); exact (Kd.R_mono (Kd.R_far (p := ⟨gb303, 1, none⟩) (Kd.R_far (p := ⟨gb303, 0, none⟩) (Kd.R_types HO_269000.out BK303.out (by decide)) (fun _ hk => hk.2) (.slice Ao137 t297.length co137)) (fun _ hk => hk.2) (.int .i64 t300)) (fun _ h_ => h_.1)))); (case side4 => exact (Kd.R_reads' HO_269000.out).2.1); rintro e w175 ⟨rfl, hb⟩; refine ⟨_, rfl, ?_⟩; have n0_ := Aside0.mk (Kd.R_below (by (with_reducible repeat (first | apply Kd.R_alloc | apply Kd.R_drewN | apply Kd.R_drew)); exact (Kd.R_mono (Kd.R_far (p := ⟨gb303, 1, none⟩) (Kd.R_far (p := ⟨gb303, 0, none⟩) (Kd.R_types HO_269000.out BK303.out (by decide)) (fun _ hk => hk.2) (.slice Ao137 t297.length co137)) (fun _ hk => hk.2) (.int .i64 t300)) (fun _ h_ => h_.1))) hb); have n1_ := Aside0.mk (Kd.R_below (by (with_reducible repeat (first | apply Kd.R_alloc | apply Kd.R_drewN | apply Kd.R_drew)); exact (Kd.R_mono (Kd.R_far (p := ⟨gb303, 1, none⟩) (Kd.R_far (p := ⟨gb303, 0, none⟩) (Kd.R_types HO_274000.out BK303.out (by decide)) (fun _ hk => hk.2) (.slice Ao137 t297.length co137)) (fun _ hk => hk.2) (.int .i64 t300)) (fun _ h_ => h_.1))) hb); have n2_ := Aside0.mk (Kd.R_below (by (with_reducible repeat (first | apply Kd.R_alloc | apply Kd.R_drewN | apply Kd.R_drew)); exact (Kd.R_mono (Kd.R_far (p := ⟨gb303, 1, none⟩) (Kd.R_far (p := ⟨gb303, 0, none⟩) (Kd.R_types HO_281000.out BK303.out (by decide)) (fun _ hk => hk.2) (.slice Ao137 t297.length co137)) (fun _ hk => hk.2) (.int .i64 t300)) (fun _ h_ => h_.1))) hb); have n3_ := Aside0.mk (Kd.R_below (by (with_reducible repeat (first | apply Kd.R_alloc | apply Kd.R_drewN | apply Kd.R_drew)); exact (Kd.R_mono (Kd.R_far (p := ⟨gb303, 1, none⟩) (Kd.R_far (p := ⟨gb303, 0, none⟩) (Kd.R_types HO295.out BK303.out (by decide)) (fun _ hk => hk.2) (.slice Ao137 t297.length co137)) (fun _ hk => hk.2) (.int .i64 t300)) (fun _ h_ => h_.1))) hb); have n4_ := Aside0.mk (Kd.R_below (by (with_reducible repeat (first | apply Kd.R_alloc | apply Kd.R_drewN | apply Kd.R_drew)); exact (Kd.R_mono (Kd.R_far (p := ⟨gb303, 1, none⟩) (Kd.R_far (p := ⟨gb303, 0, none⟩) (Kd.R_types HO299.out BK303.out (by decide)) (fun _ hk => hk.2) (.slice Ao137 t297.length co137)) (fun _ hk => hk.2) (.int .i64 t300)) (fun _ h_ => h_.1))) hb); have n5_ := Aside0.mk (blk_below (g := gb256) (o := .cells #[.slice A0_0 l0_0.length c0_0, .int .i64 a0_1] 43 (0, 0)) (by (with_reducible repeat (first | refine blk_drewN ?_ _ | refine blk_drew ?_ | refine blk_alloc ?_ _)); refine blk_far ?_ NB256_303.out _; (with_reducible repeat (first | refine blk_drewN ?_ _ | refine blk_drew ?_ | refine blk_alloc ?_ _)); refine blk_far ?_ NB256_303.out _; (with_reducible repeat (first | refine blk_drewN ?_ _ | refine blk_drew ?_ | refine blk_alloc ?_ _)); exact BK256.out) hb); have n6_ := Aside0.mk (blk_below (g := gb268) (o := .cells #[.slice Ao21 t262.length co21, .int .i64 t265] 33 (0, 0)) (by (with_reducible repeat (first | refine blk_drewN ?_ _ | refine blk_drew ?_ | refine blk_alloc ?_ _)); refine blk_far ?_ NB268_303.out _; (with_reducible repeat (first | refine blk_drewN ?_ _ | refine blk_drew ?_ | refine blk_alloc ?_ _)); refine blk_far ?_ NB268_303.out _; (with_reducible repeat (first | refine blk_drewN ?_ _ | refine blk_drew ?_ | refine blk_alloc ?_ _)); exact BK268.out) hb); have n7_ := Aside0.mk (blk_below (g := gb273) (o := .cells #[.slice Ao27 t288.length co27, .int .i64 t272] 33 (0, 0)) (by (with_reducible repeat (first | refine blk_drewN ?_ _ | refine blk_drew ?_ | refine blk_alloc ?_ _)); refine blk_far ?_ NB273_303.out _; (with_reducible repeat (first | refine blk_drewN ?_ _ | refine blk_drew ?_ | refine blk_alloc ?_ _)); refine blk_far ?_ NB273_303.out _; (with_reducible repeat (first | refine blk_drewN ?_ _ | refine blk_drew ?_ | refine blk_alloc ?_ _)); exact BK273.out) hb); have n8_ := Aside0.mk (blk_below (g := gb280) (o := .cells #[.slice Ao33 t274.length co33, .int .i64 t277] 33 (0, 0)) (by (with_reducible repeat (first | refine blk_drewN ?_ _ | refine blk_drew ?_ | refine blk_alloc ?_ _)); refine blk_far ?_ NB280_303.out _; (with_reducible repeat (first | refine blk_drewN ?_ _ | refine blk_drew ?_ | refine blk_alloc ?_ _)); refine blk_far ?_ NB280_303.out _; (with_reducible repeat (first | refine blk_drewN ?_ _ | refine blk_drew ?_ | refine blk_alloc ?_ _)); exact BK280.out) hb); have n9_ := Aside0.mk (blk_below (g := gb303) (o := .cells #[.slice Ao137 t297.length co137, .int .i64 t300] 33 (0, 0)) (by (with_reducible repeat (first | refine blk_drewN ?_ _ | refine blk_drew ?_ | refine blk_alloc ?_ _)); refine blk_put (cs := #[.slice Ao137 t297.length co137, .int .i64 0]) ?_ 1 _ rfl; (with_reducible repeat (first | refine blk_drewN ?_ _ | refine blk_drew ?_ | refine blk_alloc ?_ _)); refine blk_put (cs := #[.slice none 0 0, .int .i64 0]) ?_ 0 _ rfl; (with_reducible repeat (first | refine blk_drewN ?_ _ | refine blk_drew ?_ | refine blk_alloc ?_ _)); exact BK303.out) hb); have n10_ := Aside0.mk (below_step (by repeat (first | (with_reducible first | exact HB.out | apply below_alloc | apply pw_below_drewN | apply below_drew1 | refine below_set ?_ GE256.out | refine below_set ?_ GE268.out | refine below_set ?_ GE273.out | refine below_set ?_ GE280.out | refine below_set ?_ GE303.out) | exact HB.out)) hb); clear HO_269000; clear HO_274000; clear HO_281000; clear HO295; clear HO299; clear BK256; clear BK268; clear BK273; clear BK280; clear BK303; clear HB; have HO_269000 := n0_; have HO_274000 := n1_; have HO_281000 := n2_; have HO295 := n3_; have HO299 := n4_; have BK256 := n5_; have BK268 := n6_; have BK273 := n7_; have BK280 := n8_; have BK303 := n9_; have HB := n10_; clear n0_ n1_ n2_ n3_ n4_ n5_ n6_ n7_ n8_ n9_ n10_; (try clear hb); (try clear hb2); (try clear hk); (try clear hi)))
                          go_meet
                          case rel => exact ⟨_, (true), (by first | rfl | (simp; done) | (simp [*]; done)), H', ⟨by have := HJ11.out; have := HJ69.out; first | omega | exact Nat.le_refl _⟩, ⟨by (try simp only [hl274000_69]); (with_reducible repeat (first | apply Kd.R_alloc | apply Kd.R_drewN | apply Kd.R_drew)); exact Kd.R_mono HO_269000.out (fun _ hk => ⟨hk.1.1.1, ⟨hk.1.1.2, hk.2⟩⟩)⟩, ⟨by (try simp only [hl274000_69]); (with_reducible repeat (first | apply Kd.R_alloc | apply Kd.R_drewN | apply Kd.R_drew)); exact Kd.R_mono HO_274000.out (fun _ hk => ⟨hk.1.1.1, ⟨hk.1.1.2, hk.2⟩⟩)⟩, ⟨by (try simp only [hl274000_69]); (with_reducible repeat (first | apply Kd.R_alloc | apply Kd.R_drewN | apply Kd.R_drew)); exact Kd.R_mono HO_281000.out (fun _ hk => ⟨hk.1.1.1, ⟨hk.1.1.2, hk.2⟩⟩)⟩, ⟨by (try simp only [hl274000_69]); (with_reducible repeat (first | apply Kd.R_alloc | apply Kd.R_drewN | apply Kd.R_drew)); exact Kd.R_mono HO299.out (fun _ hk => ⟨hk.1.1.1.2, ⟨hk.1.1.2, hk.1.2⟩⟩)⟩, ⟨by (try simp only [hl274000_69]); (with_reducible repeat (first | refine blk_drewN ?_ _ | refine blk_drew ?_ | refine blk_alloc ?_ _)); exact BK256.out⟩, ⟨by (try simp only [hl274000_69]); (with_reducible repeat (first | refine blk_drewN ?_ _ | refine blk_drew ?_ | refine blk_alloc ?_ _)); exact BK268.out⟩, ⟨by (try simp only [hl274000_69]); (with_reducible repeat (first | refine blk_drewN ?_ _ | refine blk_drew ?_ | refine blk_alloc ?_ _)); exact BK273.out⟩, ⟨by (try simp only [hl274000_69]); (with_reducible repeat (first | refine blk_drewN ?_ _ | refine blk_drew ?_ | refine blk_alloc ?_ _)); exact BK280.out⟩, ⟨by (try simp only [hl274000_69]); (with_reducible repeat (first | refine blk_drewN ?_ _ | refine blk_drew ?_ | refine blk_alloc ?_ _)); exact BK303.out⟩, ⟨by repeat (first | (with_reducible first | exact HB.out | apply below_alloc | apply pw_below_drewN | apply below_drew1 | refine below_set ?_ GE256.out | refine below_set ?_ GE268.out | refine below_set ?_ GE273.out | refine below_set ?_ GE280.out | refine below_set ?_ GE303.out) | exact HB.out)⟩⟩
                      case rest =>
                        clear HC122
                        try clear c1
                        try clear c2
                        try clear p2
                        try clear c3
                        try clear c4
                        try clear c4b0
                        try clear c5
                        try clear c6
                        try clear c7
                        try clear c8
                        try clear c9
                        try clear c10
                        try clear c11
                        try clear c12
                        try clear c13
                        try clear c14
                        try clear c15
                        try clear c16
                        try clear c17
                        try clear c22
                        try clear c24
                        try clear c27
                        try clear c28
                        try clear c29
                        try clear c31
                        try clear c33
                        try clear c34
                        try clear c35
                        try clear c36
                        try clear c39
                        try clear c40
                        try clear c40b0
                        try clear c40b1
                        try clear c41
                        try clear c42
                        try clear c43
                        try clear c45
                        try clear c46
                        try clear c49
                        try clear c50
                        try clear c51
                        try clear c53
                        try clear c54
                        try clear c57
                        try clear c58
                        try clear c59
                        try clear c61
                        try clear c62
                        try clear c65
                        try clear c68
                        try clear c75
                        try clear c76
                        try clear c77
                        try clear c80
                        try clear c80b0
                        try clear c82
                        try clear c83
                        try clear c83b0
                        try clear c83b1
                        try clear c84
                        try clear c85
                        try clear c86
                        try clear c88
                        try clear c89
                        try clear c92
                        try clear c93
                        try clear c94
                        try clear c96
                        try clear c97
                        try clear c100
                        try clear c101
                        try clear c102
                        try clear c104
                        try clear c105
                        try clear c108
                        try clear c111
                        try clear c111b0
                        try clear c112
                        try clear c113
                        try clear c114
                        try clear c119
                        try clear c119b0
                        try clear c119b1
                        try clear c123
                        try clear c124
                        try clear c125
                        try clear c130
                        try clear c131
                        try clear c138
                        try clear c139
                        try clear c140
                        try clear c141
                        try clear c144
                        try clear c145
                        try clear c145b0
                        try clear c145b1
                        try clear c146
                        try clear c147
                        try clear c148
                        try clear c149
                        try clear c151
                        try clear c152
                        try clear c153
                        try clear c156
                        try clear c157
                        try clear c158
                        try clear c159
                        try clear c161
                        try clear c162
                        try clear c163
                        try clear c166
                        try clear c167
                        try clear c168
                        try clear c169
                        try clear c171
                        try clear c172
                        try clear c173
                        try clear hcz103_0
                        try clear hcz103_1
                        try clear hcz106_0
                        try clear hcz106_1
                        try clear hcz115_0
                        try clear hcz115_1
                        try clear hcz117_0
                        try clear hcz117_1
                        try clear hcz126_0
                        try clear hcz126_1
                        try clear hcz128_0
                        try clear hcz128_1
                        try clear hcz132_0
                        try clear hcz132_1
                        try clear hcz142_0
                        try clear hcz142_1
                        try clear hcz14_0
                        try clear hcz14_1
                        try clear hcz150_0
                        try clear hcz150_1
                        try clear hcz154_0
                        try clear hcz154_1
                        try clear hcz160_0
                        try clear hcz160_1
                        try clear hcz164_0
                        try clear hcz164_1
                        try clear hcz16_0
                        try clear hcz16_1
                        try clear hcz170_0
                        try clear hcz170_1
                        try clear hcz174_0
                        try clear hcz174_1
                        try clear hcz23_0
                        try clear hcz23_1
                        try clear hcz24_0
                        try clear hcz24_1
                        try clear hcz30_0
                        try clear hcz30_1
                        try clear hcz37_0
                        try clear hcz37_1
                        try clear hcz44_0
                        try clear hcz44_1
                        try clear hcz47_0
                        try clear hcz47_1
                        try clear hcz52_0
                        try clear hcz52_1
                        try clear hcz55_0
                        try clear hcz55_1
                        try clear hcz60_0
                        try clear hcz60_1
                        try clear hcz63_0
                        try clear hcz63_1
                        try clear hcz6_0
                        try clear hcz6_1
                        try clear hcz78_0
                        try clear hcz78_1
                        try clear hcz87_0
                        try clear hcz87_1
                        try clear hcz90_0
                        try clear hcz90_1
                        try clear hcz95_0
                        try clear hcz95_1
                        try clear hcz98_0
                        try clear hcz98_1
                        try clear hfz103_0
                        try clear hfz103_1
                        try clear hfz106_0
                        try clear hfz106_1
                        try clear hfz115_0
                        try clear hfz115_1
                        try clear hfz117_0
                        try clear hfz117_1
                        try clear hfz126_0
                        try clear hfz126_1
                        try clear hfz128_0
                        try clear hfz128_1
                        try clear hfz132_0
                        try clear hfz132_1
                        try clear hfz142_0
                        try clear hfz142_1
                        try clear hfz14_0
                        try clear hfz14_1
                        try clear hfz150_0
                        try clear hfz150_1
                        try clear hfz154_0
                        try clear hfz154_1
                        try clear hfz160_0
                        try clear hfz160_1
                        try clear hfz164_0
                        try clear hfz164_1
                        try clear hfz16_0
                        try clear hfz16_1
                        try clear hfz170_0
                        try clear hfz170_1
                        try clear hfz174_0
                        try clear hfz174_1
                        try clear hfz23_0
                        try clear hfz23_1
                        try clear hfz24_0
                        try clear hfz24_1
                        try clear hfz30_0
                        try clear hfz30_1
                        try clear hfz37_0
                        try clear hfz37_1
                        try clear hfz44_0
                        try clear hfz44_1
                        try clear hfz47_0
                        try clear hfz47_1
                        try clear hfz52_0
                        try clear hfz52_1
                        try clear hfz55_0
                        try clear hfz55_1
                        try clear hfz60_0
                        try clear hfz60_1
                        try clear hfz63_0
                        try clear hfz63_1
                        try clear hfz6_0
                        try clear hfz6_1
                        try clear hfz78_0
                        try clear hfz78_1
                        try clear hfz87_0
                        try clear hfz87_1
                        try clear hfz90_0
                        try clear hfz90_1
                        try clear hfz95_0
                        try clear hfz95_1
                        try clear hfz98_0
                        try clear hfz98_1
                        try clear p2
                        obtain ⟨kq, x113_121, rfl, HA, HJ121, HO_269000, HO_274000, HO_281000, HO_304000, BK256, BK268, BK273, BK280, BK303, HB⟩ := hcut
                        have hl281000_121 := (Kd.R_reads' HO_281000.out).1
                        rw [hl281000_121] at HO_281000
                        (try simp only [hl281000_121])
                        (try simp only [hl281000_121] at BK256)
                        (try simp only [hl281000_121] at BK268)
                        (try simp only [hl281000_121] at BK273)
                        (try simp only [hl281000_121] at BK280)
                        (try simp only [hl281000_121] at BK303)
                        (try simp only [hl281000_121] at HO_269000)
                        (try simp only [hl281000_121] at HO_274000)
                        (try simp only [hl281000_121] at HO_304000)
                        cases kq with
                        | zero => exact absurd HA.out (by simp [laws_FnExactMakeStrokes.j2])
                        | succ kj121 =>
                          have H := HA.out
                          clear HA
                          simp only [laws_FnExactMakeStrokes.j2] at H
                          by_cases c176 : x113_121 = true
                          · subst c176
                            have H1 : (some false) = some r := by rw [if_pos rfl] at H; exact H
                            clear H
                            have H := H1
                            clear H1
                            obtain rfl := Option.some.inj H
                            go_wp2
                            go_ret
                            exact ⟨by first | rfl | (simp [errW_none, errW_some] <;> rfl) | (simp [*, errW_none, errW_some] <;> rfl), by repeat (first | (with_reducible first | exact HB.out | apply below_alloc | apply pw_below_drewN | apply below_drew1 | refine below_set ?_ GE256.out | refine below_set ?_ GE268.out | refine below_set ?_ GE273.out | refine below_set ?_ GE280.out | refine below_set ?_ GE303.out) | exact HB.out)⟩
                          · replace c176 := Bool.eq_false_iff.mpr c176
                            subst c176
                            have H1 : ((laws_heldPunchJob.f kj121 t291 t277 1).bind fun t305 => (if t305 < 0 then (some false) else (if t305 = t290 then (some true) else (some false)))) = some r := by rw [if_neg (show ¬ (false = true) by decide)] at H; exact H
                            clear H
                            have H := H1
                            clear H1
                            replace H := Option.bind_eq_some_iff.mp H
                            obtain ⟨t305, A1770, H⟩ := H
                            replace H : (if t305 < 0 then (some false) else (if t305 = t290 then (some true) else (some false))) = some r := H
                            have A177 := Aside0.mk A1770
                            clear A1770
                            by_cases c178 : t305 < 0
                            · rw [if_pos c178] at H
                              have c178b0 : decide (t305 < 0) = true := decide_eq_true c178
                              clear c178
                              obtain rfl := Option.some.inj H
                              have hnb179 := NB280_256.out
                              have hnc179 := NB256_280.out
                              have hnb180 := NB280_268.out
                              have hnc180 := NB268_280.out
                              have hnb181 := NB280_273.out
                              have hnc181 := NB273_280.out
                              have hnb182 := NB280_303.out
                              have hnc182 := NB303_280.out
                              have hcz183_0 : wc.cell? ⟨gb280, 0, none⟩ = some (.slice Ao33 t291.length co33) := (blk_cell BK280.out 0).trans rfl
                              have hcz183_1 : wc.cell? ⟨gb280, 1, none⟩ = some (.int .i64 t277) := (blk_cell BK280.out 1).trans rfl
                              have hfz183_0 := blk_frozen BK280.out 0
                              have hfz183_1 := blk_frozen BK280.out 1
                              go_wp2_with (first | ((with_reducible refine gate_callee (f := 28) rfl ?_); refine goesL_ (some 116) rfl rfl Try.func28 (by kernel_rfl) rfl #[.agg #[.slice Ao33 t291.length co33, .int .i64 t277], .int .i64 1] rfl (by (try simp only [List.map_toArray, List.map_cons, List.map_nil]); first | done | rfl | (simp only [List.length_drop, List.length_take]; rfl)) ?_; (with_reducible refine (laws_heldPunchJob.calls kj121 _ _ t291 t277 1 t305 _ ?side1 ?side2 A177.out).mono ?_); (case side1 => repeat (first | exact (Kd.R_reads' HO_281000.out).2.2 | (with_reducible refine Kd.C_alloc ?_ _) | (with_reducible refine Kd.C_drewN ?_ _) | (with_reducible refine Kd.C_drew ?_))); (case side2 => exact (Kd.R_reads' HO_281000.out).2.1); rintro e w184 ⟨rfl, hb⟩; refine ⟨_, rfl, ?_⟩; have n0_ := Aside0.mk (Kd.R_below (by (with_reducible repeat (first | apply Kd.R_alloc | apply Kd.R_drewN | apply Kd.R_drew)); exact HO_269000.out) hb); have n1_ := Aside0.mk (Kd.R_below (by (with_reducible repeat (first | apply Kd.R_alloc | apply Kd.R_drewN | apply Kd.R_drew)); exact HO_274000.out) hb); have n2_ := Aside0.mk (Kd.R_below (by (with_reducible repeat (first | apply Kd.R_alloc | apply Kd.R_drewN | apply Kd.R_drew)); exact HO_281000.out) hb); have n3_ := Aside0.mk (Kd.R_below (by (with_reducible repeat (first | apply Kd.R_alloc | apply Kd.R_drewN | apply Kd.R_drew)); exact HO_304000.out) hb); have n4_ := Aside0.mk (blk_below (g := gb256) (o := .cells #[.slice A0_0 l0_0.length c0_0, .int .i64 a0_1] 43 (0, 0)) (by (with_reducible repeat (first | refine blk_drewN ?_ _ | refine blk_drew ?_ | refine blk_alloc ?_ _)); exact BK256.out) hb); have n5_ := Aside0.mk (blk_below (g := gb268) (o := .cells #[.slice Ao21 t262.length co21, .int .i64 t265] 33 (0, 0)) (by (with_reducible repeat (first | refine blk_drewN ?_ _ | refine blk_drew ?_ | refine blk_alloc ?_ _)); exact BK268.out) hb); have n6_ := Aside0.mk (blk_below (g := gb273) (o := .cells #[.slice Ao27 t288.length co27, .int .i64 t272] 33 (0, 0)) (by (with_reducible repeat (first | refine blk_drewN ?_ _ | refine blk_drew ?_ | refine blk_alloc ?_ _)); exact BK273.out) hb); have n7_ := Aside0.mk (blk_below (g := gb280) (o := .cells #[.slice Ao33 t291.length co33, .int .i64 t277] 33 (0, 0)) (by (with_reducible repeat (first | refine blk_drewN ?_ _ | refine blk_drew ?_ | refine blk_alloc ?_ _)); exact BK280.out) hb); have n8_ := Aside0.mk (blk_below (g := gb303) (o := .cells #[.slice Ao137 t297.length co137, .int .i64 t300] 33 (0, 0)) (by (with_reducible repeat (first | refine blk_drewN ?_ _ | refine blk_drew ?_ | refine blk_alloc ?_ _)); exact BK303.out) hb); have n9_ := Aside0.mk (below_step (by repeat (first | (with_reducible first | exact HB.out | apply below_alloc | apply pw_below_drewN | apply below_drew1 | refine below_set ?_ GE256.out | refine below_set ?_ GE268.out | refine below_set ?_ GE273.out | refine below_set ?_ GE280.out | refine below_set ?_ GE303.out) | exact HB.out)) hb); clear HO_269000; clear HO_274000; clear HO_281000; clear HO_304000; clear BK256; clear BK268; clear BK273; clear BK280; clear BK303; clear HB; have HO_269000 := n0_; have HO_274000 := n1_; have HO_281000 := n2_; have HO_304000 := n3_; have BK256 := n4_; have BK268 := n5_; have BK273 := n6_; have BK280 := n7_; have BK303 := n8_; have HB := n9_; clear n0_ n1_ n2_ n3_ n4_ n5_ n6_ n7_ n8_ n9_; (try clear hb); (try clear hb2); (try clear hk); (try clear hi)))
                              go_ret
                              exact ⟨by first | rfl | (simp [errW_none, errW_some] <;> rfl) | (simp [*, errW_none, errW_some] <;> rfl), by repeat (first | (with_reducible first | exact HB.out | apply below_alloc | apply pw_below_drewN | apply below_drew1 | refine below_set ?_ GE256.out | refine below_set ?_ GE268.out | refine below_set ?_ GE273.out | refine below_set ?_ GE280.out | refine below_set ?_ GE303.out) | exact HB.out)⟩
                            · rw [if_neg c178] at H
                              have c178b0 : decide (t305 < 0) = false := decide_eq_false c178
                              clear c178
                              by_cases c185 : t305 = t290
                              · rw [if_pos c185] at H
                                have c185b0 : (t305 == t290) = true := beq_iff_eq.mpr c185
                                have c185b1 : (t305 != t290) = false := bne_eq_false_iff_eq.mpr c185
                                clear c185
                                obtain rfl := Option.some.inj H
                                have hnb186 := NB280_256.out
                                have hnc186 := NB256_280.out
                                have hnb187 := NB280_268.out
                                have hnc187 := NB268_280.out
                                have hnb188 := NB280_273.out
                                have hnc188 := NB273_280.out
                                have hnb189 := NB280_303.out
                                have hnc189 := NB303_280.out
                                have hcz190_0 : wc.cell? ⟨gb280, 0, none⟩ = some (.slice Ao33 t291.length co33) := (blk_cell BK280.out 0).trans rfl
                                have hcz190_1 : wc.cell? ⟨gb280, 1, none⟩ = some (.int .i64 t277) := (blk_cell BK280.out 1).trans rfl
                                have hfz190_0 := blk_frozen BK280.out 0
                                have hfz190_1 := blk_frozen BK280.out 1
                                go_wp2_with (first | ((with_reducible refine gate_callee (f := 28) rfl ?_); refine goesL_ (some 116) rfl rfl Try.func28 (by kernel_rfl) rfl #[.agg #[.slice Ao33 t291.length co33, .int .i64 t277], .int .i64 1] rfl (by (try simp only [List.map_toArray, List.map_cons, List.map_nil]); first | done | rfl | (simp only [List.length_drop, List.length_take]; rfl)) ?_; (with_reducible refine (laws_heldPunchJob.calls kj121 _ _ t291 t277 1 t305 _ ?side1 ?side2 A177.out).mono ?_); (case side1 => repeat (first | exact (Kd.R_reads' HO_281000.out).2.2 | (with_reducible refine Kd.C_alloc ?_ _) | (with_reducible refine Kd.C_drewN ?_ _) | (with_reducible refine Kd.C_drew ?_))); (case side2 => exact (Kd.R_reads' HO_281000.out).2.1); rintro e w191 ⟨rfl, hb⟩; refine ⟨_, rfl, ?_⟩; have n0_ := Aside0.mk (Kd.R_below (by (with_reducible repeat (first | apply Kd.R_alloc | apply Kd.R_drewN | apply Kd.R_drew)); exact HO_269000.out) hb); have n1_ := Aside0.mk (Kd.R_below (by (with_reducible repeat (first | apply Kd.R_alloc | apply Kd.R_drewN | apply Kd.R_drew)); exact HO_274000.out) hb); have n2_ := Aside0.mk (Kd.R_below (by (with_reducible repeat (first | apply Kd.R_alloc | apply Kd.R_drewN | apply Kd.R_drew)); exact HO_281000.out) hb); have n3_ := Aside0.mk (Kd.R_below (by (with_reducible repeat (first | apply Kd.R_alloc | apply Kd.R_drewN | apply Kd.R_drew)); exact HO_304000.out) hb); have n4_ := Aside0.mk (blk_below (g := gb256) (o := .cells #[.slice A0_0 l0_0.length c0_0, .int .i64 a0_1] 43 (0, 0)) (by (with_reducible repeat (first | refine blk_drewN ?_ _ | refine blk_drew ?_ | refine blk_alloc ?_ _)); exact BK256.out) hb); have n5_ := Aside0.mk (blk_below (g := gb268) (o := .cells #[.slice Ao21 t262.length co21, .int .i64 t265] 33 (0, 0)) (by (with_reducible repeat (first | refine blk_drewN ?_ _ | refine blk_drew ?_ | refine blk_alloc ?_ _)); exact BK268.out) hb); have n6_ := Aside0.mk (blk_below (g := gb273) (o := .cells #[.slice Ao27 t288.length co27, .int .i64 t272] 33 (0, 0)) (by (with_reducible repeat (first | refine blk_drewN ?_ _ | refine blk_drew ?_ | refine blk_alloc ?_ _)); exact BK273.out) hb); have n7_ := Aside0.mk (blk_below (g := gb280) (o := .cells #[.slice Ao33 t291.length co33, .int .i64 t277] 33 (0, 0)) (by (with_reducible repeat (first | refine blk_drewN ?_ _ | refine blk_drew ?_ | refine blk_alloc ?_ _)); exact BK280.out) hb); have n8_ := Aside0.mk (blk_below (g := gb303) (o := .cells #[.slice Ao137 t297.length co137, .int .i64 t300] 33 (0, 0)) (by (with_reducible repeat (first | refine blk_drewN ?_ _ | refine blk_drew ?_ | refine blk_alloc ?_ _)); exact BK303.out) hb); have n9_ := Aside0.mk (below_step (by repeat (first | (with_reducible first | exact HB.out | apply below_alloc | apply pw_below_drewN | apply below_drew1 | refine below_set ?_ GE256.out | refine below_set ?_ GE268.out | refine below_set ?_ GE273.out | refine below_set ?_ GE280.out | refine below_set ?_ GE303.out) | exact HB.out)) hb); clear HO_269000; clear HO_274000; clear HO_281000; clear HO_304000; clear BK256; clear BK268; clear BK273; clear BK280; clear BK303; clear HB; have HO_269000 := n0_; have HO_274000 := n1_; have HO_281000 := n2_; have HO_304000 := n3_; have BK256 := n4_; have BK268 := n5_; have BK273 := n6_; have BK280 := n7_; have BK303 := n8_; have HB := n9_; clear n0_ n1_ n2_ n3_ n4_ n5_ n6_ n7_ n8_ n9_; (try clear hb); (try clear hb2); (try clear hk); (try clear hi)))
                                go_ret
                                exact ⟨by first | rfl | (simp [errW_none, errW_some] <;> rfl) | (simp [*, errW_none, errW_some] <;> rfl), by repeat (first | (with_reducible first | exact HB.out | apply below_alloc | apply pw_below_drewN | apply below_drew1 | refine below_set ?_ GE256.out | refine below_set ?_ GE268.out | refine below_set ?_ GE273.out | refine below_set ?_ GE280.out | refine below_set ?_ GE303.out) | exact HB.out)⟩
                              · rw [if_neg c185] at H
                                have c185b0 : (t305 == t290) = false := beq_eq_false_iff_ne.mpr c185
                                have c185b1 : (t305 != t290) = true := bne_iff_ne.mpr c185
                                obtain rfl := Option.some.inj H
                                have hnb192 := NB280_256.out
                                have hnc192 := NB256_280.out
                                have hnb193 := NB280_268.out
                                have hnc193 := NB268_280.out
                                have hnb194 := NB280_273.out
                                have hnc194 := NB273_280.out
                                have hnb195 := NB280_303.out
                                have hnc195 := NB303_280.out
                                have hcz196_0 : wc.cell? ⟨gb280, 0, none⟩ = some (.slice Ao33 t291.length co33) := (blk_cell BK280.out 0).trans rfl
                                have hcz196_1 : wc.cell? ⟨gb280, 1, none⟩ = some (.int .i64 t277) := (blk_cell BK280.out 1).trans rfl
                                have hfz196_0 := blk_frozen BK280.out 0
                                have hfz196_1 := blk_frozen BK280.out 1
                                go_wp2_with (first | ((with_reducible refine gate_callee (f := 28) rfl ?_); refine goesL_ (some 116) rfl rfl Try.func28 (by kernel_rfl) rfl #[.agg #[.slice Ao33 t291.length co33, .int .i64 t277], .int .i64 1] rfl (by (try simp only [List.map_toArray, List.map_cons, List.map_nil]); first | done | rfl | (simp only [List.length_drop, List.length_take]; rfl)) ?_; (with_reducible refine (laws_heldPunchJob.calls kj121 _ _ t291 t277 1 t305 _ ?side1 ?side2 A177.out).mono ?_); (case side1 => repeat (first | exact (Kd.R_reads' HO_281000.out).2.2 | (with_reducible refine Kd.C_alloc ?_ _) | (with_reducible refine Kd.C_drewN ?_ _) | (with_reducible refine Kd.C_drew ?_))); (case side2 => exact (Kd.R_reads' HO_281000.out).2.1); rintro e w197 ⟨rfl, hb⟩; refine ⟨_, rfl, ?_⟩; have n0_ := Aside0.mk (Kd.R_below (by (with_reducible repeat (first | apply Kd.R_alloc | apply Kd.R_drewN | apply Kd.R_drew)); exact HO_269000.out) hb); have n1_ := Aside0.mk (Kd.R_below (by (with_reducible repeat (first | apply Kd.R_alloc | apply Kd.R_drewN | apply Kd.R_drew)); exact HO_274000.out) hb); have n2_ := Aside0.mk (Kd.R_below (by (with_reducible repeat (first | apply Kd.R_alloc | apply Kd.R_drewN | apply Kd.R_drew)); exact HO_281000.out) hb); have n3_ := Aside0.mk (Kd.R_below (by (with_reducible repeat (first | apply Kd.R_alloc | apply Kd.R_drewN | apply Kd.R_drew)); exact HO_304000.out) hb); have n4_ := Aside0.mk (blk_below (g := gb256) (o := .cells #[.slice A0_0 l0_0.length c0_0, .int .i64 a0_1] 43 (0, 0)) (by (with_reducible repeat (first | refine blk_drewN ?_ _ | refine blk_drew ?_ | refine blk_alloc ?_ _)); exact BK256.out) hb); have n5_ := Aside0.mk (blk_below (g := gb268) (o := .cells #[.slice Ao21 t262.length co21, .int .i64 t265] 33 (0, 0)) (by (with_reducible repeat (first | refine blk_drewN ?_ _ | refine blk_drew ?_ | refine blk_alloc ?_ _)); exact BK268.out) hb); have n6_ := Aside0.mk (blk_below (g := gb273) (o := .cells #[.slice Ao27 t288.length co27, .int .i64 t272] 33 (0, 0)) (by (with_reducible repeat (first | refine blk_drewN ?_ _ | refine blk_drew ?_ | refine blk_alloc ?_ _)); exact BK273.out) hb); have n7_ := Aside0.mk (blk_below (g := gb280) (o := .cells #[.slice Ao33 t291.length co33, .int .i64 t277] 33 (0, 0)) (by (with_reducible repeat (first | refine blk_drewN ?_ _ | refine blk_drew ?_ | refine blk_alloc ?_ _)); exact BK280.out) hb); have n8_ := Aside0.mk (blk_below (g := gb303) (o := .cells #[.slice Ao137 t297.length co137, .int .i64 t300] 33 (0, 0)) (by (with_reducible repeat (first | refine blk_drewN ?_ _ | refine blk_drew ?_ | refine blk_alloc ?_ _)); exact BK303.out) hb); have n9_ := Aside0.mk (below_step (by repeat (first | (with_reducible first | exact HB.out | apply below_alloc | apply pw_below_drewN | apply below_drew1 | refine below_set ?_ GE256.out | refine below_set ?_ GE268.out | refine below_set ?_ GE273.out | refine below_set ?_ GE280.out | refine below_set ?_ GE303.out) | exact HB.out)) hb); clear HO_269000; clear HO_274000; clear HO_281000; clear HO_304000; clear BK256; clear BK268; clear BK273; clear BK280; clear BK303; clear HB; have HO_269000 := n0_; have HO_274000 := n1_; have HO_281000 := n2_; have HO_304000 := n3_; have BK256 := n4_; have BK268 := n5_; have BK273 := n6_; have BK280 := n7_; have BK303 := n8_; have HB := n9_; clear n0_ n1_ n2_ n3_ n4_ n5_ n6_ n7_ n8_ n9_; (try clear hb); (try clear hb2); (try clear hk); (try clear hi)))
                                go_ret
                                exact ⟨by first | rfl | (simp [errW_none, errW_some] <;> rfl) | (simp [*, errW_none, errW_some] <;> rfl), by repeat (first | (with_reducible first | exact HB.out | apply below_alloc | apply pw_below_drewN | apply below_drew1 | refine below_set ?_ GE256.out | refine below_set ?_ GE268.out | refine below_set ?_ GE273.out | refine below_set ?_ GE280.out | refine below_set ?_ GE303.out) | exact HB.out)⟩
                    · rw [if_neg c119] at H
                      have c119b0 : (t292 == t290) = false := beq_eq_false_iff_ne.mpr c119
                      have c119b1 : (t292 != t290) = true := bne_iff_ne.mpr c119
                      obtain rfl := Option.some.inj H
                      have hnb198 := NB280_256.out
                      have hnc198 := NB256_280.out
                      have hnb199 := NB280_268.out
                      have hnc199 := NB268_280.out
                      have hnb200 := NB280_273.out
                      have hnc200 := NB273_280.out
                      have hcz201_0 : wc.cell? ⟨gb280, 0, none⟩ = some (.slice Ao33 t274.length co33) := (blk_cell BK280.out 0).trans rfl
                      have hcz201_1 : wc.cell? ⟨gb280, 1, none⟩ = some (.int .i64 t277) := (blk_cell BK280.out 1).trans rfl
                      have hfz201_0 := blk_frozen BK280.out 0
                      have hfz201_1 := blk_frozen BK280.out 1
                      go_wp2_with (first | ((with_reducible refine gate_callee (f := 27) rfl ?_); refine goesL_ (some 83) rfl rfl Try.func27 (by kernel_rfl) rfl #[.agg #[.slice Ao33 t274.length co33, .int .i64 t277], .int .i64 1] rfl (by (try simp only [List.map_toArray, List.map_cons, List.map_nil]); first | done | rfl | (simp only [List.length_drop, List.length_take]; rfl)) ?_; (with_reducible refine (laws_markPunchJob.calls kj69 (fun k_ => some k_ = (.slice Ao33 t274.length co33 : Value).ownBlock) (.slice Ao33 t274.length co33) t274 t277 1 t290 t291 w _ ?side1 ?side2 A109.out).mono ?_); (case side1 => repeat (first | (with_reducible first | exact HB.out | apply below_alloc | apply pw_below_drewN | apply below_drew1 | refine below_set ?_ GE256.out | refine below_set ?_ GE268.out | refine below_set ?_ GE273.out | refine below_set ?_ GE280.out) | exact HB.out)); (case side2 => exact Kd.R_tight rfl HO_281000.out); rintro e w202 ⟨rfl, hy0, hb, hkp⟩; refine ⟨_, rfl, ?_⟩; have n0_ := Aside0.mk (Kd.R_mono (ok' := fun k_ => some k_ ≠ (.slice Ao27 t288.length co27 : Value).ownBlock ∧ some k_ ≠ (.slice Ao33 t274.length co33 : Value).ownBlock) (Kd.R_keptB (HO_269000.out) hkp (fun k_ hk_ hs_ => (hk_.2) hs_)) (fun k_ hk_ => ⟨hk_.1.1, hk_.1.2⟩)); have n1_ := Aside0.mk (Kd.R_mono (ok' := fun k_ => some k_ ≠ (.slice Ao21 t262.length co21 : Value).ownBlock ∧ some k_ ≠ (.slice Ao33 t274.length co33 : Value).ownBlock) (Kd.R_keptB (HO_274000.out) hkp (fun k_ hk_ hs_ => (hk_.2) hs_)) (fun k_ hk_ => ⟨hk_.1.1, hk_.1.2⟩)); have n2_ := Aside0.mk (Kd.R_reok rfl hy0 (fun k_ e_ => HO_281000.out.1 k_ e_)); have n3_ := Aside0.mk (blk_kept (by (with_reducible repeat (first | refine blk_drewN ?_ _ | refine blk_drew ?_ | refine blk_alloc ?_ _)); exact BK256.out) hkp (fun hs_ => (fun e_ => (Kd.R_ne HO_281000.out BK256.out (by decide)) e_) hs_)); have n4_ := Aside0.mk (blk_kept (by (with_reducible repeat (first | refine blk_drewN ?_ _ | refine blk_drew ?_ | refine blk_alloc ?_ _)); exact BK268.out) hkp (fun hs_ => (fun e_ => (Kd.R_ne HO_281000.out BK268.out (by decide)) e_) hs_)); have n5_ := Aside0.mk (blk_kept (by (with_reducible repeat (first | refine blk_drewN ?_ _ | refine blk_drew ?_ | refine blk_alloc ?_ _)); exact BK273.out) hkp (fun hs_ => (fun e_ => (Kd.R_ne HO_281000.out BK273.out (by decide)) e_) hs_)); have n6_ := Aside0.mk (blk_kept (by (with_reducible repeat (first | refine blk_drewN ?_ _ | refine blk_drew ?_ | refine blk_alloc ?_ _)); exact BK280.out) hkp (fun hs_ => (fun e_ => (Kd.R_ne HO_281000.out BK280.out (by decide)) e_) hs_)); have n7_ := Aside0.mk (hb); clear HO_269000; clear HO_274000; clear HO_281000; clear BK256; clear BK268; clear BK273; clear BK280; clear HB; have HO_269000 := n0_; have HO_274000 := n1_; have HO_281000 := n2_; have BK256 := n3_; have BK268 := n4_; have BK273 := n5_; have BK280 := n6_; have HB := n7_; clear n0_ n1_ n2_ n3_ n4_ n5_ n6_ n7_; (try clear hb); (try clear hkp); (try clear hy0); have hcz203_0 : w202.cell? ⟨gb280, 0, none⟩ = some (.slice Ao33 t274.length co33) := (blk_cell BK280.out 0).trans rfl; have hcz203_1 : w202.cell? ⟨gb280, 1, none⟩ = some (.int .i64 t277) := (blk_cell BK280.out 1).trans rfl; have hfz203_0 := blk_frozen BK280.out 0; have hfz203_1 := blk_frozen BK280.out 1) | ((with_reducible refine gate_callee (f := 28) rfl ?_); refine goesL_ (some 86) rfl rfl Try.func28 (by kernel_rfl) rfl #[.agg #[.slice Ao33 t291.length co33, .int .i64 t277], .int .i64 1] rfl (by (try simp only [List.map_toArray, List.map_cons, List.map_nil]); first | done | (rw [show t291.length = t274.length from (Kd.R_reads' HO_281000.out).1.symm] <;> rfl) | rfl | (simp only [List.length_drop, List.length_take]; rfl)) ?_; (with_reducible refine (laws_heldPunchJob.calls kj69 _ _ t291 t277 1 t292 _ ?side1 ?side2 A110.out).mono ?_); (case side1 => repeat (first | exact (Kd.R_reads' HO_281000.out).2.2 | (with_reducible refine Kd.C_alloc ?_ _) | (with_reducible refine Kd.C_drewN ?_ _) | (with_reducible refine Kd.C_drew ?_))); (case side2 => rw [show t291.length = t274.length from (Kd.R_reads' HO_281000.out).1.symm]; exact (Kd.R_reads' HO_281000.out).2.1); rintro e w204 ⟨rfl, hb⟩; refine ⟨_, rfl, ?_⟩; have n0_ := Aside0.mk (Kd.R_below (by (with_reducible repeat (first | apply Kd.R_alloc | apply Kd.R_drewN | apply Kd.R_drew)); exact HO_269000.out) hb); have n1_ := Aside0.mk (Kd.R_below (by (with_reducible repeat (first | apply Kd.R_alloc | apply Kd.R_drewN | apply Kd.R_drew)); exact HO_274000.out) hb); have n2_ := Aside0.mk (Kd.R_below (by (with_reducible repeat (first | apply Kd.R_alloc | apply Kd.R_drewN | apply Kd.R_drew)); exact HO_281000.out) hb); have n3_ := Aside0.mk (blk_below (g := gb256) (o := .cells #[.slice A0_0 l0_0.length c0_0, .int .i64 a0_1] 43 (0, 0)) (by (with_reducible repeat (first | refine blk_drewN ?_ _ | refine blk_drew ?_ | refine blk_alloc ?_ _)); exact BK256.out) hb); have n4_ := Aside0.mk (blk_below (g := gb268) (o := .cells #[.slice Ao21 t262.length co21, .int .i64 t265] 33 (0, 0)) (by (with_reducible repeat (first | refine blk_drewN ?_ _ | refine blk_drew ?_ | refine blk_alloc ?_ _)); exact BK268.out) hb); have n5_ := Aside0.mk (blk_below (g := gb273) (o := .cells #[.slice Ao27 t288.length co27, .int .i64 t272] 33 (0, 0)) (by (with_reducible repeat (first | refine blk_drewN ?_ _ | refine blk_drew ?_ | refine blk_alloc ?_ _)); exact BK273.out) hb); have n6_ := Aside0.mk (blk_below (g := gb280) (o := .cells #[.slice Ao33 t274.length co33, .int .i64 t277] 33 (0, 0)) (by (with_reducible repeat (first | refine blk_drewN ?_ _ | refine blk_drew ?_ | refine blk_alloc ?_ _)); exact BK280.out) hb); have n7_ := Aside0.mk (below_step (by repeat (first | (with_reducible first | exact HB.out | apply below_alloc | apply pw_below_drewN | apply below_drew1 | refine below_set ?_ GE256.out | refine below_set ?_ GE268.out | refine below_set ?_ GE273.out | refine below_set ?_ GE280.out) | exact HB.out)) hb); clear HO_269000; clear HO_274000; clear HO_281000; clear BK256; clear BK268; clear BK273; clear BK280; clear HB; have HO_269000 := n0_; have HO_274000 := n1_; have HO_281000 := n2_; have BK256 := n3_; have BK268 := n4_; have BK273 := n5_; have BK280 := n6_; have HB := n7_; clear n0_ n1_ n2_ n3_ n4_ n5_ n6_ n7_; (try clear hb); (try clear hb2); (try clear hk); (try clear hi)))
                      go_ret
                      exact ⟨by first | rfl | (simp [errW_none, errW_some] <;> rfl) | (simp [*, errW_none, errW_some] <;> rfl), by repeat (first | (with_reducible first | exact HB.out | apply below_alloc | apply pw_below_drewN | apply below_drew1 | refine below_set ?_ GE256.out | refine below_set ?_ GE268.out | refine below_set ?_ GE273.out | refine below_set ?_ GE280.out) | exact HB.out)⟩
          · replace c68 := Bool.eq_false_iff.mpr c68
            subst c68
            have H1 : (some false) = some r := by rw [if_neg (show ¬ (false = true) by decide)] at H; exact H
            clear H
            have H := H1
            clear H1
            obtain rfl := Option.some.inj H
            try go_wp2
            have n0_ := Aside0.mk (Kd.R_drew HO_269000.out)
            have n1_ := Aside0.mk (Kd.R_drew HO_274000.out)
            have n2_ := Aside0.mk (Kd.R_drew HO_281000.out)
            have n3_ := Aside0.mk (blk_drew BK256.out)
            have n4_ := Aside0.mk (blk_drew BK268.out)
            have n5_ := Aside0.mk (blk_drew BK273.out)
            have n6_ := Aside0.mk (blk_drew BK280.out)
            have n7_ := Aside0.mk (below_drew1 HB.out)
            clear HO_269000
            clear HO_274000
            clear HO_281000
            clear BK256
            clear BK268
            clear BK273
            clear BK280
            clear HB
            have HO_269000 := n0_
            have HO_274000 := n1_
            have HO_281000 := n2_
            have BK256 := n3_
            have BK268 := n4_
            have BK273 := n5_
            have BK280 := n6_
            have HB := n7_
            clear n0_ n1_ n2_ n3_ n4_ n5_ n6_ n7_
            refine start_ (n := 5) (S := fun w' => w'.cell? ⟨gb273, 0, none⟩ = some (.slice Ao27 t269.length co27) ∧ w'.cell? ⟨gb273, 1, none⟩ = some (.int .i64 t272) ∧ w'.cell? ⟨gb256, 0, none⟩ = some (.slice A0_0 l0_0.length c0_0) ∧ w'.cell? ⟨gb256, 1, none⟩ = some (.int .i64 a0_1)) (ds := []) #[false, false, false, false, false] (by kernel_rfl) rfl rfl ⟨(blk_cell BK273.out 0).trans rfl, (blk_cell BK273.out 1).trans rfl, (blk_cell BK256.out 0).trans rfl, (blk_cell BK256.out 1).trans rfl⟩ (fun hHeld => ?_)
            generalize wc.drew = w205 at HO_269000 HO_274000 HO_281000 BK256 BK268 BK273 BK280 HB hHeld ⊢
            refine take_ (i := 0) (N := some 55) (v := ?_) (a' := ?_) #[true, false, false, false, false] rfl rfl (by kernel_rfl) (fun _ _ _ h => h) (Or.inl ⟨by rfl, ?_⟩) hHeld ?_ ?_
            rotate_left
            · rintro w' ⟨s0, s1, s2, s3⟩
              go_simp
              with_reducible rfl
            rotate_left
            · simp only [Act.put, List.setIfInBounds_toArray, List.set_cons_zero, List.set_cons_succ, i64_w, i32_w]
              rfl
            refine take_ (i := 1) (N := some 56) (v := ?_) (a' := ?_) #[true, true, false, false, false] rfl rfl (by kernel_rfl) (fun _ _ _ h => h) (Or.inl ⟨by rfl, ?_⟩) hHeld ?_ ?_
            rotate_left
            · rintro w' ⟨s0, s1, s2, s3⟩
              go_simp
              with_reducible rfl
            rotate_left
            · simp only [Act.put, List.setIfInBounds_toArray, List.set_cons_zero, List.set_cons_succ, i64_w, i32_w]
              rfl
            refine one_ (i := 2) (N := some 57) #[true, true, true, false, false] rfl rfl (by kernel_rfl) (by decide) (fun K hK => ?_)
            refine goes_ Try.func31 (by kernel_rfl) rfl #[.agg #[.slice A0_0 l0_0.length c0_0, .int .i64 a0_1]] (by rfl) rfl rfl (by (try simp only [List.map_toArray, List.map_cons, List.map_nil]); first | done | rfl | (simp only [List.length_drop, List.length_take]; rfl)) ?_
            with_reducible refine (laws_toPunchJob.calls kj11 _ _ l0_0 a0_1 t282 t285 _ ?side1 ?side2 A66.out).mono ?_
            (case side1 => repeat (first | exact (Kd.C_below HR0_0.out HB.out) | (with_reducible refine Kd.C_alloc ?_ _) | (with_reducible refine Kd.C_drewN ?_ _) | (with_reducible refine Kd.C_drew ?_)))
            (case side2 => exact HC0_0.out)
            rintro e w206 ⟨v283, rfl, ho0, hb⟩
            refine ⟨_, rfl, ?_⟩
            have n0_ := Aside0.mk (Kd.R_elder' (by (with_reducible repeat (first | apply Kd.R_alloc | apply Kd.R_drewN | apply Kd.R_drew)); exact HO_269000.out) (Kd.R_base ho0) hb)
            have n1_ := Aside0.mk (Kd.R_elder' (by (with_reducible repeat (first | apply Kd.R_alloc | apply Kd.R_drewN | apply Kd.R_drew)); exact HO_274000.out) (Kd.R_base ho0) hb)
            have n2_ := Aside0.mk (Kd.R_elder' (by (with_reducible repeat (first | apply Kd.R_alloc | apply Kd.R_drewN | apply Kd.R_drew)); exact HO_281000.out) (Kd.R_base ho0) hb)
            have n3_ := Aside0.mk (Kd.R_lower (Kd.R_new' (Kd.R_new' (Kd.R_new' ho0 (Kd.R_lt (by (with_reducible repeat (first | apply Kd.R_alloc | apply Kd.R_drewN | apply Kd.R_drew)); exact HO_269000.out))) (Kd.R_lt (by (with_reducible repeat (first | apply Kd.R_alloc | apply Kd.R_drewN | apply Kd.R_drew)); exact HO_274000.out))) (Kd.R_lt (by (with_reducible repeat (first | apply Kd.R_alloc | apply Kd.R_drewN | apply Kd.R_drew)); exact HO_281000.out))) (below_size (by repeat (first | (with_reducible first | exact HB.out | apply below_alloc | apply pw_below_drewN | apply below_drew1 | refine below_set ?_ GE256.out | refine below_set ?_ GE268.out | refine below_set ?_ GE273.out | refine below_set ?_ GE280.out) | exact HB.out))))
            have n4_ := Aside0.mk (blk_below (g := gb256) (o := .cells #[.slice A0_0 l0_0.length c0_0, .int .i64 a0_1] 43 (0, 0)) (by (with_reducible repeat (first | refine blk_drewN ?_ _ | refine blk_drew ?_ | refine blk_alloc ?_ _)); exact BK256.out) hb)
            have n5_ := Aside0.mk (blk_below (g := gb268) (o := .cells #[.slice Ao21 t262.length co21, .int .i64 t265] 33 (0, 0)) (by (with_reducible repeat (first | refine blk_drewN ?_ _ | refine blk_drew ?_ | refine blk_alloc ?_ _)); exact BK268.out) hb)
            have n6_ := Aside0.mk (blk_below (g := gb273) (o := .cells #[.slice Ao27 t269.length co27, .int .i64 t272] 33 (0, 0)) (by (with_reducible repeat (first | refine blk_drewN ?_ _ | refine blk_drew ?_ | refine blk_alloc ?_ _)); exact BK273.out) hb)
            have n7_ := Aside0.mk (blk_below (g := gb280) (o := .cells #[.slice Ao33 t274.length co33, .int .i64 t277] 33 (0, 0)) (by (with_reducible repeat (first | refine blk_drewN ?_ _ | refine blk_drew ?_ | refine blk_alloc ?_ _)); exact BK280.out) hb)
            have n8_ := Aside0.mk (below_step (by repeat (first | (with_reducible first | exact HB.out | apply below_alloc | apply pw_below_drewN | apply below_drew1 | refine below_set ?_ GE256.out | refine below_set ?_ GE268.out | refine below_set ?_ GE273.out | refine below_set ?_ GE280.out) | exact HB.out)) hb)
            clear HO_269000
            clear HO_274000
            clear HO_281000
            clear BK256
            clear BK268
            clear BK273
            clear BK280
            clear HB
            have HO_269000 := n0_
            have HO_274000 := n1_
            have HO_281000 := n2_
            have HO284 := n3_
            have BK256 := n4_
            have BK268 := n5_
            have BK273 := n6_
            have BK280 := n7_
            have HB := n8_
            clear n0_ n1_ n2_ n3_ n4_ n5_ n6_ n7_ n8_
            (try clear hb)
            (try clear hb2)
            (try clear hk)
            (try clear hi)
            (try clear ho0)
            obtain ⟨Ao207, co207, eo207⟩ := Kd.R_slice HO284.out
            (first | subst eo207 | (injection eo207 with f1_ f2_ f3_; have f4_ := f1_.symm; have f5_ := f3_.symm; clear f1_ f2_ f3_; subst f4_; subst f5_))
            refine hK.out _ _ ⟨(blk_cell BK273.out 0).trans rfl, (blk_cell BK273.out 1).trans rfl, (blk_cell BK256.out 0).trans rfl, (blk_cell BK256.out 1).trans rfl⟩ (fun hHeld => ?_)
            clear hK K
            refine norm_ (a' := ?_) ?_ ?_
            rotate_left
            · show Act.put _ (some 57) _ = _
              simp only [Act.put, List.setIfInBounds_toArray, List.set_cons_zero, List.set_cons_succ, i64_w, i32_w]
              rfl
            refine one_ (i := 3) (N := some 58) #[true, true, true, true, false] rfl rfl (by kernel_rfl) (by decide) (fun K hK => ?_)
            refine goes_ Try.func24 (by kernel_rfl) rfl #[.agg #[.slice Ao27 t269.length co27, .int .i64 t272], .agg #[.slice Ao207 t282.length co207, .int .i64 t285]] (by rfl) rfl rfl (by (try simp only [List.map_toArray, List.map_cons, List.map_nil]); first | done | rfl | (simp only [List.length_drop, List.length_take]; rfl)) ?_
            with_reducible refine (laws_eqPunchJob.calls kj11 _ _ t269 t272 _ _ t282 t285 false _ ?side1 ?side2 ?side3 ?side4 A67.out).mono ?_
            (case side1 => repeat (first | exact (Kd.R_reads' HO_274000.out).2.2 | (with_reducible refine Kd.C_alloc ?_ _) | (with_reducible refine Kd.C_drewN ?_ _) | (with_reducible refine Kd.C_drew ?_)))
            (case side2 => exact (Kd.R_reads' HO_274000.out).2.1)
            (case side3 => repeat (first | exact (Kd.R_reads' HO284.out).2.2 | (with_reducible refine Kd.C_alloc ?_ _) | (with_reducible refine Kd.C_drewN ?_ _) | (with_reducible refine Kd.C_drew ?_)))
            (case side4 => exact (Kd.R_reads' HO284.out).2.1)
            rintro e w208 ⟨rfl, hb⟩
            refine ⟨_, rfl, ?_⟩
            have n0_ := Aside0.mk (Kd.R_below (by (with_reducible repeat (first | apply Kd.R_alloc | apply Kd.R_drewN | apply Kd.R_drew)); exact HO_269000.out) hb)
            have n1_ := Aside0.mk (Kd.R_below (by (with_reducible repeat (first | apply Kd.R_alloc | apply Kd.R_drewN | apply Kd.R_drew)); exact HO_274000.out) hb)
            have n2_ := Aside0.mk (Kd.R_below (by (with_reducible repeat (first | apply Kd.R_alloc | apply Kd.R_drewN | apply Kd.R_drew)); exact HO_281000.out) hb)
            have n3_ := Aside0.mk (Kd.R_below (by (with_reducible repeat (first | apply Kd.R_alloc | apply Kd.R_drewN | apply Kd.R_drew)); exact HO284.out) hb)
            have n4_ := Aside0.mk (blk_below (g := gb256) (o := .cells #[.slice A0_0 l0_0.length c0_0, .int .i64 a0_1] 43 (0, 0)) (by (with_reducible repeat (first | refine blk_drewN ?_ _ | refine blk_drew ?_ | refine blk_alloc ?_ _)); exact BK256.out) hb)
            have n5_ := Aside0.mk (blk_below (g := gb268) (o := .cells #[.slice Ao21 t262.length co21, .int .i64 t265] 33 (0, 0)) (by (with_reducible repeat (first | refine blk_drewN ?_ _ | refine blk_drew ?_ | refine blk_alloc ?_ _)); exact BK268.out) hb)
            have n6_ := Aside0.mk (blk_below (g := gb273) (o := .cells #[.slice Ao27 t269.length co27, .int .i64 t272] 33 (0, 0)) (by (with_reducible repeat (first | refine blk_drewN ?_ _ | refine blk_drew ?_ | refine blk_alloc ?_ _)); exact BK273.out) hb)
            have n7_ := Aside0.mk (blk_below (g := gb280) (o := .cells #[.slice Ao33 t274.length co33, .int .i64 t277] 33 (0, 0)) (by (with_reducible repeat (first | refine blk_drewN ?_ _ | refine blk_drew ?_ | refine blk_alloc ?_ _)); exact BK280.out) hb)
            have n8_ := Aside0.mk (below_step (by repeat (first | (with_reducible first | exact HB.out | apply below_alloc | apply pw_below_drewN | apply below_drew1 | refine below_set ?_ GE256.out | refine below_set ?_ GE268.out | refine below_set ?_ GE273.out | refine below_set ?_ GE280.out) | exact HB.out)) hb)
            clear HO_269000
            clear HO_274000
            clear HO_281000
            clear HO284
            clear BK256
            clear BK268
            clear BK273
            clear BK280
            clear HB
            have HO_269000 := n0_
            have HO_274000 := n1_
            have HO_281000 := n2_
            have HO284 := n3_
            have BK256 := n4_
            have BK268 := n5_
            have BK273 := n6_
            have BK280 := n7_
            have HB := n8_
            clear n0_ n1_ n2_ n3_ n4_ n5_ n6_ n7_ n8_
            (try clear hb)
            (try clear hb2)
            (try clear hk)
            (try clear hi)
            refine hK.out _ _ ⟨(blk_cell BK273.out 0).trans rfl, (blk_cell BK273.out 1).trans rfl, (blk_cell BK256.out 0).trans rfl, (blk_cell BK256.out 1).trans rfl⟩ (fun hHeld => ?_)
            clear hK K
            refine norm_ (a' := ?_) ?_ ?_
            rotate_left
            · show Act.put _ (some 58) _ = _
              simp only [Act.put, List.setIfInBounds_toArray, List.set_cons_zero, List.set_cons_succ, i64_w, i32_w]
              rfl
            refine pure_ (i := 4) (N := some 59) (v := ?_) (a' := ?_) #[true, true, true, true, true] rfl rfl (by kernel_rfl) (fun _ _ _ h => h) (Or.inl ⟨by rfl, ?_⟩) ?_ ?_
            rotate_left
            · intro w'
              go_simp
              with_reducible rfl
            rotate_left
            · simp only [Act.put, List.setIfInBounds_toArray, List.set_cons_zero, List.set_cons_succ, i64_w, i32_w]
              rfl
            refine done_ (by kernel_rfl) ?_
            try go_wp2
            go_ret
            exact ⟨by first | rfl | (simp [errW_none, errW_some] <;> rfl) | (simp [*, errW_none, errW_some] <;> rfl), by repeat (first | (with_reducible first | exact HB.out | apply below_alloc | apply pw_below_drewN | apply below_drew1 | refine below_set ?_ GE256.out | refine below_set ?_ GE268.out | refine below_set ?_ GE273.out | refine below_set ?_ GE280.out) | exact HB.out)⟩

end Go.Proofs.Ytheecdeipmoihaa.PFnExactMakeStrokes
