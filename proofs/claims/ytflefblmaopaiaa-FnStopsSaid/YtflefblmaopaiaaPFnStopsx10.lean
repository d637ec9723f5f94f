-- written by a program of this session: the kit's print, with outer functions of the session's own (wip/ext)
import Derived.Test.YtflefblmaopaiaaPFnStopsx0
import Derived.Test.YtflefblmaopaiaaPFnStopsx9
namespace Go.Proofs.Ytflefblmaopaiaa.PFnStops
open Go.RowKit Go.Proofs.YtflefblmaopaiaaW.PrintWords Go.Proofs.YtflefblmaopaiaaW.PrintLast Go.Proofs.YtflefblmaopaiaaW.PrintMore
attribute [local go_sem] max2_int min2_int max_two min_two max_three min_three max_four min_four   -- for this text's walks alone
set_option linter.unusedVariables false
set_option linter.unusedSimpArgs false
theorem mo10_ {p : Prop} (h : p := by repeat' first | (with_reducible first | apply ih0 | apply ih0 | apply impl_IsSheet.mono | apply impl_IsSheet.mono | apply impl_holeStrokes.mono | apply impl_holeStrokes.mono | apply impl_strokesOf.mono | apply impl_strokesOf.mono | exact LeO.refl _ | exact LeO.none _ | refine LeO.ite ?_ ?_ | refine LeO.bind ?_ (fun _ => ?_)) | exact LeO.none _ | refine LeO.ite ?_ ?_ | refine LeO.bind ?_ (fun _ => ?_)) : p := h

/-! ### impl_holeStrokes: function 53 -/
def impl_holeStrokes.l0 : Nat → List (S77) → Int → Int → Int → Int → Int → Option ((List (S77)) × Bool)
 | 0, _, _, _, _, _, _ => none
 | k + 1, x4, x5, x6, x426000, x426001, x426002 => if x6 ≤ x5 then (if x4.length < 8796093022208 then (impl_holeStrokes.l0 k (x4 ++ [(⟨x426000, x6⟩ : S77)]) x5 (wrap64 (x6 + 4)) x426000 x426001 x426002) else (none)) else (if 0 ≤ (wrap64 ((x4.length : Int) - 1)) then (if (wrap64 ((x4.length : Int) - 1)) < (x4.length : Int) then (if x5 > ((rd_T77 x4 (wrap64 ((x4.length : Int) - 1))).f1) then (if x4.length < 8796093022208 then (some ((x4 ++ [(⟨x426000, x5⟩ : S77)]), true)) else (none)) else (some (x4, true))) else (none)) else (none))
def impl_holeStrokes.f (k : Nat) (a0_0 : Int) (a0_1 : Int) (a0_2 : Int) : Option ((List (S77)) × Bool) := if (wrap64 (a0_2 - a0_1)) < 4 then (some (([] : List (S77)), false)) else (impl_holeStrokes.l0 k (([] : List (S77))) (wrap64 (a0_2 - 4)) a0_1 a0_0 a0_1 a0_2)
theorem impl_holeStrokes.mono_l : ∀ k, (∀ y0 y1 y2 y3 y4 y5, LeO (impl_holeStrokes.l0 k y0 y1 y2 y3 y4 y5) (impl_holeStrokes.l0 (k + 1) y0 y1 y2 y3 y4 y5))
 | 0 => fun _ _ _ _ _ _ r h => by simp [impl_holeStrokes.l0] at h
 | k + 1 => by
  have ih0 := impl_holeStrokes.mono_l k
  ·intro y0 y1 y2 y3 y4 y5
   unfold impl_holeStrokes.l0
   exact mo10_
theorem impl_holeStrokes.mono : ∀ a0 a1 a2 k, LeO (impl_holeStrokes.f k a0 a1 a2) (impl_holeStrokes.f (k + 1) a0 a1 a2) := by
 intro a0 a1 a2 k
 have ih0 := impl_holeStrokes.mono_l k
 unfold impl_holeStrokes.f
 exact mo10_
set_option maxHeartbeats 8000000 in
set_option maxRecDepth 100000 in
theorem impl_holeStrokes.calls (k : Nat) (a0_0 : Int) (a0_1 : Int) (a0_2 : Int) (r1 : List (S77)) (r2 : Bool) (w : World) (h : impl_holeStrokes.f k a0_0 a0_1 a0_2 = some (r1, r2)) :
  Calls Try.prog 53 #[.agg #[.int .i64 a0_0, .int .i64 a0_1, .int .i64 a0_2]] w fun e w' => ∃ v0_ : Value, e = .returned (.tuple #[v0_, .bool r2]) ∧ Kd.R k77 77 w' w.heap.size (fun _ => True) v0_ r1 ∧ Below w.heap.size w w' := by
 have hu64 := Try.underlying64
 have hu77 := Try.underlying77
 have HB := Aside0.mk (Below.refl w.heap.size w)
 have H : (if (wrap64 (a0_2 - a0_1)) < 4 then (some (([] : List (S77)), false)) else (impl_holeStrokes.l0 k (([] : List (S77))) (wrap64 (a0_2 - 4)) a0_1 a0_0 a0_1 a0_2)) = some (r1, r2) := h
 clear h
 by_cases c2 : (wrap64 (a0_2 - a0_1)) < 4
 ·rw [if_pos c2] at H
  have c2b0 : decide ((wrap64 (a0_2 - a0_1)) < 4) = true := decide_eq_true c2
  clear c2
  simp only [Option.some.injEq, Prod.mk.injEq] at H
  obtain ⟨rfl, rfl⟩ := H
  go_enter Try.func53, Try.ntmps53
  go_wp2_with (first | ((with_reducible refine gate_dst (N := 1) rfl ?_); refine bv_ 1 64 #[.int .i64 a0_0, .int .i64 a0_1, .int .i64 a0_2] ?_; intro gb425 hg w3 hbox hb; refine k4_ (below_step (Z3) hb) (hbox) ((Z26 : w.heap.size ≤ gb425)) ((Z26 : w.heap.size ≤ gb425)) ?_; clear HB; intro HB BK425 GW425 GE425; clear hb hbox hg; obtain ⟨hcz4_0, hcz4_1, hcz4_2, hfz4_0, hfz4_1, hfz4_2⟩ := bx3_ (w := w3) BK425.out))
  go_ret2
  exact ⟨_, Z11, Z21, Z85⟩
 rw [if_neg c2] at H
 have c2b0 : decide ((wrap64 (a0_2 - a0_1)) < 4) = false := decide_eq_false c2
 clear c2
 obtain ⟨y426, hy426⟩ : ∃ y_ : List (S77), y_ = (([] : List (S77))) := ⟨_, rfl⟩
 replace H : (impl_holeStrokes.l0 k y426 (wrap64 (a0_2 - 4)) a0_1 a0_0 a0_1 a0_2) = some (r1, r2) := by first | (rw [hy426]; with_reducible exact H) | (have H2_ := (Option.bind_some _ _).symm.trans H; rw [hy426]; with_reducible exact H2_) | (have H2_ := (Option.bind_some _ _).symm.trans H; with_reducible exact H2_) | with_reducible exact H | (rw [hy426]; exact H) | exact H
 have Ny426 := Aside0.mk hy426
 clear hy426
 have H' := Aside0.mk H
 clear H
 go_enter Try.func53, Try.ntmps53
 go_wp2_with (first | ((with_reducible refine gate_dst (N := 1) rfl ?_); refine bv_ 1 64 #[.int .i64 a0_0, .int .i64 a0_1, .int .i64 a0_2] ?_; intro gb425 hg w5 hbox hb; refine k4_ (below_step (Z3) hb) (hbox) ((Z26 : w.heap.size ≤ gb425)) ((Z26 : w.heap.size ≤ gb425)) ?_; clear HB; intro HB BK425 GW425 GE425; clear hb hbox hg; obtain ⟨hcz6_0, hcz6_1, hcz6_2, hfz6_0, hfz6_1, hfz6_2⟩ := bx3_ (w := w5) BK425.out) | ((with_reducible refine gate_dst (N := 13) rfl ?_); refine Kd.R_lit k77 _ 77 ?hg (N := 13) ?hd (xs := ([] : List (S77))) (inner := []) (ok := fun _ => True) (okp := fun _ => True) ?hr ?hp (fun _ hk => hk) trivial (Below.refl _ _) (Nat.le_refl _) (by simp) ?_; (case hd => rfl); (case hg => rfl); (case hr => exact Z100); (case hp => exact (Reps.none _ _)); intro v427 w7 ho8 hb hg_ hnew_; clear hg_ hnew_; (first | rw [← Ny426.out] at ho8 | (simp only [Int.reduceToNat] at ho8; rw [← Ny426.out] at ho8)); refine k3_ (Kd.R_lower ho8 (below_size (Z85))) (blk_below (g := gb425) (o := .cells #[.int .i64 a0_0, .int .i64 a0_1, .int .i64 a0_2] 64 (0, 0)) (Z2 BK425.out) hb) (below_step (Z85) hb) ?_; clear BK425 HB; intro HO428 BK425 HB; clear hb ho8; obtain ⟨hcz9_0, hcz9_1, hcz9_2, hfz9_0, hfz9_1, hfz9_2⟩ := bx3_ (w := w7) BK425.out))
 (try simp only [Act.put, List.setIfInBounds_toArray, List.set_cons_zero, List.set_cons_succ])
 go_loopg [4, 6] k (fun kq v4 v6 w' => ∃ (x4_1 : List (S77)) (x6_1 : Int), v6 = .int .i64 x6_1 ∧ Aside0 (impl_holeStrokes.l0 kq x4_1 (wrap64 (a0_2 - 4)) x6_1 a0_0 a0_1 a0_2 = some (r1, r2)) ∧ Aside0 (kq ≤ k) ∧ Aside0 (Kd.R k77 77 w' w.heap.size (fun _ => True) v4 x4_1) ∧ Aside0 (w'.heap[gb425]? = some (.cells #[.int .i64 a0_0, .int .i64 a0_1, .int .i64 a0_2] 64 (0, 0))) ∧ Aside0 (Below w.heap.size w w'))
 case atStart => exact ⟨(y426), (a0_1), (Z17), H', ⟨Nat.le_refl _⟩, ⟨Z1 HO428.out⟩, ⟨Z2 BK425.out⟩, ⟨Z85⟩⟩
 case round =>
  clear H'
  (try clear c2); (try clear c2b0); (try clear p2); (try clear c5); (try clear p6); (try clear hcz4_0); (try clear hcz4_1); (try clear hcz4_2); (try clear hcz6_0); (try clear hcz6_1); (try clear hcz6_2); (try clear hcz9_0); (try clear hcz9_1); (try clear hcz9_2); (try clear hfz4_0); (try clear hfz4_1); (try clear hfz4_2); (try clear hfz6_0); (try clear hfz6_1); (try clear hfz6_2); (try clear hfz9_0); (try clear hfz9_1); (try clear hfz9_2)
  obtain ⟨x4_1, x6_1, rfl, HA, HK1, HO_4, BK425, HB⟩ := hrel
  cases gk with
  | zero => exact absurd HA.out (by simp [impl_holeStrokes.l0])
  | succ k1 =>
   have H := HA.out
   clear HA
   simp only [impl_holeStrokes.l0] at H
   by_cases c10 : x6_1 ≤ (wrap64 (a0_2 - 4))
   ·rw [if_pos c10] at H
    have c10b0 : decide (x6_1 ≤ (wrap64 (a0_2 - 4))) = true := decide_eq_true c10
    clear c10
    by_cases c11 : x4_1.length < 8796093022208
    ·rw [if_pos c11] at H
     have LMc11 := Aside0.mk c11
     clear c11
     obtain ⟨y429, hy429⟩ : ∃ y_ : List (S77), y_ = (x4_1 ++ [(⟨a0_0, x6_1⟩ : S77)]) := ⟨_, rfl⟩
     replace H : (impl_holeStrokes.l0 k1 y429 (wrap64 (a0_2 - 4)) (wrap64 (x6_1 + 4)) a0_0 a0_1 a0_2) = some (r1, r2) := by first | (rw [hy429]; with_reducible exact H) | (have H2_ := (Option.bind_some _ _).symm.trans H; rw [hy429]; with_reducible exact H2_) | (have H2_ := (Option.bind_some _ _).symm.trans H; with_reducible exact H2_) | with_reducible exact H | (rw [hy429]; exact H) | exact H
     have Ny429 := Aside0.mk hy429
     clear hy429
     have H' := Aside0.mk H
     clear H
     obtain ⟨hcz12_0, hcz12_1, hcz12_2, hfz12_0, hfz12_1, hfz12_2⟩ := bx3_ (w := wr) BK425.out
     go_wp2_with (first | ((with_reducible refine gate_builtin (b := .append) (xs := #[.tmp 24, .tmp 29]) rfl ?_); at_builtin; refine Kd.R_append k77 (w0 := w) w.heap.size rfl (.tmp 24) (.tmp 29) 55 77 (.agg #[(.int .i64 0), (.int .i64 0)]) 16 rfl Try.underlying55 info77 rfl (by decide) (by omega) u4 x4_1 (⟨a0_0, x6_1⟩ : S77) [.int .i64 a0_0, .int .i64 x6_1] (fun _ => True) (fun _ => False) rfl rfl ?aP (fun _ hk => hk.elim) ?aF ?aO ?aB ?aS ?aL ?_; (case aP => exact k77_mkM _ _ _ (⟨a0_0, x6_1⟩ : S77)); (case aB => exact Z85); (case aF => exact (fun _ _ => trivial)); (case aO => exact Z1 HO_4.out); (case aS => exact (below_size (Z85))); (case aL => have := LMc11.out; omega); intro v430 w13 ho hb hg hat; rw [← Ny429.out] at ho; refine k3_ (blk_grown (g := gb425) (o := .cells #[.int .i64 a0_0, .int .i64 a0_1, .int .i64 a0_2] 64 (0, 0)) (Z2 BK425.out) hg (Kd.R_ne HO_4.out BK425.out (by decide))) (hb) (ho) ?_; clear BK425 HB HO_4; intro BK425 HB HO431; clear ho hb hg hat))
     go_roundg k1
     case measure => have := HK1.out; omega
     case rel => exact ⟨(y429), (wrap64 (x6_1 + 4)), (Z17), H', ⟨Z187⟩, ⟨Z1 HO431.out⟩, ⟨Z2 BK425.out⟩, ⟨Z85⟩⟩
    rw [if_neg c11] at H
    exact absurd H (by simp)
   rw [if_neg c10] at H
   have c10b0 : decide (x6_1 ≤ (wrap64 (a0_2 - 4))) = false := decide_eq_false c10
   clear c10
   obtain ⟨ji14, hji14⟩ : ∃ j_ : Int, (wrap64 ((x4_1.length : Int) - 1)) = j_ := ⟨_, rfl⟩
   replace H : (if 0 ≤ (ji14) then (if (ji14) < (x4_1.length : Int) then (if (wrap64 (a0_2 - 4)) > ((rd_T77 x4_1 (ji14)).f1) then (if x4_1.length < 8796093022208 then (some ((x4_1 ++ [(⟨a0_0, (wrap64 (a0_2 - 4))⟩ : S77)]), true)) else (none)) else (some (x4_1, true))) else (none)) else (none)) = some (r1, r2) := by first | (rw [hji14] at H; exact H) | (simp only [hji14] at H ⊢; exact H)
   have hji14w : (IntKind.i64.wrap ((x4_1.length : Int) - 1)) = ji14 := (i64_w _).trans hji14
   by_cases c15 : 0 ≤ (ji14)
   ·rw [if_pos c15] at H
    have c15b0 : decide (0 ≤ (ji14)) = true := decide_eq_true c15
    clear c15
    by_cases c16 : (ji14) < (x4_1.length : Int)
    ·rw [if_pos c16] at H
     have c16b0 : decide ((ji14) < (x4_1.length : Int)) = true := decide_eq_true c16
     clear c16
     by_cases c17 : (wrap64 (a0_2 - 4)) > ((rd_T77 x4_1 (ji14)).f1)
     ·rw [if_pos c17] at H
      have c17b0 : decide (((rd_T77 x4_1 (ji14)).f1) < (wrap64 (a0_2 - 4))) = true := decide_eq_true c17
      clear c17
      by_cases c18 : x4_1.length < 8796093022208
      ·rw [if_pos c18] at H
       have LMc18 := Aside0.mk c18
       clear c18
       obtain ⟨y433, hy433⟩ : ∃ y_ : List (S77), y_ = (x4_1 ++ [(⟨a0_0, (wrap64 (a0_2 - 4))⟩ : S77)]) := ⟨_, rfl⟩
       replace H : (some (y433, true)) = some (r1, r2) := by first | (rw [hy433]; with_reducible exact H) | (have H2_ := (Option.bind_some _ _).symm.trans H; rw [hy433]; with_reducible exact H2_) | (have H2_ := (Option.bind_some _ _).symm.trans H; with_reducible exact H2_) | with_reducible exact H | (rw [hy433]; exact H) | exact H
       have Ny433 := Aside0.mk hy433
       clear hy433
       simp only [Option.some.injEq, Prod.mk.injEq] at H
       obtain ⟨rfl, rfl⟩ := H
       obtain ⟨Ao19, co19, eo19⟩ := Kd.R_slice HO_4.out
       subst eo19
       have p432 : 0 ≤ ((ji14) : Int) := of_decide_eq_true (Z18)
       have q432 : (ji14) < (x4_1.length : Int) := of_decide_eq_true (Z18)
       obtain ⟨ad432, e432, hx432_0, hx432_1⟩ := at_T77 (Kd.R_reads' HO_4.out).2.2 (ji14) p432 q432
       cases e432
       replace p432 := eq_true p432
       replace q432 := eq_true q432
       obtain ⟨hcz20_0, hcz20_1, hcz20_2, hfz20_0, hfz20_1, hfz20_2⟩ := bx3_ (w := wr) BK425.out
       go_wp2_with (first | ((with_reducible refine gate_builtin (b := .append) (xs := #[.tmp 40, .tmp 45]) rfl ?_); at_builtin; refine Kd.R_append k77 (w0 := w) w.heap.size rfl (.tmp 40) (.tmp 45) 55 77 (.agg #[(.int .i64 0), (.int .i64 0)]) 16 rfl Try.underlying55 info77 rfl (by decide) (by omega) (.slice (some ad432) x4_1.length co19) x4_1 (⟨a0_0, (wrap64 (a0_2 - 4))⟩ : S77) [.int .i64 a0_0, .int .i64 (wrap64 (a0_2 - 4))] (fun _ => True) (fun _ => False) rfl rfl ?aP (fun _ hk => hk.elim) ?aF ?aO ?aB ?aS ?aL ?_; (case aP => exact k77_mkM _ _ _ (⟨a0_0, (wrap64 (a0_2 - 4))⟩ : S77)); (case aB => exact Z85); (case aF => exact (fun _ _ => trivial)); (case aO => exact Z1 HO_4.out); (case aS => exact (below_size (Z85))); (case aL => have := LMc18.out; omega); intro v434 w21 ho hb hg hat; rw [← Ny433.out] at ho; refine k3_ (blk_grown (g := gb425) (o := .cells #[.int .i64 a0_0, .int .i64 a0_1, .int .i64 a0_2] 64 (0, 0)) (Z2 BK425.out) hg (Kd.R_ne HO_4.out BK425.out (by decide))) (hb) (ho) ?_; clear BK425 HB HO_4; intro BK425 HB HO435; clear ho hb hg hat))
       go_ret2
       exact ⟨_, Z182, Z1 HO435.out, Z85⟩
      rw [if_neg c18] at H
      exact absurd H (by simp)
     rw [if_neg c17] at H
     have c17b0 : decide (((rd_T77 x4_1 (ji14)).f1) < (wrap64 (a0_2 - 4))) = false := decide_eq_false c17
     clear c17
     simp only [Option.some.injEq, Prod.mk.injEq] at H
     obtain ⟨rfl, rfl⟩ := H
     obtain ⟨Ao22, co22, eo22⟩ := Kd.R_slice HO_4.out
     subst eo22
     have p432 : 0 ≤ ((ji14) : Int) := of_decide_eq_true (Z18)
     have q432 : (ji14) < (x4_1.length : Int) := of_decide_eq_true (Z18)
     obtain ⟨ad432, e432, hx432_0, hx432_1⟩ := at_T77 (Kd.R_reads' HO_4.out).2.2 (ji14) p432 q432
     cases e432
     replace p432 := eq_true p432
     replace q432 := eq_true q432
     go_wp2
     go_ret2
     exact ⟨_, Z182, Z1 HO_4.out, Z85⟩
    rw [if_neg c16] at H
    exact absurd H (by simp)
   rw [if_neg c15] at H
   exact absurd H (by simp)

/-! ### impl_strokesOf: function 45 -/
def impl_strokesOf.l0 : Nat → List (S77) → List (S64) → Int → Int → Option ((List (S77)) × Bool)
 | 0, _, _, _, _ => none
 | k + 1, x4, x10, x11, x12 => if x12 < x11 then (if 0 ≤ x12 then (if x12 < (x10.length : Int) then ((impl_holeStrokes.f k ((rd_T64 x10 x12).f0) ((rd_T64 x10 x12).f1) ((rd_T64 x10 x12).f2)).bind fun bt441 => (if bt441.2 = true then (if x4.length + bt441.1.length < 8796093022208 then (impl_strokesOf.l0 k (x4 ++ bt441.1) x10 x11 (wrap64 (x12 + 1))) else (none)) else (some (([] : List (S77)), false)))) else (none)) else (none)) else (if (x4.length : Int) > 200 then (some (([] : List (S77)), false)) else (some (x4, true)))
def impl_strokesOf.f (k : Nat) (l0 : List (S64)) : Option ((List (S77)) × Bool) := impl_strokesOf.l0 k (([] : List (S77))) l0 (l0.length : Int) 0
theorem impl_strokesOf.mono_l : ∀ k, (∀ y0 y1 y2 y3, LeO (impl_strokesOf.l0 k y0 y1 y2 y3) (impl_strokesOf.l0 (k + 1) y0 y1 y2 y3))
 | 0 => fun _ _ _ _ r h => by simp [impl_strokesOf.l0] at h
 | k + 1 => by
  have ih0 := impl_strokesOf.mono_l k
  ·intro y0 y1 y2 y3
   unfold impl_strokesOf.l0
   exact mo10_
theorem impl_strokesOf.mono : ∀ a0 k, LeO (impl_strokesOf.f k a0) (impl_strokesOf.f (k + 1) a0) := by
 intro a0 k
 have ih0 := impl_strokesOf.mono_l k
 unfold impl_strokesOf.f
 exact mo10_
set_option maxHeartbeats 8000000 in
set_option maxRecDepth 100000 in
theorem impl_strokesOf.calls (k : Nat) (A0 : Option Addr) (c0 : Nat) (l0 : List (S64)) (r1 : List (S77)) (r2 : Bool) (w : World) (hr0 : Kd.C k64 w A0 l0.length l0) (hc0 : l0.length ≤ c0) (h : impl_strokesOf.f k l0 = some (r1, r2)) :
  Calls Try.prog 45 #[.slice A0 l0.length c0] w fun e w' => ∃ v0_ : Value, e = .returned (.tuple #[v0_, .bool r2]) ∧ Kd.R k77 77 w' w.heap.size (fun _ => True) v0_ r1 ∧ Below w.heap.size w w' := by
 have hu64 := Try.underlying64
 have HR0 := Aside0.mk hr0
 have HC0 := Aside0.mk hc0
 clear hr0 hc0
 have HB := Aside0.mk (Below.refl w.heap.size w)
 have H : (impl_strokesOf.l0 k (([] : List (S77))) l0 (l0.length : Int) 0) = some (r1, r2) := h
 clear h
 obtain ⟨y436, hy436⟩ : ∃ y_ : List (S77), y_ = (([] : List (S77))) := ⟨_, rfl⟩
 replace H : (impl_strokesOf.l0 k y436 l0 (l0.length : Int) 0) = some (r1, r2) := by first | (rw [hy436]; with_reducible exact H) | (have H2_ := (Option.bind_some _ _).symm.trans H; rw [hy436]; with_reducible exact H2_) | (have H2_ := (Option.bind_some _ _).symm.trans H; with_reducible exact H2_) | with_reducible exact H | (rw [hy436]; exact H) | exact H
 have Ny436 := Aside0.mk hy436
 clear hy436
 have H' := Aside0.mk H
 clear H
 go_enter Try.func45, Try.ntmps45
 go_wp2_with (first | ((with_reducible refine gate_dst (N := 9) rfl ?_); refine Kd.R_lit k77 _ 77 ?hg (N := 9) ?hd (xs := ([] : List (S77))) (inner := []) (ok := fun _ => True) (okp := fun _ => True) ?hr ?hp (fun _ hk => hk) trivial (Below.refl _ _) (Nat.le_refl _) (by simp) ?_; (case hd => rfl); (case hg => rfl); (case hr => exact Z100); (case hp => exact (Reps.none _ _)); intro v437 w2 ho3 hb hg_ hnew_; clear hg_ hnew_; (first | rw [← Ny436.out] at ho3 | (simp only [Int.reduceToNat] at ho3; rw [← Ny436.out] at ho3)); refine k2_ (Kd.R_lower ho3 (below_size (Z3))) (below_step (Z3) hb) ?_; clear HB; intro HO438 HB; clear hb ho3))
 (try simp only [Act.put, List.setIfInBounds_toArray, List.set_cons_zero, List.set_cons_succ])
 go_loopg [4, 12] k (fun kq v4 v12 w' => ∃ (x4_1 : List (S77)) (x12_1 : Int), v12 = .int .i64 x12_1 ∧ Aside0 (impl_strokesOf.l0 kq x4_1 l0 (l0.length : Int) x12_1 = some (r1, r2)) ∧ Aside0 (kq ≤ k) ∧ Aside0 (Kd.R k77 77 w' w.heap.size (fun _ => True) v4 x4_1) ∧ Aside0 (Below w.heap.size w w'))
 case atStart => exact ⟨(y436), (0), (Z17), H', ⟨Nat.le_refl _⟩, ⟨Z1 HO438.out⟩, ⟨Z3⟩⟩
 case round =>
  clear H'
  (try clear p2)
  obtain ⟨x4_1, x12_1, rfl, HA, HK1, HO_4, HB⟩ := hrel
  cases gk with
  | zero => exact absurd HA.out (by simp [impl_strokesOf.l0])
  | succ k1 =>
   have H := HA.out
   clear HA
   simp only [impl_strokesOf.l0] at H
   by_cases c4 : x12_1 < (l0.length : Int)
   ·rw [if_pos c4] at H
    have c4b0 : decide (x12_1 < (l0.length : Int)) = true := decide_eq_true c4
    clear c4
    by_cases c5 : 0 ≤ x12_1
    ·rw [if_pos c5] at H
     have c5b0 : decide (0 ≤ x12_1) = true := decide_eq_true c5
     clear c5
     by_cases c6 : x12_1 < (l0.length : Int)
     ·rw [if_pos c6] at H
      have c6b0 : decide (x12_1 < (l0.length : Int)) = true := decide_eq_true c6
      clear c6
      replace H := Option.bind_eq_some_iff.mp H
      obtain ⟨⟨t441, t444⟩, A70, H⟩ := H
      (try dsimp only at H)
      have A7 := Aside0.mk A70
      clear A70
      by_cases c8 : t444 = true
      ·subst c8
       rw [if_pos rfl] at H
       by_cases c9 : x4_1.length + t441.length < 8796093022208
       ·rw [if_pos c9] at H
        have LMc9 := Aside0.mk c9
        clear c9
        obtain ⟨y445, hy445⟩ : ∃ y_ : List (S77), y_ = (x4_1 ++ t441) := ⟨_, rfl⟩
        replace H : (impl_strokesOf.l0 k1 y445 l0 (l0.length : Int) (wrap64 (x12_1 + 1))) = some (r1, r2) := by first | (rw [hy445]; with_reducible exact H) | (have H2_ := (Option.bind_some _ _).symm.trans H; rw [hy445]; with_reducible exact H2_) | (have H2_ := (Option.bind_some _ _).symm.trans H; with_reducible exact H2_) | with_reducible exact H | (rw [hy445]; exact H) | exact H
        have Ny445 := Aside0.mk hy445
        clear hy445
        have H' := Aside0.mk H
        clear H
        have p439 : 0 ≤ (x12_1 : Int) := of_decide_eq_true (Z18)
        have q439 : x12_1 < (l0.length : Int) := of_decide_eq_true (Z18)
        obtain ⟨ad439, e439, hx439_0, hx439_1, hx439_2⟩ := at_T64 HR0.out x12_1 p439 q439
        cases e439
        replace hx439_0 := (HB.out.cell (World.block_lt_of_cell? w _ hx439_0)).trans hx439_0
        replace hx439_1 := (HB.out.cell (World.block_lt_of_cell? w _ hx439_1)).trans hx439_1
        replace hx439_2 := (HB.out.cell (World.block_lt_of_cell? w _ hx439_2)).trans hx439_2
        replace p439 := eq_true p439
        replace q439 := eq_true q439
        go_wp2_with (first | ((with_reducible refine gate_dst (N := 6) rfl ?_); refine bv_ 6 64 #[.int .i64 0, .int .i64 0, .int .i64 0] ?_; intro gb440 hg w10 hbox hb; refine k5_ (Ya_ HO_4.out) (below_step (Z3) hb) (hbox) ((Z26 : w.heap.size ≤ gb440)) ((Z26 : w.heap.size ≤ gb440)) ?_; clear HO_4 HB; intro HO_4 HB BK440 GW440 GE440; clear hb hbox hg; obtain ⟨hcz11_0, hcz11_1, hcz11_2, hfz11_0, hfz11_1, hfz11_2⟩ := bx3_ (w := w10) BK440.out) | ((with_reducible refine gate_callee (f := 53) rfl ?_); refine gl_ 18 Try.func53 #[.agg #[.int .i64 ((rd_T64 l0 x12_1).f0), .int .i64 ((rd_T64 l0 x12_1).f1), .int .i64 ((rd_T64 l0 x12_1).f2)]] ?_; (with_reducible refine (impl_holeStrokes.calls k1 ((rd_T64 l0 x12_1).f0) ((rd_T64 l0 x12_1).f1) ((rd_T64 l0 x12_1).f2) t441 true _ A7.out).mono ?_); rintro e w12 ⟨v442, rfl, ho0, hb⟩; refine ⟨_, rfl, ?_⟩; refine k4_ (Kd.R_elder' (Z95) (Kd.R_base ho0) hb) (Kd.R_lower (Kd.R_new' ho0 (Kd.R_lt (Z95))) (below_size (Z104))) (blk_below (g := gb440) (o := .cells #[.int .i64 ((rd_T64 l0 x12_1).f0), .int .i64 ((rd_T64 l0 x12_1).f1), .int .i64 ((rd_T64 l0 x12_1).f2)] 64 (0, 0)) (Z50 BK440.out) hb) (below_step (Z104) hb) ?_; clear HO_4 BK440 HB; intro HO_4 HO443 BK440 HB; (try clear hb ho0); obtain ⟨Ao14, co14, eo14⟩ := Kd.R_slice HO443.out; subst eo14) | ((with_reducible refine gate_builtin (b := .append) (xs := #[.tmp 23, .tmp 24]) rfl ?_); at_builtin; refine Kd.R_append_rows k77 (w0 := w) w.heap.size rfl (.tmp 23) (.tmp 24) 55 77 (.agg #[(.int .i64 0), (.int .i64 0)]) 16 rfl Try.underlying55 info77 rfl (by decide) (by omega) u4 x4_1 t441 _ _ _ (fun k_ => some k_ ≠ (.slice Ao14 t441.length co14 : Value).ownBlock) (fun _ => False) rfl rfl ?aO ?aR (fun _ _ h => h) (fun _ h => h.elim) ?aF ?aB ?aS ?aL ?_; (case aR => exact Z7 HO443.out); (case aB => exact Z104); (case aF => exact (fun k_ hk => Kd.fresh' (Yd_ HO443.out) k_ hk)); (case aO => exact Z83 HO_4.out); (case aS => exact (below_size (Z104))); (case aL => have := LMc9.out; omega); intro v446 w13 ho hb hg hat; rw [← Ny445.out] at ho; refine k4_ (blk_grown (g := gb440) (o := .cells #[.int .i64 ((rd_T64 l0 x12_1).f0), .int .i64 ((rd_T64 l0 x12_1).f1), .int .i64 ((rd_T64 l0 x12_1).f2)] 64 (0, 0)) (Z2 BK440.out) hg (Kd.R_ne HO_4.out BK440.out (by decide))) (Kd.R_after (ok := (fun _ => True)) (Z1 HO443.out) hg hat) (hb) (ho) ?_; clear BK440 HO443 HB HO_4; intro BK440 HO443 HB HO447; clear ho hb hg hat))
        go_roundg k1
        case measure => have := HK1.out; omega
        case rel => exact ⟨(y445), (wrap64 (x12_1 + 1)), (Z17), H', ⟨Z187⟩, ⟨Z103 HO447.out⟩, ⟨Z104⟩⟩
       rw [if_neg c9] at H
       exact absurd H (by simp)
      replace c8 := Bool.eq_false_iff.mpr c8
      subst c8
      rw [if_neg (show ¬ (false = true) by decide)] at H
      simp only [Option.some.injEq, Prod.mk.injEq] at H
      obtain ⟨rfl, rfl⟩ := H
      have p439 : 0 ≤ (x12_1 : Int) := of_decide_eq_true (Z18)
      have q439 : x12_1 < (l0.length : Int) := of_decide_eq_true (Z18)
      obtain ⟨ad439, e439, hx439_0, hx439_1, hx439_2⟩ := at_T64 HR0.out x12_1 p439 q439
      cases e439
      replace hx439_0 := (HB.out.cell (World.block_lt_of_cell? w _ hx439_0)).trans hx439_0
      replace hx439_1 := (HB.out.cell (World.block_lt_of_cell? w _ hx439_1)).trans hx439_1
      replace hx439_2 := (HB.out.cell (World.block_lt_of_cell? w _ hx439_2)).trans hx439_2
      replace p439 := eq_true p439
      replace q439 := eq_true q439
      go_wp2_with (first | ((with_reducible refine gate_dst (N := 6) rfl ?_); refine bv_ 6 64 #[.int .i64 0, .int .i64 0, .int .i64 0] ?_; intro gb440 hg w15 hbox hb; refine k5_ (Ya_ HO_4.out) (below_step (Z3) hb) (hbox) ((Z26 : w.heap.size ≤ gb440)) ((Z26 : w.heap.size ≤ gb440)) ?_; clear HO_4 HB; intro HO_4 HB BK440 GW440 GE440; clear hb hbox hg; obtain ⟨hcz16_0, hcz16_1, hcz16_2, hfz16_0, hfz16_1, hfz16_2⟩ := bx3_ (w := w15) BK440.out) | ((with_reducible refine gate_callee (f := 53) rfl ?_); refine gl_ 18 Try.func53 #[.agg #[.int .i64 ((rd_T64 l0 x12_1).f0), .int .i64 ((rd_T64 l0 x12_1).f1), .int .i64 ((rd_T64 l0 x12_1).f2)]] ?_; (with_reducible refine (impl_holeStrokes.calls k1 ((rd_T64 l0 x12_1).f0) ((rd_T64 l0 x12_1).f1) ((rd_T64 l0 x12_1).f2) t441 false _ A7.out).mono ?_); rintro e w17 ⟨v442, rfl, ho0, hb⟩; refine ⟨_, rfl, ?_⟩; refine k4_ (Kd.R_elder' (Z95) (Kd.R_base ho0) hb) (Kd.R_lower (Kd.R_new' ho0 (Kd.R_lt (Z95))) (below_size (Z104))) (blk_below (g := gb440) (o := .cells #[.int .i64 ((rd_T64 l0 x12_1).f0), .int .i64 ((rd_T64 l0 x12_1).f1), .int .i64 ((rd_T64 l0 x12_1).f2)] 64 (0, 0)) (Z50 BK440.out) hb) (below_step (Z104) hb) ?_; clear HO_4 BK440 HB; intro HO_4 HO443 BK440 HB; (try clear hb ho0)))
      go_ret2
      exact ⟨_, Z11, Z21, Z104⟩
     rw [if_neg c6] at H
     exact absurd H (by simp)
    rw [if_neg c5] at H
    exact absurd H (by simp)
   rw [if_neg c4] at H
   have c4b0 : decide (x12_1 < (l0.length : Int)) = false := decide_eq_false c4
   clear c4
   by_cases c18 : (x4_1.length : Int) > 200
   ·rw [if_pos c18] at H
    have c18b0 : decide (200 < (x4_1.length : Int)) = true := decide_eq_true c18
    have c18b1 : decide (200 < x4_1.length) = true := decide_eq_true (by omega)
    clear c18
    simp only [Option.some.injEq, Prod.mk.injEq] at H
    obtain ⟨rfl, rfl⟩ := H
    obtain ⟨Ao19, co19, eo19⟩ := Kd.R_slice HO_4.out
    subst eo19
    go_wp2
    go_ret2
    exact ⟨_, Z11, Z21, Z3⟩
   rw [if_neg c18] at H
   have c18b0 : decide (200 < (x4_1.length : Int)) = false := decide_eq_false c18
   have c18b1 : decide (200 < x4_1.length) = false := decide_eq_false (by omega)
   clear c18
   simp only [Option.some.injEq, Prod.mk.injEq] at H
   obtain ⟨rfl, rfl⟩ := H
   obtain ⟨Ao20, co20, eo20⟩ := Kd.R_slice HO_4.out
   subst eo20
   go_wp2
   go_ret2
   exact ⟨_, Z11, Z1 HO_4.out, Z3⟩

/-! ### impl_jobStrokes: function 27 -/
def impl_jobStrokes.f (k : Nat) (l0_0 : List (S64)) (a0_1 : Int) : Option ((List (S77)) × Bool) := (impl_IsSheet.f k l0_0).bind fun t449 => (if t449 = true then ((impl_strokesOf.f k l0_0).bind fun bt450 => (if bt450.2 = true then (if a0_1 ≥ 0 then (some (bt450.1, decide (a0_1 ≤ (bt450.1.length : Int)))) else (some (bt450.1, false))) else (some (bt450.1, false)))) else (some (([] : List (S77)), false)))
theorem impl_jobStrokes.mono : ∀ a0 a1 k, LeO (impl_jobStrokes.f k a0 a1) (impl_jobStrokes.f (k + 1) a0 a1) := by
 intro a0 a1 k
 unfold impl_jobStrokes.f
 exact mo10_
set_option maxHeartbeats 8000000 in
set_option maxRecDepth 100000 in
theorem impl_jobStrokes.calls (k : Nat) (A0_0 : Option Addr) (c0_0 : Nat) (l0_0 : List (S64)) (a0_1 : Int) (r1 : List (S77)) (r2 : Bool) (w : World) (hr0_0 : Kd.C k64 w A0_0 l0_0.length l0_0) (hc0_0 : l0_0.length ≤ c0_0) (h : impl_jobStrokes.f k l0_0 a0_1 = some (r1, r2)) :
  Calls Try.prog 27 #[.agg #[.slice A0_0 l0_0.length c0_0, .int .i64 a0_1]] w fun e w' => ∃ v0_ : Value, e = .returned (.tuple #[v0_, .bool r2]) ∧ Kd.R k77 77 w' w.heap.size (fun _ => True) v0_ r1 ∧ Below w.heap.size w w' := by
 have hu28 := Try.underlying28
 have HR0_0 := Aside0.mk hr0_0
 have HC0_0 := Aside0.mk hc0_0
 clear hr0_0 hc0_0
 have HB := Aside0.mk (Below.refl w.heap.size w)
 have H : ((impl_IsSheet.f k l0_0).bind fun t449 => (if t449 = true then ((impl_strokesOf.f k l0_0).bind fun bt450 => (if bt450.2 = true then (if a0_1 ≥ 0 then (some (bt450.1, decide (a0_1 ≤ (bt450.1.length : Int)))) else (some (bt450.1, false))) else (some (bt450.1, false)))) else (some (([] : List (S77)), false)))) = some (r1, r2) := h
 clear h
 replace H := Option.bind_eq_some_iff.mp H
 obtain ⟨t449, A20, H⟩ := H
 (try dsimp only at H)
 have A2 := Aside0.mk A20
 clear A20
 by_cases c3 : t449 = true
 ·subst c3
  rw [if_pos rfl] at H
  replace H := Option.bind_eq_some_iff.mp H
  obtain ⟨⟨t450, t451⟩, A40, H⟩ := H
  (try dsimp only at H)
  have A4 := Aside0.mk A40
  clear A40
  by_cases c5 : t451 = true
  ·subst c5
   rw [if_pos rfl] at H
   by_cases c6 : a0_1 ≥ 0
   ·rw [if_pos c6] at H
    have c6b0 : decide (0 ≤ a0_1) = true := decide_eq_true c6
    clear c6
    simp only [Option.some.injEq, Prod.mk.injEq] at H
    obtain ⟨rfl, rfl⟩ := H
    go_enter Try.func27, Try.ntmps27
    go_wp2_with (first | ((with_reducible refine gate_dst (N := 1) rfl ?_); (try (refine gate_guard (by rfl) ?_; dsimp only)); refine bv_ 1 28 #[.slice A0_0 l0_0.length c0_0, .int .i64 a0_1] ?_; intro gb448 hg w7 hbox hb; refine k4_ (below_step (Z3) hb) (hbox) ((Z26 : w.heap.size ≤ gb448)) ((Z26 : w.heap.size ≤ gb448)) ?_; clear HB; intro HB BK448 GW448 GE448; clear hb hbox hg; obtain ⟨hcz8_0, hcz8_1, hfz8_0, hfz8_1⟩ := bx2_ (w := w7) BK448.out) | (go_at_call 15; (with_reducible refine (impl_IsSheet.calls k _ _ l0_0 true _ ?_ ?_ A2.out).mono ?_); exact Z10 HR0_0.out; exact HC0_0.out; rintro e w9 ⟨rfl, hb⟩; refine k2_ (blk_below (g := gb448) (o := .cells #[.slice A0_0 l0_0.length c0_0, .int .i64 a0_1] 28 (0, 0)) (Z2 BK448.out) hb) (below_step (Z20) hb) ?_; clear BK448 HB; intro BK448 HB; (try clear hb); obtain ⟨hcz10_0, hcz10_1, hfz10_0, hfz10_1⟩ := bx2_ (w := w9) BK448.out) | (go_at_call 45; (with_reducible refine (impl_strokesOf.calls k _ _ l0_0 t450 true _ ?_ ?_ A4.out).mono ?_); exact Z10 HR0_0.out; exact HC0_0.out; rintro e w11 ⟨v452, rfl, ho0, hb⟩; refine k3_ (Kd.R_lower ho0 (below_size (Z20))) (blk_below (g := gb448) (o := .cells #[.slice A0_0 l0_0.length c0_0, .int .i64 a0_1] 28 (0, 0)) (Z2 BK448.out) hb) (below_step (Z20) hb) ?_; clear BK448 HB; intro HO453 BK448 HB; (try clear hb ho0); obtain ⟨hcz12_0, hcz12_1, hfz12_0, hfz12_1⟩ := bx2_ (w := w11) BK448.out; obtain ⟨Ao13, co13, eo13⟩ := Kd.R_slice HO453.out; subst eo13))
    repeat (go_quiet (first | ((with_reducible refine gate_dst (N := 1) rfl ?_); (try (refine gate_guard (by rfl) ?_; dsimp only)); refine bv_ 1 28 #[.slice A0_0 l0_0.length c0_0, .int .i64 a0_1] ?_; intro gb448 hg w7 hbox hb; refine k4_ (below_step (Z3) hb) (hbox) ((Z26 : w.heap.size ≤ gb448)) ((Z26 : w.heap.size ≤ gb448)) ?_; clear HB; intro HB BK448 GW448 GE448; clear hb hbox hg; obtain ⟨hcz8_0, hcz8_1, hfz8_0, hfz8_1⟩ := bx2_ (w := w7) BK448.out) | (go_at_call 15; (with_reducible refine (impl_IsSheet.calls k _ _ l0_0 true _ ?_ ?_ A2.out).mono ?_); exact Z10 HR0_0.out; exact HC0_0.out; rintro e w9 ⟨rfl, hb⟩; refine k2_ (blk_below (g := gb448) (o := .cells #[.slice A0_0 l0_0.length c0_0, .int .i64 a0_1] 28 (0, 0)) (Z2 BK448.out) hb) (below_step (Z20) hb) ?_; clear BK448 HB; intro BK448 HB; (try clear hb); obtain ⟨hcz10_0, hcz10_1, hfz10_0, hfz10_1⟩ := bx2_ (w := w9) BK448.out) | (go_at_call 45; (with_reducible refine (impl_strokesOf.calls k _ _ l0_0 t450 true _ ?_ ?_ A4.out).mono ?_); exact Z10 HR0_0.out; exact HC0_0.out; rintro e w11 ⟨v452, rfl, ho0, hb⟩; refine k3_ (Kd.R_lower ho0 (below_size (Z20))) (blk_below (g := gb448) (o := .cells #[.slice A0_0 l0_0.length c0_0, .int .i64 a0_1] 28 (0, 0)) (Z2 BK448.out) hb) (below_step (Z20) hb) ?_; clear BK448 HB; intro HO453 BK448 HB; (try clear hb ho0); obtain ⟨hcz12_0, hcz12_1, hfz12_0, hfz12_1⟩ := bx2_ (w := w11) BK448.out; obtain ⟨Ao13, co13, eo13⟩ := Kd.R_slice HO453.out; subst eo13)); try go_wp2_with (first | ((with_reducible refine gate_dst (N := 1) rfl ?_); (try (refine gate_guard (by rfl) ?_; dsimp only)); refine bv_ 1 28 #[.slice A0_0 l0_0.length c0_0, .int .i64 a0_1] ?_; intro gb448 hg w7 hbox hb; refine k4_ (below_step (Z3) hb) (hbox) ((Z26 : w.heap.size ≤ gb448)) ((Z26 : w.heap.size ≤ gb448)) ?_; clear HB; intro HB BK448 GW448 GE448; clear hb hbox hg; obtain ⟨hcz8_0, hcz8_1, hfz8_0, hfz8_1⟩ := bx2_ (w := w7) BK448.out) | (go_at_call 15; (with_reducible refine (impl_IsSheet.calls k _ _ l0_0 true _ ?_ ?_ A2.out).mono ?_); exact Z10 HR0_0.out; exact HC0_0.out; rintro e w9 ⟨rfl, hb⟩; refine k2_ (blk_below (g := gb448) (o := .cells #[.slice A0_0 l0_0.length c0_0, .int .i64 a0_1] 28 (0, 0)) (Z2 BK448.out) hb) (below_step (Z20) hb) ?_; clear BK448 HB; intro BK448 HB; (try clear hb); obtain ⟨hcz10_0, hcz10_1, hfz10_0, hfz10_1⟩ := bx2_ (w := w9) BK448.out) | (go_at_call 45; (with_reducible refine (impl_strokesOf.calls k _ _ l0_0 t450 true _ ?_ ?_ A4.out).mono ?_); exact Z10 HR0_0.out; exact HC0_0.out; rintro e w11 ⟨v452, rfl, ho0, hb⟩; refine k3_ (Kd.R_lower ho0 (below_size (Z20))) (blk_below (g := gb448) (o := .cells #[.slice A0_0 l0_0.length c0_0, .int .i64 a0_1] 28 (0, 0)) (Z2 BK448.out) hb) (below_step (Z20) hb) ?_; clear BK448 HB; intro HO453 BK448 HB; (try clear hb ho0); obtain ⟨hcz12_0, hcz12_1, hfz12_0, hfz12_1⟩ := bx2_ (w := w11) BK448.out; obtain ⟨Ao13, co13, eo13⟩ := Kd.R_slice HO453.out; subst eo13)))
    go_ret2
    exact ⟨_, Z11, Z1 HO453.out, Z20⟩
   rw [if_neg c6] at H
   have c6b0 : decide (0 ≤ a0_1) = false := decide_eq_false c6
   clear c6
   simp only [Option.some.injEq, Prod.mk.injEq] at H
   obtain ⟨rfl, rfl⟩ := H
   go_enter Try.func27, Try.ntmps27
   go_wp2_with (first | ((with_reducible refine gate_dst (N := 1) rfl ?_); (try (refine gate_guard (by rfl) ?_; dsimp only)); refine bv_ 1 28 #[.slice A0_0 l0_0.length c0_0, .int .i64 a0_1] ?_; intro gb448 hg w14 hbox hb; refine k4_ (below_step (Z3) hb) (hbox) ((Z26 : w.heap.size ≤ gb448)) ((Z26 : w.heap.size ≤ gb448)) ?_; clear HB; intro HB BK448 GW448 GE448; clear hb hbox hg; obtain ⟨hcz15_0, hcz15_1, hfz15_0, hfz15_1⟩ := bx2_ (w := w14) BK448.out) | (go_at_call 15; (with_reducible refine (impl_IsSheet.calls k _ _ l0_0 true _ ?_ ?_ A2.out).mono ?_); exact Z10 HR0_0.out; exact HC0_0.out; rintro e w16 ⟨rfl, hb⟩; refine k2_ (blk_below (g := gb448) (o := .cells #[.slice A0_0 l0_0.length c0_0, .int .i64 a0_1] 28 (0, 0)) (Z2 BK448.out) hb) (below_step (Z20) hb) ?_; clear BK448 HB; intro BK448 HB; (try clear hb); obtain ⟨hcz17_0, hcz17_1, hfz17_0, hfz17_1⟩ := bx2_ (w := w16) BK448.out) | (go_at_call 45; (with_reducible refine (impl_strokesOf.calls k _ _ l0_0 t450 true _ ?_ ?_ A4.out).mono ?_); exact Z10 HR0_0.out; exact HC0_0.out; rintro e w18 ⟨v452, rfl, ho0, hb⟩; refine k3_ (Kd.R_lower ho0 (below_size (Z20))) (blk_below (g := gb448) (o := .cells #[.slice A0_0 l0_0.length c0_0, .int .i64 a0_1] 28 (0, 0)) (Z2 BK448.out) hb) (below_step (Z20) hb) ?_; clear BK448 HB; intro HO453 BK448 HB; (try clear hb ho0); obtain ⟨hcz19_0, hcz19_1, hfz19_0, hfz19_1⟩ := bx2_ (w := w18) BK448.out))
   repeat (go_quiet (first | ((with_reducible refine gate_dst (N := 1) rfl ?_); (try (refine gate_guard (by rfl) ?_; dsimp only)); refine bv_ 1 28 #[.slice A0_0 l0_0.length c0_0, .int .i64 a0_1] ?_; intro gb448 hg w14 hbox hb; refine k4_ (below_step (Z3) hb) (hbox) ((Z26 : w.heap.size ≤ gb448)) ((Z26 : w.heap.size ≤ gb448)) ?_; clear HB; intro HB BK448 GW448 GE448; clear hb hbox hg; obtain ⟨hcz15_0, hcz15_1, hfz15_0, hfz15_1⟩ := bx2_ (w := w14) BK448.out) | (go_at_call 15; (with_reducible refine (impl_IsSheet.calls k _ _ l0_0 true _ ?_ ?_ A2.out).mono ?_); exact Z10 HR0_0.out; exact HC0_0.out; rintro e w16 ⟨rfl, hb⟩; refine k2_ (blk_below (g := gb448) (o := .cells #[.slice A0_0 l0_0.length c0_0, .int .i64 a0_1] 28 (0, 0)) (Z2 BK448.out) hb) (below_step (Z20) hb) ?_; clear BK448 HB; intro BK448 HB; (try clear hb); obtain ⟨hcz17_0, hcz17_1, hfz17_0, hfz17_1⟩ := bx2_ (w := w16) BK448.out) | (go_at_call 45; (with_reducible refine (impl_strokesOf.calls k _ _ l0_0 t450 true _ ?_ ?_ A4.out).mono ?_); exact Z10 HR0_0.out; exact HC0_0.out; rintro e w18 ⟨v452, rfl, ho0, hb⟩; refine k3_ (Kd.R_lower ho0 (below_size (Z20))) (blk_below (g := gb448) (o := .cells #[.slice A0_0 l0_0.length c0_0, .int .i64 a0_1] 28 (0, 0)) (Z2 BK448.out) hb) (below_step (Z20) hb) ?_; clear BK448 HB; intro HO453 BK448 HB; (try clear hb ho0); obtain ⟨hcz19_0, hcz19_1, hfz19_0, hfz19_1⟩ := bx2_ (w := w18) BK448.out)); try go_wp2_with (first | ((with_reducible refine gate_dst (N := 1) rfl ?_); (try (refine gate_guard (by rfl) ?_; dsimp only)); refine bv_ 1 28 #[.slice A0_0 l0_0.length c0_0, .int .i64 a0_1] ?_; intro gb448 hg w14 hbox hb; refine k4_ (below_step (Z3) hb) (hbox) ((Z26 : w.heap.size ≤ gb448)) ((Z26 : w.heap.size ≤ gb448)) ?_; clear HB; intro HB BK448 GW448 GE448; clear hb hbox hg; obtain ⟨hcz15_0, hcz15_1, hfz15_0, hfz15_1⟩ := bx2_ (w := w14) BK448.out) | (go_at_call 15; (with_reducible refine (impl_IsSheet.calls k _ _ l0_0 true _ ?_ ?_ A2.out).mono ?_); exact Z10 HR0_0.out; exact HC0_0.out; rintro e w16 ⟨rfl, hb⟩; refine k2_ (blk_below (g := gb448) (o := .cells #[.slice A0_0 l0_0.length c0_0, .int .i64 a0_1] 28 (0, 0)) (Z2 BK448.out) hb) (below_step (Z20) hb) ?_; clear BK448 HB; intro BK448 HB; (try clear hb); obtain ⟨hcz17_0, hcz17_1, hfz17_0, hfz17_1⟩ := bx2_ (w := w16) BK448.out) | (go_at_call 45; (with_reducible refine (impl_strokesOf.calls k _ _ l0_0 t450 true _ ?_ ?_ A4.out).mono ?_); exact Z10 HR0_0.out; exact HC0_0.out; rintro e w18 ⟨v452, rfl, ho0, hb⟩; refine k3_ (Kd.R_lower ho0 (below_size (Z20))) (blk_below (g := gb448) (o := .cells #[.slice A0_0 l0_0.length c0_0, .int .i64 a0_1] 28 (0, 0)) (Z2 BK448.out) hb) (below_step (Z20) hb) ?_; clear BK448 HB; intro HO453 BK448 HB; (try clear hb ho0); obtain ⟨hcz19_0, hcz19_1, hfz19_0, hfz19_1⟩ := bx2_ (w := w18) BK448.out)))
   go_ret2
   exact ⟨_, Z11, Z1 HO453.out, Z20⟩
  replace c5 := Bool.eq_false_iff.mpr c5
  subst c5
  rw [if_neg (show ¬ (false = true) by decide)] at H
  simp only [Option.some.injEq, Prod.mk.injEq] at H
  obtain ⟨rfl, rfl⟩ := H
  go_enter Try.func27, Try.ntmps27
  go_wp2_with (first | ((with_reducible refine gate_dst (N := 1) rfl ?_); (try (refine gate_guard (by rfl) ?_; dsimp only)); refine bv_ 1 28 #[.slice A0_0 l0_0.length c0_0, .int .i64 a0_1] ?_; intro gb448 hg w20 hbox hb; refine k4_ (below_step (Z3) hb) (hbox) ((Z26 : w.heap.size ≤ gb448)) ((Z26 : w.heap.size ≤ gb448)) ?_; clear HB; intro HB BK448 GW448 GE448; clear hb hbox hg; obtain ⟨hcz21_0, hcz21_1, hfz21_0, hfz21_1⟩ := bx2_ (w := w20) BK448.out) | (go_at_call 15; (with_reducible refine (impl_IsSheet.calls k _ _ l0_0 true _ ?_ ?_ A2.out).mono ?_); exact Z10 HR0_0.out; exact HC0_0.out; rintro e w22 ⟨rfl, hb⟩; refine k2_ (blk_below (g := gb448) (o := .cells #[.slice A0_0 l0_0.length c0_0, .int .i64 a0_1] 28 (0, 0)) (Z2 BK448.out) hb) (below_step (Z20) hb) ?_; clear BK448 HB; intro BK448 HB; (try clear hb); obtain ⟨hcz23_0, hcz23_1, hfz23_0, hfz23_1⟩ := bx2_ (w := w22) BK448.out) | (go_at_call 45; (with_reducible refine (impl_strokesOf.calls k _ _ l0_0 t450 false _ ?_ ?_ A4.out).mono ?_); exact Z10 HR0_0.out; exact HC0_0.out; rintro e w24 ⟨v452, rfl, ho0, hb⟩; refine k3_ (Kd.R_lower ho0 (below_size (Z20))) (blk_below (g := gb448) (o := .cells #[.slice A0_0 l0_0.length c0_0, .int .i64 a0_1] 28 (0, 0)) (Z2 BK448.out) hb) (below_step (Z20) hb) ?_; clear BK448 HB; intro HO453 BK448 HB; (try clear hb ho0)))
  repeat (go_quiet (first | ((with_reducible refine gate_dst (N := 1) rfl ?_); (try (refine gate_guard (by rfl) ?_; dsimp only)); refine bv_ 1 28 #[.slice A0_0 l0_0.length c0_0, .int .i64 a0_1] ?_; intro gb448 hg w20 hbox hb; refine k4_ (below_step (Z3) hb) (hbox) ((Z26 : w.heap.size ≤ gb448)) ((Z26 : w.heap.size ≤ gb448)) ?_; clear HB; intro HB BK448 GW448 GE448; clear hb hbox hg; obtain ⟨hcz21_0, hcz21_1, hfz21_0, hfz21_1⟩ := bx2_ (w := w20) BK448.out) | (go_at_call 15; (with_reducible refine (impl_IsSheet.calls k _ _ l0_0 true _ ?_ ?_ A2.out).mono ?_); exact Z10 HR0_0.out; exact HC0_0.out; rintro e w22 ⟨rfl, hb⟩; refine k2_ (blk_below (g := gb448) (o := .cells #[.slice A0_0 l0_0.length c0_0, .int .i64 a0_1] 28 (0, 0)) (Z2 BK448.out) hb) (below_step (Z20) hb) ?_; clear BK448 HB; intro BK448 HB; (try clear hb); obtain ⟨hcz23_0, hcz23_1, hfz23_0, hfz23_1⟩ := bx2_ (w := w22) BK448.out) | (go_at_call 45; (with_reducible refine (impl_strokesOf.calls k _ _ l0_0 t450 false _ ?_ ?_ A4.out).mono ?_); exact Z10 HR0_0.out; exact HC0_0.out; rintro e w24 ⟨v452, rfl, ho0, hb⟩; refine k3_ (Kd.R_lower ho0 (below_size (Z20))) (blk_below (g := gb448) (o := .cells #[.slice A0_0 l0_0.length c0_0, .int .i64 a0_1] 28 (0, 0)) (Z2 BK448.out) hb) (below_step (Z20) hb) ?_; clear BK448 HB; intro HO453 BK448 HB; (try clear hb ho0))); try go_wp2_with (first | ((with_reducible refine gate_dst (N := 1) rfl ?_); (try (refine gate_guard (by rfl) ?_; dsimp only)); refine bv_ 1 28 #[.slice A0_0 l0_0.length c0_0, .int .i64 a0_1] ?_; intro gb448 hg w20 hbox hb; refine k4_ (below_step (Z3) hb) (hbox) ((Z26 : w.heap.size ≤ gb448)) ((Z26 : w.heap.size ≤ gb448)) ?_; clear HB; intro HB BK448 GW448 GE448; clear hb hbox hg; obtain ⟨hcz21_0, hcz21_1, hfz21_0, hfz21_1⟩ := bx2_ (w := w20) BK448.out) | (go_at_call 15; (with_reducible refine (impl_IsSheet.calls k _ _ l0_0 true _ ?_ ?_ A2.out).mono ?_); exact Z10 HR0_0.out; exact HC0_0.out; rintro e w22 ⟨rfl, hb⟩; refine k2_ (blk_below (g := gb448) (o := .cells #[.slice A0_0 l0_0.length c0_0, .int .i64 a0_1] 28 (0, 0)) (Z2 BK448.out) hb) (below_step (Z20) hb) ?_; clear BK448 HB; intro BK448 HB; (try clear hb); obtain ⟨hcz23_0, hcz23_1, hfz23_0, hfz23_1⟩ := bx2_ (w := w22) BK448.out) | (go_at_call 45; (with_reducible refine (impl_strokesOf.calls k _ _ l0_0 t450 false _ ?_ ?_ A4.out).mono ?_); exact Z10 HR0_0.out; exact HC0_0.out; rintro e w24 ⟨v452, rfl, ho0, hb⟩; refine k3_ (Kd.R_lower ho0 (below_size (Z20))) (blk_below (g := gb448) (o := .cells #[.slice A0_0 l0_0.length c0_0, .int .i64 a0_1] 28 (0, 0)) (Z2 BK448.out) hb) (below_step (Z20) hb) ?_; clear BK448 HB; intro HO453 BK448 HB; (try clear hb ho0))))
  go_ret2
  exact ⟨_, Z11, Z1 HO453.out, Z20⟩
 replace c3 := Bool.eq_false_iff.mpr c3
 subst c3
 rw [if_neg (show ¬ (false = true) by decide)] at H
 simp only [Option.some.injEq, Prod.mk.injEq] at H
 obtain ⟨rfl, rfl⟩ := H
 go_enter Try.func27, Try.ntmps27
 go_wp2_with (first | ((with_reducible refine gate_dst (N := 1) rfl ?_); (try (refine gate_guard (by rfl) ?_; dsimp only)); refine bv_ 1 28 #[.slice A0_0 l0_0.length c0_0, .int .i64 a0_1] ?_; intro gb448 hg w25 hbox hb; refine k4_ (below_step (Z3) hb) (hbox) ((Z26 : w.heap.size ≤ gb448)) ((Z26 : w.heap.size ≤ gb448)) ?_; clear HB; intro HB BK448 GW448 GE448; clear hb hbox hg; obtain ⟨hcz26_0, hcz26_1, hfz26_0, hfz26_1⟩ := bx2_ (w := w25) BK448.out) | (go_at_call 15; (with_reducible refine (impl_IsSheet.calls k _ _ l0_0 false _ ?_ ?_ A2.out).mono ?_); exact Z10 HR0_0.out; exact HC0_0.out; rintro e w27 ⟨rfl, hb⟩; refine k2_ (blk_below (g := gb448) (o := .cells #[.slice A0_0 l0_0.length c0_0, .int .i64 a0_1] 28 (0, 0)) (Z2 BK448.out) hb) (below_step (Z20) hb) ?_; clear BK448 HB; intro BK448 HB; (try clear hb)))
 repeat (go_quiet (first | ((with_reducible refine gate_dst (N := 1) rfl ?_); (try (refine gate_guard (by rfl) ?_; dsimp only)); refine bv_ 1 28 #[.slice A0_0 l0_0.length c0_0, .int .i64 a0_1] ?_; intro gb448 hg w25 hbox hb; refine k4_ (below_step (Z3) hb) (hbox) ((Z26 : w.heap.size ≤ gb448)) ((Z26 : w.heap.size ≤ gb448)) ?_; clear HB; intro HB BK448 GW448 GE448; clear hb hbox hg; obtain ⟨hcz26_0, hcz26_1, hfz26_0, hfz26_1⟩ := bx2_ (w := w25) BK448.out) | (go_at_call 15; (with_reducible refine (impl_IsSheet.calls k _ _ l0_0 false _ ?_ ?_ A2.out).mono ?_); exact Z10 HR0_0.out; exact HC0_0.out; rintro e w27 ⟨rfl, hb⟩; refine k2_ (blk_below (g := gb448) (o := .cells #[.slice A0_0 l0_0.length c0_0, .int .i64 a0_1] 28 (0, 0)) (Z2 BK448.out) hb) (below_step (Z20) hb) ?_; clear BK448 HB; intro BK448 HB; (try clear hb))); try go_wp2_with (first | ((with_reducible refine gate_dst (N := 1) rfl ?_); (try (refine gate_guard (by rfl) ?_; dsimp only)); refine bv_ 1 28 #[.slice A0_0 l0_0.length c0_0, .int .i64 a0_1] ?_; intro gb448 hg w25 hbox hb; refine k4_ (below_step (Z3) hb) (hbox) ((Z26 : w.heap.size ≤ gb448)) ((Z26 : w.heap.size ≤ gb448)) ?_; clear HB; intro HB BK448 GW448 GE448; clear hb hbox hg; obtain ⟨hcz26_0, hcz26_1, hfz26_0, hfz26_1⟩ := bx2_ (w := w25) BK448.out) | (go_at_call 15; (with_reducible refine (impl_IsSheet.calls k _ _ l0_0 false _ ?_ ?_ A2.out).mono ?_); exact Z10 HR0_0.out; exact HC0_0.out; rintro e w27 ⟨rfl, hb⟩; refine k2_ (blk_below (g := gb448) (o := .cells #[.slice A0_0 l0_0.length c0_0, .int .i64 a0_1] 28 (0, 0)) (Z2 BK448.out) hb) (below_step (Z20) hb) ?_; clear BK448 HB; intro BK448 HB; (try clear hb))))
 go_ret2
 exact ⟨_, Z11, Z21, Z20⟩

/-! ### impl_isMark: function 28 -/
def impl_isMark.f (a0 : Int) : Option (Bool) := if a0 ≥ 1 then (some (decide (a0 ≤ 50))) else (some false)
set_option maxHeartbeats 8000000 in
set_option maxRecDepth 100000 in
theorem impl_isMark.calls (a0 : Int) (r : Bool) (w : World) (h : impl_isMark.f a0 = some r) :
  Calls Try.prog 28 #[.int .i64 a0] w fun e w' => e = .returned (.bool r) ∧ Drawn0 w w' := by
 have H : (if a0 ≥ 1 then (some (decide (a0 ≤ 50))) else (some false)) = some r := h
 clear h
 by_cases c2 : a0 ≥ 1
 ·rw [if_pos c2] at H
  have c2b0 : decide (1 ≤ a0) = true := decide_eq_true c2
  clear c2
  obtain rfl := Option.some.inj H
  go_enter Try.func28, Try.ntmps28
  go_wp2
  go_ret
  exact ⟨Z17, Z75⟩
 rw [if_neg c2] at H
 have c2b0 : decide (1 ≤ a0) = false := decide_eq_false c2
 clear c2
 obtain rfl := Option.some.inj H
 go_enter Try.func28, Try.ntmps28
 go_wp2
 go_ret
 exact ⟨Z17, Z75⟩

/-! ### slices_Clone_Hole: function 37: by this session -/
def slices_Clone_Hole.f (l0 : List (S64)) : Option (List (S64)) := if l0.length ≤ 5864062014805 then some l0 else none
set_option maxHeartbeats 8000000 in
set_option maxRecDepth 100000 in
theorem slices_Clone_Hole.calls (A0 : Option Addr) (c0 : Nat) (l0 : List (S64)) (r : List (S64)) (w : World) (hr0 : Kd.C k64 w A0 l0.length l0) (hc0 : l0.length ≤ c0) (h : slices_Clone_Hole.f l0 = some r) :
  Calls Try.prog 37 #[.slice A0 l0.length c0] w fun e w' => ∃ v0_ : Value, e = .returned (v0_) ∧ Kd.R k64 64 w' w.heap.size (fun _ => True) v0_ r ∧ Below w.heap.size w w' := by
 have hn : l0.length ≤ 5864062014805 ∧ l0 = r := by
  unfold slices_Clone_Hole.f at h
  split at h
  ·exact ⟨by assumption, Option.some.inj h⟩
  cases h
 obtain ⟨hn, rfl⟩ := hn
 clear h
 have hq : ∀ (w : World) (a : Option Addr) (n c n' c' : Nat), (binOp .eql 23 (.slice a n c) (.slice none n' c')).run Try.prog w = .ok (.bool a.isNone) w := fun w a n c n' c' => Lib.run_eql_slice_nil w _ _ a n c n' c' Try.underlying23
 have HC := Aside0.mk hr0
 have HN := Aside0.mk hn
 have HB := Aside0.mk (Below.refl w.heap.size w)
 clear hr0 hn
 rcases A0 with _ | ad
 ·have h0 : l0 = [] := by
   cases l0 with
   | nil => rfl
   | cons x xs =>
    obtain ⟨ad, h, _⟩ := HC.out.2.2 (by simp)
    cases h
  subst h0
  clear HC HN
  go_enter Try.func37, Try.ntmps37
  go_wp2
  go_ret
  exact ⟨_, rfl, Kd.R_nil _ _ _ _ _, Below.refl _ _⟩
 go_enter Try.func37, Try.ntmps37
 go_wp2_with (at_builtin; refine Kd.R_append_rows k64 (w0 := w) w.heap.size rfl _ _ 23 64 (.agg #[(.int .i64 0), (.int .i64 0), (.int .i64 0)]) 24 rfl Try.underlying23 (by kernel_rfl) rfl (by decide) (by omega) (.slice (some ⟨w.heap.size, 0, none⟩) 0 0) [] l0 _ _ _ (fun _ => True) (fun _ => False) rfl rfl ?aO ?aR (fun _ _ h => h) (fun _ h => h.elim) ?aF ?aB ?aS ?aL ?_)
 case aO => exact ⟨fun _ _ => trivial, [], World.ownsRow_made w #[] 0 (Nat.le_refl _) (Nat.zero_le _) (by simp), Reps.none _ _⟩
 case aR => exact Kd.C_alloc HC.out _
 case aF => exact fun _ _ => trivial
 case aB => exact below_alloc (Below.refl _ _) _
 case aS => simp
 case aL => have := HN.out; simp only [List.length_nil]; omega
 intro v1 w1 ho hb hg hat
 go_wp2
 go_ret
 exact ⟨_, rfl, ho, hb⟩

/-! ### impl_jobAt: function 29 -/
def impl_jobAt.f (l0 : List (S64)) (a1 : Int) : Option ((List (S64)) × Int) := (slices_Clone_Hole.f l0).bind fun t455 => (some (t455, a1))
set_option maxHeartbeats 8000000 in
set_option maxRecDepth 100000 in
theorem impl_jobAt.calls (A0 : Option Addr) (c0 : Nat) (l0 : List (S64)) (a1 : Int) (r1 : List (S64)) (r2 : Int) (w : World) (hr0 : Kd.C k64 w A0 l0.length l0) (hc0 : l0.length ≤ c0) (h : impl_jobAt.f l0 a1 = some (r1, r2)) :
  Calls Try.prog 29 #[.slice A0 l0.length c0, .int .i64 a1] w fun e w' => ∃ v0_ : Value, e = .returned (.agg #[v0_, .int .i64 r2]) ∧ Kd.R k64 64 w' w.heap.size (fun _ => True) v0_ r1 ∧ Below w.heap.size w w' := by
 have hu28 := Try.underlying28
 have HR0 := Aside0.mk hr0
 have HC0 := Aside0.mk hc0
 clear hr0 hc0
 have HB := Aside0.mk (Below.refl w.heap.size w)
 have H : ((slices_Clone_Hole.f l0).bind fun t455 => (some (t455, a1))) = some (r1, r2) := h
 clear h
 replace H := Option.bind_eq_some_iff.mp H
 obtain ⟨t455, A30, H⟩ := H
 replace H : (some (t455, a1)) = some (r1, r2) := H
 have A3 := Aside0.mk A30
 clear A30
 simp only [Option.some.injEq, Prod.mk.injEq] at H
 obtain ⟨rfl, rfl⟩ := H
 go_enter Try.func29, Try.ntmps29
 go_wp2_with (first | ((with_reducible refine gate_dst (N := 4) rfl ?_); refine bv_ 4 28 #[.slice none 0 0, .int .i64 0] ?_; intro gb454 hg w4 hbox hb; refine k4_ (below_step (Z3) hb) (hbox) ((Z26 : w.heap.size ≤ gb454)) ((Z26 : w.heap.size ≤ gb454)) ?_; clear HB; intro HB BK454 GW454 GE454; clear hb hbox hg) | ((with_reducible refine gate_callee (f := 37) rfl ?_); refine gl_ 6 Try.func37 #[.slice A0 l0.length c0] ?_; (with_reducible refine (slices_Clone_Hole.calls _ _ l0 t455 _ ?_ ?_ A3.out).mono ?_); exact Z10 HR0.out; exact HC0.out; rintro e w5 ⟨v456, rfl, ho0, hb⟩; refine ⟨_, rfl, ?_⟩; refine k3_ (Kd.R_lower ho0 (below_size (Z163))) (blk_below (g := gb454) (o := .cells #[.slice none 0 0, .int .i64 0] 28 (0, 0)) (Z2 BK454.out) hb) (below_step (Z163) hb) ?_; clear BK454 HB; intro HO457 BK454 HB; (try clear hb ho0); obtain ⟨Ao6, co6, eo6⟩ := Kd.R_slice HO457.out; subst eo6; obtain ⟨hcz7_0, hcz7_1, hfz7_0, hfz7_1⟩ := bx2_ (w := w5) BK454.out))
 refine bodyPost_ret (results_cell_row rfl _ _ gb454 28 #[.slice Ao6 t455.length co6, .int .i64 a1] (0, 0) _ rfl (by (with_reducible repeat (first | refine blk_drewN ?_ _ | refine blk_drew ?_ | refine blk_alloc ?_ _)); refine blk_put (cs := #[.slice Ao6 t455.length co6, .int .i64 0]) ?_ 1 _ rfl; (with_reducible repeat (first | refine blk_drewN ?_ _ | refine blk_drew ?_ | refine blk_alloc ?_ _)); refine blk_put (cs := #[.slice none 0 0, .int .i64 0]) ?_ 0 _ rfl; (with_reducible repeat (first | refine blk_drewN ?_ _ | refine blk_drew ?_ | refine blk_alloc ?_ _)); exact BK454.out) Try.underlying28 rfl (by kernel_rfl)) rfl ?_
 exact ⟨_, Z11, by (with_reducible repeat (first | apply Kd.R_alloc | apply Kd.R_drewN | apply Kd.R_drew)); exact Kd.R_mono (Kd.R_far (p := ⟨gb454, 1, none⟩) (Kd.R_far (p := ⟨gb454, 0, none⟩) (Kd.R_types HO457.out BK454.out (by decide)) (fun _ hk => hk.2) (.slice Ao6 t455.length co6)) (fun _ hk => hk.2) (.int .i64 a1)) (fun _ hk => trivial), Z163⟩

end Go.Proofs.Ytflefblmaopaiaa.PFnStops
