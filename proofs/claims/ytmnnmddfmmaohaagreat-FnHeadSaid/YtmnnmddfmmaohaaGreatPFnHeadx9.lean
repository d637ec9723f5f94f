-- written by a program of this session: the kit's print, with outer functions of the session's own (wip/ext)
import Derived.Test.YtmnnmddfmmaohaaGreatPFnHeadx0
namespace Go.Proofs.YtmnnmddfmmaohaaGreat.PFnHead
open Go.RowKit Go.Proofs.YtmnnmddfmmaohaaGreatW.PrintWords Go.Proofs.YtmnnmddfmmaohaaGreatW.PrintLast Go.Proofs.YtmnnmddfmmaohaaGreatW.PrintMore
attribute [local go_sem] max2_int min2_int max_two min_two max_three min_three max_four min_four   -- for this text's walks alone
set_option linter.unusedVariables false
set_option linter.unusedSimpArgs false
theorem mo9_ {p : Prop} (h : p := by repeat' first | (with_reducible first | apply ih0 | apply ih0 | exact LeO.refl _ | exact LeO.none _ | refine LeO.ite ?_ ?_ | refine LeO.bind ?_ (fun _ => ?_)) | exact LeO.none _ | refine LeO.ite ?_ ?_ | refine LeO.bind ?_ (fun _ => ?_)) : p := h

/-! ### slices_Clone_Stroke: function 26: by this session -/
def slices_Clone_Stroke.f (l0 : List (S30)) : Option (List (S30)) := if l0.length ≤ 8796093022208 then some l0 else none
set_option maxHeartbeats 8000000 in
set_option maxRecDepth 100000 in
theorem slices_Clone_Stroke.calls (A0 : Option Addr) (c0 : Nat) (l0 : List (S30)) (r : List (S30)) (w : World) (hr0 : Kd.C k30 w A0 l0.length l0) (hc0 : l0.length ≤ c0) (h : slices_Clone_Stroke.f l0 = some r) :
  Calls Tryz.prog 26 #[.slice A0 l0.length c0] w fun e w' => ∃ v0_ : Value, e = .returned (v0_) ∧ Kd.R k30 30 w' w.heap.size (fun _ => True) v0_ r ∧ Below w.heap.size w w' := by
 have hn : l0.length ≤ 8796093022208 ∧ l0 = r := by
  unfold slices_Clone_Stroke.f at h
  split at h
  ·exact ⟨by assumption, Option.some.inj h⟩
  cases h
 obtain ⟨hn, rfl⟩ := hn
 clear h
 have hq : ∀ (w : World) (a : Option Addr) (n c n' c' : Nat), (binOp .eql 24 (.slice a n c) (.slice none n' c')).run Tryz.prog w = .ok (.bool a.isNone) w := fun w a n c n' c' => Lib.run_eql_slice_nil w _ _ a n c n' c' Tryz.underlying24
 have HC := Aside0.mk hr0
 have HN := Aside0.mk hn
 have HB := Aside0.mk (Below.refl w.heap.size w)
 clear hr0 hn
 rcases A0 with _ | ad
 ·have h0 : l0 = [] := by
   cases l0 with
   | nil => rfl
   | cons x xs =>
    obtain ⟨ad, h, _⟩ := HC.out.2.2 (by simp)
    cases h
  subst h0
  clear HC HN
  go_enter Tryz.func26, Tryz.ntmps26
  go_wp2
  go_ret
  exact ⟨_, rfl, Kd.R_nil _ _ _ _ _, Below.refl _ _⟩
 go_enter Tryz.func26, Tryz.ntmps26
 go_wp2_with (at_builtin; refine Kd.R_append_rows k30 (w0 := w) w.heap.size rfl _ _ 24 30 (.agg #[(.int .i64 0), (.int .i64 0)]) 16 rfl Tryz.underlying24 (by kernel_rfl) rfl (by decide) (by omega) (.slice (some ⟨w.heap.size, 0, none⟩) 0 0) [] l0 _ _ _ (fun _ => True) (fun _ => False) rfl rfl ?aO ?aR (fun _ _ h => h) (fun _ h => h.elim) ?aF ?aB ?aS ?aL ?_)
 case aO => exact ⟨fun _ _ => trivial, [], World.ownsRow_made w #[] 0 (Nat.le_refl _) (Nat.zero_le _) (by simp), Reps.none _ _⟩
 case aR => exact Kd.C_alloc HC.out _
 case aF => exact fun _ _ => trivial
 case aB => exact below_alloc (Below.refl _ _) _
 case aS => simp
 case aL => have := HN.out; simp only [List.length_nil]; omega
 intro v1 w1 ho hb hg hat
 go_wp2
 go_ret
 exact ⟨_, rfl, ho, hb⟩

/-! ### impl_distance: function 60 -/
def impl_distance.f (a0 : Int) (a1 : Int) : Option (Int) := some (mx (wrap64 (a0 - a1)) (wrap64 (a1 - a0)))
set_option maxHeartbeats 8000000 in
set_option maxRecDepth 100000 in
theorem impl_distance.calls (a0 : Int) (a1 : Int) (r : Int) (w : World) (h : impl_distance.f a0 a1 = some r) :
  Calls Tryz.prog 60 #[.int .i64 a0, .int .i64 a1] w fun e w' => e = .returned (.int .i64 r) ∧ Below w.heap.size w w' := by
 have HB := Aside0.mk (Below.refl w.heap.size w)
 have H : (some (mx (wrap64 (a0 - a1)) (wrap64 (a1 - a0)))) = some r := h
 clear h
 obtain ⟨Ec, hji3⟩ : ∃ j_ : Int, (mx (wrap64 (a0 - a1)) (wrap64 (a1 - a0))) = j_ := ⟨_, rfl⟩
 replace H : (some Ec) = some r := by first | (rw [hji3] at H; exact H) | (simp only [hji3] at H ⊢; exact H)
 have hji3_ : (if (wrap64 (a0 - a1)) < (wrap64 (a1 - a0)) then (wrap64 (a1 - a0)) else (wrap64 (a0 - a1))) = Ec := hji3
 obtain rfl := Option.some.inj H
 go_enter Tryz.func60, Tryz.ntmps60
 go_wp2
 go_ret
 exact ⟨by first | rfl | (simp [errW_none, errW_some] <;> rfl) | (simp only [← hji3]; first | rfl | (simp [errW_none, errW_some] <;> rfl)) | (simp [*, errW_none, errW_some] <;> rfl), Z2⟩

/-! ### impl_headWay: function 45 -/
def impl_headWay.f (a0_0 : Int) (a0_1 : Int) (a1_0 : Int) (a1_1 : Int) (a2 : Int) : Option (Int) := (impl_distance.f a0_1 a1_1).bind fun vw => ((impl_distance.f a0_0 a1_0).bind fun vx => (some (wrap64 (vw + (wrap64 (a2 * vx))))))
def impl_headWay.T1 : Bool × List (List Nat × List Nat) := (true, [([], []), ([0], [0]), ([], []), ([2], [2]), ([1, 3], [1, 3]), ([], []), ([], []), ([6], [6]), ([], []), ([8], [8]), ([7, 9, 4], [7, 9]), ([5, 10], [5, 10]), ([4, 11], [4, 11]), ([12, 10, 0, 1, 2, 3, 4, 5, 6, 7, 8, 9, 10, 11, 12], [12])])
def impl_headWay.B1 : List Nat := [0, 1, 0, 4, 15, 0, 0, 64, 0, 256, 991, 2047, 4095, 8191]
theorem impl_headWay.tab1 : rtab .any (opsOf Tryz.f45 1) = impl_headWay.T1 := by kernel_rfl
theorem impl_headWay.bits1 : waitsOk impl_headWay.T1.2 impl_headWay.B1 = true := by kernel_rfl
set_option maxHeartbeats 8000000 in
set_option maxRecDepth 100000 in
theorem impl_headWay.calls (a0_0 : Int) (a0_1 : Int) (a1_0 : Int) (a1_1 : Int) (a2 : Int) (r : Int) (w : World) (h : impl_headWay.f a0_0 a0_1 a1_0 a1_1 a2 = some r) :
  Calls Tryz.prog 45 #[.agg #[.int .i64 a0_0, .int .i64 a0_1], .agg #[.int .i64 a1_0, .int .i64 a1_1], .int .i64 a2] w fun e w' => e = .returned (.int .i64 r) ∧ Below w.heap.size w w' := by
 have hu30 := Tryz.underlying30
 have HB := Aside0.mk (Below.refl w.heap.size w)
 have H : ((impl_distance.f a0_1 a1_1).bind fun vw => ((impl_distance.f a0_0 a1_0).bind fun vx => (some (wrap64 (vw + (wrap64 (a2 * vx))))))) = some r := h
 clear h
 replace H := Option.bind_eq_some_iff.mp H
 obtain ⟨vw, fW, H⟩ := H
 (try dsimp only at H)
 have A4 := Aside0.mk fW
 clear fW
 replace H := Option.bind_eq_some_iff.mp H
 obtain ⟨vx, fM, H⟩ := H
 (try dsimp only at H)
 have A5 := Aside0.mk fM
 clear fM
 obtain rfl := Option.some.inj H
 go_enter Tryz.func45, Tryz.ntmps45
 try go_wp2_with (first | ((with_reducible refine gate_dst (N := 3) rfl ?_); refine bv_ 3 30 #[.int .i64 a0_0, .int .i64 a0_1] ?_; intro iW hg w6 hbox hb; refine k4_ (below_step (Z2) hb) (hbox) ((Z38 : w.heap.size ≤ iW)) ((Z38 : w.heap.size ≤ iW)) ?_; clear HB; intro HB cV GW462 wD; clear hb hbox hg) | ((with_reducible refine gate_dst (N := 4) rfl ?_); refine bv_ 4 30 #[.int .i64 a1_0, .int .i64 a1_1] ?_; intro l7 hg w7 hbox hb; refine k7_ (Ye_ cV) (below_step (Z109) hb) (hbox) ((by rw [hg]; exact (below_size (Z109)) : w.heap.size ≤ l7)) ((by rw [hg]; exact (below_size (Z109)) : w.heap.size ≤ l7)) ((by rw [hg]; exact Nat.ne_of_lt (blk_lt (g := iW) (o := .cells #[.int .i64 a0_0, .int .i64 a0_1] 30 (0, 0)) (Z6 cV)) : iW ≠ l7)) ((by rw [hg]; exact Nat.ne_of_gt (blk_lt (g := iW) (o := .cells #[.int .i64 a0_0, .int .i64 a0_1] 30 (0, 0)) (Z6 cV)) : l7 ≠ iW)) ?_; clear cV HB; intro cV HB eb GW463 GE463 NB462_463 NB463_462; clear hb hbox hg))
 refine k3_ (blk_drew cV.out) (blk_drew eb.out) (below_drew1 HB.out) ?_
 clear cV eb HB
 intro cV eb HB
 refine start_ (n := 14) (S := fun w' => w'.cell? ⟨iW, 0, none⟩ = some (.int .i64 a0_0) ∧ w'.cell? ⟨iW, 1, none⟩ = some (.int .i64 a0_1) ∧ w'.cell? ⟨l7, 0, none⟩ = some (.int .i64 a1_0) ∧ w'.cell? ⟨l7, 1, none⟩ = some (.int .i64 a1_1)) (ds := []) (M_ 0 14) (by kernel_rfl) rfl rfl ⟨(blk_cell cV.out 0).trans rfl, (blk_cell cV.out 1).trans rfl, (blk_cell eb.out 0).trans rfl, (blk_cell eb.out 1).trans rfl⟩ (fun hHeld => ?_); refine with_tabW impl_headWay.tab1 impl_headWay.bits1 (fun HT_ HW_ => ?_)
 generalize w7.drew = w8 at cV eb HB hHeld ⊢
 refine pu_ 0 7 (M_ 1 13) ?_
 refine pu_ 2 9 (N_ 14 5) ?_
 refine pu_ 5 12 (N_ 14 37) ?_
 refine pu_ 6 13 (N_ 14 101) ?_
 refine pu_ 8 15 (N_ 14 357) ?_
 refine tk4_ 1 8 (N_ 14 359) hHeld ?_
 refine tk4_ 3 10 (N_ 14 367) hHeld ?_
 refine tk4_ 7 14 (N_ 14 495) hHeld ?_
 refine tk4_ 9 16 (N_ 14 1007) hHeld ?_
 refine one_ (i := 4) (N := some 11) (M_ 10 4) rfl rfl (one_of HT_.out (by kernel_rfl)) (by decide) (fun K hK => ?_)
 refine goes_ Tryz.func60 (by kernel_rfl) rfl #[.int .i64 a0_1, .int .i64 a1_1] (by rfl) rfl rfl (Z58) ?_
 with_reducible refine (impl_distance.calls a0_1 a1_1 vw _ A4.out).mono ?_
 rintro e w9 ⟨rfl, hb⟩
 refine ⟨_, rfl, ?_⟩
 have n0_ := Aside0.mk (Ye_ cV)
 have n1_ := Aside0.mk (Ye_ eb)
 have n2_ := Aside0.mk (below_step (Z94) hb)
 clear cV
 clear eb
 clear HB
 have cV := n0_
 have eb := n1_
 have HB := n2_
 clear n0_ n1_ n2_
 (try clear hb)
 (try clear hb2)
 (try clear hk)
 (try clear hi)
 refine hK.out _ _ ⟨(blk_cell cV.out 0).trans rfl, (blk_cell cV.out 1).trans rfl, (blk_cell eb.out 0).trans rfl, (blk_cell eb.out 1).trans rfl⟩ (fun hHeld => ?_)
 clear hK K
 refine norm_ (a' := ?_) ?_ ?_
 rotate_left
 ·show Act.put _ (some 11) _ = _
  simp only [Act.put, List.setIfInBounds_toArray, List.set_cons_zero, List.set_cons_succ, i64_w, i32_w]
  rfl
 refine one_ (i := 10) (N := some 17) (M_ 11 3) rfl rfl (one_of HT_.out (by kernel_rfl)) (by decide) (fun K hK => ?_)
 refine goes_ Tryz.func60 (by kernel_rfl) rfl #[.int .i64 a0_0, .int .i64 a1_0] (by rfl) rfl rfl (Z58) ?_
 with_reducible refine (impl_distance.calls a0_0 a1_0 vx _ A5.out).mono ?_
 rintro e ng ⟨rfl, hb⟩
 refine ⟨_, rfl, ?_⟩
 have n0_ := Aside0.mk (Ye_ cV)
 have n1_ := Aside0.mk (Ye_ eb)
 have n2_ := Aside0.mk (below_step (Z94) hb)
 clear cV
 clear eb
 clear HB
 have cV := n0_
 have eb := n1_
 have HB := n2_
 clear n0_ n1_ n2_
 refine hK.out _ _ ⟨(blk_cell cV.out 0).trans rfl, (blk_cell cV.out 1).trans rfl, (blk_cell eb.out 0).trans rfl, (blk_cell eb.out 1).trans rfl⟩ (fun hHeld => ?_)
 clear hK K
 refine norm_ (a' := ?_) ?_ ?_
 rotate_left
 ·show Act.put _ (some 17) _ = _
  simp only [Act.put, List.setIfInBounds_toArray, List.set_cons_zero, List.set_cons_succ, i64_w, i32_w]
  rfl
 refine pu_ 11 18 (M_ 12 2) ?_
 refine pu_ 12 19 (M_ 13 1) ?_
 refine pu_ 13 6 (M_ 14 0) ?_
 refine done_ (done_of HT_.out (by kernel_rfl)) ?_
 try go_wp2
 go_ret
 exact ⟨Z12, Z94⟩

/-! ### impl_wayOfHead: function 27 -/
def impl_wayOfHead.l0 : Nat → List (S30) → Int → Int → Int → Option (Int)
 | 0, _, _, _, _ => none
 | k + 1, x0, x1, x5, x6 => if x6 < (x0.length : Int) then (if 0 ≤ (wrap64 (x6 - 1)) then (if (wrap64 (x6 - 1)) < (x0.length : Int) then (if 0 ≤ x6 then ((impl_headWay.f ((rd_T30 x0 (wrap64 (x6 - 1))).f0) ((rd_T30 x0 (wrap64 (x6 - 1))).f1) ((rd_T30 x0 x6).f0) ((rd_T30 x0 x6).f1) x1).bind fun st => (impl_wayOfHead.l0 k x0 x1 (wrap64 (x5 + st)) (wrap64 (x6 + 1)))) else (none)) else (none)) else (none)) else (some x5)
def impl_wayOfHead.f (k : Nat) (l0 : List (S30)) (a1 : Int) : Option (Int) := impl_wayOfHead.l0 k l0 a1 0 1
theorem impl_wayOfHead.mono_l : ∀ k, (∀ y0 y1 y2 y3, LeO (impl_wayOfHead.l0 k y0 y1 y2 y3) (impl_wayOfHead.l0 (k + 1) y0 y1 y2 y3))
 | 0 => fun _ _ _ _ r h => by simp [impl_wayOfHead.l0] at h
 | k + 1 => by
  have ih0 := impl_wayOfHead.mono_l k
  ·intro y0 y1 y2 y3
   unfold impl_wayOfHead.l0
   exact mo9_
theorem impl_wayOfHead.mono : ∀ a0 a1 k, LeO (impl_wayOfHead.f k a0 a1) (impl_wayOfHead.f (k + 1) a0 a1) := by
 intro a0 a1 k
 have ih0 := impl_wayOfHead.mono_l k
 unfold impl_wayOfHead.f
 exact mo9_
def impl_wayOfHead.T5 : Bool × List (List Nat × List Nat) := (true, [([], []), ([], []), ([], []), ([2], [2]), ([1, 3], [1, 3]), ([4], [4]), ([], []), ([], []), ([6, 7], [6, 7]), ([8], [8]), ([], []), ([5, 9, 10], [5, 9, 10]), ([0, 11], [0, 11]), ([12, 11, 0, 1, 2, 3, 4, 5, 6, 7, 8, 9, 10, 11, 12], [0, 12])])
def impl_wayOfHead.B5 : List Nat := [0, 0, 0, 4, 14, 30, 0, 0, 192, 448, 0, 2046, 4095, 8191]
theorem impl_wayOfHead.tab5 : rtab .any (opsOf Tryz.f27 5) = impl_wayOfHead.T5 := by kernel_rfl
theorem impl_wayOfHead.bits5 : waitsOk impl_wayOfHead.T5.2 impl_wayOfHead.B5 = true := by kernel_rfl
set_option maxHeartbeats 8000000 in
set_option maxRecDepth 100000 in
theorem impl_wayOfHead.calls (k : Nat) (A0 : Option Addr) (c0 : Nat) (l0 : List (S30)) (a1 : Int) (r : Int) (w : World) (hr0 : Kd.C k30 w A0 l0.length l0) (hc0 : l0.length ≤ c0) (h : impl_wayOfHead.f k l0 a1 = some r) :
  Calls Tryz.prog 27 #[.slice A0 l0.length c0, .int .i64 a1] w fun e w' => e = .returned (.int .i64 r) ∧ Below w.heap.size w w' := by
 have hu30 := Tryz.underlying30
 have HR0 := Aside0.mk hr0
 have HC0 := Aside0.mk hc0
 clear hr0 hc0
 have HB := Aside0.mk (Below.refl w.heap.size w)
 have H : (impl_wayOfHead.l0 k l0 a1 0 1) = some r := h
 clear h
 have H' := Aside0.mk H
 clear H
 go_enter Tryz.func27, Tryz.ntmps27
 go_wp2
 go_loopg [5, 6] k (fun kq v5 v6 w' => ∃ (cq : Int) (aQ : Int), v5 = .int .i64 cq ∧ v6 = .int .i64 aQ ∧ Aside0 (impl_wayOfHead.l0 kq l0 a1 cq aQ = some r) ∧ Aside0 (kq ≤ k) ∧ Aside0 (Below w.heap.size w w'))
 case atStart => exact ⟨(0), (1), (Z16), (Z16), H', ⟨Nat.le_refl _⟩, ⟨Z2⟩⟩
 case round =>
  clear H'
  (try clear c2); (try clear p2)
  obtain ⟨cq, aQ, rfl, rfl, HA, HK1, HB⟩ := hrel
  cases gk with
  | zero => exact absurd HA.out (by simp [impl_wayOfHead.l0])
  | succ k1 =>
   have H := HA.out
   clear HA
   simp only [impl_wayOfHead.l0] at H
   by_cases c3 : aQ < (l0.length : Int)
   ·rw [if_pos c3] at H
    have dj : decide (aQ < (l0.length : Int)) = true := decide_eq_true c3
    clear c3
    obtain ⟨eW, hji4⟩ : ∃ j_ : Int, (wrap64 (aQ - 1)) = j_ := ⟨_, rfl⟩
    replace H : (if 0 ≤ (eW) then (if (eW) < (l0.length : Int) then (if 0 ≤ aQ then ((impl_headWay.f ((rd_T30 l0 (eW)).f0) ((rd_T30 l0 (eW)).f1) ((rd_T30 l0 aQ).f0) ((rd_T30 l0 aQ).f1) a1).bind fun st => (impl_wayOfHead.l0 k1 l0 a1 (wrap64 (cq + st)) (wrap64 (aQ + 1)))) else (none)) else (none)) else (none)) = some r := by first | (rw [hji4] at H; exact H) | (simp only [hji4] at H ⊢; exact H)
    have hji4w : (IntKind.i64.wrap (aQ - 1)) = eW := (i64_w _).trans hji4
    by_cases c5 : 0 ≤ (eW)
    ·rw [if_pos c5] at H
     have fX : decide (0 ≤ (eW)) = true := decide_eq_true c5
     clear c5
     by_cases c6 : (eW) < (l0.length : Int)
     ·rw [if_pos c6] at H
      have iq : decide ((eW) < (l0.length : Int)) = true := decide_eq_true c6
      clear c6
      by_cases c7 : 0 ≤ aQ
      ·rw [if_pos c7] at H
       have gX : decide (0 ≤ aQ) = true := decide_eq_true c7
       clear c7
       replace H := Option.bind_eq_some_iff.mp H
       obtain ⟨st, m7, H⟩ := H
       (try dsimp only at H)
       have A8 := Aside0.mk m7
       clear m7
       have H' := Aside0.mk H
       clear H
       try go_wp2
       refine k1_ (below_drew1 HB.out) ?_
       clear HB
       intro HB
       have Aw : 0 ≤ ((eW) : Int) := of_decide_eq_true (Z4)
       have Ax : (eW) < (l0.length : Int) := of_decide_eq_true (Z4)
       obtain ⟨lw, e466, ik, il⟩ := at_T30 HR0.out (eW) Aw Ax
       have hw466_1 := il
       have hw466_0 := ik
       cases e466
       replace ik := (HB.out.cell (World.block_lt_of_cell? w _ ik)).trans ik
       replace il := (HB.out.cell (World.block_lt_of_cell? w _ il)).trans il
       replace Aw := eq_true Aw
       replace Ax := eq_true Ax
       have Ay : 0 ≤ (aQ : Int) := of_decide_eq_true (Z4)
       have Az : aQ < (l0.length : Int) := of_decide_eq_true (Z4)
       obtain ⟨ad467, e467, im, io⟩ := at_T30 HR0.out aQ Ay Az
       have hw467_1 := io
       have hw467_0 := im
       obtain rfl : lw = ad467 := (by injection e467)
       replace im := (HB.out.cell (World.block_lt_of_cell? w _ im)).trans im
       replace io := (HB.out.cell (World.block_lt_of_cell? w _ io)).trans io
       replace Ay := eq_true Ay
       replace Az := eq_true Az
       refine start_ (n := 14) (S := fun w' => w'.cell? (lw.add (((eW)).toNat * 2)) = some (.int .i64 ((rd_T30 l0 (eW)).f0)) ∧ w'.cell? ⟨(lw.add (((eW)).toNat * 2)).block, (lw.add (((eW)).toNat * 2)).off + 1, none⟩ = some (.int .i64 ((rd_T30 l0 (eW)).f1)) ∧ w'.cell? (lw.add ((aQ).toNat * 2)) = some (.int .i64 ((rd_T30 l0 aQ).f0)) ∧ w'.cell? ⟨(lw.add ((aQ).toNat * 2)).block, (lw.add ((aQ).toNat * 2)).off + 1, none⟩ = some (.int .i64 ((rd_T30 l0 aQ).f1))) (ds := []) (M_ 0 14) (by kernel_rfl) rfl rfl ⟨((HB.out.cell (World.block_lt_of_cell? w _ hw466_0)).trans hw466_0), ((HB.out.cell (World.block_lt_of_cell? w _ hw466_1)).trans hw466_1), ((HB.out.cell (World.block_lt_of_cell? w _ hw467_0)).trans hw467_0), ((HB.out.cell (World.block_lt_of_cell? w _ hw467_1)).trans hw467_1)⟩ (fun hHeld => ?_); refine with_tabW impl_wayOfHead.tab5 impl_wayOfHead.bits5 (fun HT_ HW_ => ?_)
       generalize wr.drew = w9 at HB ik il im io hHeld ⊢
       refine pu_ 0 13 (M_ 1 13) ?_
       refine pu_ 1 14 (M_ 2 12) ?_
       refine pu_ 2 15 (M_ 3 11) ?_
       refine pu_ 3 16 (M_ 4 10) ?_
       refine pu_ 4 17 (M_ 5 9) ?_
       refine pu_ 6 19 (N_ 14 95) ?_
       refine pu_ 7 20 (N_ 14 223) ?_
       refine pu_ 8 21 (N_ 14 479) ?_
       refine pu_ 10 23 (N_ 14 1503) ?_
       refine tk4_ 5 18 (N_ 14 1535) hHeld ?_
       refine tk4_ 9 22 (M_ 11 3) hHeld ?_
       refine one_ (i := 11) (N := some 24) (M_ 12 2) rfl rfl (one_of HT_.out (by kernel_rfl)) (by decide) (fun K hK => ?_)
       refine goes_ Tryz.func45 (by kernel_rfl) rfl #[.agg #[.int .i64 ((rd_T30 l0 (eW)).f0), .int .i64 ((rd_T30 l0 (eW)).f1)], .agg #[.int .i64 ((rd_T30 l0 aQ).f0), .int .i64 ((rd_T30 l0 aQ).f1)], .int .i64 a1] (by rfl) rfl rfl (Z135) ?_
       with_reducible refine (impl_headWay.calls ((rd_T30 l0 (eW)).f0) ((rd_T30 l0 (eW)).f1) ((rd_T30 l0 aQ).f0) ((rd_T30 l0 aQ).f1) a1 st _ A8.out).mono ?_
       rintro e ng ⟨rfl, hb⟩
       refine ⟨_, rfl, ?_⟩
       refine k1_ (below_step (Z2) hb) ?_
       clear HB
       intro HB
       (try clear hb)
       (try clear hb2)
       (try clear hk)
       (try clear hi)
       refine hK.out _ _ ⟨((HB.out.cell (World.block_lt_of_cell? w _ hw466_0)).trans hw466_0), ((HB.out.cell (World.block_lt_of_cell? w _ hw466_1)).trans hw466_1), ((HB.out.cell (World.block_lt_of_cell? w _ hw467_0)).trans hw467_0), ((HB.out.cell (World.block_lt_of_cell? w _ hw467_1)).trans hw467_1)⟩ (fun hHeld => ?_)
       clear hK K
       refine norm_ (a' := ?_) ?_ ?_
       rotate_left
       ·show Act.put _ (some 24) _ = _
        simp only [Act.put, List.setIfInBounds_toArray, List.set_cons_zero, List.set_cons_succ, i64_w, i32_w]
        rfl
       refine pu_ 12 25 (M_ 13 1) ?_
       refine pu_ 13 5 (M_ 14 0) ?_
       refine done_ (done_of HT_.out (by kernel_rfl)) ?_
       try go_wp2
       go_roundg k1
       case measure => have := HK1.out; omega
       case rel => exact ⟨(wrap64 (cq + st)), (wrap64 (aQ + 1)), (Z16), (Z16), H', ⟨Z76 HK1⟩, ⟨Z2⟩⟩
      rw [if_neg c7] at H
      exact absurd H (by simp)
     rw [if_neg c6] at H
     exact absurd H (by simp)
    rw [if_neg c5] at H
    exact absurd H (by simp)
   rw [if_neg c3] at H
   have dj : decide (aQ < (l0.length : Int)) = false := decide_eq_false c3
   clear c3
   obtain rfl := Option.some.inj H
   go_wp2
   go_ret
   exact ⟨Z12, Z2⟩

end Go.Proofs.YtmnnmddfmmaohaaGreat.PFnHead
