-- written by a program of this session: the kit's print, with outer functions of the session's own (wip/ext)
import Derived.Test.YtmnnmddfmmaohaaPFnPunchJobsx0
import Derived.Test.YtmnnmddfmmaohaaPFnPunchJobsx2
import Derived.Test.YtmnnmddfmmaohaaPFnPunchJobsx3
namespace Go.Proofs.Ytmnnmddfmmaohaa.PFnPunchJobs
open Go.RowKit Go.Proofs.YtmnnmddfmmaohaaW.PrintWords Go.Proofs.YtmnnmddfmmaohaaW.PrintLast Go.Proofs.YtmnnmddfmmaohaaW.PrintMore
attribute [local go_sem] max2_int min2_int max_two min_two max_three min_three max_four min_four   -- for this text's walks alone
set_option linter.unusedVariables false
set_option linter.unusedSimpArgs false
theorem mo4_ {p : Prop} (h : p := by repeat' first | (with_reducible first | apply ih0 | apply ih0 | apply spec_puHole.mono | apply spec_puHole.mono | apply spec_puStrokes.mono | apply spec_puStrokes.mono | apply spec_shGood.mono | apply spec_shGood.mono | exact LeO.refl _ | exact LeO.none _ | refine LeO.ite ?_ ?_ | refine LeO.bind ?_ (fun _ => ?_)) | exact LeO.none _ | refine LeO.ite ?_ ?_ | refine LeO.bind ?_ (fun _ => ?_)) : p := h

/-! ### spec_puHole: function 78 -/
def spec_puHole.l0 : Nat → List (S103) → Int → Int → Int → Int → Option ((List (S103)))
 | 0, _, _, _, _, _ => none
 | k + 1, x3, x4, rT, x130001, o9 => if x4 ≤ (wrap64 (o9 - 4)) then (if x3.length < 8796093022208 then (spec_puHole.l0 k (x3 ++ [(⟨rT, x4⟩ : S103)]) (wrap64 (x4 + 4)) rT x130001 o9) else (none)) else (if (x3.length : Int) > 0 then (if 0 ≤ (wrap64 ((x3.length : Int) - 1)) then (if (wrap64 ((x3.length : Int) - 1)) < (x3.length : Int) then (if ((rd_T103 x3 (wrap64 ((x3.length : Int) - 1))).f1) < (wrap64 (o9 - 4)) then (if x3.length < 8796093022208 then (some (x3 ++ [(⟨rT, wrap64 (o9 - 4)⟩ : S103)])) else (none)) else (some x3)) else (none)) else (none)) else (some x3))
def spec_puHole.f (k : Nat) (a0_0 : Int) (a0_1 : Int) (a0_2 : Int) : Option ((List (S103))) := spec_puHole.l0 k ([] : List (S103)) a0_1 a0_0 a0_1 a0_2
theorem spec_puHole.mono_l : ∀ k, (∀ y0 y1 y2 y3 y4, LeO (spec_puHole.l0 k y0 y1 y2 y3 y4) (spec_puHole.l0 (k + 1) y0 y1 y2 y3 y4))
 | 0 => fun _ _ _ _ _ r h => by simp [spec_puHole.l0] at h
 | k + 1 => by
  have ih0 := spec_puHole.mono_l k
  ·intro y0 y1 y2 y3 y4
   unfold spec_puHole.l0
   exact mo4_
theorem spec_puHole.mono : ∀ a0 a1 a2 k, LeO (spec_puHole.f k a0 a1 a2) (spec_puHole.f (k + 1) a0 a1 a2) := by
 intro a0 a1 a2 k
 have ih0 := spec_puHole.mono_l k
 unfold spec_puHole.f
 exact mo4_
set_option maxHeartbeats 8000000 in
set_option maxRecDepth 100000 in
theorem spec_puHole.calls (k : Nat) (a0_0 : Int) (a0_1 : Int) (a0_2 : Int) (r : List (S103)) (w : World) (h : spec_puHole.f k a0_0 a0_1 a0_2 = some r) :
  Calls Try.prog 78 #[.agg #[.int .i64 a0_0, .int .i64 a0_1, .int .i64 a0_2]] w fun e w' => ∃ v0_ : Value, e = .returned (v0_) ∧ Kd.R k103 103 w' w.heap.size (fun _ => True) v0_ r ∧ Below w.heap.size w w' := by
 have hu90 := Try.underlying90
 have hu103 := Try.underlying103
 have HB := Aside0.mk (Below.refl w.heap.size w)
 have H : (spec_puHole.l0 k ([] : List (S103)) a0_1 a0_0 a0_1 a0_2) = some r := h
 clear h
 have H' := Aside0.mk H
 clear H
 go_enter Try.func78, Try.ntmps78
 go_wp2_with ((with_reducible refine gate_dst (N := 1) rfl ?_); refine bv_ 1 90 #[.int .i64 a0_0, .int .i64 a0_1, .int .i64 a0_2] ?_; intro ii hg w2 hbox hb; refine k4_ (below_step (Z5) hb) (hbox) ((Z38 : w.heap.size ≤ ii)) ((Z38 : w.heap.size ≤ ii)) ?_; clear HB; intro HB ey ES yX; clear hb hbox hg; obtain ⟨vG, vH, vI, vJ, vK, vL⟩ := bx3_ (w := w2) ey.out)
 repeat (go_quiet (fail); try go_wp2_with (fail))
 go_loopg [3, 4] k (fun kq v3 v4 w' => ∃ (bt : List (S103)) (aX : Int), v4 = .int .i64 aX ∧ Aside0 (spec_puHole.l0 kq bt aX a0_0 a0_1 a0_2 = some r) ∧ Aside0 (kq ≤ k) ∧ Aside0 (Kd.R k103 103 w' w.heap.size (fun _ => True) v3 bt) ∧ Aside0 (w'.heap[ii]? = some (.cells #[.int .i64 a0_0, .int .i64 a0_1, .int .i64 a0_2] 90 (0, 0))) ∧ Aside0 (Below w.heap.size w w'))
 case atStart => exact ⟨(([] : List (S103))), (a0_1), (Z41), H', ⟨Nat.le_refl _⟩, ⟨Z44⟩, ⟨Z1 ey⟩, ⟨Z71⟩⟩
 case round =>
  clear H'
  (try clear p2); (try clear vG); (try clear vH); (try clear vI); (try clear vJ); (try clear vK); (try clear vL)
  obtain ⟨bt, aX, rfl, HA, HK1, bp, ey, HB⟩ := hrel
  cases gk with
  | zero => exact absurd HA.out (by simp [spec_puHole.l0])
  | succ k1 =>
   have H := HA.out
   clear HA
   simp only [spec_puHole.l0] at H
   by_cases c4 : aX ≤ (wrap64 (a0_2 - 4))
   ·rw [if_pos c4] at H
    have go : decide (aX ≤ (wrap64 (a0_2 - 4))) = true := decide_eq_true c4
    clear c4
    by_cases c5 : bt.length < 8796093022208
    case neg => rw [if_neg c5] at H; exact absurd H (by simp)
    rw [if_pos c5] at H
    have Gh := Aside0.mk c5
    clear c5
    obtain ⟨Ic, tS⟩ : ∃ y_ : List (S103), y_ = (bt ++ [(⟨a0_0, aX⟩ : S103)]) := ⟨_, rfl⟩
    replace H : (spec_puHole.l0 k1 Ic (wrap64 (aX + 4)) a0_0 a0_1 a0_2) = some r := hx_ tS H
    have Bp := Aside0.mk tS
    clear tS
    have H' := Aside0.mk H
    clear H
    obtain ⟨mt, mu, pm, nQ, mv, pn⟩ := bx3_ (w := wr) ey.out
    go_wp2_with ((with_reducible refine gate_builtin (b := .append) (xs := #[.tmp 15, .tmp 20]) rfl ?_); at_builtin; refine Kd.R_append k103 (w0 := w) w.heap.size rfl (.tmp 15) (.tmp 20) 63 103 (.agg #[(.int .i64 0), (.int .i64 0)]) 16 rfl Try.underlying63 info103 rfl (by decide) (by omega) u3 bt (⟨a0_0, aX⟩ : S103) [.int .i64 a0_0, .int .i64 aX] (fun _ => True) (fun _ => False) rfl rfl ?aP (fun _ hk => hk.elim) ?aF ?aO ?aB ?aS ?aL ?_; (case aP => exact k103_mkM _ _ _ (⟨a0_0, aX⟩ : S103)); (case aB => exact Z71); (case aF => exact (fun _ _ => trivial)); (case aO => exact (Z2 bp)); (case aS => exact (below_size (Z71))); (case aL => exact Z182 Gh); intro Id w7 ho hb hg hat; rw [← Bp.out] at ho; refine k3_ (blk_grown (g := ii) (o := .cells #[.int .i64 a0_0, .int .i64 a0_1, .int .i64 a0_2] 90 (0, 0)) (Z1 ey) hg (Kd.R_ne bp.out ey.out (by decide))) (hb) (ho) ?_; clear ey HB bp; intro ey HB Bq; clear ho hb hg hat)
    repeat (go_quiet (fail); try go_wp2_with (fail))
    go_roundg k1
    case measure => have := HK1.out; omega
    case rel => exact ⟨(Ic), (wrap64 (aX + 4)), (Z41), H', ⟨Z182 HK1⟩, ⟨Z2 Bq⟩, ⟨Z1 ey⟩, ⟨Z71⟩⟩
   rw [if_neg c4] at H
   have go : decide (aX ≤ (wrap64 (a0_2 - 4))) = false := decide_eq_false c4
   clear c4
   by_cases c8 : (bt.length : Int) > 0
   ·rw [if_pos c8] at H
    have nY : decide (0 < (bt.length : Int)) = true := decide_eq_true c8
    have zG : decide (0 < bt.length) = true := decide_eq_true (by omega)
    clear c8
    obtain ⟨fW, hji9⟩ : ∃ j_ : Int, (wrap64 ((bt.length : Int) - 1)) = j_ := ⟨_, rfl⟩
    replace H : (if 0 ≤ (fW) then (if (fW) < (bt.length : Int) then (if ((rd_T103 bt (fW)).f1) < (wrap64 (a0_2 - 4)) then (if bt.length < 8796093022208 then (some (bt ++ [(⟨a0_0, wrap64 (a0_2 - 4)⟩ : S103)])) else (none)) else (some bt)) else (none)) else (none)) = some r := by first | (rw [hji9] at H; exact H) | (simp only [hji9] at H ⊢; exact H)
    have hji9w : (IntKind.i64.wrap ((bt.length : Int) - 1)) = fW := (i64_w _).trans hji9
    by_cases c10 : 0 ≤ (fW)
    case neg => rw [if_neg c10] at H; exact absurd H (by simp)
    rw [if_pos c10] at H
    have ga : decide (0 ≤ (fW)) = true := decide_eq_true c10
    clear c10
    by_cases c11 : (fW) < (bt.length : Int)
    case neg => rw [if_neg c11] at H; exact absurd H (by simp)
    rw [if_pos c11] at H
    have iY : decide ((fW) < (bt.length : Int)) = true := decide_eq_true c11
    clear c11
    by_cases c12 : ((rd_T103 bt (fW)).f1) < (wrap64 (a0_2 - 4))
    ·rw [if_pos c12] at H
     have na : decide (((rd_T103 bt (fW)).f1) < (wrap64 (a0_2 - 4))) = true := decide_eq_true c12
     clear c12
     by_cases c13 : bt.length < 8796093022208
     case neg => rw [if_neg c13] at H; exact absurd H (by simp)
     rw [if_pos c13] at H
     have tz := Aside0.mk c13
     clear c13
     obtain ⟨y134, tT⟩ : ∃ y_ : List (S103), y_ = (bt ++ [(⟨a0_0, wrap64 (a0_2 - 4)⟩ : S103)]) := ⟨_, rfl⟩
     replace H : (some y134) = some r := hx_ tT H
     have Br := Aside0.mk tT
     clear tT
     obtain rfl := Option.some.inj H
     obtain ⟨oT, oU, hcz14_2, oV, oW, hfz14_2⟩ := bx3_ (w := wr) ey.out
     obtain ⟨yj, rU, tU⟩ := Kd.R_slice bp.out
     subst tU
     have vM : 0 ≤ ((fW) : Int) := of_decide_eq_true (Z21)
     have vN : (fW) < (bt.length : Int) := of_decide_eq_true (Z21)
     obtain ⟨xB, e133, hx133_0, hx133_1⟩ := at_T103 (Kd.R_reads' bp.out).2.2 (fW) vM vN
     cases e133
     replace vM := eq_true vM
     replace vN := eq_true vN
     go_wp2_with (fail)
     repeat (go_quiet (fail); try go_wp2_with ((with_reducible refine gate_builtin (b := .append) (xs := #[.tmp 38, .tmp 45]) rfl ?_); at_builtin; refine Kd.R_append k103 (w0 := w) w.heap.size rfl (.tmp 38) (.tmp 45) 63 103 (.agg #[(.int .i64 0), (.int .i64 0)]) 16 rfl Try.underlying63 info103 rfl (by decide) (by omega) (.slice (some xB) bt.length rU) bt (⟨a0_0, wrap64 (a0_2 - 4)⟩ : S103) [.int .i64 a0_0, .int .i64 (wrap64 (a0_2 - 4))] (fun _ => True) (fun _ => False) rfl rfl ?aP (fun _ hk => hk.elim) ?aF ?aO ?aB ?aS ?aL ?_; (case aP => exact k103_mkM _ _ _ (⟨a0_0, wrap64 (a0_2 - 4)⟩ : S103)); (case aB => exact Z71); (case aF => exact (fun _ _ => trivial)); (case aO => exact (Z2 bp)); (case aS => exact (below_size (Z71))); (case aL => exact Z182 tz); intro Ie mT ho hb hg hat; rw [← Br.out] at ho; refine k3_ (blk_grown (g := ii) (o := .cells #[.int .i64 a0_0, .int .i64 a0_1, .int .i64 a0_2] 90 (0, 0)) (Z1 ey) hg (Kd.R_ne bp.out ey.out (by decide))) (hb) (ho) ?_; clear ey HB bp; intro ey HB Bs; clear ho hb hg hat))
     go_ret
     exact ⟨_, Z238, Z2 Bs, Z71⟩
    rw [if_neg c12] at H
    have na : decide (((rd_T103 bt (fW)).f1) < (wrap64 (a0_2 - 4))) = false := decide_eq_false c12
    clear c12
    obtain rfl := Option.some.inj H
    obtain ⟨lL, lM, hcz17_2, lN, lO, hfz17_2⟩ := bx3_ (w := wr) ey.out
    obtain ⟨ru, rv, pV⟩ := Kd.R_slice bp.out
    subst pV
    have vM : 0 ≤ ((fW) : Int) := of_decide_eq_true (Z21)
    have vN : (fW) < (bt.length : Int) := of_decide_eq_true (Z21)
    obtain ⟨xB, e133, hx133_0, hx133_1⟩ := at_T103 (Kd.R_reads' bp.out).2.2 (fW) vM vN
    cases e133
    replace vM := eq_true vM
    replace vN := eq_true vN
    go_wp2
    repeat (go_quiet (fail); try go_wp2)
    go_ret
    exact ⟨_, Z238, Z2 bp, Z71⟩
   rw [if_neg c8] at H
   have nY : decide (0 < (bt.length : Int)) = false := decide_eq_false c8
   have zG : decide (0 < bt.length) = false := decide_eq_false (by omega)
   clear c8
   obtain rfl := Option.some.inj H
   obtain ⟨gX, gY, xy, gZ, g0, xz⟩ := bx3_ (w := wr) ey.out
   obtain ⟨GV, GW, zk⟩ := Kd.R_slice bp.out
   subst zk
   go_wp2
   repeat (go_quiet (fail); try go_wp2)
   go_ret
   exact ⟨_, Z11, Z2 bp, Z71⟩

/-! ### spec_puStrokes: function 85 -/
def spec_puStrokes.l0 : Nat → List (S103) → List (S90) → Int → Int → Option ((List (S103)) × Bool)
 | 0, _, _, _, _ => none
 | k + 1, x4, x8, x9, x10 => if x10 < x9 then (if 0 ≤ x10 then (if x10 < (x8.length : Int) then ((spec_puHole.f k ((rd_T90 x8 x10).f0) ((rd_T90 x8 x10).f1) ((rd_T90 x8 x10).f2)).bind fun mc => (if (mc.length : Int) = 0 then (some (([] : List (S103)), false)) else (if x4.length + mc.length < 8796093022208 then (spec_puStrokes.l0 k (x4 ++ mc) x8 x9 (wrap64 (x10 + 1))) else (none)))) else (none)) else (none)) else (if (x4.length : Int) > 200 then (some (([] : List (S103)), false)) else (some (x4, true)))
def spec_puStrokes.f (k : Nat) (l0 : List (S90)) : Option ((List (S103)) × Bool) := spec_puStrokes.l0 k ([] : List (S103)) l0 (l0.length : Int) 0
theorem spec_puStrokes.mono_l : ∀ k, (∀ y0 y1 y2 y3, LeO (spec_puStrokes.l0 k y0 y1 y2 y3) (spec_puStrokes.l0 (k + 1) y0 y1 y2 y3))
 | 0 => fun _ _ _ _ r h => by simp [spec_puStrokes.l0] at h
 | k + 1 => by
  have ih0 := spec_puStrokes.mono_l k
  ·intro y0 y1 y2 y3
   unfold spec_puStrokes.l0
   exact mo4_
theorem spec_puStrokes.mono : ∀ a0 k, LeO (spec_puStrokes.f k a0) (spec_puStrokes.f (k + 1) a0) := by
 intro a0 k
 have ih0 := spec_puStrokes.mono_l k
 unfold spec_puStrokes.f
 exact mo4_
set_option maxHeartbeats 8000000 in
set_option maxRecDepth 100000 in
theorem spec_puStrokes.calls (k : Nat) (A0 : Option Addr) (c0 : Nat) (l0 : List (S90)) (r1 : List (S103)) (r2 : Bool) (w : World) (hr0 : Kd.C k90 w A0 l0.length l0) (hc0 : l0.length ≤ c0) (h : spec_puStrokes.f k l0 = some (r1, r2)) :
  Calls Try.prog 85 #[.slice A0 l0.length c0] w fun e w' => ∃ v0_ : Value, e = .returned (.tuple #[v0_, .bool r2]) ∧ Kd.R k103 103 w' w.heap.size (fun _ => True) v0_ r1 ∧ Below w.heap.size w w' := by
 have hu90 := Try.underlying90
 have HR0 := Aside0.mk hr0
 have HC0 := Aside0.mk hc0
 clear hr0 hc0
 have HB := Aside0.mk (Below.refl w.heap.size w)
 have H : (spec_puStrokes.l0 k ([] : List (S103)) l0 (l0.length : Int) 0) = some (r1, r2) := h
 clear h
 have H' := Aside0.mk H
 clear H
 go_enter Try.func85, Try.ntmps85
 go_wp2
 go_loopg [4, 10] k (fun kq v4 Js w' => ∃ (aX : List (S103)) (au : Int), Js = .int .i64 au ∧ Aside0 (spec_puStrokes.l0 kq aX l0 (l0.length : Int) au = some (r1, r2)) ∧ Aside0 (kq ≤ k) ∧ Aside0 (Kd.R k103 103 w' w.heap.size (fun _ => True) v4 aX) ∧ Aside0 (Below w.heap.size w w'))
 case atStart => exact ⟨(([] : List (S103))), (0), (Z41), H', ⟨Nat.le_refl _⟩, ⟨Z44⟩, ⟨Z5⟩⟩
 case round =>
  clear H'
  obtain ⟨aX, au, rfl, HA, HK1, aJ, HB⟩ := hrel
  cases gk with
  | zero => exact absurd HA.out (by simp [spec_puStrokes.l0])
  | succ k1 =>
   have H := HA.out
   clear HA
   simp only [spec_puStrokes.l0] at H
   by_cases c2 : au < (l0.length : Int)
   ·rw [if_pos c2] at H
    have hP : decide (au < (l0.length : Int)) = true := decide_eq_true c2
    clear c2
    by_cases c3 : 0 ≤ au
    case neg => rw [if_neg c3] at H; exact absurd H (by simp)
    rw [if_pos c3] at H
    have f5 : decide (0 ≤ au) = true := decide_eq_true c3
    clear c3
    by_cases c4 : au < (l0.length : Int)
    case neg => rw [if_neg c4] at H; exact absurd H (by simp)
    rw [if_pos c4] at H
    have go : decide (au < (l0.length : Int)) = true := decide_eq_true c4
    clear c4
    obtain ⟨mc, A5, H⟩ := bd_ H
    (try dsimp only at H)
    by_cases c6 : (mc.length : Int) = 0
    ·rw [if_pos c6] at H
     have nR : ((mc.length : Int) == 0) = true := beq_iff_eq.mpr c6
     have xZ : ((mc.length : Int) != 0) = false := bne_eq_false_iff_eq.mpr c6
     clear c6
     simp only [Option.some.injEq, Prod.mk.injEq] at H
     obtain ⟨rfl, rfl⟩ := H
     have vO : 0 ≤ (au : Int) := of_decide_eq_true (Z21)
     have vP : au < (l0.length : Int) := of_decide_eq_true (Z21)
     obtain ⟨ad137, e137, jC, jD, jE⟩ := at_T90 HR0.out au vO vP
     cases e137
     replace jC := (HB.out.cell (World.block_lt_of_cell? w _ jC)).trans jC
     replace jD := (HB.out.cell (World.block_lt_of_cell? w _ jD)).trans jD
     replace jE := (HB.out.cell (World.block_lt_of_cell? w _ jE)).trans jE
     replace vO := eq_true vO
     replace vP := eq_true vP
     go_wp2_with (first | ((with_reducible refine gate_dst (N := 6) rfl ?_); refine bv_ 6 90 #[.int .i64 0, .int .i64 0, .int .i64 0] ?_; intro j8 hg w7 hbox hb; refine k5_ (Ya_ aJ) (below_step (Z5) hb) (hbox) ((Z38 : w.heap.size ≤ j8)) ((Z38 : w.heap.size ≤ j8)) ?_; clear aJ HB; intro aJ HB ip GW138 Dy; clear hb hbox hg; obtain ⟨fg, fh, nO, fy, fi, nP⟩ := bx3_ (w := w7) ip.out) | ((with_reducible refine gate_callee (f := 78) rfl ?_); refine gl_ 15 Try.func78 #[.agg #[.int .i64 ((rd_T90 l0 au).f0), .int .i64 ((rd_T90 l0 au).f1), .int .i64 ((rd_T90 l0 au).f2)]] ?_; (with_reducible refine (spec_puHole.calls k1 ((rd_T90 l0 au).f0) ((rd_T90 l0 au).f1) ((rd_T90 l0 au).f2) mc _ A5.out).mono ?_); rintro e w9 ⟨v140, rfl, ho0, hb⟩; refine ⟨_, rfl, ?_⟩; refine k4_ (Kd.R_elder' (Z120) (Kd.R_base ho0) hb) (Kd.R_lower (Kd.R_new' ho0 (Kd.R_lt (Z120))) (below_size (Z134))) (blk_below (g := j8) (o := .cells #[.int .i64 ((rd_T90 l0 au).f0), .int .i64 ((rd_T90 l0 au).f1), .int .i64 ((rd_T90 l0 au).f2)] 90 (0, 0)) (Z115 ip) hb) (below_step (Z134) hb) ?_; clear aJ ip HB; intro aJ ou ip HB; (try clear hb ho0); obtain ⟨G4, Ft, xT⟩ := Kd.R_slice ou.out; subst xT))
     go_ret2
     exact ⟨_, Z11, Z44, Z134⟩
    rw [if_neg c6] at H
    have nR : ((mc.length : Int) == 0) = false := beq_eq_false_iff_ne.mpr c6
    have xZ : ((mc.length : Int) != 0) = true := bne_iff_ne.mpr c6
    have c6b2 : ¬ (mc = []) := fun h_ => c6 (by rw [h_]; rfl)
    by_cases c11 : aX.length + mc.length < 8796093022208
    case neg => rw [if_neg c11] at H; exact absurd H (by simp)
    rw [if_pos c11] at H
    have zf := Aside0.mk c11
    clear c11
    obtain ⟨If, tV⟩ : ∃ y_ : List (S103), y_ = (aX ++ mc) := ⟨_, rfl⟩
    replace H : (spec_puStrokes.l0 k1 If l0 (l0.length : Int) (wrap64 (au + 1))) = some (r1, r2) := hx_ tV H
    have Ny142 := Aside0.mk tV
    clear tV
    have H' := Aside0.mk H
    clear H
    have vO : 0 ≤ (au : Int) := of_decide_eq_true (Z21)
    have vP : au < (l0.length : Int) := of_decide_eq_true (Z21)
    obtain ⟨ad137, e137, jC, jD, jE⟩ := at_T90 HR0.out au vO vP
    cases e137
    replace jC := (HB.out.cell (World.block_lt_of_cell? w _ jC)).trans jC
    replace jD := (HB.out.cell (World.block_lt_of_cell? w _ jD)).trans jD
    replace jE := (HB.out.cell (World.block_lt_of_cell? w _ jE)).trans jE
    replace vO := eq_true vO
    replace vP := eq_true vP
    go_wp2_with (first | ((with_reducible refine gate_dst (N := 6) rfl ?_); refine bv_ 6 90 #[.int .i64 0, .int .i64 0, .int .i64 0] ?_; intro j8 hg yI hbox hb; refine k5_ (Ya_ aJ) (below_step (Z5) hb) (hbox) ((Z38 : w.heap.size ≤ j8)) ((Z38 : w.heap.size ≤ j8)) ?_; clear aJ HB; intro aJ HB ip GW138 Dy; clear hb hbox hg; obtain ⟨iz, iA, rR, iB, iC, rS⟩ := bx3_ (w := yI) ip.out) | ((with_reducible refine gate_callee (f := 78) rfl ?_); refine gl_ 15 Try.func78 #[.agg #[.int .i64 ((rd_T90 l0 au).f0), .int .i64 ((rd_T90 l0 au).f1), .int .i64 ((rd_T90 l0 au).f2)]] ?_; (with_reducible refine (spec_puHole.calls k1 ((rd_T90 l0 au).f0) ((rd_T90 l0 au).f1) ((rd_T90 l0 au).f2) mc _ A5.out).mono ?_); rintro e oC ⟨v140, rfl, ho0, hb⟩; refine ⟨_, rfl, ?_⟩; refine k4_ (Kd.R_elder' (Z120) (Kd.R_base ho0) hb) (Kd.R_lower (Kd.R_new' ho0 (Kd.R_lt (Z120))) (below_size (Z134))) (blk_below (g := j8) (o := .cells #[.int .i64 ((rd_T90 l0 au).f0), .int .i64 ((rd_T90 l0 au).f1), .int .i64 ((rd_T90 l0 au).f2)] 90 (0, 0)) (Z115 ip) hb) (below_step (Z134) hb) ?_; clear aJ ip HB; intro aJ ou ip HB; (try clear hb ho0); obtain ⟨yj, rU, tU⟩ := Kd.R_slice ou.out; subst tU) | ((with_reducible refine gate_builtin (b := .append) (xs := #[.tmp 19, .tmp 20]) rfl ?_); at_builtin; refine Kd.R_append_rows k103 (w0 := w) w.heap.size rfl (.tmp 19) (.tmp 20) 63 103 (.agg #[(.int .i64 0), (.int .i64 0)]) 16 rfl Try.underlying63 info103 rfl (by decide) (by omega) u4 aX mc _ _ _ (fun k_ => some k_ ≠ (.slice yj mc.length rU : Value).ownBlock) (fun _ => False) rfl rfl ?aO ?aR (fun _ _ h => h) (fun _ h => h.elim) ?aF ?aB ?aS ?aL ?_; (case aR => exact Z7 ou); (case aB => exact Z134); (case aF => exact (fun k_ hk => Kd.fresh' (Yd_ ou) k_ hk)); (case aO => exact (Z185 aJ)); (case aS => exact (below_size (Z134))); (case aL => exact Z182 zf); intro v143 mT ho hb hg hat; rw [← Ny142.out] at ho; refine k4_ (blk_grown (g := j8) (o := .cells #[.int .i64 ((rd_T90 l0 au).f0), .int .i64 ((rd_T90 l0 au).f1), .int .i64 ((rd_T90 l0 au).f2)] 90 (0, 0)) (Z1 ip) hg (Kd.R_ne aJ.out ip.out (by decide))) (Kd.R_after (ok := (fun _ => True)) (Z2 ou) hg hat) (hb) (ho) ?_; clear ip ou HB aJ; intro ip ou HB HO144; clear ho hb hg hat))
    go_roundg k1
    case measure => have := HK1.out; omega
    case rel => exact ⟨(If), (wrap64 (au + 1)), (Z41), H', ⟨Z182 HK1⟩, ⟨Z47 HO144⟩, ⟨Z134⟩⟩
   rw [if_neg c2] at H
   have hP : decide (au < (l0.length : Int)) = false := decide_eq_false c2
   clear c2
   by_cases c17 : (aX.length : Int) > 200
   ·rw [if_pos c17] at H
    have sA : decide (200 < (aX.length : Int)) = true := decide_eq_true c17
    have ET : decide (200 < aX.length) = true := decide_eq_true (by omega)
    clear c17
    simp only [Option.some.injEq, Prod.mk.injEq] at H
    obtain ⟨rfl, rfl⟩ := H
    obtain ⟨ru, rv, pV⟩ := Kd.R_slice aJ.out
    subst pV
    go_wp2
    go_ret2
    exact ⟨_, Z11, Z44, Z5⟩
   rw [if_neg c17] at H
   have sA : decide (200 < (aX.length : Int)) = false := decide_eq_false c17
   have ET : decide (200 < aX.length) = false := decide_eq_false (by omega)
   clear c17
   simp only [Option.some.injEq, Prod.mk.injEq] at H
   obtain ⟨rfl, rfl⟩ := H
   obtain ⟨zg, qw, uN⟩ := Kd.R_slice aJ.out
   subst uN
   go_wp2
   go_ret2
   exact ⟨_, Z11, Z2 aJ, Z5⟩

/-! ### spec_jbStrokes: function 68 -/
def spec_jbStrokes.f (k : Nat) (l0_0 : List (S90)) (a0_1 : Int) : Option ((List (S103)) × Bool) := (spec_shGood.f k l0_0).bind fun Bt => (if Bt = true then ((spec_puStrokes.f k l0_0).bind fun nG => (if nG.2 = true then ((spec_l1In.f a0_1 0 (nG.1.length : Int)).bind fun yk => (some (nG.1, yk))) else (some (nG.1, false)))) else (some (([] : List (S103)), false)))
theorem spec_jbStrokes.mono : ∀ a0 a1 k, LeO (spec_jbStrokes.f k a0 a1) (spec_jbStrokes.f (k + 1) a0 a1) := by
 intro a0 a1 k
 unfold spec_jbStrokes.f
 exact mo4_
set_option maxHeartbeats 8000000 in
set_option maxRecDepth 100000 in
theorem spec_jbStrokes.calls (k : Nat) (A0_0 : Option Addr) (c0_0 : Nat) (l0_0 : List (S90)) (a0_1 : Int) (r1 : List (S103)) (r2 : Bool) (w : World) (hr0_0 : Kd.C k90 w A0_0 l0_0.length l0_0) (hc0_0 : l0_0.length ≤ c0_0) (h : spec_jbStrokes.f k l0_0 a0_1 = some (r1, r2)) :
  Calls Try.prog 68 #[.agg #[.slice A0_0 l0_0.length c0_0, .int .i64 a0_1]] w fun e w' => ∃ v0_ : Value, e = .returned (.tuple #[v0_, .bool r2]) ∧ Kd.R k103 103 w' w.heap.size (fun _ => True) v0_ r1 ∧ Below w.heap.size w w' := by
 have hu44 := Try.underlying44
 have HR0_0 := Aside0.mk hr0_0
 have HC0_0 := Aside0.mk hc0_0
 clear hr0_0 hc0_0
 have HB := Aside0.mk (Below.refl w.heap.size w)
 have H : ((spec_shGood.f k l0_0).bind fun Bt => (if Bt = true then ((spec_puStrokes.f k l0_0).bind fun nG => (if nG.2 = true then ((spec_l1In.f a0_1 0 (nG.1.length : Int)).bind fun yk => (some (nG.1, yk))) else (some (nG.1, false)))) else (some (([] : List (S103)), false)))) = some (r1, r2) := h
 clear h
 obtain ⟨Bt, A2, H⟩ := bd_ H
 (try dsimp only at H)
 by_cases c3 : Bt = true
 ·subst c3
  rw [if_pos rfl] at H
  obtain ⟨⟨CN, t148⟩, A4, H⟩ := bd_ H
  (try dsimp only at H)
  by_cases c5 : t148 = true
  ·subst c5
   rw [if_pos rfl] at H
   obtain ⟨yk, A6, H⟩ := bd_ H
   replace H : (some (CN, yk)) = some (r1, r2) := H
   simp only [Option.some.injEq, Prod.mk.injEq] at H
   obtain ⟨rfl, rfl⟩ := H
   go_enter Try.func68, Try.ntmps68
   go_wp2_with (first | ((with_reducible refine gate_dst (N := 1) rfl ?_); (try (refine gate_guard (by rfl) ?_; dsimp only)); refine bv_ 1 44 #[.slice A0_0 l0_0.length c0_0, .int .i64 a0_1] ?_; intro ov hg w7 hbox hb; refine k4_ (below_step (Z5) hb) (hbox) ((Z38 : w.heap.size ≤ ov)) ((Z38 : w.heap.size ≤ ov)) ?_; clear HB; intro HB fM EU yT; clear hb hbox hg; obtain ⟨fg, fh, fy, fi⟩ := bx2_ (w := w7) fM.out) | ((with_reducible refine gate_callee (f := 84) rfl ?_); refine gl_ 8 Try.func84 #[.slice A0_0 l0_0.length c0_0] ?_; (with_reducible refine (spec_shGood.calls k _ _ l0_0 true _ ?_ ?_ A2.out).mono ?_); exact (Z15 HR0_0); exact HC0_0.out; rintro e w9 ⟨rfl, hb⟩; refine ⟨_, rfl, ?_⟩; refine k2_ (Ye_ fM) (below_step (Z108) hb) ?_; clear fM HB; intro fM HB; (try clear hb); obtain ⟨gc, gG, gf, gH⟩ := bx2_ (w := w9) fM.out) | ((with_reducible refine gate_callee (f := 85) rfl ?_); refine gl_ 13 Try.func85 #[.slice A0_0 l0_0.length c0_0] ?_; (with_reducible refine (spec_puStrokes.calls k _ _ l0_0 CN true _ ?_ ?_ A4.out).mono ?_); exact (Z15 HR0_0); exact HC0_0.out; rintro e mN ⟨v149, rfl, ho0, hb⟩; refine ⟨_, rfl, ?_⟩; refine k3_ (Kd.R_lower ho0 (below_size (Z108))) (Ye_ fM) (below_step (Z108) hb) ?_; clear fM HB; intro xC fM HB; (try clear hb ho0); obtain ⟨gC, gD, gE, gF⟩ := bx2_ (w := mN) fM.out; obtain ⟨mZ, m0, pp⟩ := Kd.R_slice xC.out; subst pp) | (go_at_call 52; (with_reducible refine (spec_l1In.calls a0_1 0 (CN.length : Int) yk _ A6.out).mono ?_); rintro e w' ⟨rfl, ⟨nd, rfl⟩⟩))
   go_ret2
   exact ⟨_, Z11, Z2 xC, Z108⟩
  replace c5 := Bool.eq_false_iff.mpr c5
  subst c5
  rw [if_neg (show ¬ (false = true) by decide)] at H
  simp only [Option.some.injEq, Prod.mk.injEq] at H
  obtain ⟨rfl, rfl⟩ := H
  go_enter Try.func68, Try.ntmps68
  go_wp2_with (first | ((with_reducible refine gate_dst (N := 1) rfl ?_); (try (refine gate_guard (by rfl) ?_; dsimp only)); refine bv_ 1 44 #[.slice A0_0 l0_0.length c0_0, .int .i64 a0_1] ?_; intro ov hg oC hbox hb; refine k4_ (below_step (Z5) hb) (hbox) ((Z38 : w.heap.size ≤ ov)) ((Z38 : w.heap.size ≤ ov)) ?_; clear HB; intro HB fM EU yT; clear hb hbox hg; obtain ⟨m2, m3, m4, m5⟩ := bx2_ (w := oC) fM.out) | ((with_reducible refine gate_callee (f := 84) rfl ?_); refine gl_ 8 Try.func84 #[.slice A0_0 l0_0.length c0_0] ?_; (with_reducible refine (spec_shGood.calls k _ _ l0_0 true _ ?_ ?_ A2.out).mono ?_); exact (Z15 HR0_0); exact HC0_0.out; rintro e mT ⟨rfl, hb⟩; refine ⟨_, rfl, ?_⟩; refine k2_ (Ye_ fM) (below_step (Z108) hb) ?_; clear fM HB; intro fM HB; (try clear hb); obtain ⟨lL, lM, lN, lO⟩ := bx2_ (w := mT) fM.out) | ((with_reducible refine gate_callee (f := 85) rfl ?_); refine gl_ 13 Try.func85 #[.slice A0_0 l0_0.length c0_0] ?_; (with_reducible refine (spec_puStrokes.calls k _ _ l0_0 CN false _ ?_ ?_ A4.out).mono ?_); exact (Z15 HR0_0); exact HC0_0.out; rintro e B2 ⟨v149, rfl, ho0, hb⟩; refine ⟨_, rfl, ?_⟩; refine k3_ (Kd.R_lower ho0 (below_size (Z108))) (Ye_ fM) (below_step (Z108) hb) ?_; clear fM HB; intro xC fM HB; (try clear hb ho0)))
  go_ret2
  exact ⟨_, Z11, Z2 xC, Z108⟩
 replace c3 := Bool.eq_false_iff.mpr c3
 subst c3
 rw [if_neg (show ¬ (false = true) by decide)] at H
 simp only [Option.some.injEq, Prod.mk.injEq] at H
 obtain ⟨rfl, rfl⟩ := H
 go_enter Try.func68, Try.ntmps68
 go_wp2_with (first | ((with_reducible refine gate_dst (N := 1) rfl ?_); (try (refine gate_guard (by rfl) ?_; dsimp only)); refine bv_ 1 44 #[.slice A0_0 l0_0.length c0_0, .int .i64 a0_1] ?_; intro ov hg yZ hbox hb; refine k4_ (below_step (Z5) hb) (hbox) ((Z38 : w.heap.size ≤ ov)) ((Z38 : w.heap.size ≤ ov)) ?_; clear HB; intro HB fM EU yT; clear hb hbox hg; obtain ⟨wA, wB, wC, wD⟩ := bx2_ (w := yZ) fM.out) | ((with_reducible refine gate_callee (f := 84) rfl ?_); refine gl_ 8 Try.func84 #[.slice A0_0 l0_0.length c0_0] ?_; (with_reducible refine (spec_shGood.calls k _ _ l0_0 false _ ?_ ?_ A2.out).mono ?_); exact (Z15 HR0_0); exact HC0_0.out; rintro e DD ⟨rfl, hb⟩; refine ⟨_, rfl, ?_⟩; refine k2_ (Ye_ fM) (below_step (Z108) hb) ?_; clear fM HB; intro fM HB; (try clear hb)))
 go_ret2
 exact ⟨_, Z11, Z44, Z108⟩

/-! ### spec_l1Cur_one: function 79 -/
def spec_l1Cur_one.f (s0_0 : List Int) (s0_1 : Int) (s0_2 : Int) (a1 : Int) : Option (Bool × Int × Int) := (spec_l1Cur_pick.f s0_0 s0_1 s0_2 a1).bind fun qc => (some ((qc.1 == 0), qc.2.1, qc.2.2))
set_option maxHeartbeats 8000000 in
set_option maxRecDepth 100000 in
theorem spec_l1Cur_one.calls (g : Nat) (s0_0 : List Int) (s0_1 : Int) (s0_2 : Int) (a1 : Int) (r1 : Bool) (r2 : Int) (r3 : Int) (w0 w : World) (hI : IsS69 w0 w g s0_0 s0_1 s0_2) (hB : Below w0.heap.size w0 w) (h : spec_l1Cur_one.f s0_0 s0_1 s0_2 a1 = some (r1, r2, r3)) :
  Calls Try.prog 79 #[.pointer (some ⟨g, 0, none⟩), .int .i64 a1] w fun e w' => e = .returned (.bool r1) ∧ IsS69 w0 w' g s0_0 r2 r3 ∧ Below w0.heap.size w0 w' ∧ KeepBut w w' g none := by
 have HI0 := Aside0.mk hI
 have HK := Aside0.mk (KeepBut.refl w g none)
 have HL := Aside0.mk hB.size
 clear hI
 have HW0 := Aside0.mk hB.size
 have HB := Aside0.mk hB
 clear hB
 have H : ((spec_l1Cur_pick.f s0_0 s0_1 s0_2 a1).bind fun qc => (some ((qc.1 == 0), qc.2.1, qc.2.2))) = some (r1, r2, r3) := h
 clear h
 obtain ⟨⟨t152, t153, t154⟩, A3, H⟩ := bd_ H
 (try dsimp only at H)
 simp only [Option.some.injEq, Prod.mk.injEq] at H
 obtain ⟨rfl, rfl, rfl⟩ := H
 go_enter Try.func79, Try.ntmps79
 go_wp2_with ((with_reducible refine gate_callee (f := 45) rfl ?_); refine gl_ 7 Try.func45 #[.pointer (some ⟨g, 0, none⟩), .int .i64 a1] ?_; (with_reducible refine (spec_l1Cur_pick.calls g s0_0 s0_1 s0_2 a1 t152 t153 t154 w0 _ ?_ ?_ A3.out).mono ?_); exact (Z8 HI0); exact Z10; rintro e w4 ⟨rfl, hi, hb, hk⟩; refine ⟨_, rfl, ?_⟩; refine k3_ (KeepBut.trans (Z9) hk (.inl rfl)) (hb) (hi) ?_; clear HK HB HI0; intro HK HB HI0; (try clear hb hk hi))
 go_ret
 exact ⟨Z11, Z8 HI0, Z10, Z9⟩

end Go.Proofs.Ytmnnmddfmmaohaa.PFnPunchJobs
