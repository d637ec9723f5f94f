-- written by a program of this session: the kit's print, with outer functions of the session's own (wip/ext)
import Derived.Test.YtcpbncljimmkfaaGreatDoorPFnScansx0
import Derived.Test.YtcpbncljimmkfaaGreatDoorPFnScansx2
import Derived.Test.YtcpbncljimmkfaaGreatDoorPFnScansx3
import Derived.Test.YtcpbncljimmkfaaGreatDoorPFnScansx8
namespace Go.Proofs.YtcpbncljimmkfaaGreatDoor.PFnScans
open Go.RowKit Go.Proofs.YtcpbncljimmkfaaGreatDoorW.PrintWords Go.Proofs.YtcpbncljimmkfaaGreatDoorW.PrintLast Go.Proofs.YtcpbncljimmkfaaGreatDoorW.PrintMore
attribute [local go_sem] max2_int min2_int max_two min_two max_three min_three max_four min_four   -- for this text's walks alone
set_option linter.unusedVariables false
set_option linter.unusedSimpArgs false
theorem mo9_ {p : Prop} (h : p := by repeat' first | (with_reducible first | apply ih0 | apply ih0 | apply ih1 | apply ih1 | apply spec_l1Has.mono | apply spec_l1Has.mono | apply spec_l1Put.mono | apply spec_l1Put.mono | apply spec_scMake.mono | apply spec_scMake.mono | apply spec_shGood.mono | apply spec_shGood.mono | apply spec_shOpen.mono | apply spec_shOpen.mono | exact LeO.refl _ | exact LeO.none _ | refine LeO.ite ?_ ?_ | refine LeO.bind ?_ (fun _ => ?_)) | exact LeO.none _ | refine LeO.ite ?_ ?_ | refine LeO.bind ?_ (fun _ => ?_)) : p := h

/-! ### spec_shOpen: function 39 -/
def spec_shOpen.l0 : Nat → Int → List Int → List (S55) → Int → Int → Option (List Int)
 | 0, _, _, _, _, _ => none
 | k + 1, x1, x5, x8, x9, x10 => if x10 < x9 then (if 0 ≤ x10 then (if x10 < (x8.length : Int) then ((spec_l1In.f x1 ((rd_T55 x8 x10).f1) (wrap64 (((rd_T55 x8 x10).f2) - 1))).bind fun zN => (if zN = true then ((spec_l1Put.f k x5 ((rd_T55 x8 x10).f0)).bind fun vG => (spec_shOpen.l0 k x1 vG x8 x9 (wrap64 (x10 + 1)))) else (spec_shOpen.l0 k x1 x5 x8 x9 (wrap64 (x10 + 1))))) else (none)) else (none)) else (some x5)
def spec_shOpen.f (k : Nat) (l0 : List (S55)) (a1 : Int) : Option (List Int) := spec_shOpen.l0 k a1 ([] : List Int) l0 (l0.length : Int) 0
theorem spec_shOpen.mono_l : ∀ k, (∀ y0 y1 y2 y3 y4, LeO (spec_shOpen.l0 k y0 y1 y2 y3 y4) (spec_shOpen.l0 (k + 1) y0 y1 y2 y3 y4))
 | 0 => fun _ _ _ _ _ r h => by simp [spec_shOpen.l0] at h
 | k + 1 => by
  have ih0 := spec_shOpen.mono_l k
  ·intro y0 y1 y2 y3 y4
   unfold spec_shOpen.l0
   exact mo9_
theorem spec_shOpen.mono : ∀ a0 a1 k, LeO (spec_shOpen.f k a0 a1) (spec_shOpen.f (k + 1) a0 a1) := by
 intro a0 a1 k
 have ih0 := spec_shOpen.mono_l k
 unfold spec_shOpen.f
 exact mo9_
set_option maxHeartbeats 8000000 in
set_option maxRecDepth 100000 in
theorem spec_shOpen.calls (k : Nat) (A0 : Option Addr) (c0 : Nat) (l0 : List (S55)) (a1 : Int) (r : List Int) (w : World) (hr0 : Kd.C k55 w A0 l0.length l0) (hc0 : l0.length ≤ c0) (h : spec_shOpen.f k l0 a1 = some r) :
  Calls Tryz.prog 39 #[.slice A0 l0.length c0, .int .i64 a1] w fun e w' => ∃ v0_ : Value, e = .returned (v0_) ∧ Kd.R (Kd.int .i64) 3 w' w.heap.size (fun _ => True) v0_ r ∧ Below w.heap.size w w' := by
 have hu55 := Tryz.underlying55
 have HR0 := Aside0.mk hr0
 have HC0 := Aside0.mk hc0
 clear hr0 hc0
 have HB := Aside0.mk (Below.refl w.heap.size w)
 have H : (spec_shOpen.l0 k a1 ([] : List Int) l0 (l0.length : Int) 0) = some r := h
 clear h
 have H' := Aside0.mk H
 clear H
 go_enter Tryz.func39, Tryz.ntmps39
 go_wp2
 go_loopg [5, 10] k (fun kq v5 qu w' => ∃ (ag : List Int) (aa : Int), qu = .int .i64 aa ∧ Aside0 (spec_shOpen.l0 kq a1 ag l0 (l0.length : Int) aa = some r) ∧ Aside0 (kq ≤ k) ∧ Aside0 (Kd.R (Kd.int .i64) 3 w' w.heap.size (fun _ => True) v5 ag) ∧ Aside0 (Below w.heap.size w w'))
 case atStart => exact ⟨(([] : List Int)), (0), (Z11), H', ⟨Nat.le_refl _⟩, ⟨Z15⟩, ⟨Z2⟩⟩
 case round =>
  clear H'
  obtain ⟨ag, aa, rfl, HA, HK1, ai, HB⟩ := hrel
  cases gk with
  | zero => exact absurd HA.out (by simp [spec_shOpen.l0])
  | succ k1 =>
   have H := HA.out
   clear HA
   simp only [spec_shOpen.l0] at H
   by_cases c3 : aa < (l0.length : Int)
   ·rw [if_pos c3] at H
    have bA : decide (aa < (l0.length : Int)) = true := decide_eq_true c3
    clear c3
    by_cases c4 : 0 ≤ aa
    case neg => rw [if_neg c4] at H; exact absurd H (by simp)
    rw [if_pos c4] at H
    have bZ : decide (0 ≤ aa) = true := decide_eq_true c4
    clear c4
    by_cases c5 : aa < (l0.length : Int)
    case neg => rw [if_neg c5] at H; exact absurd H (by simp)
    rw [if_pos c5] at H
    have ci : decide (aa < (l0.length : Int)) = true := decide_eq_true c5
    clear c5
    obtain ⟨zN, A6, H⟩ := bd_ H
    (try dsimp only at H)
    by_cases c7 : zN = true
    ·subst c7
     rw [if_pos rfl] at H
     obtain ⟨vG, A8, H⟩ := bd_ H
     (try dsimp only at H)
     have H' := Aside0.mk H
     clear H
     have pu : 0 ≤ (aa : Int) := of_decide_eq_true (Z8)
     have pv : aa < (l0.length : Int) := of_decide_eq_true (Z8)
     obtain ⟨ad404, e404, eH, eI, eJ⟩ := at_T55 HR0.out aa pu pv
     cases e404
     replace eH := (HB.out.cell (World.block_lt_of_cell? w _ eH)).trans eH
     replace eI := (HB.out.cell (World.block_lt_of_cell? w _ eI)).trans eI
     replace eJ := (HB.out.cell (World.block_lt_of_cell? w _ eJ)).trans eJ
     replace pu := eq_true pu
     replace pv := eq_true pv
     go_wp2_with (first | ((with_reducible refine gate_dst (N := 7) rfl ?_); refine bv_ 7 55 #[.int .i64 0, .int .i64 0, .int .i64 0] ?_; intro eK hg w9 hbox hb; refine k5_ (Ya_ ai) (below_step (Z2) hb) (hbox) ((Z33 : w.heap.size ≤ eK)) ((Z33 : w.heap.size ≤ eK)) ?_; clear ai HB; intro ai HB eL GW405 vL; clear hb hbox hg; obtain ⟨hcz10_0, hcz10_1, hcz10_2, hfz10_0, hfz10_1, hfz10_2⟩ := bx3_ (w := w9) eL.out) | ((with_reducible refine gate_store (t := 55) (p := 7) rfl ?_); refine store_event (t := 55) (p := 7) (v := ?vo_w11) (w1 := (((w9.setCell ⟨eK, 0, none⟩ (.int .i64 ((rd_T55 l0 aa).f0))).setCell ⟨eK, 1, none⟩ (.int .i64 ((rd_T55 l0 aa).f1))).setCell ⟨eK, 2, none⟩ (.int .i64 ((rd_T55 l0 aa).f2)))) ?hg ?ho ?hn ?hr ?_; (case ho => rfl); (case hg => rfl); (case hn => rfl); (case hr => exact Z41); intro g3 hw; have n0_ : Aside0 (Kd.R (Kd.int .i64) 3 g3 w.heap.size (fun _ => True) u5 ag) := ⟨(by rw [hw]; exact Z71)⟩; have n1_ : Aside0 (g3.heap[eK]? = some (.cells #[.int .i64 ((rd_T55 l0 aa).f0), .int .i64 ((rd_T55 l0 aa).f1), .int .i64 ((rd_T55 l0 aa).f2)] 55 (0, 0))) := ⟨(by rw [hw]; exact (Z59 eL))⟩; have n2_ : Aside0 (Below w.heap.size w g3) := ⟨(by rw [hw]; exact Z67)⟩; clear hw; clear ai; clear eL; clear HB; have ai := n0_; have eL := n1_; have HB := n2_; clear n0_ n1_ n2_; obtain ⟨lF, qc, qd, lG, qe, qf⟩ := bx3_ (w := g3) eL.out) | ((with_reducible refine gate_callee (f := 33) rfl ?_); refine gl_ 20 Tryz.func33 #[.int .i64 a1, .int .i64 ((rd_T55 l0 aa).f1), .int .i64 (wrap64 (((rd_T55 l0 aa).f2) - 1))] ?_; (with_reducible refine (spec_l1In.calls a1 ((rd_T55 l0 aa).f1) (wrap64 (((rd_T55 l0 aa).f2) - 1)) true _ A6.out).mono ?_); rintro e w' ⟨rfl, ⟨nd, rfl⟩⟩; refine ⟨_, rfl, ?_⟩; obtain ⟨fJ, fK, o6⟩ := Kd.R_slice ai.out; subst o6) | ((with_reducible refine gate_callee (f := 62) rfl ?_); refine gl_ 24 Tryz.func62 #[.slice fJ ag.length fK, .int .i64 ((rd_T55 l0 aa).f0)] ?_; (with_reducible refine (spec_l1Put.calls k1 (fun k_ => some k_ = (.slice fJ ag.length fK : Value).ownBlock) (.slice fJ ag.length fK) ag ((rd_T55 l0 aa).f0) vG w _ ?_ ?_ A8.out).mono ?_); exact Z67; exact Kd.R_tight rfl ai.out; rintro e ze ⟨v408, rfl, ho0, hb, hkp⟩; refine ⟨_, rfl, ?_⟩; refine k3_ (blk_kept (Z7 eL) hkp (fun hs_ => (fun e_ => (Kd.R_ne ai.out eL.out (by decide)) e_) hs_)) (Kd.R_mono (ok' := fun k_ => True) ho0 (fun k_ hk_ => trivial)) (hb) ?_; clear eL HB ai; intro eL HO409 HB; (try clear hb hkp ho0)))
     go_roundg k1
     case measure => have := HK1.out; omega
     case rel => exact ⟨(vG), (wrap64 (aa + 1)), (Z11), H', ⟨Z83 HK1⟩, ⟨Z3 HO409⟩, ⟨Z67⟩⟩
    replace c7 := Bool.eq_false_iff.mpr c7
    subst c7
    rw [if_neg (show ¬ (false = true) by decide)] at H
    have H' := Aside0.mk H
    clear H
    have pu : 0 ≤ (aa : Int) := of_decide_eq_true (Z8)
    have pv : aa < (l0.length : Int) := of_decide_eq_true (Z8)
    obtain ⟨ad404, e404, eH, eI, eJ⟩ := at_T55 HR0.out aa pu pv
    cases e404
    replace eH := (HB.out.cell (World.block_lt_of_cell? w _ eH)).trans eH
    replace eI := (HB.out.cell (World.block_lt_of_cell? w _ eI)).trans eI
    replace eJ := (HB.out.cell (World.block_lt_of_cell? w _ eJ)).trans eJ
    replace pu := eq_true pu
    replace pv := eq_true pv
    go_wp2_with (first | ((with_reducible refine gate_dst (N := 7) rfl ?_); refine bv_ 7 55 #[.int .i64 0, .int .i64 0, .int .i64 0] ?_; intro eK hg il hbox hb; refine k5_ (Ya_ ai) (below_step (Z2) hb) (hbox) ((Z33 : w.heap.size ≤ eK)) ((Z33 : w.heap.size ≤ eK)) ?_; clear ai HB; intro ai HB eL GW405 vL; clear hb hbox hg; obtain ⟨hcz16_0, hcz16_1, hcz16_2, hfz16_0, hfz16_1, hfz16_2⟩ := bx3_ (w := il) eL.out) | ((with_reducible refine gate_callee (f := 33) rfl ?_); refine gl_ 20 Tryz.func33 #[.int .i64 a1, .int .i64 ((rd_T55 l0 aa).f1), .int .i64 (wrap64 (((rd_T55 l0 aa).f2) - 1))] ?_; (with_reducible refine (spec_l1In.calls a1 ((rd_T55 l0 aa).f1) (wrap64 (((rd_T55 l0 aa).f2) - 1)) false _ A6.out).mono ?_); rintro e w' ⟨rfl, ⟨nd, rfl⟩⟩; refine ⟨_, rfl, ?_⟩))
    go_roundg k1
    case measure => have := HK1.out; omega
    case rel => exact ⟨(ag), (wrap64 (aa + 1)), (Z11), H', ⟨Z83 HK1⟩, ⟨Z71⟩, ⟨Z67⟩⟩
   rw [if_neg c3] at H
   have bA : decide (aa < (l0.length : Int)) = false := decide_eq_false c3
   clear c3
   obtain rfl := Option.some.inj H
   go_wp2
   go_ret
   exact ⟨_, Z9, Z3 ai, Z2⟩

/-! ### spec_l1Has: function 58 -/
def spec_l1Has.l0 : Nat → Int → List Int → Int → Int → Option (Bool)
 | 0, _, _, _, _ => none
 | k + 1, x1, x7, x8, x9 => if x9 < x8 then (if 0 ≤ x9 then (if x9 < (x7.length : Int) then (if (rd x7 x9) = x1 then (some true) else (spec_l1Has.l0 k x1 x7 x8 (wrap64 (x9 + 1)))) else (none)) else (none)) else (some false)
def spec_l1Has.f (k : Nat) (l0 : List Int) (a1 : Int) : Option (Bool) := spec_l1Has.l0 k a1 l0 (l0.length : Int) 0
theorem spec_l1Has.mono_l : ∀ k, (∀ y0 y1 y2 y3, LeO (spec_l1Has.l0 k y0 y1 y2 y3) (spec_l1Has.l0 (k + 1) y0 y1 y2 y3))
 | 0 => fun _ _ _ _ r h => by simp [spec_l1Has.l0] at h
 | k + 1 => by
  have ih0 := spec_l1Has.mono_l k
  ·intro y0 y1 y2 y3
   unfold spec_l1Has.l0
   exact mo9_
theorem spec_l1Has.mono : ∀ a0 a1 k, LeO (spec_l1Has.f k a0 a1) (spec_l1Has.f (k + 1) a0 a1) := by
 intro a0 a1 k
 have ih0 := spec_l1Has.mono_l k
 unfold spec_l1Has.f
 exact mo9_
set_option maxHeartbeats 8000000 in
set_option maxRecDepth 100000 in
theorem spec_l1Has.calls (k : Nat) (A0 : Option Addr) (c0 : Nat) (l0 : List Int) (a1 : Int) (r : Bool) (w : World) (hr0 : Kd.C (Kd.int .i64) w A0 l0.length l0) (hc0 : l0.length ≤ c0) (h : spec_l1Has.f k l0 a1 = some r) :
  Calls Tryz.prog 58 #[.slice A0 l0.length c0, .int .i64 a1] w fun e w' => e = .returned (.bool r) ∧ Drawn0 w w' := by
 have HR0 := Aside0.mk hr0
 have HC0 := Aside0.mk hc0
 clear hr0 hc0
 have H : (spec_l1Has.l0 k a1 l0 (l0.length : Int) 0) = some r := h
 clear h
 have H' := Aside0.mk H
 clear H
 go_enter Tryz.func58, Tryz.ntmps58
 go_wp2
 go_loopg [9] k (fun kq v9 w' => ∃ (aj : Int), v9 = .int .i64 aj ∧ Aside0 (spec_l1Has.l0 kq a1 l0 (l0.length : Int) aj = some r) ∧ Aside0 (kq ≤ k) ∧ Drawn0 w w')
 case atStart => exact ⟨(0), (Z11), H', ⟨Nat.le_refl _⟩, Z14⟩
 case round =>
  clear H'
  obtain ⟨aj, rfl, HA, HK1, ⟨m1, rfl⟩⟩ := hrel
  cases gk with
  | zero => exact absurd HA.out (by simp [spec_l1Has.l0])
  | succ k1 =>
   have H := HA.out
   clear HA
   simp only [spec_l1Has.l0] at H
   by_cases c3 : aj < (l0.length : Int)
   ·rw [if_pos c3] at H
    have bA : decide (aj < (l0.length : Int)) = true := decide_eq_true c3
    clear c3
    by_cases c4 : 0 ≤ aj
    case neg => rw [if_neg c4] at H; exact absurd H (by simp)
    rw [if_pos c4] at H
    have bZ : decide (0 ≤ aj) = true := decide_eq_true c4
    clear c4
    by_cases c5 : aj < (l0.length : Int)
    case neg => rw [if_neg c5] at H; exact absurd H (by simp)
    rw [if_pos c5] at H
    have ci : decide (aj < (l0.length : Int)) = true := decide_eq_true c5
    clear c5
    by_cases c6 : (rd l0 aj) = a1
    ·rw [if_pos c6] at H
     have ck : ((rd l0 aj) == a1) = true := beq_iff_eq.mpr c6
     have gN : ((rd l0 aj) != a1) = false := bne_eq_false_iff_eq.mpr c6
     clear c6
     obtain rfl := Option.some.inj H
     have pw : 0 ≤ (aj : Int) := of_decide_eq_true (Z8)
     have px : aj < (l0.length : Int) := of_decide_eq_true (Z8)
     obtain ⟨ad410, e410, hx410_0⟩ := Kd.at_int HR0.out aj pw px
     cases e410
     replace pw := eq_true pw
     replace px := eq_true px
     go_wp2
     go_ret
     exact ⟨Z11, Z14⟩
    rw [if_neg c6] at H
    have ck : ((rd l0 aj) == a1) = false := beq_eq_false_iff_ne.mpr c6
    have gN : ((rd l0 aj) != a1) = true := bne_iff_ne.mpr c6
    have H' := Aside0.mk H
    clear H
    have pw : 0 ≤ (aj : Int) := of_decide_eq_true (Z8)
    have px : aj < (l0.length : Int) := of_decide_eq_true (Z8)
    obtain ⟨ad410, e410, hx410_0⟩ := Kd.at_int HR0.out aj pw px
    cases e410
    replace pw := eq_true pw
    replace px := eq_true px
    go_wp2
    go_roundg k1
    case measure => have := HK1.out; omega
    case rel => exact ⟨(wrap64 (aj + 1)), (Z11), H', ⟨Z83 HK1⟩, Z14⟩
   rw [if_neg c3] at H
   have bA : decide (aj < (l0.length : Int)) = false := decide_eq_false c3
   clear c3
   obtain rfl := Option.some.inj H
   go_wp2
   go_ret
   exact ⟨Z11, Z14⟩

/-! ### spec_scMake: function 34 -/
mutual
def spec_scMake.l0 : Nat → List (S55) → Int → Int → List ByteArray → Int → Option (List ByteArray)
 | 0, _, _, _, _, _ => none
 | k + 1, x0, x1, x2, x7, x8 => if x8 < x2 then ((spec_shOpen.f k x0 x8).bind fun l3 => (spec_scMake.l1 k x0 x1 x2 x7 x8 l3 (⟨#[]⟩ : ByteArray) 0)) else (some x7)
def spec_scMake.l1 : Nat → List (S55) → Int → Int → List ByteArray → Int → List Int → ByteArray → Int → Option (List ByteArray)
 | 0, _, _, _, _, _, _, _, _ => none
 | k + 1, x0, x1, x2, x7, x8, x9, x10, x11 => if x11 < x1 then ((spec_l1Has.f k x9 x11).bind fun zO => (if zO = true then (if x10.size + 1 ≤ 9223372036854775807 then (spec_scMake.l1 k x0 x1 x2 x7 x8 x9 (x10 ++ (⟨#[111]⟩ : ByteArray)) (wrap64 (x11 + 1))) else (none)) else (if x10.size + 1 ≤ 9223372036854775807 then (spec_scMake.l1 k x0 x1 x2 x7 x8 x9 (x10 ++ (⟨#[46]⟩ : ByteArray)) (wrap64 (x11 + 1))) else (none)))) else (if x7.length < 8796093022208 then (spec_scMake.l0 k x0 x1 x2 (x7 ++ [x10]) (wrap64 (x8 + 1))) else (none))
end
def spec_scMake.f (k : Nat) (l0 : List (S55)) (a1 : Int) (a2 : Int) : Option (List ByteArray) := spec_scMake.l0 k l0 a1 a2 ([] : List ByteArray) 0
theorem spec_scMake.mono_l : ∀ k, (∀ y0 y1 y2 y3 y4, LeO (spec_scMake.l0 k y0 y1 y2 y3 y4) (spec_scMake.l0 (k + 1) y0 y1 y2 y3 y4)) ∧ (∀ y0 y1 y2 y3 y4 y5 y6 y7, LeO (spec_scMake.l1 k y0 y1 y2 y3 y4 y5 y6 y7) (spec_scMake.l1 (k + 1) y0 y1 y2 y3 y4 y5 y6 y7))
 | 0 => ⟨fun _ _ _ _ _ r h => by simp [spec_scMake.l0] at h, fun _ _ _ _ _ _ _ _ r h => by simp [spec_scMake.l1] at h⟩
 | k + 1 => by
  obtain ⟨ih0, ih1⟩ := spec_scMake.mono_l k
  refine ⟨?_, ?_⟩
  ·intro y0 y1 y2 y3 y4
   unfold spec_scMake.l0
   exact mo9_
  intro y0 y1 y2 y3 y4 y5 y6 y7
  unfold spec_scMake.l1
  exact mo9_
theorem spec_scMake.mono : ∀ a0 a1 a2 k, LeO (spec_scMake.f k a0 a1 a2) (spec_scMake.f (k + 1) a0 a1 a2) := by
 intro a0 a1 a2 k
 obtain ⟨ih0, ih1⟩ := spec_scMake.mono_l k
 unfold spec_scMake.f
 exact mo9_
set_option maxHeartbeats 8000000 in
set_option maxRecDepth 100000 in
theorem spec_scMake.calls (k : Nat) (A0 : Option Addr) (c0 : Nat) (l0 : List (S55)) (a1 : Int) (a2 : Int) (r : List ByteArray) (w : World) (hr0 : Kd.C k55 w A0 l0.length l0) (hc0 : l0.length ≤ c0) (h : spec_scMake.f k l0 a1 a2 = some r) :
  Calls Tryz.prog 34 #[.slice A0 l0.length c0, .int .i64 a1, .int .i64 a2] w fun e w' => ∃ v0_ : Value, e = .returned (v0_) ∧ Kd.R Kd.string 9 w' w.heap.size (fun _ => True) v0_ r ∧ Below w.heap.size w w' := by
 have HR0 := Aside0.mk hr0
 have HC0 := Aside0.mk hc0
 clear hr0 hc0
 have HB := Aside0.mk (Below.refl w.heap.size w)
 have H : (spec_scMake.l0 k l0 a1 a2 ([] : List ByteArray) 0) = some r := h
 clear h
 have H' := Aside0.mk H
 clear H
 go_enter Tryz.func34, Tryz.ntmps34
 go_wp2
 go_loopg [7, 8] k (fun kq v7 v8 w' => ∃ (cl : List ByteArray) (aI : Int), v8 = .int .i64 aI ∧ Aside0 (spec_scMake.l0 kq l0 a1 a2 cl aI = some r) ∧ Aside0 (kq ≤ k) ∧ Aside0 (Kd.R Kd.string 9 w' w.heap.size (fun _ => True) v7 cl) ∧ Aside0 (Below w.heap.size w w'))
 case atStart => exact ⟨(([] : List ByteArray)), (0), (Z11), H', ⟨Nat.le_refl _⟩, ⟨Z15⟩, ⟨Z2⟩⟩
 case round =>
  clear H'
  obtain ⟨cl, aI, rfl, HA, HK1, cV, HB⟩ := hrel
  cases gk with
  | zero => exact absurd HA.out (by simp [spec_scMake.l0])
  | succ k1 =>
   have H := HA.out
   clear HA
   simp only [spec_scMake.l0] at H
   by_cases c4 : aI < a2
   ·rw [if_pos c4] at H
    have bZ : decide (aI < a2) = true := decide_eq_true c4
    clear c4
    obtain ⟨l3, A5, H⟩ := bd_ H
    (try dsimp only at H)
    have H' := Aside0.mk H
    clear H
    go_wp2_with ((with_reducible refine gate_callee (f := 39) rfl ?_); refine gl_ 19 Tryz.func39 #[.slice A0 l0.length c0, .int .i64 aI] ?_; (with_reducible refine (spec_shOpen.calls k1 _ _ l0 aI l3 _ ?_ ?_ A5.out).mono ?_); exact (Z22 HR0); exact HC0.out; rintro e w6 ⟨v412, rfl, ho0, hb⟩; refine ⟨_, rfl, ?_⟩; refine k3_ (Ya_ cV) (Kd.R_lower ho0 (below_size (Z2))) (below_step (Z2) hb) ?_; clear cV HB; intro cV HO413 HB; (try clear hb ho0))
    (try simp only [Act.put, List.setIfInBounds_toArray, List.set_cons_zero, List.set_cons_succ])
    go_loopg [10, 11] k1 (fun kq qu CG w' => ∃ (d8 : ByteArray) (eR : Int), qu = .string d8 ∧ CG = .int .i64 eR ∧ Aside0 (spec_scMake.l1 kq l0 a1 a2 cl aI l3 d8 eR = some r) ∧ Aside0 (kq ≤ k1) ∧ Aside0 (Kd.R Kd.string 9 w' w.heap.size (fun _ => True) u7 cl) ∧ Aside0 (Kd.R (Kd.int .i64) 3 w' w.heap.size (fun _ => True) v412 l3) ∧ Aside0 (Below w.heap.size w w'))
    case atStart => exact ⟨((⟨#[]⟩ : ByteArray)), (0), (Z11), (Z11), H', ⟨Nat.le_refl _⟩, ⟨Z3 cV⟩, ⟨Z3 HO413⟩, ⟨Z2⟩⟩
    case round =>
     clear H'
     (try clear c4); (try clear bZ)
     obtain ⟨d8, eR, rfl, rfl, HA, HK2, cV, cW, HB⟩ := hrel
     cases gk with
     | zero => exact absurd HA.out (by simp [spec_scMake.l1])
     | succ k2 =>
      have H := HA.out
      clear HA
      simp only [spec_scMake.l1] at H
      by_cases c7 : eR < a1
      ·rw [if_pos c7] at H
       have cd : decide (eR < a1) = true := decide_eq_true c7
       clear c7
       obtain ⟨zO, A8, H⟩ := bd_ H
       (try dsimp only at H)
       by_cases c9 : zO = true
       ·subst c9
        rw [if_pos rfl] at H
        by_cases c10 : d8.size + 1 ≤ 9223372036854775807
        case neg => rw [if_neg c10] at H; exact absurd H (by simp)
        rw [if_pos c10] at H
        have b7 := eq_true c10
        have gn : decide (d8.size + 1 ≤ 9223372036854775807) = true := decide_eq_true c10
        try have c10b2 : (9223372036854775807 < d8.size + 1) = False := eq_false (Nat.not_lt.2 c10)
        have H' := Aside0.mk H
        clear H
        obtain ⟨o4, o5, lx⟩ := Kd.R_slice cW.out
        subst lx
        go_wp2_with ((with_reducible refine gate_callee (f := 58) rfl ?_); refine gl_ 27 Tryz.func58 #[.slice o4 l3.length o5, .int .i64 eR] ?_; (with_reducible refine (spec_l1Has.calls k2 _ _ l3 eR true _ ?_ ?_ A8.out).mono ?_); exact (Z1 cW); exact (Kd.R_reads' cW.out).2.1; rintro e w' ⟨rfl, ⟨nd, rfl⟩⟩; refine ⟨_, rfl, ?_⟩)
        go_roundg k2
        case measure => have := HK1.out; have := HK2.out; omega
        case rel => exact ⟨(d8 ++ (⟨#[111]⟩ : ByteArray)), (wrap64 (eR + 1)), (Z11), (Z11), H', ⟨Z50⟩, ⟨Z3 cV⟩, ⟨Z3 cW⟩, ⟨Z2⟩⟩
       replace c9 := Bool.eq_false_iff.mpr c9
       subst c9
       rw [if_neg (show ¬ (false = true) by decide)] at H
       by_cases c12 : d8.size + 1 ≤ 9223372036854775807
       case neg => rw [if_neg c12] at H; exact absurd H (by simp)
       rw [if_pos c12] at H
       have dp := eq_true c12
       have si : decide (d8.size + 1 ≤ 9223372036854775807) = true := decide_eq_true c12
       try have c12b2 : (9223372036854775807 < d8.size + 1) = False := eq_false (Nat.not_lt.2 c12)
       have H' := Aside0.mk H
       clear H
       obtain ⟨fJ, fK, o6⟩ := Kd.R_slice cW.out
       subst o6
       go_wp2_with ((with_reducible refine gate_callee (f := 58) rfl ?_); refine gl_ 27 Tryz.func58 #[.slice fJ l3.length fK, .int .i64 eR] ?_; (with_reducible refine (spec_l1Has.calls k2 _ _ l3 eR false _ ?_ ?_ A8.out).mono ?_); exact (Z1 cW); exact (Kd.R_reads' cW.out).2.1; rintro e w' ⟨rfl, ⟨nd, rfl⟩⟩; refine ⟨_, rfl, ?_⟩)
       go_roundg k2
       case measure => have := HK1.out; have := HK2.out; omega
       case rel => exact ⟨(d8 ++ (⟨#[46]⟩ : ByteArray)), (wrap64 (eR + 1)), (Z11), (Z11), H', ⟨Z50⟩, ⟨Z3 cV⟩, ⟨Z3 cW⟩, ⟨Z2⟩⟩
      rw [if_neg c7] at H
      have cd : decide (eR < a1) = false := decide_eq_false c7
      clear c7
      by_cases c14 : cl.length < 8796093022208
      case neg => rw [if_neg c14] at H; exact absurd H (by simp)
      rw [if_pos c14] at H
      have LMc14 := Aside0.mk c14
      clear c14
      obtain ⟨Cl, oJ⟩ : ∃ y_ : List ByteArray, y_ = (cl ++ [d8]) := ⟨_, rfl⟩
      replace H : (spec_scMake.l0 k2 l0 a1 a2 Cl (wrap64 (aI + 1))) = some r := by first | (rw [oJ]; with_reducible exact H) | (have H2_ := (Option.bind_some _ _).symm.trans H; rw [oJ]; with_reducible exact H2_) | (have H2_ := (Option.bind_some _ _).symm.trans H; with_reducible exact H2_) | with_reducible exact H | (rw [oJ]; exact H) | exact H
      have Ny415 := Aside0.mk oJ
      clear oJ
      have H' := Aside0.mk H
      clear H
      go_wp2_with ((with_reducible refine gate_builtin (b := .append) (xs := #[.tmp 32, .tmp 34]) rfl ?_); at_builtin; refine Kd.R_append Kd.string (w0 := w) w.heap.size rfl (.tmp 32) (.tmp 34) 27 9 (.string ⟨#[]⟩) 16 rfl Tryz.underlying27 info9 rfl (by decide) (by omega) u7 cl d8 [.string d8] (fun _ => True) (fun _ => False) rfl rfl ?aP (fun _ hk => hk.elim) ?aF ?aO ?aB ?aS ?aL ?_; (case aP => exact rfl); (case aB => exact Z2); (case aF => exact (fun _ _ => trivial)); (case aO => exact (Z3 cV)); (case aS => exact (below_size (Z2))); (case aL => exact Z83 LMc14); intro v416 il ho hb hg hat; rw [← Ny415.out] at ho; refine k3_ (Kd.R_over' (Z3 cW) (Kd.R_typed (Z3 cV)) (by decide) hg) (hb) (ho) ?_; clear cW HB cV; intro cW HB HO417; clear ho hb hg hat)
      go_roundg k2
      case measure => have := HK1.out; have := HK2.out; omega
      case rel => exact ⟨(Cl), (wrap64 (aI + 1)), (Z11), H', ⟨Z50⟩, ⟨Z3 HO417⟩, ⟨Z2⟩⟩
   rw [if_neg c4] at H
   have bZ : decide (aI < a2) = false := decide_eq_false c4
   clear c4
   obtain rfl := Option.some.inj H
   go_wp2
   go_ret
   exact ⟨_, Z9, Z3 cV, Z2⟩

/-! ### spec_ScanOf: function 7 -/
def spec_ScanOf.f (k : Nat) (l0 : List (S55)) (a1 : Int) (a2 : Int) : Option (List ByteArray × Bool) := (spec_shGood.f k l0).bind fun t7 => (if t7 = true then ((spec_l1In.f a1 1 20).bind fun t8 => (if t8 = true then ((spec_l1In.f a2 1 60).bind fun t9 => (if t9 = true then ((spec_scMake.f k l0 a1 a2).bind fun rr => (some (rr, true))) else (some (([] : List ByteArray), false)))) else (some (([] : List ByteArray), false)))) else (some (([] : List ByteArray), false)))
theorem spec_ScanOf.mono : ∀ a0 a1 a2 k, LeO (spec_ScanOf.f k a0 a1 a2) (spec_ScanOf.f (k + 1) a0 a1 a2) := by
 intro a0 a1 a2 k
 unfold spec_ScanOf.f
 exact mo9_
set_option maxHeartbeats 8000000 in
set_option maxRecDepth 100000 in
theorem spec_ScanOf.calls (k : Nat) (A0 : Option Addr) (c0 : Nat) (l0 : List (S55)) (a1 : Int) (a2 : Int) (r1 : List ByteArray) (r2 : Bool) (w : World) (hr0 : Kd.C k55 w A0 l0.length l0) (hc0 : l0.length ≤ c0) (h : spec_ScanOf.f k l0 a1 a2 = some (r1, r2)) :
  Calls Tryz.prog 7 #[.slice A0 l0.length c0, .int .i64 a1, .int .i64 a2] w fun e w' => ∃ v0_ : Value, e = .returned (.tuple #[v0_, .bool r2]) ∧ Kd.R Kd.string 9 w' w.heap.size (fun _ => True) v0_ r1 ∧ Below w.heap.size w w' := by
 have HR0 := Aside0.mk hr0
 have HC0 := Aside0.mk hc0
 clear hr0 hc0
 have HB := Aside0.mk (Below.refl w.heap.size w)
 have H : ((spec_shGood.f k l0).bind fun t7 => (if t7 = true then ((spec_l1In.f a1 1 20).bind fun t8 => (if t8 = true then ((spec_l1In.f a2 1 60).bind fun t9 => (if t9 = true then ((spec_scMake.f k l0 a1 a2).bind fun rr => (some (rr, true))) else (some (([] : List ByteArray), false)))) else (some (([] : List ByteArray), false)))) else (some (([] : List ByteArray), false)))) = some (r1, r2) := h
 clear h
 obtain ⟨t7, A4, H⟩ := bd_ H
 (try dsimp only at H)
 by_cases c5 : t7 = true
 ·subst c5
  rw [if_pos rfl] at H
  obtain ⟨t8, A6, H⟩ := bd_ H
  (try dsimp only at H)
  by_cases c7 : t8 = true
  ·subst c7
   rw [if_pos rfl] at H
   obtain ⟨t9, A8, H⟩ := bd_ H
   (try dsimp only at H)
   by_cases c9 : t9 = true
   ·subst c9
    rw [if_pos rfl] at H
    obtain ⟨rr, oV, H⟩ := bd_ H
    replace H : (some (rr, true)) = some (r1, r2) := H
    simp only [Option.some.injEq, Prod.mk.injEq] at H
    obtain ⟨rfl, rfl⟩ := H
    go_enter Tryz.func7, Tryz.ntmps7
    go_wp2_with (first | ((with_reducible refine gate_callee (f := 32) rfl ?_); refine gl_ 9 Tryz.func32 #[.slice A0 l0.length c0] ?_; (with_reducible refine (spec_shGood.calls k _ _ l0 true _ ?_ ?_ A4.out).mono ?_); exact (Z10 HR0); exact HC0.out; rintro e g3 ⟨rfl, hb⟩; refine ⟨_, rfl, ?_⟩; refine k1_ (below_step (Z2) hb) ?_; clear HB; intro HB; (try clear hb)) | (go_at_call 33; (with_reducible refine (spec_l1In.calls a1 1 20 true _ A6.out).mono ?_); rintro e w' ⟨rfl, ⟨nd, rfl⟩⟩) | (go_at_call 33; (with_reducible refine (spec_l1In.calls a2 1 60 true _ A8.out).mono ?_); rintro e w' ⟨rfl, ⟨nd, rfl⟩⟩) | ((with_reducible refine gate_callee (f := 34) rfl ?_); refine gl_ 24 Tryz.func34 #[.slice A0 l0.length c0, .int .i64 a1, .int .i64 a2] ?_; (with_reducible refine (spec_scMake.calls k _ _ l0 a1 a2 rr _ ?_ ?_ oV.out).mono ?_); exact Z103; exact HC0.out; rintro e uc ⟨v422, rfl, ho0, hb⟩; refine ⟨_, rfl, ?_⟩; refine k2_ (Kd.R_lower ho0 (below_size (Z2))) (below_step (Z2) hb) ?_; clear HB; intro HO423 HB; (try clear hb ho0)))
    go_ret2
    exact ⟨_, Z9, Z3 HO423, Z2⟩
   replace c9 := Bool.eq_false_iff.mpr c9
   subst c9
   rw [if_neg (show ¬ (false = true) by decide)] at H
   simp only [Option.some.injEq, Prod.mk.injEq] at H
   obtain ⟨rfl, rfl⟩ := H
   go_enter Tryz.func7, Tryz.ntmps7
   go_wp2_with (first | ((with_reducible refine gate_callee (f := 32) rfl ?_); refine gl_ 9 Tryz.func32 #[.slice A0 l0.length c0] ?_; (with_reducible refine (spec_shGood.calls k _ _ l0 true _ ?_ ?_ A4.out).mono ?_); exact (Z10 HR0); exact HC0.out; rintro e pQ ⟨rfl, hb⟩; refine ⟨_, rfl, ?_⟩; refine k1_ (below_step (Z2) hb) ?_; clear HB; intro HB; (try clear hb)) | (go_at_call 33; (with_reducible refine (spec_l1In.calls a1 1 20 true _ A6.out).mono ?_); rintro e w' ⟨rfl, ⟨nd, rfl⟩⟩) | (go_at_call 33; (with_reducible refine (spec_l1In.calls a2 1 60 false _ A8.out).mono ?_); rintro e w' ⟨rfl, ⟨nd, rfl⟩⟩))
   go_ret2
   exact ⟨_, Z9, Z15, Z2⟩
  replace c7 := Bool.eq_false_iff.mpr c7
  subst c7
  rw [if_neg (show ¬ (false = true) by decide)] at H
  simp only [Option.some.injEq, Prod.mk.injEq] at H
  obtain ⟨rfl, rfl⟩ := H
  go_enter Tryz.func7, Tryz.ntmps7
  go_wp2_with (first | ((with_reducible refine gate_callee (f := 32) rfl ?_); refine gl_ 9 Tryz.func32 #[.slice A0 l0.length c0] ?_; (with_reducible refine (spec_shGood.calls k _ _ l0 true _ ?_ ?_ A4.out).mono ?_); exact (Z10 HR0); exact HC0.out; rintro e ze ⟨rfl, hb⟩; refine ⟨_, rfl, ?_⟩; refine k1_ (below_step (Z2) hb) ?_; clear HB; intro HB; (try clear hb)) | (go_at_call 33; (with_reducible refine (spec_l1In.calls a1 1 20 false _ A6.out).mono ?_); rintro e w' ⟨rfl, ⟨nd, rfl⟩⟩))
  go_ret2
  exact ⟨_, Z9, Z15, Z2⟩
 replace c5 := Bool.eq_false_iff.mpr c5
 subst c5
 rw [if_neg (show ¬ (false = true) by decide)] at H
 simp only [Option.some.injEq, Prod.mk.injEq] at H
 obtain ⟨rfl, rfl⟩ := H
 go_enter Tryz.func7, Tryz.ntmps7
 go_wp2_with ((with_reducible refine gate_callee (f := 32) rfl ?_); refine gl_ 9 Tryz.func32 #[.slice A0 l0.length c0] ?_; (with_reducible refine (spec_shGood.calls k _ _ l0 false _ ?_ ?_ A4.out).mono ?_); exact (Z10 HR0); exact HC0.out; rintro e il ⟨rfl, hb⟩; refine ⟨_, rfl, ?_⟩; refine k1_ (below_step (Z2) hb) ?_; clear HB; intro HB; (try clear hb))
 go_ret2
 exact ⟨_, Z9, Z15, Z2⟩

/-! ### laws_pSameTexts: function 8 -/
def laws_pSameTexts.l0 : Nat → List ByteArray → List ByteArray → Int → Int → Option (Bool)
 | 0, _, _, _, _ => none
 | k + 1, x0, x1, x12, x13 => if x13 < x12 then (if 0 ≤ x13 then (if x13 < (x0.length : Int) then (if x13 < (x1.length : Int) then (if (rdOf ByteArray.empty x0 x13).toList = (rdOf ByteArray.empty x1 x13).toList then (laws_pSameTexts.l0 k x0 x1 x12 (wrap64 (x13 + 1))) else (some false)) else (none)) else (none)) else (none)) else (some true)
def laws_pSameTexts.f (k : Nat) (l0 : List ByteArray) (l1 : List ByteArray) : Option (Bool) := if (l0.length : Int) = (l1.length : Int) then (laws_pSameTexts.l0 k l0 l1 (l0.length : Int) 0) else (some false)
theorem laws_pSameTexts.mono_l : ∀ k, (∀ y0 y1 y2 y3, LeO (laws_pSameTexts.l0 k y0 y1 y2 y3) (laws_pSameTexts.l0 (k + 1) y0 y1 y2 y3))
 | 0 => fun _ _ _ _ r h => by simp [laws_pSameTexts.l0] at h
 | k + 1 => by
  have ih0 := laws_pSameTexts.mono_l k
  ·intro y0 y1 y2 y3
   unfold laws_pSameTexts.l0
   exact mo9_
theorem laws_pSameTexts.mono : ∀ a0 a1 k, LeO (laws_pSameTexts.f k a0 a1) (laws_pSameTexts.f (k + 1) a0 a1) := by
 intro a0 a1 k
 have ih0 := laws_pSameTexts.mono_l k
 unfold laws_pSameTexts.f
 exact mo9_
set_option maxHeartbeats 8000000 in
set_option maxRecDepth 100000 in
theorem laws_pSameTexts.calls (k : Nat) (A0 : Option Addr) (c0 : Nat) (l0 : List ByteArray) (A1 : Option Addr) (c1 : Nat) (l1 : List ByteArray) (r : Bool) (w : World) (hr0 : Kd.C Kd.string w A0 l0.length l0) (hc0 : l0.length ≤ c0) (hr1 : Kd.C Kd.string w A1 l1.length l1) (hc1 : l1.length ≤ c1) (h : laws_pSameTexts.f k l0 l1 = some r) :
  Calls Tryz.prog 8 #[.slice A0 l0.length c0, .slice A1 l1.length c1] w fun e w' => e = .returned (.bool r) ∧ Drawn0 w w' := by
 have HR0 := Aside0.mk hr0
 have HC0 := Aside0.mk hc0
 clear hr0 hc0
 have HR1 := Aside0.mk hr1
 have HC1 := Aside0.mk hc1
 clear hr1 hc1
 have H : (if (l0.length : Int) = (l1.length : Int) then (laws_pSameTexts.l0 k l0 l1 (l0.length : Int) 0) else (some false)) = some r := h
 clear h
 by_cases c3 : (l0.length : Int) = (l1.length : Int)
 ·rw [if_pos c3] at H
  have bA : ((l0.length : Int) == (l1.length : Int)) = true := beq_iff_eq.mpr c3
  have fU : ((l0.length : Int) != (l1.length : Int)) = false := bne_eq_false_iff_eq.mpr c3
  have mo : (l0.length == l1.length) = true := by first | simpa using c3 | (simp at c3 ⊢; omega)
  clear c3
  have H' := Aside0.mk H
  clear H
  go_enter Tryz.func8, Tryz.ntmps8
  go_wp2
  repeat (go_quiet (fail); try go_wp2)
  go_loopg [13] k (fun kq ug w' => ∃ (af : Int), ug = .int .i64 af ∧ Aside0 (laws_pSameTexts.l0 kq l0 l1 (l0.length : Int) af = some r) ∧ Aside0 (kq ≤ k) ∧ Drawn0 w w')
  case atStart => exact ⟨(0), (Z11), H', ⟨Nat.le_refl _⟩, Z14⟩
  case round =>
   clear H'
   (try clear c1); (try clear c3); (try clear bA); (try clear fU); (try clear mo)
   obtain ⟨af, rfl, HA, HK1, ⟨m1, rfl⟩⟩ := hrel
   cases gk with
   | zero => exact absurd HA.out (by simp [laws_pSameTexts.l0])
   | succ k1 =>
    have H := HA.out
    clear HA
    simp only [laws_pSameTexts.l0] at H
    by_cases c4 : af < (l0.length : Int)
    ·rw [if_pos c4] at H
     have bZ : decide (af < (l0.length : Int)) = true := decide_eq_true c4
     clear c4
     by_cases c5 : 0 ≤ af
     case neg => rw [if_neg c5] at H; exact absurd H (by simp)
     rw [if_pos c5] at H
     have ci : decide (0 ≤ af) = true := decide_eq_true c5
     clear c5
     by_cases c6 : af < (l0.length : Int)
     case neg => rw [if_neg c6] at H; exact absurd H (by simp)
     rw [if_pos c6] at H
     have ck : decide (af < (l0.length : Int)) = true := decide_eq_true c6
     clear c6
     by_cases c7 : af < (l1.length : Int)
     case neg => rw [if_neg c7] at H; exact absurd H (by simp)
     rw [if_pos c7] at H
     have cd : decide (af < (l1.length : Int)) = true := decide_eq_true c7
     clear c7
     by_cases c8 : (rdOf ByteArray.empty l0 af).toList = (rdOf ByteArray.empty l1 af).toList
     ·rw [if_pos c8] at H
      have ep : ((rdOf ByteArray.empty l0 af).toList == (rdOf ByteArray.empty l1 af).toList) = true := beq_iff_eq.mpr c8
      have qz : ((rdOf ByteArray.empty l0 af).toList != (rdOf ByteArray.empty l1 af).toList) = false := bne_eq_false_iff_eq.mpr c8
      clear c8
      have H' := Aside0.mk H
      clear H
      have pz : 0 ≤ (af : Int) := of_decide_eq_true (Z8)
      have pA : af < (l0.length : Int) := of_decide_eq_true (Z8)
      obtain ⟨ad424, e424, hx424_0⟩ := Kd.at_string HR0.out af pz pA
      cases e424
      replace pz := eq_true pz
      replace pA := eq_true pA
      have pB : 0 ≤ (af : Int) := of_decide_eq_true (Z8)
      have pC : af < (l1.length : Int) := of_decide_eq_true (Z8)
      obtain ⟨ad425, e425, hx425_0⟩ := Kd.at_string HR1.out af pB pC
      cases e425
      replace pB := eq_true pB
      replace pC := eq_true pC
      go_wp2
      repeat (go_quiet (fail); try go_wp2)
      go_roundg k1
      case measure => have := HK1.out; omega
      case rel => exact ⟨(wrap64 (af + 1)), (Z11), H', ⟨Z83 HK1⟩, Z14⟩
     rw [if_neg c8] at H
     have ep : ((rdOf ByteArray.empty l0 af).toList == (rdOf ByteArray.empty l1 af).toList) = false := beq_eq_false_iff_ne.mpr c8
     have qz : ((rdOf ByteArray.empty l0 af).toList != (rdOf ByteArray.empty l1 af).toList) = true := bne_iff_ne.mpr c8
     obtain rfl := Option.some.inj H
     have pz : 0 ≤ (af : Int) := of_decide_eq_true (Z8)
     have pA : af < (l0.length : Int) := of_decide_eq_true (Z8)
     obtain ⟨ad424, e424, hx424_0⟩ := Kd.at_string HR0.out af pz pA
     cases e424
     replace pz := eq_true pz
     replace pA := eq_true pA
     have pB : 0 ≤ (af : Int) := of_decide_eq_true (Z8)
     have pC : af < (l1.length : Int) := of_decide_eq_true (Z8)
     obtain ⟨ad425, e425, hx425_0⟩ := Kd.at_string HR1.out af pB pC
     cases e425
     replace pB := eq_true pB
     replace pC := eq_true pC
     go_wp2
     repeat (go_quiet (fail); try go_wp2)
     go_ret
     exact ⟨Z11, Z14⟩
    rw [if_neg c4] at H
    have bZ : decide (af < (l0.length : Int)) = false := decide_eq_false c4
    clear c4
    obtain rfl := Option.some.inj H
    go_wp2
    repeat (go_quiet (fail); try go_wp2)
    go_ret
    exact ⟨Z11, Z14⟩
 rw [if_neg c3] at H
 have bA : ((l0.length : Int) == (l1.length : Int)) = false := beq_eq_false_iff_ne.mpr c3
 have fU : ((l0.length : Int) != (l1.length : Int)) = true := bne_iff_ne.mpr c3
 have mo : (l0.length == l1.length) = false := by first | simpa using c3 | (simp at c3 ⊢; omega)
 obtain rfl := Option.some.inj H
 go_enter Tryz.func8, Tryz.ntmps8
 go_wp2
 repeat (go_quiet (fail); try go_wp2)
 go_ret
 exact ⟨Z11, Z14⟩

/-! ### strings_IndexByte: function 60: by this session -/
def strings_IndexByte.f (a0 : ByteArray) (a1 : Int) : Option (Int) := some (Go.Lib.indexByte a0.data.toList a1.toNat.toUInt8)
set_option maxHeartbeats 1000000 in
set_option maxRecDepth 100000 in
theorem strings_IndexByte.calls (a0 : ByteArray) (a1 : Int) (r : Int) (w : World) (h : strings_IndexByte.f a0 a1 = some r) :
  Calls Tryz.prog 60 #[.string a0, .int .u8 a1] w fun e w' => e = .returned (.int .i64 r) ∧ Drawn0 w w' := by
 obtain rfl := Option.some.inj h
 clear h
 go_enter Tryz.func60, Tryz.ntmps60
 go_wp2
 rw [run_callFunc_extern Tryz.func85 (by kernel_rfl) (by kernel_rfl) (by kernel_rfl) (e := Extern.BytealgIndexByte.indexByte) (by kernel_rfl), Lib.run_indexByteString]
 simp only [Result.andThen]
 rw [Oper.upon_value]
 go_wp2
 go_ret
 exact ⟨rfl, Drawn0.refl _⟩

end Go.Proofs.YtcpbncljimmkfaaGreatDoor.PFnScans
