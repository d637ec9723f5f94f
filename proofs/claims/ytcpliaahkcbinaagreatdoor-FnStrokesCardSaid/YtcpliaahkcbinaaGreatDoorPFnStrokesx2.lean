import Derived.Test.YtcpliaahkcbinaaGreatDoorPFnStrokesx0
import Derived.Test.YtcpliaahkcbinaaGreatDoorPFnStrokesx1
namespace Go.Proofs.YtcpliaahkcbinaaGreatDoor.PFnStrokes
open Go.RowKit Go.Proofs.YtcpliaahkcbinaaGreatDoorW.PrintWords Go.Proofs.YtcpliaahkcbinaaGreatDoorW.PrintLast Go.Proofs.YtcpliaahkcbinaaGreatDoorW.PrintMore
attribute [local go_sem] dS_ dV_ eo_ em_ dw_ dx_ dX_ dU_
set_option linter.unusedVariables false
set_option linter.unusedSimpArgs false
theorem pz_ {p : Prop} (h : p := by repeat' first | (with_reducible first | apply ad_.mono | apply ad_.mono | exact LeO.refl _ | exact LeO.none _ | refine LeO.ite ?_ ?_ | refine LeO.bind ?_ (fun _ => ?_)) | exact LeO.none _ | refine LeO.ite ?_ ?_ | refine LeO.bind ?_ (fun _ => ?_)) : p := h
def bu_.f (k : Nat) (l0 : List Int) : Option ((List (S61))) := (ad_.f k l0 0 0).bind fun BF => (some BF.1)
theorem bu_.mono : ∀ a0 k, LeO (bu_.f k a0) (bu_.f (k + 1) a0) := by
 intro a0 k
 unfold bu_.f
 exact pz_
set_option maxHeartbeats 8000000 in
set_option maxRecDepth 100000 in
theorem bu_.calls (k : Nat) (A0 : Option Addr) (c0 : Nat) (l0 : List Int) (r : List (S61)) (w : World) (hr0 : Kd.C (Kd.int .u8) w A0 l0.length l0) (hc0 : l0.length ≤ c0) (h : bu_.f k l0 = some r) :
  Calls Tryz.prog 5 #[.slice A0 l0.length c0] w fun e w' => ∃ v0_ : Value, e = .returned (v0_) ∧ Kd.R k61 61 w' w.heap.size (fun _ => True) v0_ r ∧ Below w.heap.size w w' := by
 have hu54 := Tryz.underlying54
 have HR0 := aa_.mk hr0
 have HC0 := aa_.mk hc0
 clear hr0 hc0
 have HB := aa_.mk (Below.refl w.heap.size w)
 have H := h; unfold bu_.f at H
 clear h
 replace H := bd_ H; obtain ⟨⟨Ng, t351, t352⟩, A2, H⟩ := H
 replace H : (some Ng) = some r := H
 obtain rfl := Option.some.inj H
 go_enter Tryz.func5, Tryz.ntmps5
 go_wp2_with (first | ((with_reducible refine au_ (N := 6) rfl ?_); refine bv_ 6 54 #[.slice A0 l0.length c0, .int .i64 0, .int .u64 0] ?_; intro uo hg w3 hbox hb; refine k4_ Ws_ ((show aj_ w w3 uo l0 0 0 from ⟨_, _, hbox, (Z21), HR0.out⟩)) (Wg_ w uo) (Wg_ w uo) ?_; clear HB; intro HB HI347 GW347 GE347; clear hb hbox hg) | ((with_reducible refine ae_ (f := 27) rfl ?_); refine gl_ 8 Tryz.func27 #[.pointer (some ⟨uo, 0, none⟩)] ?_; (with_reducible refine (ad_.calls k uo l0 0 0 Ng t351 t352 w _ ?_ ?_ A2.out).mono ?_); exact (Z4 HI347); exact mE_; rintro e w4 ⟨v349, rfl, ho0, hi, hb, hk⟩; refine ⟨_, rfl, ?_⟩; refine k3_ (Kd.pY_ ho0 (ao_ (mE_))) (hb) (hi) ?_; clear HB HI347; intro HO350 HB HI347; (try clear hb hk hi ho0)))
 go_ret
 exact ⟨_, Z9, Z1 HO350, mE_⟩
def bJ_.f (a0 : Int) : Option (Bool) := if a0 ≥ 0 then (some (decide (a0 < 20))) else (some false)
set_option maxHeartbeats 8000000 in
set_option maxRecDepth 100000 in
theorem bJ_.calls (a0 : Int) (r : Bool) (w : World) (h : bJ_.f a0 = some r) :
  Calls Tryz.prog 37 #[.int .i64 a0] w fun e w' => e = .returned (.bool r) ∧ bH_ w w' := by
 have H := h; unfold bJ_.f at H
 clear h
 replace H := iw_ H; obtain ⟨c2, H⟩ | ⟨c2, H⟩ := H
 ·have dB : decide (0 ≤ a0) = true := decide_eq_true c2
  clear c2
  obtain rfl := Option.some.inj H
  go_enter Tryz.func37, Tryz.ntmps37
  go_wp2
  go_ret
  exact ⟨Z14, Z41⟩
 have dB : decide (0 ≤ a0) = false := decide_eq_false c2
 clear c2
 obtain rfl := Option.some.inj H
 go_enter Tryz.func37, Tryz.ntmps37
 go_wp2
 go_ret
 exact ⟨Z14, Z41⟩
def c1_.f (a0_0 : Int) (a0_1 : Int) (a0_2 : Int) : Option (Bool) := (bJ_.f a0_0).bind fun BG => (if BG = true then (if a0_1 ≥ 0 then (if a0_1 < a0_2 then (some (decide (a0_2 ≤ 2000))) else (some false)) else (some false)) else (some false))
set_option maxHeartbeats 8000000 in
set_option maxRecDepth 100000 in
theorem c1_.calls (a0_0 : Int) (a0_1 : Int) (a0_2 : Int) (r : Bool) (w : World) (h : c1_.f a0_0 a0_1 a0_2 = some r) :
  Calls Tryz.prog 58 #[.agg #[.int .i64 a0_0, .int .i64 a0_1, .int .i64 a0_2]] w fun e w' => e = .returned (.bool r) ∧ Below w.heap.size w w' := by
 have hu61 := Tryz.underlying61
 have HB := aa_.mk (Below.refl w.heap.size w)
 have H := h; unfold c1_.f at H
 clear h
 replace H := bd_ H; obtain ⟨BG, A2, H⟩ := H
 replace H := it_ H; obtain ⟨rfl, H⟩ | ⟨rfl, H⟩ := H
 ·replace H := iw_ H; obtain ⟨c4, H⟩ | ⟨c4, H⟩ := H
  ·have da : decide (0 ≤ a0_1) = true := decide_eq_true c4
   clear c4
   replace H := iv_ H; obtain ⟨dp, H⟩ | ⟨dp, H⟩ := H
   ·obtain rfl := Option.some.inj H
    go_enter Tryz.func58, Tryz.ntmps58
    go_wp2_with (first | ((with_reducible refine au_ (N := 1) rfl ?_); refine bv_ 1 61 #[.int .i64 a0_0, .int .i64 a0_1, .int .i64 a0_2] ?_; intro io hg w6 hbox hb; refine k4_ Ws_ (hbox) (Wg_ w io) (Wg_ w io) ?_; clear HB; intro HB oA BH vX; clear hb hbox hg; obtain ⟨ql, qm, qn, qo, qp, qq⟩ := bt_ (w := w6) oA.out) | ((with_reducible refine ae_ (f := 37) rfl ?_); refine gl_ 5 Tryz.func37 #[.int .i64 a0_0] ?_; (with_reducible refine (bJ_.calls a0_0 true _ A2.out).mono ?_); rintro e w' ⟨rfl, ⟨nd, rfl⟩⟩; refine ⟨_, rfl, ?_⟩))
    go_ret
    exact ⟨Z9, ll_⟩
   obtain rfl := Option.some.inj H
   go_enter Tryz.func58, Tryz.ntmps58
   go_wp2_with (first | ((with_reducible refine au_ (N := 1) rfl ?_); refine bv_ 1 61 #[.int .i64 a0_0, .int .i64 a0_1, .int .i64 a0_2] ?_; intro io hg w8 hbox hb; refine k4_ Ws_ (hbox) (Wg_ w io) (Wg_ w io) ?_; clear HB; intro HB oA BH vX; clear hb hbox hg; obtain ⟨el, eN, ph, eO, eP, uq⟩ := bt_ (w := w8) oA.out) | ((with_reducible refine ae_ (f := 37) rfl ?_); refine gl_ 5 Tryz.func37 #[.int .i64 a0_0] ?_; (with_reducible refine (bJ_.calls a0_0 true _ A2.out).mono ?_); rintro e w' ⟨rfl, ⟨nd, rfl⟩⟩; refine ⟨_, rfl, ?_⟩))
   go_ret
   exact ⟨Z9, ll_⟩
  have da : decide (0 ≤ a0_1) = false := decide_eq_false c4
  clear c4
  obtain rfl := Option.some.inj H
  go_enter Tryz.func58, Tryz.ntmps58
  go_wp2_with (first | ((with_reducible refine au_ (N := 1) rfl ?_); refine bv_ 1 61 #[.int .i64 a0_0, .int .i64 a0_1, .int .i64 a0_2] ?_; intro io hg jc hbox hb; refine k4_ Ws_ (hbox) (Wg_ w io) (Wg_ w io) ?_; clear HB; intro HB oA BH vX; clear hb hbox hg; obtain ⟨fj, gp, wg, fk, gq, wh⟩ := bt_ (w := jc) oA.out) | ((with_reducible refine ae_ (f := 37) rfl ?_); refine gl_ 5 Tryz.func37 #[.int .i64 a0_0] ?_; (with_reducible refine (bJ_.calls a0_0 true _ A2.out).mono ?_); rintro e w' ⟨rfl, ⟨nd, rfl⟩⟩; refine ⟨_, rfl, ?_⟩))
  go_ret
  exact ⟨Z9, ll_⟩
 obtain rfl := Option.some.inj H
 go_enter Tryz.func58, Tryz.ntmps58
 go_wp2_with (first | ((with_reducible refine au_ (N := 1) rfl ?_); refine bv_ 1 61 #[.int .i64 a0_0, .int .i64 a0_1, .int .i64 a0_2] ?_; intro io hg qT hbox hb; refine k4_ Ws_ (hbox) (Wg_ w io) (Wg_ w io) ?_; clear HB; intro HB oA BH vX; clear hb hbox hg; obtain ⟨iy, iz, pq, iA, iB, pr⟩ := bt_ (w := qT) oA.out) | ((with_reducible refine ae_ (f := 37) rfl ?_); refine gl_ 5 Tryz.func37 #[.int .i64 a0_0] ?_; (with_reducible refine (bJ_.calls a0_0 false _ A2.out).mono ?_); rintro e w' ⟨rfl, ⟨nd, rfl⟩⟩; refine ⟨_, rfl, ?_⟩))
 go_ret
 exact ⟨Z9, ll_⟩
def cl_.f (a0_0 : Int) (a0_1 : Int) (a0_2 : Int) (a1_0 : Int) (a1_1 : Int) (a1_2 : Int) : Option (Bool) := if a0_1 = a1_1 then (some (decide (a0_0 < a1_0))) else (some (decide (a0_1 < a1_1)))
set_option maxHeartbeats 8000000 in
set_option maxRecDepth 100000 in
theorem cl_.calls (a0_0 : Int) (a0_1 : Int) (a0_2 : Int) (a1_0 : Int) (a1_1 : Int) (a1_2 : Int) (r : Bool) (w : World) (h : cl_.f a0_0 a0_1 a0_2 a1_0 a1_1 a1_2 = some r) :
  Calls Tryz.prog 59 #[.agg #[.int .i64 a0_0, .int .i64 a0_1, .int .i64 a0_2], .agg #[.int .i64 a1_0, .int .i64 a1_1, .int .i64 a1_2]] w fun e w' => e = .returned (.bool r) ∧ Below w.heap.size w w' := by
 have hu61 := Tryz.underlying61
 have HB := aa_.mk (Below.refl w.heap.size w)
 have H := h; unfold cl_.f at H
 clear h
 replace H := ic_ H; obtain ⟨cU, je, H⟩ | ⟨cU, je, c3, H⟩ := H
 ·obtain rfl := Option.some.inj H
  go_enter Tryz.func59, Tryz.ntmps59
  go_wp2_with (first | ((with_reducible refine au_ (N := 2) rfl ?_); refine bv_ 2 61 #[.int .i64 a0_0, .int .i64 a0_1, .int .i64 a0_2] ?_; intro gW hg w4 hbox hb; refine k4_ Ws_ (hbox) (Wg_ w gW) (Wg_ w gW) ?_; clear HB; intro HB gX GW355 yn; clear hb hbox hg) | ((with_reducible refine au_ (N := 3) rfl ?_); refine bv_ 3 61 #[.int .i64 a1_0, .int .i64 a1_1, .int .i64 a1_2] ?_; intro lM hg w5 hbox hb; refine k7_ (Ye_ gX) (aq_ (Z84) hb) (hbox) ((by rw [hg]; exact (ao_ (Z84)) : w.heap.size ≤ lM)) ((by rw [hg]; exact (ao_ (Z84)) : w.heap.size ≤ lM)) ((oB_ : gW ≠ lM)) ((oK_ : lM ≠ gW)) ?_; clear gX HB; intro gX HB BI GW356 Dg mc me; clear hb hbox hg; have hnb6 := mc.out; have hnc6 := me.out; obtain ⟨ql, qm, qn, qo, qp, qq⟩ := bt_ (w := w5) gX.out; obtain ⟨fF, fG, jb, gj, fH, lQ⟩ := bt_ (w := w5) BI.out))
  go_ret
  exact ⟨Z9, oG_⟩
 obtain rfl := Option.some.inj H
 go_enter Tryz.func59, Tryz.ntmps59
 go_wp2_with (first | ((with_reducible refine au_ (N := 2) rfl ?_); refine bv_ 2 61 #[.int .i64 a0_0, .int .i64 a0_1, .int .i64 a0_2] ?_; intro gW hg w9 hbox hb; refine k4_ Ws_ (hbox) (Wg_ w gW) (Wg_ w gW) ?_; clear HB; intro HB gX GW355 yn; clear hb hbox hg) | ((with_reducible refine au_ (N := 3) rfl ?_); refine bv_ 3 61 #[.int .i64 a1_0, .int .i64 a1_1, .int .i64 a1_2] ?_; intro lM hg jc hbox hb; refine k7_ (Ye_ gX) (aq_ (Z84) hb) (hbox) ((by rw [hg]; exact (ao_ (Z84)) : w.heap.size ≤ lM)) ((by rw [hg]; exact (ao_ (Z84)) : w.heap.size ≤ lM)) ((oB_ : gW ≠ lM)) ((oK_ : lM ≠ gW)) ?_; clear gX HB; intro gX HB BI GW356 Dg mc me; clear hb hbox hg; have hnb11 := mc.out; have hnc11 := me.out; obtain ⟨eC, fh, pi, eD, fi, we⟩ := bt_ (w := jc) gX.out; obtain ⟨iy, iz, pq, iA, iB, pr⟩ := bt_ (w := jc) BI.out))
 go_ret
 exact ⟨Z9, oG_⟩
theorem iT_ {p : Prop} (h : p := by repeat' first | (with_reducible first | apply ih0 | apply ih0 | apply ih1 | apply ih1 | apply ih2 | apply ih2 | exact LeO.refl _ | exact LeO.none _ | refine LeO.ite ?_ ?_ | refine LeO.bind ?_ (fun _ => ?_)) | exact LeO.none _ | refine LeO.ite ?_ ?_ | refine LeO.bind ?_ (fun _ => ?_)) : p := h
mutual
def as_.l0 : Nat → List (S61) → List (S61) → Int → Int → Option (Bool)
 | 0, _, _, _, _ => none
 | k + 1, x0, x10, x11, x12 => if x12 < x11 then (if 0 ≤ x12 then (if x12 < (x10.length : Int) then ((c1_.f ((ab_ x10 x12).f0) ((ab_ x10 x12).f1) ((ab_ x10 x12).f2)).bind fun Gm => (if Gm = true then (if x12 > 0 then (if 0 ≤ (wrap64 (x12 - 1)) then (if (wrap64 (x12 - 1)) < (x0.length : Int) then ((cl_.f ((ab_ x0 (wrap64 (x12 - 1))).f0) ((ab_ x0 (wrap64 (x12 - 1))).f1) ((ab_ x0 (wrap64 (x12 - 1))).f2) ((ab_ x10 x12).f0) ((ab_ x10 x12).f1) ((ab_ x10 x12).f2)).bind fun xc => (as_.j1 k x0 x12 x10 x11 x12 (!xc) ((ab_ x10 x12).f0) ((ab_ x10 x12).f1) ((ab_ x10 x12).f2))) else (none)) else (none)) else (as_.j1 k x0 x12 x10 x11 x12 false ((ab_ x10 x12).f0) ((ab_ x10 x12).f1) ((ab_ x10 x12).f2))) else (as_.j1 k x0 x12 x10 x11 x12 true ((ab_ x10 x12).f0) ((ab_ x10 x12).f1) ((ab_ x10 x12).f2)))) else (none)) else (none)) else (some true)
def as_.j1 : Nat → List (S61) → Int → List (S61) → Int → Int → Bool → Int → Int → Int → Option (Bool)
 | 0, _, _, _, _, _, _, _, _, _ => none
 | k + 1, x0, x3, x10, x11, x12, x33, jB, jC, mT => if x33 = true then (some false) else (if 0 ≤ x3 then (if x3 ≤ (x0.length : Int) then ((some (x0.take (x3 : Int).toNat : List (S61))).bind fun ek => (as_.l1 k x0 x10 x11 x12 ek (ek.length : Int) 0 jB jC mT)) else (none)) else (none))
def as_.l1 : Nat → List (S61) → List (S61) → Int → Int → List (S61) → Int → Int → Int → Int → Int → Option (Bool)
 | 0, _, _, _, _, _, _, _, _, _, _ => none
 | k + 1, x0, x10, x11, x12, x36, x37, x38, jB, jC, mT => if x38 < x37 then (if 0 ≤ x38 then (if x38 < (x36.length : Int) then (if ((ab_ x36 x38).f0) = jB then (if ((ab_ x36 x38).f2) ≥ jC then (some false) else (as_.l1 k x0 x10 x11 x12 x36 x37 (wrap64 (x38 + 1)) jB jC mT)) else (as_.l1 k x0 x10 x11 x12 x36 x37 (wrap64 (x38 + 1)) jB jC mT)) else (none)) else (none)) else (as_.l0 k x0 x10 x11 (wrap64 (x12 + 1)))
end
def as_.f (k : Nat) (l0 : List (S61)) : Option (Bool) := if (l0.length : Int) > 60 then (some false) else (as_.l0 k l0 l0 (l0.length : Int) 0)
theorem as_.mono_l : ∀ k, (∀ y0 y1 y2 y3, LeO (as_.l0 k y0 y1 y2 y3) (as_.l0 (k + 1) y0 y1 y2 y3)) ∧ (∀ y0 y1 y2 y3 y4 y5 y6 y7 y8, LeO (as_.j1 k y0 y1 y2 y3 y4 y5 y6 y7 y8) (as_.j1 (k + 1) y0 y1 y2 y3 y4 y5 y6 y7 y8)) ∧ (∀ y0 y1 y2 y3 y4 y5 y6 y7 y8 y9, LeO (as_.l1 k y0 y1 y2 y3 y4 y5 y6 y7 y8 y9) (as_.l1 (k + 1) y0 y1 y2 y3 y4 y5 y6 y7 y8 y9))
 | 0 => ⟨fun _ _ _ _ r h => by simp [as_.l0] at h, fun _ _ _ _ _ _ _ _ _ r h => by simp [as_.j1] at h, fun _ _ _ _ _ _ _ _ _ _ r h => by simp [as_.l1] at h⟩
 | k + 1 => by
  obtain ⟨ih0, ih1, ih2⟩ := as_.mono_l k
  refine ⟨?_, ?_, ?_⟩
  ·intro y0 y1 y2 y3
   unfold as_.l0
   exact iT_
  ·intro y0 y1 y2 y3 y4 y5 y6 y7 y8
   unfold as_.j1
   exact iT_
  intro y0 y1 y2 y3 y4 y5 y6 y7 y8 y9
  unfold as_.l1
  exact iT_
theorem as_.mono : ∀ a0 k, LeO (as_.f k a0) (as_.f (k + 1) a0) := by
 intro a0 k
 obtain ⟨ih0, ih1, ih2⟩ := as_.mono_l k
 unfold as_.f
 exact iT_
def as_.T6 : Bool × List (List Nat × List Nat) := (true, [([], []), ([0], [0]), ([1], [1]), ([2, 1], [2]), ([3], [3]), ([4, 3], [3, 4]), ([5, 3, 3], [3, 5]), ([6], [6]), ([6], [6]), ([8, 6], [6, 8]), ([7, 9, 6], [6, 7, 9]), ([10, 6], [6, 10]), ([6], [6]), ([11, 12, 6, 6], [6, 11, 12]), ([13, 6], [6, 13]), ([6, 14, 3], [3, 6, 14]), ([3, 15], [3, 15])])
def as_.B6 : List Nat := [0, 1, 3, 7, 15, 31, 63, 127, 127, 383, 1023, 2047, 127, 8191, 16383, 32767, 65535]
theorem as_.tab6 : bI_ .any (dd_ Tryz.f28 6) = as_.T6 := by kernel_rfl
theorem as_.bits6 : bQ_ as_.T6.2 as_.B6 = true := by kernel_rfl
set_option maxHeartbeats 8000000 in
set_option maxRecDepth 100000 in
theorem as_.calls (k : Nat) (A0 : Option Addr) (c0 : Nat) (l0 : List (S61)) (r : Bool) (w : World) (hr0 : Kd.C k61 w A0 l0.length l0) (hc0 : l0.length ≤ c0) (h : as_.f k l0 = some r) :
  Calls Tryz.prog 28 #[.slice A0 l0.length c0] w fun e w' => e = .returned (.bool r) ∧ Below w.heap.size w w' := by
 have hu61 := Tryz.underlying61
 have HR0 := aa_.mk hr0
 have HC0 := aa_.mk hc0
 clear hr0 hc0
 have HB := aa_.mk (Below.refl w.heap.size w)
 have H := h; unfold as_.f at H
 clear h
 replace H := iw_ H; obtain ⟨c2, H⟩ | ⟨c2, H⟩ := H
 ·have dB : decide (60 < (l0.length : Int)) = true := decide_eq_true c2
  have BQ : decide (60 < l0.length) = true := decide_eq_true (by omega)
  clear c2
  obtain rfl := Option.some.inj H
  go_enter Tryz.func28, Tryz.ntmps28
  go_wp2
  go_ret
  exact ⟨Z9, Z2⟩
 have dB : decide (60 < (l0.length : Int)) = false := decide_eq_false c2
 have BQ : decide (60 < l0.length) = false := decide_eq_false (by omega)
 clear c2
 have H' := aa_.mk H
 clear H
 go_enter Tryz.func28, Tryz.ntmps28
 go_wp2
 go_loopg [12] k (fun kq Gn w' => ∃ (ap : Int), Gn = .int .i64 ap ∧ aa_ (as_.l0 kq l0 l0 (l0.length : Int) ap = some r) ∧ aa_ (kq ≤ k) ∧ aa_ (Below w.heap.size w w'))
 case atStart => exact ⟨(0), (Z14), H', ⟨Nat.le_refl _⟩, ⟨Z2⟩⟩
 case round =>
  clear H'
  (try clear c2); (try clear dB); (try clear BQ)
  obtain ⟨ap, rfl, HA, HK1, HB⟩ := hrel
  cases gk with
  | zero => exact absurd HA.out (by simp [as_.l0])
  | succ k1 =>
   have H := HA.out
   clear HA
   simp only [as_.l0] at H
   replace H := iv_ H; obtain ⟨cU, H⟩ | ⟨cU, H⟩ := H
   ·replace H := id_ H; obtain ⟨da, H⟩ := H
    replace H := id_ H; obtain ⟨dp, H⟩ := H
    have HC6 := aa_.mk H
    clear H
    obtain ⟨g0, e357, mU, mV, mW, BR, BS⟩ := d6_ HR0.out HB.out ap
    cases e357
    go_upto_region 6 with (((with_reducible refine au_ (N := 4) rfl ?_); refine bv_ 4 61 #[.int .i64 0, .int .i64 0, .int .i64 0] ?_; intro bG hg w7 hbox hb; refine k4_ Ws_ (hbox) (Wg_ w bG) (Wg_ w bG) ?_; clear HB; intro HB ba GW358 Di; clear hb hbox hg; obtain ⟨fF, fG, jb, gj, fH, lQ⟩ := bt_ (w := w7) ba.out))
    (try simp only [Act.put, List.setIfInBounds_toArray, List.set_cons_zero, List.set_cons_succ])
    go_cut [33] (fun v33 wc => ∃ (kq : Nat) (wd : Bool), v33 = .bool wd ∧ aa_ (as_.j1 kq l0 ap l0 (l0.length : Int) ap wd ((ab_ l0 ap).f0) ((ab_ l0 ap).f1) ((ab_ l0 ap).f2) = some r) ∧ aa_ (kq ≤ k1) ∧ aa_ (wc.heap[bG]? = some (.cells #[.int .i64 ((ab_ l0 ap).f0), .int .i64 ((ab_ l0 ap).f1), .int .i64 ((ab_ l0 ap).f2)] 61 (0, 0))) ∧ aa_ (Below w.heap.size w wc))
    case first =>
     have H := HC6.out
     clear HC6
     replace H := bd_ H; obtain ⟨Gm, A9, H⟩ := H
     replace H := it_ H; obtain ⟨rfl, H⟩ | ⟨rfl, H⟩ := H
     ·replace H := iw_ H; obtain ⟨c11, H⟩ | ⟨c11, H⟩ := H
      ·have dG : decide (0 < ap) = true := decide_eq_true c11
       clear c11
       (first | rw [dG] | (simp only [bA_, ch_]; rw [dG]) | skip)
       obtain ⟨d7, hji12⟩ : ∃ j_ : Int, (wrap64 (ap - 1)) = j_ := ⟨_, rfl⟩
       (first | rw [hji12] at H | simp only [hji12] at H)
       (try rw [hji12] at A9)
       have hji12w : (IntKind.i64.wrap (ap - 1)) = d7 := (bA_ _).trans hji12
       replace H := id_ H; obtain ⟨ew, H⟩ := H
       replace H := id_ H; obtain ⟨jD, H⟩ := H
       replace H := bd_ H; obtain ⟨xc, Nz, H⟩ := H
       have H' := aa_.mk H
       clear H
       try go_wp2
       have n0_ : aa_ ((((w7.setCell ⟨bG, 0, none⟩ (.int .i64 ((ab_ l0 ap).f0))).setCell ⟨bG, 1, none⟩ (.int .i64 ((ab_ l0 ap).f1))).setCell ⟨bG, 2, none⟩ (.int .i64 ((ab_ l0 ap).f2))).heap[bG]? = some (.cells #[.int .i64 ((ab_ l0 ap).f0), .int .i64 ((ab_ l0 ap).f1), .int .i64 ((ab_ l0 ap).f2)] 61 (0, 0))) := ⟨Z33 ba⟩
       have n1_ : aa_ (Below w.heap.size w (((w7.setCell ⟨bG, 0, none⟩ (.int .i64 ((ab_ l0 ap).f0))).setCell ⟨bG, 1, none⟩ (.int .i64 ((ab_ l0 ap).f1))).setCell ⟨bG, 2, none⟩ (.int .i64 ((ab_ l0 ap).f2)))) := ⟨Z25⟩
       (try clear ba)
       (try clear HB)
       generalize (((w7.setCell ⟨bG, 0, none⟩ (.int .i64 ((ab_ l0 ap).f0))).setCell ⟨bG, 1, none⟩ (.int .i64 ((ab_ l0 ap).f1))).setCell ⟨bG, 2, none⟩ (.int .i64 ((ab_ l0 ap).f2))) = lR at n0_ n1_ ⊢
       have ba := n0_
       have HB := n1_
       clear n0_ n1_
       refine k2_ (ax_ ba.out) (av_ HB.out) ?_
       clear ba HB
       intro ba HB
       have BT : 0 ≤ ((d7) : Int) := of_decide_eq_true (Z8)
       have BU : (d7) < (l0.length : Int) := of_decide_eq_true (Z8)
       obtain ⟨ad360, e360, ip, iq, ir⟩ := di_ HR0.out (d7) BT BU
       have hw360_2 := ir
       have hw360_1 := iq
       have hw360_0 := ip
       obtain rfl : g0 = ad360 := (by injection e360)
       replace ip := (HB.out.cell (World.block_lt_of_cell? w _ ip)).trans ip
       replace iq := (HB.out.cell (World.block_lt_of_cell? w _ iq)).trans iq
       replace ir := (HB.out.cell (World.block_lt_of_cell? w _ ir)).trans ir
       replace BT := eq_true BT
       replace BU := eq_true BU
       refine b2_ (n := 17) (S := fun w' => w'.cell? ⟨bG, 0, none⟩ = some (.int .i64 ((ab_ l0 ap).f0)) ∧ w'.cell? ⟨bG, 1, none⟩ = some (.int .i64 ((ab_ l0 ap).f1)) ∧ w'.cell? ⟨bG, 2, none⟩ = some (.int .i64 ((ab_ l0 ap).f2)) ∧ w'.cell? (g0.add (((d7)).toNat * 3)) = some (.int .i64 ((ab_ l0 (d7)).f0)) ∧ w'.cell? ⟨(g0.add (((d7)).toNat * 3)).block, (g0.add (((d7)).toNat * 3)).off + 1, none⟩ = some (.int .i64 ((ab_ l0 (d7)).f1)) ∧ w'.cell? ⟨(g0.add (((d7)).toNat * 3)).block, (g0.add (((d7)).toNat * 3)).off + 2, none⟩ = some (.int .i64 ((ab_ l0 (d7)).f2))) (ds := []) (M_ 0 17) (by kernel_rfl) rfl rfl ⟨(aE_ ba.out 0).trans rfl, (aE_ ba.out 1).trans rfl, (aE_ ba.out 2).trans rfl, ((HB.out.cell (World.block_lt_of_cell? w _ hw360_0)).trans hw360_0), ((HB.out.cell (World.block_lt_of_cell? w _ hw360_1)).trans hw360_1), ((HB.out.cell (World.block_lt_of_cell? w _ hw360_2)).trans hw360_2)⟩ (fun hHeld => ?_); refine bz_ as_.tab6 as_.bits6 (fun HT_ HW_ => ?_)
       generalize lR.drew = oD at ba HB ip iq ir hHeld ⊢
       refine fH_ 0 17 (M_ 1 16) hHeld ?_
       refine on_ 1 (some 18) (M_ 2 15) (fun K hK => ?_)
       refine cs_ Tryz.func58 (by kernel_rfl) rfl #[.agg #[.int .i64 ((ab_ l0 ap).f0), .int .i64 ((ab_ l0 ap).f1), .int .i64 ((ab_ l0 ap).f2)]] (by rfl) rfl rfl (Z43) ?_
       with_reducible refine (c1_.calls ((ab_ l0 ap).f0) ((ab_ l0 ap).f1) ((ab_ l0 ap).f2) true _ A9.out).mono ?_
       rintro e Jj ⟨rfl, hb⟩
       refine ⟨_, rfl, ?_⟩
       refine k2_ (Ye_ ba) (aq_ (Z25) hb) ?_
       clear ba HB
       intro ba HB
       (try clear hb)
       refine hK.out _ _ ⟨(aE_ ba.out 0).trans rfl, (aE_ ba.out 1).trans rfl, (aE_ ba.out 2).trans rfl, ((HB.out.cell (World.block_lt_of_cell? w _ hw360_0)).trans hw360_0), ((HB.out.cell (World.block_lt_of_cell? w _ hw360_1)).trans hw360_1), ((HB.out.cell (World.block_lt_of_cell? w _ hw360_2)).trans hw360_2)⟩ (fun hHeld => ?_)
       clear hK K
       refine nm_ 18 ?_
       refine pu_ 2 19 (M_ 3 14) ?_
       refine pu_ 3 20 (M_ 4 13) ?_
       refine pu_ 4 21 (M_ 5 12) ?_
       refine pu_ 5 22 (M_ 6 11) ?_
       refine pu_ 6 23 (M_ 7 10) ?_
       refine pu_ 7 24 (M_ 8 9) ?_
       refine pu_ 8 25 (M_ 9 8) ?_
       refine pu_ 9 26 (M_ 10 7) ?_
       refine pu_ 10 27 (M_ 11 6) ?_
       refine fH_ 11 28 (M_ 12 5) hHeld ?_
       refine fH_ 12 29 (M_ 13 4) hHeld ?_
       refine on_ 13 (some 30) (M_ 14 3) (fun K hK => ?_)
       refine cs_ Tryz.func59 (by kernel_rfl) rfl #[.agg #[.int .i64 ((ab_ l0 (d7)).f0), .int .i64 ((ab_ l0 (d7)).f1), .int .i64 ((ab_ l0 (d7)).f2)], .agg #[.int .i64 ((ab_ l0 ap).f0), .int .i64 ((ab_ l0 ap).f1), .int .i64 ((ab_ l0 ap).f2)]] (by rfl) rfl rfl (by (try simp only [List.map_toArray, List.map_cons, List.map_nil]); first | done | (simp only [hji12]; rfl) | rfl | (simp only [List.length_drop, List.length_take]; rfl)) ?_
       with_reducible refine (cl_.calls ((ab_ l0 (d7)).f0) ((ab_ l0 (d7)).f1) ((ab_ l0 (d7)).f2) ((ab_ l0 ap).f0) ((ab_ l0 ap).f1) ((ab_ l0 ap).f2) xc _ Nz.out).mono ?_
       rintro e Nk ⟨rfl, hb⟩
       refine ⟨_, rfl, ?_⟩
       refine k2_ (Ye_ ba) (aq_ (Z25) hb) ?_
       clear ba HB
       intro ba HB
       refine hK.out _ _ ⟨(aE_ ba.out 0).trans rfl, (aE_ ba.out 1).trans rfl, (aE_ ba.out 2).trans rfl, ((HB.out.cell (World.block_lt_of_cell? w _ hw360_0)).trans hw360_0), ((HB.out.cell (World.block_lt_of_cell? w _ hw360_1)).trans hw360_1), ((HB.out.cell (World.block_lt_of_cell? w _ hw360_2)).trans hw360_2)⟩ (fun hHeld => ?_)
       clear hK K
       refine nm_ 30 ?_
       refine pu_ 14 31 (M_ 15 2) ?_
       refine pu_ 15 32 (M_ 16 1) ?_
       refine pu_ 16 33 (M_ 17 0) ?_
       refine cw_ (bS_ HT_.out (by kernel_rfl)) ?_
       try go_wp2
       go_meet
       case rel => exact ⟨_, (!xc), (Z14), H', ⟨eL_ HK1⟩, ⟨Z5 ba⟩, ⟨Z25⟩⟩
      have dG : decide (0 < ap) = false := decide_eq_false c11
      clear c11
      (first | rw [dG] | (simp only [bA_, ch_]; rw [dG]) | skip)
      have H' := aa_.mk H
      clear H
      try go_wp2
      have n0_ : aa_ ((((w7.setCell ⟨bG, 0, none⟩ (.int .i64 ((ab_ l0 ap).f0))).setCell ⟨bG, 1, none⟩ (.int .i64 ((ab_ l0 ap).f1))).setCell ⟨bG, 2, none⟩ (.int .i64 ((ab_ l0 ap).f2))).heap[bG]? = some (.cells #[.int .i64 ((ab_ l0 ap).f0), .int .i64 ((ab_ l0 ap).f1), .int .i64 ((ab_ l0 ap).f2)] 61 (0, 0))) := ⟨Z33 ba⟩
      have n1_ : aa_ (Below w.heap.size w (((w7.setCell ⟨bG, 0, none⟩ (.int .i64 ((ab_ l0 ap).f0))).setCell ⟨bG, 1, none⟩ (.int .i64 ((ab_ l0 ap).f1))).setCell ⟨bG, 2, none⟩ (.int .i64 ((ab_ l0 ap).f2)))) := ⟨Z25⟩
      (try clear ba)
      (try clear HB)
      generalize (((w7.setCell ⟨bG, 0, none⟩ (.int .i64 ((ab_ l0 ap).f0))).setCell ⟨bG, 1, none⟩ (.int .i64 ((ab_ l0 ap).f1))).setCell ⟨bG, 2, none⟩ (.int .i64 ((ab_ l0 ap).f2))) = Jd at n0_ n1_ ⊢
      have ba := n0_
      have HB := n1_
      clear n0_ n1_
      refine k2_ (ax_ ba.out) (av_ HB.out) ?_
      clear ba HB
      intro ba HB
      refine b2_ (n := 17) (S := fun w' => w'.cell? ⟨bG, 0, none⟩ = some (.int .i64 ((ab_ l0 ap).f0)) ∧ w'.cell? ⟨bG, 1, none⟩ = some (.int .i64 ((ab_ l0 ap).f1)) ∧ w'.cell? ⟨bG, 2, none⟩ = some (.int .i64 ((ab_ l0 ap).f2))) (ds := []) (M_ 0 17) (by kernel_rfl) rfl rfl (cp_ ba.out) (fun hHeld => ?_); refine bz_ as_.tab6 as_.bits6 (fun HT_ HW_ => ?_)
      generalize Jd.drew = NB at ba HB hHeld ⊢
      refine fX_ 0 17 (M_ 1 16) hHeld ?_
      refine on_ 1 (some 18) (M_ 2 15) (fun K hK => ?_)
      refine cs_ Tryz.func58 (by kernel_rfl) rfl #[.agg #[.int .i64 ((ab_ l0 ap).f0), .int .i64 ((ab_ l0 ap).f1), .int .i64 ((ab_ l0 ap).f2)]] (by rfl) rfl rfl (Z43) ?_
      with_reducible refine (c1_.calls ((ab_ l0 ap).f0) ((ab_ l0 ap).f1) ((ab_ l0 ap).f2) true _ A9.out).mono ?_
      rintro e jE ⟨rfl, hb⟩
      refine ⟨_, rfl, ?_⟩
      refine k2_ (Ye_ ba) (aq_ (Z25) hb) ?_
      clear ba HB
      intro ba HB
      (try clear hb)
      refine hK.out _ _ (cp_ ba.out) (fun hHeld => ?_)
      clear hK K
      refine nm_ 18 ?_
      refine pu_ 2 19 (M_ 3 14) ?_
      refine pu_ 3 20 (M_ 4 13) ?_
      refine pu_ 4 21 (M_ 5 12) ?_
      refine pu_ 5 22 (M_ 6 11) ?_
      refine pu_ 6 23 (M_ 7 10) ?_
      refine pn_ 7 24 (M_ 8 9) ?_
      refine pn_ 8 25 (M_ 9 8) ?_
      refine pn_ 9 26 (M_ 10 7) ?_
      refine pn_ 10 27 (M_ 11 6) ?_
      refine pn_ 11 28 (M_ 12 5) ?_
      refine pn_ 12 29 (M_ 13 4) ?_
      refine pn_ 13 30 (M_ 14 3) ?_
      refine pn_ 14 31 (M_ 15 2) ?_
      refine pu_ 15 32 (M_ 16 1) ?_
      refine pu_ 16 33 (M_ 17 0) ?_
      refine cw_ (bS_ HT_.out (by kernel_rfl)) ?_
      try go_wp2
      go_meet
      case rel => exact ⟨_, (false), (Z14), H', ⟨eL_ HK1⟩, ⟨Z5 ba⟩, ⟨Z25⟩⟩
     have H' := aa_.mk H
     clear H
     try go_wp2
     have n0_ : aa_ ((((w7.setCell ⟨bG, 0, none⟩ (.int .i64 ((ab_ l0 ap).f0))).setCell ⟨bG, 1, none⟩ (.int .i64 ((ab_ l0 ap).f1))).setCell ⟨bG, 2, none⟩ (.int .i64 ((ab_ l0 ap).f2))).heap[bG]? = some (.cells #[.int .i64 ((ab_ l0 ap).f0), .int .i64 ((ab_ l0 ap).f1), .int .i64 ((ab_ l0 ap).f2)] 61 (0, 0))) := ⟨Z33 ba⟩
     have n1_ : aa_ (Below w.heap.size w (((w7.setCell ⟨bG, 0, none⟩ (.int .i64 ((ab_ l0 ap).f0))).setCell ⟨bG, 1, none⟩ (.int .i64 ((ab_ l0 ap).f1))).setCell ⟨bG, 2, none⟩ (.int .i64 ((ab_ l0 ap).f2)))) := ⟨Z25⟩
     (try clear ba)
     (try clear HB)
     generalize (((w7.setCell ⟨bG, 0, none⟩ (.int .i64 ((ab_ l0 ap).f0))).setCell ⟨bG, 1, none⟩ (.int .i64 ((ab_ l0 ap).f1))).setCell ⟨bG, 2, none⟩ (.int .i64 ((ab_ l0 ap).f2))) = Dp at n0_ n1_ ⊢
     have ba := n0_
     have HB := n1_
     clear n0_ n1_
     refine k2_ (ax_ ba.out) (av_ HB.out) ?_
     clear ba HB
     intro ba HB
     refine b2_ (n := 17) (S := fun w' => w'.cell? ⟨bG, 0, none⟩ = some (.int .i64 ((ab_ l0 ap).f0)) ∧ w'.cell? ⟨bG, 1, none⟩ = some (.int .i64 ((ab_ l0 ap).f1)) ∧ w'.cell? ⟨bG, 2, none⟩ = some (.int .i64 ((ab_ l0 ap).f2))) (ds := []) (M_ 0 17) (by kernel_rfl) rfl rfl (cp_ ba.out) (fun hHeld => ?_); refine bz_ as_.tab6 as_.bits6 (fun HT_ HW_ => ?_)
     generalize Dp.drew = cP at ba HB hHeld ⊢
     refine fX_ 0 17 (M_ 1 16) hHeld ?_
     refine on_ 1 (some 18) (M_ 2 15) (fun K hK => ?_)
     refine cs_ Tryz.func58 (by kernel_rfl) rfl #[.agg #[.int .i64 ((ab_ l0 ap).f0), .int .i64 ((ab_ l0 ap).f1), .int .i64 ((ab_ l0 ap).f2)]] (by rfl) rfl rfl (Z43) ?_
     with_reducible refine (c1_.calls ((ab_ l0 ap).f0) ((ab_ l0 ap).f1) ((ab_ l0 ap).f2) false _ A9.out).mono ?_
     rintro e Dq ⟨rfl, hb⟩
     refine ⟨_, rfl, ?_⟩
     refine k2_ (Ye_ ba) (aq_ (Z25) hb) ?_
     clear ba HB
     intro ba HB
     (try clear hb)
     refine hK.out _ _ (cp_ ba.out) (fun hHeld => ?_)
     clear hK K
     refine nm_ 18 ?_
     refine pu_ 2 19 (M_ 3 14) ?_
     refine pu_ 3 20 (M_ 4 13) ?_
     refine pn_ 4 21 (M_ 5 12) ?_
     refine pn_ 5 22 (M_ 6 11) ?_
     refine pn_ 6 23 (M_ 7 10) ?_
     refine pn_ 7 24 (M_ 8 9) ?_
     refine pn_ 8 25 (M_ 9 8) ?_
     refine pn_ 9 26 (M_ 10 7) ?_
     refine pn_ 10 27 (M_ 11 6) ?_
     refine pn_ 11 28 (M_ 12 5) ?_
     refine pn_ 12 29 (M_ 13 4) ?_
     refine pn_ 13 30 (M_ 14 3) ?_
     refine pn_ 14 31 (M_ 15 2) ?_
     refine pn_ 15 32 (M_ 16 1) ?_
     refine pu_ 16 33 (M_ 17 0) ?_
     refine cw_ (bS_ HT_.out (by kernel_rfl)) ?_
     try go_wp2
     go_meet
     case rel => exact ⟨_, (true), (Z14), H', ⟨eL_ HK1⟩, ⟨Z5 ba⟩, ⟨Z25⟩⟩
    case rest =>
     clear HC6
     (try clear cU); (try clear da); (try clear dp); (try clear fF); (try clear fG); (try clear jb); (try clear gj); (try clear fH); (try clear lQ); (try clear mU); (try clear mV); (try clear mW); (try clear BR); (try clear BS)
     obtain ⟨kq, wd, rfl, HA, BJ, ba, HB⟩ := hcut
     cases kq with
     | zero => exact absurd HA.out (by simp [as_.j1])
     | succ Je =>
      have H := HA.out
      clear HA
      simp only [as_.j1] at H
      replace H := it_ H; obtain ⟨rfl, H⟩ | ⟨rfl, H⟩ := H
      ·obtain rfl := Option.some.inj H
       go_wp2
       go_ret
       exact ⟨Z9, Z25⟩
      replace H := ie_ H; obtain ⟨d5, jF, H⟩ := H
      replace H := ie_ H; obtain ⟨mg, yv, H⟩ := H
      with_reducible replace H := lt_ H; obtain ⟨ek, Dr, H⟩ := H
      have H' := aa_.mk H
      clear H
      have BV : (ap : Int) ≤ ((l0.length : Int) : Int) := of_decide_eq_true (Z8)
      obtain ⟨i029, hi029, _, hsz29, _⟩ := info_parts eY_
      have hroom29 : l0.length ≤ c0 := HC0.out
      have hC29 : Kd.C k61 _ (some g0) l0.length l0 := HR0.out
      have hcut29 := go_ (P := Tryz.prog) 24 61 .i64 Tryz.underlying24 hi029 (some g0) l0.length c0 ap (of_decide_eq_true (Z8)) BV hroom29
      have hr29 := Kd.qi_ (m := (ap : Int).toNat) hC29 (by omega)
      have qI : ek.length = (ap : Int).toNat := (je_ Dr)
      rw [← Dr.out] at hr29
      rw [← qI] at hcut29
      have HR365 := aa_.mk hr29
      have HC365 := aa_.mk (show ek.length ≤ c0 from by omega)
      clear hr29 hC29 hroom29 hi029 hsz29
      have KY29 := aa_.mk qI
      clear qI
      replace BV := eq_true BV
      go_wp2
      go_loopg [38] Je (fun kq v38 w' => ∃ (cx : Int), v38 = .int .i64 cx ∧ aa_ (as_.l1 kq l0 l0 (l0.length : Int) ap ek (ek.length : Int) cx ((ab_ l0 ap).f0) ((ab_ l0 ap).f1) ((ab_ l0 ap).f2) = some r) ∧ aa_ (kq ≤ Je) ∧ aa_ (w'.heap[bG]? = some (.cells #[.int .i64 ((ab_ l0 ap).f0), .int .i64 ((ab_ l0 ap).f1), .int .i64 ((ab_ l0 ap).f2)] 61 (0, 0))) ∧ aa_ (Below w.heap.size w w'))
      case atStart => exact ⟨(0), (Z14), H', ⟨Nat.le_refl _⟩, ⟨Z5 ba⟩, ⟨Z25⟩⟩
      case round =>
       clear H'
       (try clear d5); (try clear jF); (try clear mg); (try clear yv); (try clear BV)
       obtain ⟨cx, rfl, HA, HK3, ba, HB⟩ := hrel
       cases gk with
       | zero => exact absurd HA.out (by simp [as_.l1])
       | succ k3 =>
        have H := HA.out
        clear HA
        simp only [as_.l1] at H
        replace H := iv_ H; obtain ⟨oR, H⟩ | ⟨oR, H⟩ := H
        ·replace H := id_ H; obtain ⟨mh, H⟩ := H
         replace H := id_ H; obtain ⟨qJ, H⟩ := H
         replace H := ic_ H; obtain ⟨yw, c33b1, H⟩ | ⟨yw, c33b1, c33, H⟩ := H
         ·replace H := iw_ H; obtain ⟨c34, H⟩ | ⟨c34, H⟩ := H
          ·have c34b0 : decide (((ab_ l0 ap).f1) ≤ ((ab_ ek cx).f2)) = true := decide_eq_true c34
           clear c34
           obtain rfl := Option.some.inj H
           obtain ⟨qK, e366, dO, dP, dQ, nz, nA⟩ := d6_ HR365.out HB.out cx
           obtain rfl : g0 = qK := (by injection e366)
           go_wp2_with (((with_reducible refine au_ (N := 6) rfl ?_); refine bv_ 6 61 #[.int .i64 0, .int .i64 0, .int .i64 0] ?_; intro fg hg lN hbox hb; refine k7_ (Ye_ ba) (aq_ (Z25) hb) (hbox) ((hF_ : w.heap.size ≤ fg)) ((hF_ : w.heap.size ≤ fg)) ((mP_ : bG ≠ fg)) ((m0_ : fg ≠ bG)) ?_; clear ba HB; intro ba HB qL Ds yp dE fP; clear hb hbox hg; have hnb36 := fP.out; have hnc36 := dE.out; obtain ⟨hcz37_0, hcz37_1, hcz37_2, hfz37_0, hfz37_1, hfz37_2⟩ := bt_ (w := lN) qL.out; obtain ⟨hcz38_0, hcz38_1, hcz38_2, hfz38_0, hfz38_1, hfz38_2⟩ := bt_ (w := lN) ba.out))
           go_ret
           exact ⟨Z9, mK_⟩
          have c34b0 : decide (((ab_ l0 ap).f1) ≤ ((ab_ ek cx).f2)) = false := decide_eq_false c34
          clear c34
          have H' := aa_.mk H
          clear H
          obtain ⟨qK, e366, dO, dP, dQ, nz, nA⟩ := d6_ HR365.out HB.out cx
          obtain rfl : g0 = qK := (by injection e366)
          go_wp2_with (((with_reducible refine au_ (N := 6) rfl ?_); refine bv_ 6 61 #[.int .i64 0, .int .i64 0, .int .i64 0] ?_; intro fg hg yx hbox hb; refine k7_ (Ye_ ba) (aq_ (Z25) hb) (hbox) ((hF_ : w.heap.size ≤ fg)) ((hF_ : w.heap.size ≤ fg)) ((mP_ : bG ≠ fg)) ((m0_ : fg ≠ bG)) ?_; clear ba HB; intro ba HB qL Ds yp dE fP; clear hb hbox hg; have hnb40 := fP.out; have hnc40 := dE.out; obtain ⟨mX, mY, hcz41_2, mZ, m0, hfz41_2⟩ := bt_ (w := yx) qL.out; obtain ⟨hcz42_0, hcz42_1, hcz42_2, hfz42_0, hfz42_1, hfz42_2⟩ := bt_ (w := yx) ba.out))
          go_roundg k3
          case measure => have := HK1.out; have := BJ.out; have := HK3.out; omega
          case rel => exact ⟨(wrap64 (cx + 1)), (Z14), H', ⟨m5_⟩, ⟨oO_⟩, ⟨mK_⟩⟩
         have H' := aa_.mk H
         clear H
         obtain ⟨qK, e366, dO, dP, dQ, nz, nA⟩ := d6_ HR365.out HB.out cx
         obtain rfl : g0 = qK := (by injection e366)
         go_wp2_with (((with_reducible refine au_ (N := 6) rfl ?_); refine bv_ 6 61 #[.int .i64 0, .int .i64 0, .int .i64 0] ?_; intro fg hg yj hbox hb; refine k7_ (Ye_ ba) (aq_ (Z25) hb) (hbox) ((hF_ : w.heap.size ≤ fg)) ((hF_ : w.heap.size ≤ fg)) ((mP_ : bG ≠ fg)) ((m0_ : fg ≠ bG)) ?_; clear ba HB; intro ba HB qL Ds yp dE fP; clear hb hbox hg; have hnb44 := fP.out; have hnc44 := dE.out; obtain ⟨hcz45_0, hcz45_1, hcz45_2, hfz45_0, hfz45_1, hfz45_2⟩ := bt_ (w := yj) qL.out; obtain ⟨hcz46_0, hcz46_1, hcz46_2, hfz46_0, hfz46_1, hfz46_2⟩ := bt_ (w := yj) ba.out))
         go_roundg k3
         case measure => have := HK1.out; have := BJ.out; have := HK3.out; omega
         case rel => exact ⟨(wrap64 (cx + 1)), (Z14), H', ⟨m5_⟩, ⟨oO_⟩, ⟨mK_⟩⟩
        have H' := aa_.mk H
        clear H
        go_wp2
        go_roundg k3
        case measure => have := HK1.out; have := BJ.out; have := HK3.out; omega
        case rel => exact ⟨(wrap64 (ap + 1)), (Z14), H', ⟨m5_⟩, ⟨Z25⟩⟩
   obtain rfl := Option.some.inj H
   go_wp2
   go_ret
   exact ⟨Z9, Z2⟩
theorem eT_ {p : Prop} (h : p := by repeat' first | (with_reducible first | apply ih0 | apply ih0 | apply as_.mono | apply as_.mono | apply a2_.mono | apply a2_.mono | apply a7_.mono | apply a7_.mono | apply a5_.mono | apply a5_.mono | apply aU_.mono | apply aU_.mono | apply aw_.mono | apply aw_.mono | exact LeO.refl _ | exact LeO.none _ | refine LeO.ite ?_ ?_ | refine LeO.bind ?_ (fun _ => ?_)) | exact LeO.none _ | refine LeO.ite ?_ ?_ | refine LeO.bind ?_ (fun _ => ?_)) : p := h
def a2_.l0 : Nat → List (S42) → Int → Int → Int → Int → Int → Option ((List (S42)) × Bool)
 | 0, _, _, _, _, _, _ => none
 | k + 1, x4, x5, x6, pg, x369001, x369002 => if x6 ≤ x5 then (if x4.length < 8796093022208 then (a2_.l0 k (x4 ++ [(⟨pg, x6⟩ : S42)]) x5 (wrap64 (x6 + 4)) pg x369001 x369002) else (none)) else (if 0 ≤ (wrap64 ((x4.length : Int) - 1)) then (if (wrap64 ((x4.length : Int) - 1)) < (x4.length : Int) then (if x5 > ((ac_ x4 (wrap64 ((x4.length : Int) - 1))).f1) then (if x4.length < 8796093022208 then (some ((x4 ++ [(⟨pg, x5⟩ : S42)]), true)) else (none)) else (some (x4, true))) else (none)) else (none))
def a2_.f (k : Nat) (a0_0 : Int) (a0_1 : Int) (a0_2 : Int) : Option ((List (S42)) × Bool) := if (wrap64 (a0_2 - a0_1)) < 4 then (some (([] : List (S42)), false)) else (a2_.l0 k (([] : List (S42))) (wrap64 (a0_2 - 4)) a0_1 a0_0 a0_1 a0_2)
theorem a2_.mono_l : ∀ k, (∀ y0 y1 y2 y3 y4 y5, LeO (a2_.l0 k y0 y1 y2 y3 y4 y5) (a2_.l0 (k + 1) y0 y1 y2 y3 y4 y5))
 | 0 => fun _ _ _ _ _ _ r h => by simp [a2_.l0] at h
 | k + 1 => by
  have ih0 := a2_.mono_l k
  ·intro y0 y1 y2 y3 y4 y5
   unfold a2_.l0
   exact eT_
theorem a2_.mono : ∀ a0 a1 a2 k, LeO (a2_.f k a0 a1 a2) (a2_.f (k + 1) a0 a1 a2) := by
 intro a0 a1 a2 k
 have ih0 := a2_.mono_l k
 unfold a2_.f
 exact eT_
set_option maxHeartbeats 8000000 in
set_option maxRecDepth 100000 in
theorem a2_.calls (k : Nat) (a0_0 : Int) (a0_1 : Int) (a0_2 : Int) (r1 : List (S42)) (r2 : Bool) (w : World) (h : a2_.f k a0_0 a0_1 a0_2 = some (r1, r2)) :
  Calls Tryz.prog 60 #[.agg #[.int .i64 a0_0, .int .i64 a0_1, .int .i64 a0_2]] w fun e w' => ∃ v0_ : Value, e = .returned (.tuple #[v0_, .bool r2]) ∧ Kd.R k42 42 w' w.heap.size (fun _ => True) v0_ r1 ∧ Below w.heap.size w w' := by
 have hu61 := Tryz.underlying61
 have hu42 := Tryz.underlying42
 have HB := aa_.mk (Below.refl w.heap.size w)
 have H := h; unfold a2_.f at H
 clear h
 replace H := iv_ H; obtain ⟨dB, H⟩ | ⟨dB, H⟩ := H
 ·obtain ⟨rfl, rfl⟩ := sp_ H; clear H
  go_enter Tryz.func60, Tryz.ntmps60
  go_wp2_with (((with_reducible refine au_ (N := 1) rfl ?_); refine bv_ 1 61 #[.int .i64 a0_0, .int .i64 a0_1, .int .i64 a0_2] ?_; intro mi hg w3 hbox hb; refine k4_ Ws_ (hbox) (Wg_ w mi) (Wg_ w mi) ?_; clear HB; intro HB dH GW368 Dn; clear hb hbox hg; obtain ⟨hcz4_0, hcz4_1, hcz4_2, hfz4_0, hfz4_1, hfz4_2⟩ := bt_ (w := w3) dH.out))
  go_ret2
  exact ⟨_, Z9, Z17, Z56⟩
 generalize e_ : ((([] : List (S42))) : List (S42)) = Jk at H
 have Dt := aa_.mk e_.symm; clear e_
 have H' := aa_.mk H
 clear H
 go_enter Tryz.func60, Tryz.ntmps60
 go_wp2_with (first | ((with_reducible refine au_ (N := 1) rfl ?_); refine bv_ 1 61 #[.int .i64 a0_0, .int .i64 a0_1, .int .i64 a0_2] ?_; intro mi hg w5 hbox hb; refine k4_ Ws_ (hbox) (Wg_ w mi) (Wg_ w mi) ?_; clear HB; intro HB dH GW368 Dn; clear hb hbox hg; obtain ⟨lS, lT, nB, nC, lU, nD⟩ := bt_ (w := w5) dH.out) | ((with_reducible refine au_ (N := 13) rfl ?_); refine lu_ k42 42 13 ([] : List (S42)) [] (aH_.none _ _) ?_; intro v370 w7 ho8 hb hg_ hnew_; clear hg_ hnew_; (first | rw [← Dt.out] at ho8 | (simp only [Int.reduceToNat] at ho8; rw [← Dt.out] at ho8)); refine k3_ (Kd.pY_ ho8 (ao_ (Z56))) (Ye_ dH) (aq_ (Z56) hb) ?_; clear dH HB; intro HO371 dH HB; clear hb ho8; obtain ⟨el, eN, ph, eO, eP, uq⟩ := bt_ (w := w7) dH.out))
 (try simp only [Act.put, List.setIfInBounds_toArray, List.set_cons_zero, List.set_cons_succ])
 go_loopg [4, 6] k (fun kq v4 v6 w' => ∃ (aC : List (S42)) (br : Int), v6 = .int .i64 br ∧ aa_ (a2_.l0 kq aC (wrap64 (a0_2 - 4)) br a0_0 a0_1 a0_2 = some (r1, r2)) ∧ aa_ (kq ≤ k) ∧ aa_ (Kd.R k42 42 w' w.heap.size (fun _ => True) v4 aC) ∧ aa_ (w'.heap[mi]? = some (.cells #[.int .i64 a0_0, .int .i64 a0_1, .int .i64 a0_2] 61 (0, 0))) ∧ aa_ (Below w.heap.size w w'))
 case atStart => exact ⟨(Jk), (a0_1), (Z14), H', ⟨Nat.le_refl _⟩, ⟨Z1 HO371⟩, ⟨Z5 dH⟩, ⟨Z56⟩⟩
 case round =>
  clear H'
  (try clear dB); (try clear lS); (try clear lT); (try clear nB); (try clear el); (try clear eN); (try clear ph); (try clear nC); (try clear lU); (try clear nD); (try clear eO); (try clear eP); (try clear uq)
  obtain ⟨aC, br, rfl, HA, HK1, ak, dH, HB⟩ := hrel
  cases gk with
  | zero => exact absurd HA.out (by simp [a2_.l0])
  | succ k1 =>
   have H := HA.out
   clear HA
   simp only [a2_.l0] at H
   replace H := iv_ H; obtain ⟨de, H⟩ | ⟨de, H⟩ := H
   ·replace H := ia_ H; obtain ⟨yy, H⟩ := H
    generalize e_ : ((aC ++ [(⟨a0_0, br⟩ : S42)]) : List (S42)) = Jl at H
    have Ny372 := aa_.mk e_.symm; clear e_
    have H' := aa_.mk H
    clear H
    obtain ⟨eC, fh, pi, eD, fi, we⟩ := bt_ (w := wr) dH.out
    go_wp2_with (((with_reducible refine bh_ (b := .append) (xs := #[.tmp 24, .tmp 29]) rfl ?_); at_builtin; refine e4_ (w0 := w) w.heap.size (.tmp 24) (.tmp 29) u4 aC (⟨a0_0, br⟩ : S42) [.int .i64 a0_0, .int .i64 br] (fun _ => True) rfl rfl ?aP ?aF ?aO ?aB ?aS ?aL ?_; (case aP => exact cy_ _ _ _ (⟨a0_0, br⟩ : S42)); (case aB => exact Z56); (case aF => exact (fun _ _ => trivial)); (case aO => exact (Z1 ak)); (case aS => exact (ao_ (Z56))); (case aL => exact Z91 yy); intro v373 oE ho hb hg hat; rw [← Ny372.out] at ho; refine k3_ (bg_ (zo_ dH) hg (Kd.qb_ ak.out dH.out (by decide))) (hb) (ho) ?_; clear dH HB ak; intro dH HB HO374; clear ho hb hg hat))
    go_roundg k1
    case measure => have := HK1.out; omega
    case rel => exact ⟨(Jl), (wrap64 (br + 4)), (Z14), H', ⟨Z91 HK1⟩, ⟨Z1 HO374⟩, ⟨Z5 dH⟩, ⟨Z56⟩⟩
   obtain ⟨cq, hji14⟩ : ∃ j_ : Int, (wrap64 ((aC.length : Int) - 1)) = j_ := ⟨_, rfl⟩
   (first | rw [hji14] at H | simp only [hji14] at H)
   have hji14w : (IntKind.i64.wrap ((aC.length : Int) - 1)) = cq := (bA_ _).trans hji14
   replace H := id_ H; obtain ⟨dR, H⟩ := H
   replace H := id_ H; obtain ⟨fQ, H⟩ := H
   replace H := iw_ H; obtain ⟨c17, H⟩ | ⟨c17, H⟩ := H
   ·have i2 : decide (((ac_ aC (cq)).f1) < (wrap64 (a0_2 - 4))) = true := decide_eq_true c17
    clear c17
    replace H := ia_ H; obtain ⟨qO, H⟩ := H
    generalize e_ : ((aC ++ [(⟨a0_0, (wrap64 (a0_2 - 4))⟩ : S42)]) : List (S42)) = y376 at H
    have Ny376 := aa_.mk e_.symm; clear e_
    obtain ⟨rfl, rfl⟩ := sp_ H; clear H
    obtain ⟨lV, gl, nE⟩ := Kd.pW_ ak.out
    subst nE
    obtain ⟨Du, e375, hx375_0, hx375_1, ur, us⟩ := cg_ (Kd.pV_ ak.out).2.2 (cq)
    cases e375
    obtain ⟨hcz20_0, hcz20_1, hcz20_2, hfz20_0, hfz20_1, hfz20_2⟩ := bt_ (w := wr) dH.out
    go_wp2_with (((with_reducible refine bh_ (b := .append) (xs := #[.tmp 40, .tmp 45]) rfl ?_); at_builtin; refine e4_ (w0 := w) w.heap.size (.tmp 40) (.tmp 45) (.slice (some Du) aC.length gl) aC (⟨a0_0, (wrap64 (a0_2 - 4))⟩ : S42) [.int .i64 a0_0, .int .i64 (wrap64 (a0_2 - 4))] (fun _ => True) rfl rfl ?aP ?aF ?aO ?aB ?aS ?aL ?_; (case aP => exact cy_ _ _ _ (⟨a0_0, (wrap64 (a0_2 - 4))⟩ : S42)); (case aB => exact Z56); (case aF => exact (fun _ _ => trivial)); (case aO => exact (Z1 ak)); (case aS => exact (ao_ (Z56))); (case aL => exact Z91 qO); intro v377 NB ho hb hg hat; rw [← Ny376.out] at ho; refine k3_ (bg_ (zo_ dH) hg (Kd.qb_ ak.out dH.out (by decide))) (hb) (ho) ?_; clear dH HB ak; intro dH HB HO378; clear ho hb hg hat))
    go_ret2
    exact ⟨_, oy_, Z1 HO378, Z56⟩
   have i2 : decide (((ac_ aC (cq)).f1) < (wrap64 (a0_2 - 4))) = false := decide_eq_false c17
   clear c17
   obtain ⟨rfl, rfl⟩ := sp_ H; clear H
   obtain ⟨Jm, yz, xd⟩ := Kd.pW_ ak.out
   subst xd
   obtain ⟨Du, e375, hx375_0, hx375_1, ur, us⟩ := cg_ (Kd.pV_ ak.out).2.2 (cq)
   cases e375
   go_wp2
   go_ret2
   exact ⟨_, oy_, Z1 ak, Z56⟩
def a7_.l0 : Nat → List (S42) → List (S61) → Int → Int → Option ((List (S42)) × Bool)
 | 0, _, _, _, _ => none
 | k + 1, x4, x10, x11, x12 => if x12 < x11 then (if 0 ≤ x12 then (if x12 < (x10.length : Int) then ((a2_.f k ((ab_ x10 x12).f0) ((ab_ x10 x12).f1) ((ab_ x10 x12).f2)).bind fun yA => (if yA.2 = true then (if x4.length + yA.1.length < 8796093022208 then (a7_.l0 k (x4 ++ yA.1) x10 x11 (wrap64 (x12 + 1))) else (none)) else (some (([] : List (S42)), false)))) else (none)) else (none)) else (if (x4.length : Int) > 200 then (some (([] : List (S42)), false)) else (some (x4, true)))
def a7_.f (k : Nat) (l0 : List (S61)) : Option ((List (S42)) × Bool) := a7_.l0 k (([] : List (S42))) l0 (l0.length : Int) 0
theorem a7_.mono_l : ∀ k, (∀ y0 y1 y2 y3, LeO (a7_.l0 k y0 y1 y2 y3) (a7_.l0 (k + 1) y0 y1 y2 y3))
 | 0 => fun _ _ _ _ r h => by simp [a7_.l0] at h
 | k + 1 => by
  have ih0 := a7_.mono_l k
  ·intro y0 y1 y2 y3
   unfold a7_.l0
   exact eT_
theorem a7_.mono : ∀ a0 k, LeO (a7_.f k a0) (a7_.f (k + 1) a0) := by
 intro a0 k
 have ih0 := a7_.mono_l k
 unfold a7_.f
 exact eT_
set_option maxHeartbeats 8000000 in
set_option maxRecDepth 100000 in
theorem a7_.calls (k : Nat) (A0 : Option Addr) (c0 : Nat) (l0 : List (S61)) (r1 : List (S42)) (r2 : Bool) (w : World) (hr0 : Kd.C k61 w A0 l0.length l0) (hc0 : l0.length ≤ c0) (h : a7_.f k l0 = some (r1, r2)) :
  Calls Tryz.prog 29 #[.slice A0 l0.length c0] w fun e w' => ∃ v0_ : Value, e = .returned (.tuple #[v0_, .bool r2]) ∧ Kd.R k42 42 w' w.heap.size (fun _ => True) v0_ r1 ∧ Below w.heap.size w w' := by
 have hu61 := Tryz.underlying61
 have HR0 := aa_.mk hr0
 have HC0 := aa_.mk hc0
 clear hr0 hc0
 have HB := aa_.mk (Below.refl w.heap.size w)
 have H := h; unfold a7_.f at H
 clear h
 generalize e_ : ((([] : List (S42))) : List (S42)) = Jn at H
 have Dv := aa_.mk e_.symm; clear e_
 have H' := aa_.mk H
 clear H
 go_enter Tryz.func29, Tryz.ntmps29
 go_wp2_with (((with_reducible refine au_ (N := 9) rfl ?_); refine lu_ k42 42 9 ([] : List (S42)) [] (aH_.none _ _) ?_; intro v380 w2 ho3 hb hg_ hnew_; clear hg_ hnew_; (first | rw [← Dv.out] at ho3 | (simp only [Int.reduceToNat] at ho3; rw [← Dv.out] at ho3)); refine k2_ (Kd.pY_ ho3 (ao_ (Z2))) Ws_ ?_; clear HB; intro HO381 HB; clear hb ho3))
 (try simp only [Act.put, List.setIfInBounds_toArray, List.set_cons_zero, List.set_cons_succ])
 go_loopg [4, 12] k (fun kq v4 Gn w' => ∃ (aC : List (S42)) (ap : Int), Gn = .int .i64 ap ∧ aa_ (a7_.l0 kq aC l0 (l0.length : Int) ap = some (r1, r2)) ∧ aa_ (kq ≤ k) ∧ aa_ (Kd.R k42 42 w' w.heap.size (fun _ => True) v4 aC) ∧ aa_ (Below w.heap.size w w'))
 case atStart => exact ⟨(Jn), (0), (Z14), H', ⟨Nat.le_refl _⟩, ⟨Z1 HO381⟩, ⟨Z2⟩⟩
 case round =>
  clear H'
  obtain ⟨aC, ap, rfl, HA, HK1, ak, HB⟩ := hrel
  cases gk with
  | zero => exact absurd HA.out (by simp [a7_.l0])
  | succ k1 =>
   have H := HA.out
   clear HA
   simp only [a7_.l0] at H
   replace H := iv_ H; obtain ⟨da, H⟩ | ⟨da, H⟩ := H
   ·replace H := id_ H; obtain ⟨dp, H⟩ := H
    replace H := id_ H; obtain ⟨cC, H⟩ := H
    replace H := bd_ H; obtain ⟨⟨xe, t387⟩, A7, H⟩ := H
    (try dsimp only at H)
    replace H := it_ H; obtain ⟨rfl, H⟩ | ⟨rfl, H⟩ := H
    ·replace H := ia_ H; obtain ⟨LMc9, H⟩ := H
     generalize e_ : ((aC ++ xe) : List (S42)) = Jo at H
     have Ny388 := aa_.mk e_.symm; clear e_
     have H' := aa_.mk H
     clear H
     obtain ⟨ad382, e382, gm, gn, go, ut, uu⟩ := d6_ HR0.out HB.out ap
     cases e382
     go_wp2_with (first | ((with_reducible refine au_ (N := 6) rfl ?_); refine bv_ 6 61 #[.int .i64 0, .int .i64 0, .int .i64 0] ?_; intro gZ hg jc hbox hb; refine k5_ (Ya_ ak) Ws_ (hbox) (Wg_ w gZ) (Wg_ w gZ) ?_; clear ak HB; intro ak HB fd GW383 Dm; clear hb hbox hg; obtain ⟨fj, gp, wg, fk, gq, wh⟩ := bt_ (w := jc) fd.out) | ((with_reducible refine ae_ (f := 60) rfl ?_); refine gl_ 18 Tryz.func60 #[.agg #[.int .i64 ((ab_ l0 ap).f0), .int .i64 ((ab_ l0 ap).f1), .int .i64 ((ab_ l0 ap).f2)]] ?_; (with_reducible refine (a2_.calls k1 ((ab_ l0 ap).f0) ((ab_ l0 ap).f1) ((ab_ l0 ap).f2) xe true _ A7.out).mono ?_); rintro e qT ⟨v385, rfl, ho0, hb⟩; refine ⟨_, rfl, ?_⟩; refine k4_ (Kd.qc_ (Z69) (Kd.p9_ ho0) hb) (Kd.pY_ (Kd.p3_ ho0 (Kd.qr_ (Z69))) (ao_ (Z75))) (cj_ (g := gZ) (o := .cells #[.int .i64 ((ab_ l0 ap).f0), .int .i64 ((ab_ l0 ap).f1), .int .i64 ((ab_ l0 ap).f2)] 61 (0, 0)) (Z33 fd) hb) (aq_ (Z75) hb) ?_; clear ak fd HB; intro ak nF fd HB; (try clear hb ho0); obtain ⟨Ao14, co14, eo14⟩ := Kd.pW_ nF.out; subst eo14) | ((with_reducible refine bh_ (b := .append) (xs := #[.tmp 23, .tmp 24]) rfl ?_); at_builtin; refine hC_ (w0 := w) w.heap.size (.tmp 23) (.tmp 24) u4 aC xe (fun k_ => some k_ ≠ (.slice Ao14 xe.length co14 : Value).ownBlock) rfl rfl ?aO ?aR ?aF ?aB ?aS ?aL ?_; (case aR => exact Z3 nF); (case aB => exact Z75); (case aF => exact (fun k_ hk => Kd.fresh' (Yd_ nF) k_ hk)); (case aO => exact (Z61 ak)); (case aS => exact (ao_ (Z75))); (case aL => exact Z91 LMc9); intro v389 oE ho hb hg hat; rw [← Ny388.out] at ho; refine k4_ (bg_ (zo_ fd) hg (Kd.qb_ ak.out fd.out (by decide))) (Kd.p2_ (ok := (fun _ => True)) (Z1 nF) hg hat) (hb) (ho) ?_; clear fd nF HB ak; intro fd nF HB HO390; clear ho hb hg hat))
     go_roundg k1
     case measure => have := HK1.out; omega
     case rel => exact ⟨(Jo), (wrap64 (ap + 1)), (Z14), H', ⟨Z91 HK1⟩, ⟨Z38 HO390⟩, ⟨Z75⟩⟩
    obtain ⟨rfl, rfl⟩ := sp_ H; clear H
    obtain ⟨ad382, e382, gm, gn, go, ut, uu⟩ := d6_ HR0.out HB.out ap
    cases e382
    go_wp2_with (first | ((with_reducible refine au_ (N := 6) rfl ?_); refine bv_ 6 61 #[.int .i64 0, .int .i64 0, .int .i64 0] ?_; intro gZ hg jd hbox hb; refine k5_ (Ya_ ak) Ws_ (hbox) (Wg_ w gZ) (Wg_ w gZ) ?_; clear ak HB; intro ak HB fd GW383 Dm; clear hb hbox hg; obtain ⟨iu, iv, hcz16_2, iw, ix, hfz16_2⟩ := bt_ (w := jd) fd.out) | ((with_reducible refine ae_ (f := 60) rfl ?_); refine gl_ 18 Tryz.func60 #[.agg #[.int .i64 ((ab_ l0 ap).f0), .int .i64 ((ab_ l0 ap).f1), .int .i64 ((ab_ l0 ap).f2)]] ?_; (with_reducible refine (a2_.calls k1 ((ab_ l0 ap).f0) ((ab_ l0 ap).f1) ((ab_ l0 ap).f2) xe false _ A7.out).mono ?_); rintro e oD ⟨v385, rfl, ho0, hb⟩; refine ⟨_, rfl, ?_⟩; refine k4_ (Kd.qc_ (Z69) (Kd.p9_ ho0) hb) (Kd.pY_ (Kd.p3_ ho0 (Kd.qr_ (Z69))) (ao_ (Z75))) (cj_ (g := gZ) (o := .cells #[.int .i64 ((ab_ l0 ap).f0), .int .i64 ((ab_ l0 ap).f1), .int .i64 ((ab_ l0 ap).f2)] 61 (0, 0)) (Z33 fd) hb) (aq_ (Z75) hb) ?_; clear ak fd HB; intro ak nF fd HB; (try clear hb ho0)))
    go_ret2
    exact ⟨_, Z9, Z17, Z75⟩
   replace H := iw_ H; obtain ⟨c18, H⟩ | ⟨c18, H⟩ := H
   ·have eQ : decide (200 < (aC.length : Int)) = true := decide_eq_true c18
    have oS : decide (200 < aC.length) = true := decide_eq_true (by omega)
    clear c18
    obtain ⟨rfl, rfl⟩ := sp_ H; clear H
    obtain ⟨lV, gl, nE⟩ := Kd.pW_ ak.out
    subst nE
    go_wp2
    go_ret2
    exact ⟨_, Z9, Z17, Z2⟩
   have eQ : decide (200 < (aC.length : Int)) = false := decide_eq_false c18
   have oS : decide (200 < aC.length) = false := decide_eq_false (by omega)
   clear c18
   obtain ⟨rfl, rfl⟩ := sp_ H; clear H
   obtain ⟨Ao20, co20, Gp⟩ := Kd.pW_ ak.out
   subst Gp
   go_wp2
   go_ret2
   exact ⟨_, Z9, Z1 ak, Z2⟩
def bE_.f (k : Nat) (l0 : List (S61)) : Option ((List (S42)) × Bool) := (as_.f k l0).bind fun yB => (if yB = true then ((a7_.f k l0).bind fun qU => (some (qU.1, qU.2))) else (some (([] : List (S42)), false)))
theorem bE_.mono : ∀ a0 k, LeO (bE_.f k a0) (bE_.f (k + 1) a0) := by
 intro a0 k
 unfold bE_.f
 exact eT_
set_option maxHeartbeats 8000000 in
set_option maxRecDepth 100000 in
theorem bE_.calls (k : Nat) (A0 : Option Addr) (c0 : Nat) (l0 : List (S61)) (r1 : List (S42)) (r2 : Bool) (w : World) (hr0 : Kd.C k61 w A0 l0.length l0) (hc0 : l0.length ≤ c0) (h : bE_.f k l0 = some (r1, r2)) :
  Calls Tryz.prog 6 #[.slice A0 l0.length c0] w fun e w' => ∃ v0_ : Value, e = .returned (.tuple #[v0_, .bool r2]) ∧ Kd.R k42 42 w' w.heap.size (fun _ => True) v0_ r1 ∧ Below w.heap.size w w' := by
 have HR0 := aa_.mk hr0
 have HC0 := aa_.mk hc0
 clear hr0 hc0
 have HB := aa_.mk (Below.refl w.heap.size w)
 have H := h; unfold bE_.f at H
 clear h
 replace H := bd_ H; obtain ⟨yB, A2, H⟩ := H
 replace H := it_ H; obtain ⟨rfl, H⟩ | ⟨rfl, H⟩ := H
 ·replace H := bd_ H; obtain ⟨⟨Jp, Jq⟩, A4, H⟩ := H
  replace H : (some (Jp, Jq)) = some (r1, r2) := H
  obtain ⟨rfl, rfl⟩ := sp_ H; clear H
  go_enter Tryz.func6, Tryz.ntmps6
  go_wp2_with (first | ((with_reducible refine ae_ (f := 28) rfl ?_); refine gl_ 5 Tryz.func28 #[.slice A0 l0.length c0] ?_; (with_reducible refine (as_.calls k _ _ l0 true _ ?_ ?_ A2.out).mono ?_); exact (Z15 HR0); exact HC0.out; rintro e w5 ⟨rfl, hb⟩; refine ⟨_, rfl, ?_⟩; refine k1_ Ws_ ?_; clear HB; intro HB; (try clear hb)) | ((with_reducible refine ae_ (f := 29) rfl ?_); refine gl_ 8 Tryz.func29 #[.slice A0 l0.length c0] ?_; (with_reducible refine (a7_.calls k _ _ l0 Jp Jq _ ?_ ?_ A4.out).mono ?_); exact (Z10 HR0); exact HC0.out; rintro e w6 ⟨v394, rfl, ho0, hb⟩; refine ⟨_, rfl, ?_⟩; refine k2_ Wo_ Ws_ ?_; clear HB; intro HO395 HB; (try clear hb ho0)))
  go_ret2
  exact ⟨_, Z9, Z1 HO395, Z2⟩
 obtain ⟨rfl, rfl⟩ := sp_ H; clear H
 go_enter Tryz.func6, Tryz.ntmps6
 go_wp2_with (((with_reducible refine ae_ (f := 28) rfl ?_); refine gl_ 5 Tryz.func28 #[.slice A0 l0.length c0] ?_; (with_reducible refine (as_.calls k _ _ l0 false _ ?_ ?_ A2.out).mono ?_); exact (Z15 HR0); exact HC0.out; rintro e w7 ⟨rfl, hb⟩; refine ⟨_, rfl, ?_⟩; refine k1_ Ws_ ?_; clear HB; intro HB; (try clear hb)))
 go_ret2
 exact ⟨_, Z9, Z17, Z2⟩
def a5_.l0 : Nat → List (S42) → Int → Int → Int → Int → Option ((List (S42)))
 | 0, _, _, _, _, _ => none
 | k + 1, x3, x4, pj, x397001, m2 => if x4 ≤ (wrap64 (m2 - 4)) then (if x3.length < 8796093022208 then (a5_.l0 k (x3 ++ [(⟨pj, x4⟩ : S42)]) (wrap64 (x4 + 4)) pj x397001 m2) else (none)) else (if (x3.length : Int) > 0 then (if 0 ≤ (wrap64 ((x3.length : Int) - 1)) then (if (wrap64 ((x3.length : Int) - 1)) < (x3.length : Int) then (if ((ac_ x3 (wrap64 ((x3.length : Int) - 1))).f1) < (wrap64 (m2 - 4)) then (if x3.length < 8796093022208 then (some (x3 ++ [(⟨pj, wrap64 (m2 - 4)⟩ : S42)])) else (none)) else (some x3)) else (none)) else (none)) else (some x3))
def a5_.f (k : Nat) (a0_0 : Int) (a0_1 : Int) (a0_2 : Int) : Option ((List (S42))) := a5_.l0 k ([] : List (S42)) a0_1 a0_0 a0_1 a0_2
theorem a5_.mono_l : ∀ k, (∀ y0 y1 y2 y3 y4, LeO (a5_.l0 k y0 y1 y2 y3 y4) (a5_.l0 (k + 1) y0 y1 y2 y3 y4))
 | 0 => fun _ _ _ _ _ r h => by simp [a5_.l0] at h
 | k + 1 => by
  have ih0 := a5_.mono_l k
  ·intro y0 y1 y2 y3 y4
   unfold a5_.l0
   exact eT_
theorem a5_.mono : ∀ a0 a1 a2 k, LeO (a5_.f k a0 a1 a2) (a5_.f (k + 1) a0 a1 a2) := by
 intro a0 a1 a2 k
 have ih0 := a5_.mono_l k
 unfold a5_.f
 exact eT_
set_option maxHeartbeats 8000000 in
set_option maxRecDepth 100000 in
theorem a5_.calls (k : Nat) (a0_0 : Int) (a0_1 : Int) (a0_2 : Int) (r : List (S42)) (w : World) (h : a5_.f k a0_0 a0_1 a0_2 = some r) :
  Calls Tryz.prog 63 #[.agg #[.int .i64 a0_0, .int .i64 a0_1, .int .i64 a0_2]] w fun e w' => ∃ v0_ : Value, e = .returned (v0_) ∧ Kd.R k42 42 w' w.heap.size (fun _ => True) v0_ r ∧ Below w.heap.size w w' := by
 have hu61 := Tryz.underlying61
 have hu42 := Tryz.underlying42
 have HB := aa_.mk (Below.refl w.heap.size w)
 have H := h; unfold a5_.f at H
 clear h
 have H' := aa_.mk H
 clear H
 go_enter Tryz.func63, Tryz.ntmps63
 go_wp2_with (((with_reducible refine au_ (N := 1) rfl ?_); refine bv_ 1 61 #[.int .i64 a0_0, .int .i64 a0_1, .int .i64 a0_2] ?_; intro eR hg w2 hbox hb; refine k4_ Ws_ (hbox) (Wg_ w eR) (Wg_ w eR) ?_; clear HB; intro HB cg Dw yt; clear hb hbox hg; obtain ⟨uv, uw, ux, uy, uz, uA⟩ := bt_ (w := w2) cg.out))
 repeat (go_quiet (fail); try go_wp2_with (fail))
 go_loopg [3, 4] k (fun kq v3 v4 w' => ∃ (aN : List (S42)) (aC : Int), v4 = .int .i64 aC ∧ aa_ (a5_.l0 kq aN aC a0_0 a0_1 a0_2 = some r) ∧ aa_ (kq ≤ k) ∧ aa_ (Kd.R k42 42 w' w.heap.size (fun _ => True) v3 aN) ∧ aa_ (w'.heap[eR]? = some (.cells #[.int .i64 a0_0, .int .i64 a0_1, .int .i64 a0_2] 61 (0, 0))) ∧ aa_ (Below w.heap.size w w'))
 case atStart => exact ⟨(([] : List (S42))), (a0_1), (Z14), H', ⟨Nat.le_refl _⟩, ⟨Z17⟩, ⟨Z5 cg⟩, ⟨Z36⟩⟩
 case round =>
  clear H'
  (try clear uv); (try clear uw); (try clear ux); (try clear uy); (try clear uz); (try clear uA)
  obtain ⟨aN, aC, rfl, HA, HK1, aA, cg, HB⟩ := hrel
  cases gk with
  | zero => exact absurd HA.out (by simp [a5_.l0])
  | succ k1 =>
   have H := HA.out
   clear HA
   simp only [a5_.l0] at H
   replace H := iv_ H; obtain ⟨da, H⟩ | ⟨da, H⟩ := H
   ·replace H := ia_ H; obtain ⟨Gq, H⟩ := H
    generalize e_ : ((aN ++ [(⟨a0_0, aC⟩ : S42)]) : List (S42)) = Jr at H
    have yC := aa_.mk e_.symm; clear e_
    have H' := aa_.mk H
    clear H
    obtain ⟨lS, lT, nB, nC, lU, nD⟩ := bt_ (w := wr) cg.out
    go_wp2_with (((with_reducible refine bh_ (b := .append) (xs := #[.tmp 15, .tmp 20]) rfl ?_); at_builtin; refine e4_ (w0 := w) w.heap.size (.tmp 15) (.tmp 20) u3 aN (⟨a0_0, aC⟩ : S42) [.int .i64 a0_0, .int .i64 aC] (fun _ => True) rfl rfl ?aP ?aF ?aO ?aB ?aS ?aL ?_; (case aP => exact cy_ _ _ _ (⟨a0_0, aC⟩ : S42)); (case aB => exact Z36); (case aF => exact (fun _ _ => trivial)); (case aO => exact (Z1 aA)); (case aS => exact (ao_ (Z36))); (case aL => exact Z91 Gq); intro Js w7 ho hb hg hat; rw [← yC.out] at ho; refine k3_ (bg_ (zo_ cg) hg (Kd.qb_ aA.out cg.out (by decide))) (hb) (ho) ?_; clear cg HB aA; intro cg HB yD; clear ho hb hg hat))
    repeat (go_quiet (fail); try go_wp2_with (fail))
    go_roundg k1
    case measure => have := HK1.out; omega
    case rel => exact ⟨(Jr), (wrap64 (aC + 4)), (Z14), H', ⟨Z91 HK1⟩, ⟨Z1 yD⟩, ⟨Z5 cg⟩, ⟨Z36⟩⟩
   replace H := iw_ H; obtain ⟨c8, H⟩ | ⟨c8, H⟩ := H
   ·have gN : decide (0 < (aN.length : Int)) = true := decide_eq_true c8
    have yE : decide (0 < aN.length) = true := decide_eq_true (by omega)
    clear c8
    obtain ⟨dA, hji9⟩ : ∃ j_ : Int, (wrap64 ((aN.length : Int) - 1)) = j_ := ⟨_, rfl⟩
    (first | rw [hji9] at H | simp only [hji9] at H)
    have hji9w : (IntKind.i64.wrap ((aN.length : Int) - 1)) = dA := (bA_ _).trans hji9
    replace H := id_ H; obtain ⟨de, H⟩ := H
    replace H := id_ H; obtain ⟨dG, H⟩ := H
    replace H := iv_ H; obtain ⟨fm, H⟩ | ⟨fm, H⟩ := H
    ·replace H := ia_ H; obtain ⟨yF, H⟩ := H
     generalize e_ : ((aN ++ [(⟨a0_0, wrap64 (a0_2 - 4)⟩ : S42)]) : List (S42)) = y401 at H
     have yG := aa_.mk e_.symm; clear e_
     obtain rfl := Option.some.inj H
     obtain ⟨m3, m4, hcz14_2, m5, m6, hfz14_2⟩ := bt_ (w := wr) cg.out
     obtain ⟨nG, jG, jH⟩ := Kd.pW_ aA.out
     subst jH
     obtain ⟨wi, e400, hx400_0, hx400_1, uB, uC⟩ := cg_ (Kd.pV_ aA.out).2.2 (dA)
     cases e400
     go_wp2_with (fail)
     repeat (go_quiet (fail); try go_wp2_with (((with_reducible refine bh_ (b := .append) (xs := #[.tmp 38, .tmp 45]) rfl ?_); at_builtin; refine e4_ (w0 := w) w.heap.size (.tmp 38) (.tmp 45) (.slice (some wi) aN.length jG) aN (⟨a0_0, wrap64 (a0_2 - 4)⟩ : S42) [.int .i64 a0_0, .int .i64 (wrap64 (a0_2 - 4))] (fun _ => True) rfl rfl ?aP ?aF ?aO ?aB ?aS ?aL ?_; (case aP => exact cy_ _ _ _ (⟨a0_0, wrap64 (a0_2 - 4)⟩ : S42)); (case aB => exact Z36); (case aF => exact (fun _ _ => trivial)); (case aO => exact (Z1 aA)); (case aS => exact (ao_ (Z36))); (case aL => exact Z91 yF); intro Jt lR ho hb hg hat; rw [← yG.out] at ho; refine k3_ (bg_ (zo_ cg) hg (Kd.qb_ aA.out cg.out (by decide))) (hb) (ho) ?_; clear cg HB aA; intro cg HB yH; clear ho hb hg hat)))
     go_ret
     exact ⟨_, op_, Z1 yH, Z36⟩
    obtain rfl := Option.some.inj H
    obtain ⟨pk, pl, hcz17_2, pm, pn, hfz17_2⟩ := bt_ (w := wr) cg.out
    obtain ⟨BW, BX, uD⟩ := Kd.pW_ aA.out
    subst uD
    obtain ⟨wi, e400, hx400_0, hx400_1, uB, uC⟩ := cg_ (Kd.pV_ aA.out).2.2 (dA)
    cases e400
    go_wp2
    repeat (go_quiet (fail); try go_wp2)
    go_ret
    exact ⟨_, op_, Z1 aA, Z36⟩
   have gN : decide (0 < (aN.length : Int)) = false := decide_eq_false c8
   have yE : decide (0 < aN.length) = false := decide_eq_false (by omega)
   clear c8
   obtain rfl := Option.some.inj H
   obtain ⟨po, wj, wk, pp, wl, wm⟩ := bt_ (w := wr) cg.out
   obtain ⟨Ao20, co20, Gp⟩ := Kd.pW_ aA.out
   subst Gp
   go_wp2
   repeat (go_quiet (fail); try go_wp2)
   go_ret
   exact ⟨_, Z9, Z1 aA, Z36⟩
def aU_.l0 : Nat → List (S42) → List (S61) → Int → Int → Option ((List (S42)) × Bool)
 | 0, _, _, _, _ => none
 | k + 1, x4, x8, x9, x10 => if x10 < x9 then (if 0 ≤ x10 then (if x10 < (x8.length : Int) then ((a5_.f k ((ab_ x8 x10).f0) ((ab_ x8 x10).f1) ((ab_ x8 x10).f2)).bind fun iQ => (if (iQ.length : Int) = 0 then (some (([] : List (S42)), false)) else (if x4.length + iQ.length < 8796093022208 then (aU_.l0 k (x4 ++ iQ) x8 x9 (wrap64 (x10 + 1))) else (none)))) else (none)) else (none)) else (if (x4.length : Int) > 200 then (some (([] : List (S42)), false)) else (some (x4, true)))
def aU_.f (k : Nat) (l0 : List (S61)) : Option ((List (S42)) × Bool) := aU_.l0 k ([] : List (S42)) l0 (l0.length : Int) 0
theorem aU_.mono_l : ∀ k, (∀ y0 y1 y2 y3, LeO (aU_.l0 k y0 y1 y2 y3) (aU_.l0 (k + 1) y0 y1 y2 y3))
 | 0 => fun _ _ _ _ r h => by simp [aU_.l0] at h
 | k + 1 => by
  have ih0 := aU_.mono_l k
  ·intro y0 y1 y2 y3
   unfold aU_.l0
   exact eT_
theorem aU_.mono : ∀ a0 k, LeO (aU_.f k a0) (aU_.f (k + 1) a0) := by
 intro a0 k
 have ih0 := aU_.mono_l k
 unfold aU_.f
 exact eT_
set_option maxHeartbeats 8000000 in
set_option maxRecDepth 100000 in
theorem aU_.calls (k : Nat) (A0 : Option Addr) (c0 : Nat) (l0 : List (S61)) (r1 : List (S42)) (r2 : Bool) (w : World) (hr0 : Kd.C k61 w A0 l0.length l0) (hc0 : l0.length ≤ c0) (h : aU_.f k l0 = some (r1, r2)) :
  Calls Tryz.prog 31 #[.slice A0 l0.length c0] w fun e w' => ∃ v0_ : Value, e = .returned (.tuple #[v0_, .bool r2]) ∧ Kd.R k42 42 w' w.heap.size (fun _ => True) v0_ r1 ∧ Below w.heap.size w w' := by
 have hu61 := Tryz.underlying61
 have HR0 := aa_.mk hr0
 have HC0 := aa_.mk hc0
 clear hr0 hc0
 have HB := aa_.mk (Below.refl w.heap.size w)
 have H := h; unfold aU_.f at H
 clear h
 have H' := aa_.mk H
 clear H
 go_enter Tryz.func31, Tryz.ntmps31
 go_wp2
 go_loopg [4, 10] k (fun kq v4 BZ w' => ∃ (aC : List (S42)) (ag : Int), BZ = .int .i64 ag ∧ aa_ (aU_.l0 kq aC l0 (l0.length : Int) ag = some (r1, r2)) ∧ aa_ (kq ≤ k) ∧ aa_ (Kd.R k42 42 w' w.heap.size (fun _ => True) v4 aC) ∧ aa_ (Below w.heap.size w w'))
 case atStart => exact ⟨(([] : List (S42))), (0), (Z14), H', ⟨Nat.le_refl _⟩, ⟨Z17⟩, ⟨Z2⟩⟩
 case round =>
  clear H'
  obtain ⟨aC, ag, rfl, HA, HK1, ak, HB⟩ := hrel
  cases gk with
  | zero => exact absurd HA.out (by simp [aU_.l0])
  | succ k1 =>
   have H := HA.out
   clear HA
   simp only [aU_.l0] at H
   replace H := iv_ H; obtain ⟨dB, H⟩ | ⟨dB, H⟩ := H
   ·replace H := id_ H; obtain ⟨cU, H⟩ := H
    replace H := id_ H; obtain ⟨da, H⟩ := H
    replace H := bd_ H; obtain ⟨iQ, A5, H⟩ := H
    replace H := ic_ H; obtain ⟨cC, fR, H⟩ | ⟨cC, fR, c6, H⟩ := H
    ·obtain ⟨rfl, rfl⟩ := sp_ H; clear H
     obtain ⟨ad404, e404, gr, gs, gt, uE, uF⟩ := d6_ HR0.out HB.out ag
     cases e404
     go_wp2_with (first | ((with_reducible refine au_ (N := 6) rfl ?_); refine bv_ 6 61 #[.int .i64 0, .int .i64 0, .int .i64 0] ?_; intro gY hg w7 hbox hb; refine k5_ (Ya_ ak) Ws_ (hbox) (Wg_ w gY) (Wg_ w gY) ?_; clear ak HB; intro ak HB fc GW405 Dl; clear hb hbox hg; obtain ⟨fF, fG, jb, gj, fH, lQ⟩ := bt_ (w := w7) fc.out) | ((with_reducible refine ae_ (f := 63) rfl ?_); refine gl_ 15 Tryz.func63 #[.agg #[.int .i64 ((ab_ l0 ag).f0), .int .i64 ((ab_ l0 ag).f1), .int .i64 ((ab_ l0 ag).f2)]] ?_; (with_reducible refine (a5_.calls k1 ((ab_ l0 ag).f0) ((ab_ l0 ag).f1) ((ab_ l0 ag).f2) iQ _ A5.out).mono ?_); rintro e w9 ⟨v407, rfl, ho0, hb⟩; refine ⟨_, rfl, ?_⟩; refine k4_ (Kd.qc_ (Z70) (Kd.p9_ ho0) hb) (Kd.pY_ (Kd.p3_ ho0 (Kd.qr_ (Z70))) (ao_ (Z76))) (cj_ (g := gY) (o := .cells #[.int .i64 ((ab_ l0 ag).f0), .int .i64 ((ab_ l0 ag).f1), .int .i64 ((ab_ l0 ag).f2)] 61 (0, 0)) (Z67 fc) hb) (aq_ (Z76) hb) ?_; clear ak fc HB; intro ak mj fc HB; (try clear hb ho0); obtain ⟨xf, uG, mI⟩ := Kd.pW_ mj.out; subst mI))
     go_ret2
     exact ⟨_, Z9, Z17, Z76⟩
    have Gr : ¬ (iQ = []) := fun h_ => c6 (by rw [h_]; rfl)
    replace H := ia_ H; obtain ⟨yy, H⟩ := H
    generalize e_ : ((aC ++ iQ) : List (S42)) = Ju at H
    have Ny409 := aa_.mk e_.symm; clear e_
    have H' := aa_.mk H
    clear H
    obtain ⟨ad404, e404, gr, gs, gt, uE, uF⟩ := d6_ HR0.out HB.out ag
    cases e404
    go_wp2_with (first | ((with_reducible refine au_ (N := 6) rfl ?_); refine bv_ 6 61 #[.int .i64 0, .int .i64 0, .int .i64 0] ?_; intro gY hg qT hbox hb; refine k5_ (Ya_ ak) Ws_ (hbox) (Wg_ w gY) (Wg_ w gY) ?_; clear ak HB; intro ak HB fc GW405 Dl; clear hb hbox hg; obtain ⟨iy, iz, pq, iA, iB, pr⟩ := bt_ (w := qT) fc.out) | ((with_reducible refine ae_ (f := 63) rfl ?_); refine gl_ 15 Tryz.func63 #[.agg #[.int .i64 ((ab_ l0 ag).f0), .int .i64 ((ab_ l0 ag).f1), .int .i64 ((ab_ l0 ag).f2)]] ?_; (with_reducible refine (a5_.calls k1 ((ab_ l0 ag).f0) ((ab_ l0 ag).f1) ((ab_ l0 ag).f2) iQ _ A5.out).mono ?_); rintro e xg ⟨v407, rfl, ho0, hb⟩; refine ⟨_, rfl, ?_⟩; refine k4_ (Kd.qc_ (Z70) (Kd.p9_ ho0) hb) (Kd.pY_ (Kd.p3_ ho0 (Kd.qr_ (Z70))) (ao_ (Z76))) (cj_ (g := gY) (o := .cells #[.int .i64 ((ab_ l0 ag).f0), .int .i64 ((ab_ l0 ag).f1), .int .i64 ((ab_ l0 ag).f2)] 61 (0, 0)) (Z67 fc) hb) (aq_ (Z76) hb) ?_; clear ak fc HB; intro ak mj fc HB; (try clear hb ho0); obtain ⟨nG, jG, jH⟩ := Kd.pW_ mj.out; subst jH) | ((with_reducible refine bh_ (b := .append) (xs := #[.tmp 19, .tmp 20]) rfl ?_); at_builtin; refine hC_ (w0 := w) w.heap.size (.tmp 19) (.tmp 20) u4 aC iQ (fun k_ => some k_ ≠ (.slice nG iQ.length jG : Value).ownBlock) rfl rfl ?aO ?aR ?aF ?aB ?aS ?aL ?_; (case aR => exact Z3 mj); (case aB => exact Z76); (case aF => exact (fun k_ hk => Kd.fresh' (Yd_ mj) k_ hk)); (case aO => exact (Z61 ak)); (case aS => exact (ao_ (Z76))); (case aL => exact Z91 yy); intro v410 lR ho hb hg hat; rw [← Ny409.out] at ho; refine k4_ (bg_ (zo_ fc) hg (Kd.qb_ ak.out fc.out (by decide))) (Kd.p2_ (ok := (fun _ => True)) (Z1 mj) hg hat) (hb) (ho) ?_; clear fc mj HB ak; intro fc mj HB HO411; clear ho hb hg hat))
    go_roundg k1
    case measure => have := HK1.out; omega
    case rel => exact ⟨(Ju), (wrap64 (ag + 1)), (Z14), H', ⟨Z91 HK1⟩, ⟨Z38 HO411⟩, ⟨Z76⟩⟩
   replace H := iw_ H; obtain ⟨c17, H⟩ | ⟨c17, H⟩ := H
   ·have i2 : decide (200 < (aC.length : Int)) = true := decide_eq_true c17
    have wn : decide (200 < aC.length) = true := decide_eq_true (by omega)
    clear c17
    obtain ⟨rfl, rfl⟩ := sp_ H; clear H
    obtain ⟨BW, BX, uD⟩ := Kd.pW_ ak.out
    subst uD
    go_wp2
    go_ret2
    exact ⟨_, Z9, Z17, Z2⟩
   have i2 : decide (200 < (aC.length : Int)) = false := decide_eq_false c17
   have wn : decide (200 < aC.length) = false := decide_eq_false (by omega)
   clear c17
   obtain ⟨rfl, rfl⟩ := sp_ H; clear H
   obtain ⟨lV, gl, nE⟩ := Kd.pW_ ak.out
   subst nE
   go_wp2
   go_ret2
   exact ⟨_, Z9, Z1 ak, Z2⟩
def bG_.f (k : Nat) (l0 : List (S61)) : Option ((List (S42)) × Bool) := (aw_.f k l0).bind fun yI => (if yI = true then ((aU_.f k l0).bind fun qY => (some (qY.1, qY.2))) else (some (([] : List (S42)), false)))
theorem bG_.mono : ∀ a0 k, LeO (bG_.f k a0) (bG_.f (k + 1) a0) := by
 intro a0 k
 unfold bG_.f
 exact eT_
set_option maxHeartbeats 8000000 in
set_option maxRecDepth 100000 in
theorem bG_.calls (k : Nat) (A0 : Option Addr) (c0 : Nat) (l0 : List (S61)) (r1 : List (S42)) (r2 : Bool) (w : World) (hr0 : Kd.C k61 w A0 l0.length l0) (hc0 : l0.length ≤ c0) (h : bG_.f k l0 = some (r1, r2)) :
  Calls Tryz.prog 7 #[.slice A0 l0.length c0] w fun e w' => ∃ v0_ : Value, e = .returned (.tuple #[v0_, .bool r2]) ∧ Kd.R k42 42 w' w.heap.size (fun _ => True) v0_ r1 ∧ Below w.heap.size w w' := by
 have HR0 := aa_.mk hr0
 have HC0 := aa_.mk hc0
 clear hr0 hc0
 have HB := aa_.mk (Below.refl w.heap.size w)
 have H := h; unfold bG_.f at H
 clear h
 replace H := bd_ H; obtain ⟨yI, A2, H⟩ := H
 replace H := it_ H; obtain ⟨rfl, H⟩ | ⟨rfl, H⟩ := H
 ·replace H := bd_ H; obtain ⟨⟨Jv, Jw⟩, A4, H⟩ := H
  replace H : (some (Jv, Jw)) = some (r1, r2) := H
  obtain ⟨rfl, rfl⟩ := sp_ H; clear H
  go_enter Tryz.func7, Tryz.ntmps7
  go_wp2_with (first | ((with_reducible refine ae_ (f := 30) rfl ?_); refine gl_ 5 Tryz.func30 #[.slice A0 l0.length c0] ?_; (with_reducible refine (aw_.calls k _ _ l0 true _ ?_ ?_ A2.out).mono ?_); exact (Z15 HR0); exact HC0.out; rintro e w5 ⟨rfl, hb⟩; refine ⟨_, rfl, ?_⟩; refine k1_ Ws_ ?_; clear HB; intro HB; (try clear hb)) | ((with_reducible refine ae_ (f := 31) rfl ?_); refine gl_ 8 Tryz.func31 #[.slice A0 l0.length c0] ?_; (with_reducible refine (aU_.calls k _ _ l0 Jv Jw _ ?_ ?_ A4.out).mono ?_); exact (Z10 HR0); exact HC0.out; rintro e w6 ⟨v415, rfl, ho0, hb⟩; refine ⟨_, rfl, ?_⟩; refine k2_ Wo_ Ws_ ?_; clear HB; intro HO416 HB; (try clear hb ho0)))
  go_ret2
  exact ⟨_, Z9, Z1 HO416, Z2⟩
 obtain ⟨rfl, rfl⟩ := sp_ H; clear H
 go_enter Tryz.func7, Tryz.ntmps7
 go_wp2_with (((with_reducible refine ae_ (f := 30) rfl ?_); refine gl_ 5 Tryz.func30 #[.slice A0 l0.length c0] ?_; (with_reducible refine (aw_.calls k _ _ l0 false _ ?_ ?_ A2.out).mono ?_); exact (Z15 HR0); exact HC0.out; rintro e w7 ⟨rfl, hb⟩; refine ⟨_, rfl, ?_⟩; refine k1_ Ws_ ?_; clear HB; intro HB; (try clear hb)))
 go_ret2
 exact ⟨_, Z9, Z17, Z2⟩
theorem iS_ {p : Prop} (h : p := by repeat' first | (with_reducible first | apply ih0 | apply ih0 | exact LeO.refl _ | exact LeO.none _ | refine LeO.ite ?_ ?_ | refine LeO.bind ?_ (fun _ => ?_)) | exact LeO.none _ | refine LeO.ite ?_ ?_ | refine LeO.bind ?_ (fun _ => ?_)) : p := h
attribute [local go_sem high] kE_
def aI_.l0 : Nat → List (S42) → List (S42) → Int → Int → Option (Bool)
 | 0, _, _, _, _ => none
 | k + 1, x0, x1, x12, x13 => if x13 < x12 then (if 0 ≤ x13 then (if x13 < (x0.length : Int) then (if x13 < (x1.length : Int) then (if (!(((ac_ x0 x13).f0) == ((ac_ x1 x13).f0)) || (!(((ac_ x0 x13).f1) == ((ac_ x1 x13).f1)))) = true then (some false) else (aI_.l0 k x0 x1 x12 (wrap64 (x13 + 1)))) else (none)) else (none)) else (none)) else (some true)
def aI_.f (k : Nat) (l0 : List (S42)) (l1 : List (S42)) : Option (Bool) := if (l0.length : Int) = (l1.length : Int) then (aI_.l0 k l0 l1 (l0.length : Int) 0) else (some false)
theorem aI_.mono_l : ∀ k, (∀ y0 y1 y2 y3, LeO (aI_.l0 k y0 y1 y2 y3) (aI_.l0 (k + 1) y0 y1 y2 y3))
 | 0 => fun _ _ _ _ r h => by simp [aI_.l0] at h
 | k + 1 => by
  have ih0 := aI_.mono_l k
  ·intro y0 y1 y2 y3
   unfold aI_.l0
   exact iS_
theorem aI_.mono : ∀ a0 a1 k, LeO (aI_.f k a0 a1) (aI_.f (k + 1) a0 a1) := by
 intro a0 a1 k
 have ih0 := aI_.mono_l k
 unfold aI_.f
 exact iS_
set_option maxHeartbeats 8000000 in
set_option maxRecDepth 100000 in
theorem aI_.calls (k : Nat) (A0 : Option Addr) (c0 : Nat) (l0 : List (S42)) (A1 : Option Addr) (c1 : Nat) (l1 : List (S42)) (r : Bool) (w : World) (hr0 : Kd.C k42 w A0 l0.length l0) (hc0 : l0.length ≤ c0) (hr1 : Kd.C k42 w A1 l1.length l1) (hc1 : l1.length ≤ c1) (h : aI_.f k l0 l1 = some r) :
  Calls Tryz.prog 8 #[.slice A0 l0.length c0, .slice A1 l1.length c1] w fun e w' => e = .returned (.bool r) ∧ bH_ w w' := by
 have hu42 := Tryz.underlying42
 have HR0 := aa_.mk hr0
 have HC0 := aa_.mk hc0
 clear hr0 hc0
 have HR1 := aa_.mk hr1
 have HC1 := aa_.mk hc1
 clear hr1 hc1
 have H := h; unfold aI_.f at H
 clear h
 replace H := iw_ H; obtain ⟨c3, H⟩ | ⟨c3, H⟩ := H
 ·have cU : ((l0.length : Int) == (l1.length : Int)) = true := beq_iff_eq.mpr c3
  have je : ((l0.length : Int) != (l1.length : Int)) = false := bne_eq_false_iff_eq.mpr c3
  have qZ : (l0.length == l1.length) = true := by first | simpa using c3 | (simp at c3 ⊢; omega)
  clear c3
  have H' := aa_.mk H
  clear H
  go_enter Tryz.func8, Tryz.ntmps8
  go_wp2
  repeat (go_quiet (fail); try go_wp2)
  go_loopg [13] k (fun kq Jx w' => ∃ (aM : Int), Jx = .int .i64 aM ∧ aa_ (aI_.l0 kq l0 l1 (l0.length : Int) aM = some r) ∧ aa_ (kq ≤ k) ∧ bH_ w w')
  case atStart => exact ⟨(0), (Z14), H', ⟨Nat.le_refl _⟩, Z41⟩
  case round =>
   clear H'
   (try clear c1); (try clear c3); (try clear cU); (try clear je); (try clear qZ)
   obtain ⟨aM, rfl, HA, HK1, ⟨m1, rfl⟩⟩ := hrel
   cases gk with
   | zero => exact absurd HA.out (by simp [aI_.l0])
   | succ k1 =>
    have H := HA.out
    clear HA
    simp only [aI_.l0] at H
    replace H := iv_ H; obtain ⟨da, H⟩ | ⟨da, H⟩ := H
    ·replace H := id_ H; obtain ⟨dp, H⟩ := H
     replace H := id_ H; obtain ⟨cC, H⟩ := H
     replace H := id_ H; obtain ⟨dJ, H⟩ := H
     replace H := iw_ H; obtain ⟨c8, H⟩ | ⟨c8, H⟩ := H
     ·have gN : (!(((ac_ l0 aM).f0) == ((ac_ l1 aM).f0)) || (!(((ac_ l0 aM).f1) == ((ac_ l1 aM).f1)))) = true := c8
      clear c8
      obtain rfl := Option.some.inj H
      obtain ⟨ad417, e417, hx417_0, hx417_1, uH, uI⟩ := cg_ HR0.out aM
      cases e417
      obtain ⟨ad418, e418, hx418_0, hx418_1, uJ, uK⟩ := cg_ HR1.out aM
      cases e418
      go_wp2
      repeat (go_quiet (fail); try go_wp2)
      go_ret
      exact ⟨Z14, Z41⟩
     have gN : (!(((ac_ l0 aM).f0) == ((ac_ l1 aM).f0)) || (!(((ac_ l0 aM).f1) == ((ac_ l1 aM).f1)))) = false := by simpa using c8
     clear c8
     have H' := aa_.mk H
     clear H
     obtain ⟨ad417, e417, hx417_0, hx417_1, uH, uI⟩ := cg_ HR0.out aM
     cases e417
     obtain ⟨ad418, e418, hx418_0, hx418_1, uJ, uK⟩ := cg_ HR1.out aM
     cases e418
     go_wp2
     repeat (go_quiet (fail); try go_wp2)
     go_roundg k1
     case measure => have := HK1.out; omega
     case rel => exact ⟨(wrap64 (aM + 1)), (Z14), H', ⟨Z91 HK1⟩, Z41⟩
    obtain rfl := Option.some.inj H
    go_wp2
    repeat (go_quiet (fail); try go_wp2)
    go_ret
    exact ⟨Z14, Z41⟩
 have cU : ((l0.length : Int) == (l1.length : Int)) = false := beq_eq_false_iff_ne.mpr c3
 have je : ((l0.length : Int) != (l1.length : Int)) = true := bne_iff_ne.mpr c3
 have qZ : (l0.length == l1.length) = false := by first | simpa using c3 | (simp at c3 ⊢; omega)
 obtain rfl := Option.some.inj H
 go_enter Tryz.func8, Tryz.ntmps8
 go_wp2
 repeat (go_quiet (fail); try go_wp2)
 go_ret
 exact ⟨Z14, Z41⟩
def ap_.l0 : Nat → List (S42) → List (S42) → Int → Int → Option (Bool)
 | 0, _, _, _, _ => none
 | k + 1, x0, x5, x6, x7 => if x7 < x6 then (if 0 ≤ x7 then (if x7 < (x5.length : Int) then ((bJ_.f ((ac_ x5 x7).f0)).bind fun Gs => (if Gs = true then (if ((ac_ x5 x7).f1) < 0 then (some false) else (if ((ac_ x5 x7).f1) ≥ 2000 then (some false) else (ap_.l0 k x0 x5 x6 (wrap64 (x7 + 1))))) else (some false))) else (none)) else (none)) else (some (decide ((x0.length : Int) ≤ 200)))
def ap_.f (k : Nat) (l0 : List (S42)) : Option (Bool) := ap_.l0 k l0 l0 (l0.length : Int) 0
theorem ap_.mono_l : ∀ k, (∀ y0 y1 y2 y3, LeO (ap_.l0 k y0 y1 y2 y3) (ap_.l0 (k + 1) y0 y1 y2 y3))
 | 0 => fun _ _ _ _ r h => by simp [ap_.l0] at h
 | k + 1 => by
  have ih0 := ap_.mono_l k
  ·intro y0 y1 y2 y3
   unfold ap_.l0
   exact iS_
theorem ap_.mono : ∀ a0 k, LeO (ap_.f k a0) (ap_.f (k + 1) a0) := by
 intro a0 k
 have ih0 := ap_.mono_l k
 unfold ap_.f
 exact iS_
set_option maxHeartbeats 8000000 in
set_option maxRecDepth 100000 in
theorem ap_.calls (k : Nat) (A0 : Option Addr) (c0 : Nat) (l0 : List (S42)) (r : Bool) (w : World) (hr0 : Kd.C k42 w A0 l0.length l0) (hc0 : l0.length ≤ c0) (h : ap_.f k l0 = some r) :
  Calls Tryz.prog 13 #[.slice A0 l0.length c0] w fun e w' => e = .returned (.bool r) ∧ Below w.heap.size w w' := by
 have hu42 := Tryz.underlying42
 have HR0 := aa_.mk hr0
 have HC0 := aa_.mk hc0
 clear hr0 hc0
 have HB := aa_.mk (Below.refl w.heap.size w)
 have H := h; unfold ap_.f at H
 clear h
 have H' := aa_.mk H
 clear H
 go_enter Tryz.func13, Tryz.ntmps13
 go_wp2
 go_loopg [7] k (fun kq v7 w' => ∃ (bM : Int), v7 = .int .i64 bM ∧ aa_ (ap_.l0 kq l0 l0 (l0.length : Int) bM = some r) ∧ aa_ (kq ≤ k) ∧ aa_ (Below w.heap.size w w'))
 case atStart => exact ⟨(0), (Z14), H', ⟨Nat.le_refl _⟩, ⟨Z2⟩⟩
 case round =>
  clear H'
  obtain ⟨bM, rfl, HA, HK1, HB⟩ := hrel
  cases gk with
  | zero => exact absurd HA.out (by simp [ap_.l0])
  | succ k1 =>
   have H := HA.out
   clear HA
   simp only [ap_.l0] at H
   replace H := iv_ H; obtain ⟨dB, H⟩ | ⟨dB, H⟩ := H
   ·replace H := id_ H; obtain ⟨cU, H⟩ := H
    replace H := id_ H; obtain ⟨da, H⟩ := H
    replace H := bd_ H; obtain ⟨Gs, A5, H⟩ := H
    replace H := it_ H; obtain ⟨rfl, H⟩ | ⟨rfl, H⟩ := H
    ·replace H := iv_ H; obtain ⟨dJ, H⟩ | ⟨dJ, H⟩ := H
     ·obtain rfl := Option.some.inj H
      obtain ⟨yJ, e419, cV, cW, jf, jg⟩ := ds_ HR0.out HB.out bM
      cases e419
      go_wp2_with (first | ((with_reducible refine au_ (N := 4) rfl ?_); refine bv_ 4 42 #[.int .i64 0, .int .i64 0] ?_; intro g4 hg w8 hbox hb; refine k4_ Ws_ (hbox) (Wg_ w g4) (Wg_ w g4) ?_; clear HB; intro HB nH yK vW; clear hb hbox hg; obtain ⟨el, eN, eO, eP⟩ := cH_ (w := w8) nH.out) | ((with_reducible refine ae_ (f := 37) rfl ?_); refine gl_ 13 Tryz.func37 #[.int .i64 ((ac_ l0 bM).f0)] ?_; (with_reducible refine (bJ_.calls ((ac_ l0 bM).f0) true _ A5.out).mono ?_); rintro e w' ⟨rfl, ⟨nd, rfl⟩⟩; refine ⟨_, rfl, ?_⟩))
      go_ret
      exact ⟨Z9, ld_⟩
     replace H := iw_ H; obtain ⟨c10, H⟩ | ⟨c10, H⟩ := H
     ·have de : decide (2000 ≤ ((ac_ l0 bM).f1)) = true := decide_eq_true c10
      clear c10
      obtain rfl := Option.some.inj H
      obtain ⟨yJ, e419, cV, cW, jf, jg⟩ := ds_ HR0.out HB.out bM
      cases e419
      go_wp2_with (first | ((with_reducible refine au_ (N := 4) rfl ?_); refine bv_ 4 42 #[.int .i64 0, .int .i64 0] ?_; intro g4 hg nI hbox hb; refine k4_ Ws_ (hbox) (Wg_ w g4) (Wg_ w g4) ?_; clear HB; intro HB nH yK vW; clear hb hbox hg; obtain ⟨eC, fh, eD, fi⟩ := cH_ (w := nI) nH.out) | ((with_reducible refine ae_ (f := 37) rfl ?_); refine gl_ 13 Tryz.func37 #[.int .i64 ((ac_ l0 bM).f0)] ?_; (with_reducible refine (bJ_.calls ((ac_ l0 bM).f0) true _ A5.out).mono ?_); rintro e w' ⟨rfl, ⟨nd, rfl⟩⟩; refine ⟨_, rfl, ?_⟩))
      go_ret
      exact ⟨Z9, ld_⟩
     have de : decide (2000 ≤ ((ac_ l0 bM).f1)) = false := decide_eq_false c10
     clear c10
     have H' := aa_.mk H
     clear H
     obtain ⟨yJ, e419, cV, cW, jf, jg⟩ := ds_ HR0.out HB.out bM
     cases e419
     go_wp2_with (first | ((with_reducible refine au_ (N := 4) rfl ?_); refine bv_ 4 42 #[.int .i64 0, .int .i64 0] ?_; intro g4 hg oE hbox hb; refine k4_ Ws_ (hbox) (Wg_ w g4) (Wg_ w g4) ?_; clear HB; intro HB nH yK vW; clear hb hbox hg; obtain ⟨m3, m4, m5, m6⟩ := cH_ (w := oE) nH.out) | ((with_reducible refine ae_ (f := 37) rfl ?_); refine gl_ 13 Tryz.func37 #[.int .i64 ((ac_ l0 bM).f0)] ?_; (with_reducible refine (bJ_.calls ((ac_ l0 bM).f0) true _ A5.out).mono ?_); rintro e w' ⟨rfl, ⟨nd, rfl⟩⟩; refine ⟨_, rfl, ?_⟩))
     go_roundg k1
     case measure => have := HK1.out; omega
     case rel => exact ⟨(wrap64 (bM + 1)), (Z14), H', ⟨Z91 HK1⟩, ⟨ld_⟩⟩
    obtain rfl := Option.some.inj H
    obtain ⟨yJ, e419, cV, cW, jf, jg⟩ := ds_ HR0.out HB.out bM
    cases e419
    go_wp2_with (first | ((with_reducible refine au_ (N := 4) rfl ?_); refine bv_ 4 42 #[.int .i64 0, .int .i64 0] ?_; intro g4 hg jd hbox hb; refine k4_ Ws_ (hbox) (Wg_ w g4) (Wg_ w g4) ?_; clear HB; intro HB nH yK vW; clear hb hbox hg; obtain ⟨iu, iv, iw, ix⟩ := cH_ (w := jd) nH.out) | ((with_reducible refine ae_ (f := 37) rfl ?_); refine gl_ 13 Tryz.func37 #[.int .i64 ((ac_ l0 bM).f0)] ?_; (with_reducible refine (bJ_.calls ((ac_ l0 bM).f0) false _ A5.out).mono ?_); rintro e w' ⟨rfl, ⟨nd, rfl⟩⟩; refine ⟨_, rfl, ?_⟩))
    go_ret
    exact ⟨Z9, ld_⟩
   obtain rfl := Option.some.inj H
   go_wp2
   go_ret
   exact ⟨Z9, Z2⟩
def cA_.f (l0 : List (S42)) : Option (List (S42)) := if l0.length ≤ 8796093022208 then some l0 else none
set_option maxHeartbeats 8000000 in
set_option maxRecDepth 100000 in
theorem cA_.calls (A0 : Option Addr) (c0 : Nat) (l0 : List (S42)) (r : List (S42)) (w : World) (hr0 : Kd.C k42 w A0 l0.length l0) (hc0 : l0.length ≤ c0) (h : cA_.f l0 = some r) :
  Calls Tryz.prog 64 #[.slice A0 l0.length c0] w fun e w' => ∃ v0_ : Value, e = .returned (v0_) ∧ Kd.R k42 42 w' w.heap.size (fun _ => True) v0_ r ∧ Below w.heap.size w w' := by
 have hn : l0.length ≤ 8796093022208 ∧ l0 = r := by
  unfold cA_.f at h
  split at h
  ·exact ⟨by assumption, Option.some.inj h⟩
  cases h
 obtain ⟨hn, rfl⟩ := hn
 clear h
 have hq : ∀ (w : World) (a : Option Addr) (n c n' c' : Nat), (binOp .eql 26 (.slice a n c) (.slice none n' c')).run Tryz.prog w = .ok (.bool a.isNone) w := fun w a n c n' c' => Lib.run_eql_slice_nil w _ _ a n c n' c' Tryz.underlying26
 have HC := aa_.mk hr0
 have HN := aa_.mk hn
 have HB := aa_.mk (Below.refl w.heap.size w)
 clear hr0 hn
 rcases A0 with _ | ad
 ·have h0 : l0 = [] := by
   cases l0 with
   | nil => rfl
   | cons x xs =>
    obtain ⟨ad, h, _⟩ := HC.out.2.2 (by simp)
    cases h
  subst h0
  clear HC HN
  go_enter Tryz.func64, Tryz.ntmps64
  go_wp2
  go_ret
  exact ⟨_, rfl, Kd.qt_ _ _ _ _ _, Below.refl _ _⟩
 go_enter Tryz.func64, Tryz.ntmps64
 go_wp2_with (at_builtin; refine Kd.qj_ k42 (w0 := w) w.heap.size rfl _ _ 26 42 (.agg #[(.int .i64 0), (.int .i64 0)]) 16 rfl Tryz.underlying26 (by kernel_rfl) rfl (by decide) (by omega) (.slice (some ⟨w.heap.size, 0, none⟩) 0 0) [] l0 _ _ _ (fun _ => True) (fun _ => False) rfl rfl ?aO ?aR (fun _ _ h => h) (fun _ h => h.elim) ?aF ?aB ?aS ?aL ?_)
 case aO => exact ⟨fun _ _ => trivial, [], World.ownsRow_made w #[] 0 (Nat.le_refl _) (Nat.zero_le _) (by simp), aH_.none _ _⟩
 case aR => exact Kd.qg_ HC.out _
 case aF => exact fun _ _ => trivial
 case aB => exact aC_ (Below.refl _ _) _
 case aS => simp
 case aL => have := HN.out; simp only [List.length_nil]; omega
 intro v1 w1 ho hb hg hat
 go_wp2
 go_ret
 exact ⟨_, rfl, ho, hb⟩
def ck_.f (a0 : Int) (a1 : Int) (l2 : List (S42)) : Option (Bool) := if 0 ≤ a0 then (if a0 < (l2.length : Int) then (if 0 ≤ a1 then (if a1 < (l2.length : Int) then (if ((ac_ l2 a0).f0) = ((ac_ l2 a1).f0) then (some (decide (((ac_ l2 a0).f1) < ((ac_ l2 a1).f1)))) else (some (decide (((ac_ l2 a0).f0) < ((ac_ l2 a1).f0))))) else (none)) else (none)) else (none)) else (none)
set_option maxHeartbeats 8000000 in
set_option maxRecDepth 100000 in
theorem ck_.calls (a0 : Int) (a1 : Int) (p2 : Nat) (A2 : Option Addr) (c2 : Nat) (l2 : List (S42)) (r : Bool) (w : World) (hr2 : Kd.C k42 w A2 l2.length l2) (hc2 : l2.length ≤ c2) (hb2 : w.heap[p2]? = some (.cells #[.slice A2 l2.length c2] 26 (0, 0))) (h : ck_.f a0 a1 l2 = some r) :
  Calls Tryz.prog 65 #[.int .i64 a0, .int .i64 a1, .pointer (some ⟨p2, 0, none⟩)] w fun e w' => e = .returned (.bool r) ∧ bH_ w w' := by
 have hu26 := Tryz.underlying26
 have hu3 := Tryz.underlying3
 have HR2 := aa_.mk hr2
 have HC2 := aa_.mk hc2
 clear hr2 hc2
 have Dx := aa_.mk hb2
 clear hb2
 have H := h; unfold ck_.f at H
 clear h
 replace H := id_ H; obtain ⟨da, H⟩ := H
 replace H := id_ H; obtain ⟨dp, H⟩ := H
 replace H := id_ H; obtain ⟨cC, H⟩ := H
 replace H := id_ H; obtain ⟨dJ, H⟩ := H
 replace H := ic_ H; obtain ⟨gN, yE, H⟩ | ⟨gN, yE, c8, H⟩ := H
 ·obtain rfl := Option.some.inj H
  obtain ⟨el, eO⟩ := h6_ (w := w) Dx.out
  obtain ⟨nJ, e423, hx423_0, hx423_1, uL, uM⟩ := cg_ HR2.out a0
  cases e423
  obtain ⟨yM, e424, hx424_0, hx424_1, uN, uO⟩ := cg_ HR2.out a1
  obtain rfl : nJ = yM := (by injection e424)
  obtain ⟨ad425, e425, hx425_0, hx425_1, Gt, Gu⟩ := cg_ HR2.out a0
  obtain rfl : nJ = ad425 := (by injection e425)
  obtain ⟨ad426, e426, hx426_0, hx426_1, Gv, Gw⟩ := cg_ HR2.out a1
  obtain rfl : nJ = ad426 := (by injection e426)
  go_enter Tryz.func65, Tryz.ntmps65
  go_wp2
  repeat (go_quiet (fail); try go_wp2)
  go_ret
  exact ⟨Z14, Z41⟩
 obtain rfl := Option.some.inj H
 obtain ⟨m7, m8⟩ := h6_ (w := w) Dx.out
 obtain ⟨nJ, e423, hx423_0, hx423_1, uL, uM⟩ := cg_ HR2.out a0
 cases e423
 obtain ⟨yM, e424, hx424_0, hx424_1, uN, uO⟩ := cg_ HR2.out a1
 obtain rfl : nJ = yM := (by injection e424)
 obtain ⟨ad427, e427, hx427_0, hx427_1, Gx, Gy⟩ := cg_ HR2.out a0
 obtain rfl : nJ = ad427 := (by injection e427)
 obtain ⟨ad428, e428, hx428_0, hx428_1, Gz, GA⟩ := cg_ HR2.out a1
 obtain rfl : nJ = ad428 := (by injection e428)
 go_enter Tryz.func65, Tryz.ntmps65
 go_wp2
 repeat (go_quiet (fail); try go_wp2)
 go_ret
 exact ⟨Z14, Z41⟩
def ct_.f (l0 : List (S61)) : Option (List (S61)) := if l0.length ≤ 5864062014805 then some l0 else none
set_option maxHeartbeats 8000000 in
set_option maxRecDepth 100000 in
theorem ct_.calls (A0 : Option Addr) (c0 : Nat) (l0 : List (S61)) (r : List (S61)) (w : World) (hr0 : Kd.C k61 w A0 l0.length l0) (hc0 : l0.length ≤ c0) (h : ct_.f l0 = some r) :
  Calls Tryz.prog 88 #[.slice A0 l0.length c0] w fun e w' => ∃ v0_ : Value, e = .returned (v0_) ∧ Kd.R k61 61 w' w.heap.size (fun _ => True) v0_ r ∧ Below w.heap.size w w' := by
 have hn : l0.length ≤ 5864062014805 ∧ l0 = r := by
  unfold ct_.f at h
  split at h
  ·exact ⟨by assumption, Option.some.inj h⟩
  cases h
 obtain ⟨hn, rfl⟩ := hn
 clear h
 have hq : ∀ (w : World) (a : Option Addr) (n c n' c' : Nat), (binOp .eql 24 (.slice a n c) (.slice none n' c')).run Tryz.prog w = .ok (.bool a.isNone) w := fun w a n c n' c' => Lib.run_eql_slice_nil w _ _ a n c n' c' Tryz.underlying24
 have HC := aa_.mk hr0
 have HN := aa_.mk hn
 have HB := aa_.mk (Below.refl w.heap.size w)
 clear hr0 hn
 rcases A0 with _ | ad
 ·have h0 : l0 = [] := by
   cases l0 with
   | nil => rfl
   | cons x xs =>
    obtain ⟨ad, h, _⟩ := HC.out.2.2 (by simp)
    cases h
  subst h0
  clear HC HN
  go_enter Tryz.func88, Tryz.ntmps88
  go_wp2
  go_ret
  exact ⟨_, rfl, Kd.qt_ _ _ _ _ _, Below.refl _ _⟩
 go_enter Tryz.func88, Tryz.ntmps88
 go_wp2_with (at_builtin; refine Kd.qj_ k61 (w0 := w) w.heap.size rfl _ _ 24 61 (.agg #[(.int .i64 0), (.int .i64 0), (.int .i64 0)]) 24 rfl Tryz.underlying24 (by kernel_rfl) rfl (by decide) (by omega) (.slice (some ⟨w.heap.size, 0, none⟩) 0 0) [] l0 _ _ _ (fun _ => True) (fun _ => False) rfl rfl ?aO ?aR (fun _ _ h => h) (fun _ h => h.elim) ?aF ?aB ?aS ?aL ?_)
 case aO => exact ⟨fun _ _ => trivial, [], World.ownsRow_made w #[] 0 (Nat.le_refl _) (Nat.zero_le _) (by simp), aH_.none _ _⟩
 case aR => exact Kd.qg_ HC.out _
 case aF => exact fun _ _ => trivial
 case aB => exact aC_ (Below.refl _ _) _
 case aS => simp
 case aL => have := HN.out; simp only [List.length_nil]; omega
 intro v1 w1 ho hb hg hat
 go_wp2
 go_ret
 exact ⟨_, rfl, ho, hb⟩
def by_.f (a0 : Int) (a1 : Int) (l2 : List (S61)) : Option (Bool) := if 0 ≤ a0 then (if a0 < (l2.length : Int) then (if 0 ≤ a1 then (if a1 < (l2.length : Int) then ((cl_.f ((ab_ l2 a0).f0) ((ab_ l2 a0).f1) ((ab_ l2 a0).f2) ((ab_ l2 a1).f0) ((ab_ l2 a1).f1) ((ab_ l2 a1).f2)).bind fun xh => (some xh)) else (none)) else (none)) else (none)) else (none)
def by_.T1 : Bool × List (List Nat × List Nat) := (true, [([], []), ([], []), ([0, 1], [0, 1]), ([2], [2]), ([], []), ([], []), ([4, 5], [4, 5]), ([6], [6]), ([3, 7], [3, 7]), ([8, 8, 0, 1, 2, 3, 4, 5, 6, 7, 8], [8])])
def by_.B1 : List Nat := [0, 0, 3, 7, 0, 0, 48, 112, 255, 511]
theorem by_.tab1 : bI_ .any (dd_ Tryz.f89 1) = by_.T1 := by kernel_rfl
theorem by_.bits1 : bQ_ by_.T1.2 by_.B1 = true := by kernel_rfl
set_option maxHeartbeats 8000000 in
set_option maxRecDepth 100000 in
theorem by_.calls (a0 : Int) (a1 : Int) (p2 : Nat) (A2 : Option Addr) (c2 : Nat) (l2 : List (S61)) (r : Bool) (w : World) (hr2 : Kd.C k61 w A2 l2.length l2) (hc2 : l2.length ≤ c2) (hb2 : w.heap[p2]? = some (.cells #[.slice A2 l2.length c2] 24 (0, 0))) (h : by_.f a0 a1 l2 = some r) :
  Calls Tryz.prog 89 #[.int .i64 a0, .int .i64 a1, .pointer (some ⟨p2, 0, none⟩)] w fun e w' => e = .returned (.bool r) ∧ Below w.heap.size w w' := by
 have hu24 := Tryz.underlying24
 have hu61 := Tryz.underlying61
 have HR2 := aa_.mk hr2
 have HC2 := aa_.mk hc2
 clear hr2 hc2
 have HB := aa_.mk (Below.refl w.heap.size w)
 have jI := aa_.mk hb2
 clear hb2
 have H := h; unfold by_.f at H
 clear h
 replace H := id_ H; obtain ⟨da, H⟩ := H
 replace H := id_ H; obtain ⟨dp, H⟩ := H
 replace H := id_ H; obtain ⟨cC, H⟩ := H
 replace H := id_ H; obtain ⟨dJ, H⟩ := H
 replace H := bd_ H; obtain ⟨xh, A8, H⟩ := H
 replace H : (some xh) = some r := H
 obtain rfl := Option.some.inj H
 go_enter Tryz.func89, Tryz.ntmps89
 try go_wp2
 refine k2_ (ax_ jI.out) (av_ HB.out) ?_
 clear jI HB
 intro jI HB
 have GB : 0 ≤ (a0 : Int) := of_decide_eq_true (Z8)
 have GC : a0 < (l2.length : Int) := of_decide_eq_true (Z8)
 obtain ⟨gJ, e430, jJ, jK, jL⟩ := di_ HR2.out a0 GB GC
 have hw430_2 := jL
 have hw430_1 := jK
 have hw430_0 := jJ
 cases e430
 replace jJ := (HB.out.cell (World.block_lt_of_cell? w _ jJ)).trans jJ
 replace jK := (HB.out.cell (World.block_lt_of_cell? w _ jK)).trans jK
 replace jL := (HB.out.cell (World.block_lt_of_cell? w _ jL)).trans jL
 replace GB := eq_true GB
 replace GC := eq_true GC
 have GD : 0 ≤ (a1 : Int) := of_decide_eq_true (Z8)
 have GE : a1 < (l2.length : Int) := of_decide_eq_true (Z8)
 obtain ⟨ad431, e431, jM, jN, jO⟩ := di_ HR2.out a1 GD GE
 have hw431_2 := jO
 have hw431_1 := jN
 have hw431_0 := jM
 obtain rfl : gJ = ad431 := (by injection e431)
 replace jM := (HB.out.cell (World.block_lt_of_cell? w _ jM)).trans jM
 replace jN := (HB.out.cell (World.block_lt_of_cell? w _ jN)).trans jN
 replace jO := (HB.out.cell (World.block_lt_of_cell? w _ jO)).trans jO
 replace GD := eq_true GD
 replace GE := eq_true GE
 refine b2_ (n := 10) (S := fun w' => w'.cell? ⟨p2, 0, none⟩ = some (.slice (some gJ) l2.length c2) ∧ w'.cell? (gJ.add ((a0).toNat * 3)) = some (.int .i64 ((ab_ l2 a0).f0)) ∧ w'.cell? ⟨(gJ.add ((a0).toNat * 3)).block, (gJ.add ((a0).toNat * 3)).off + 1, none⟩ = some (.int .i64 ((ab_ l2 a0).f1)) ∧ w'.cell? ⟨(gJ.add ((a0).toNat * 3)).block, (gJ.add ((a0).toNat * 3)).off + 2, none⟩ = some (.int .i64 ((ab_ l2 a0).f2)) ∧ w'.cell? (gJ.add ((a1).toNat * 3)) = some (.int .i64 ((ab_ l2 a1).f0)) ∧ w'.cell? ⟨(gJ.add ((a1).toNat * 3)).block, (gJ.add ((a1).toNat * 3)).off + 1, none⟩ = some (.int .i64 ((ab_ l2 a1).f1)) ∧ w'.cell? ⟨(gJ.add ((a1).toNat * 3)).block, (gJ.add ((a1).toNat * 3)).off + 2, none⟩ = some (.int .i64 ((ab_ l2 a1).f2))) (ds := []) (M_ 0 10) (by kernel_rfl) rfl rfl ⟨(aE_ jI.out 0).trans rfl, ((HB.out.cell (World.block_lt_of_cell? w _ hw430_0)).trans hw430_0), ((HB.out.cell (World.block_lt_of_cell? w _ hw430_1)).trans hw430_1), ((HB.out.cell (World.block_lt_of_cell? w _ hw430_2)).trans hw430_2), ((HB.out.cell (World.block_lt_of_cell? w _ hw431_0)).trans hw431_0), ((HB.out.cell (World.block_lt_of_cell? w _ hw431_1)).trans hw431_1), ((HB.out.cell (World.block_lt_of_cell? w _ hw431_2)).trans hw431_2)⟩ (fun hHeld => ?_); refine bz_ by_.tab1 by_.bits1 (fun HT_ HW_ => ?_)
 generalize w.drew = w9 at jI HB jJ jK jL jM jN jO hHeld ⊢
 refine pu_ 1 7 (N_ 10 2) ?_
 refine pu_ 5 11 (N_ 10 34) ?_
 refine la_ 0 6 (N_ 10 35) hHeld ?_
 refine pu_ 2 8 (N_ 10 39) ?_
 refine la_ 3 9 (N_ 10 47) hHeld ?_
 refine la_ 4 10 (M_ 6 4) hHeld ?_
 refine pu_ 6 12 (M_ 7 3) ?_
 refine la_ 7 13 (M_ 8 2) hHeld ?_
 refine on_ 8 (some 14) (M_ 9 1) (fun K hK => ?_)
 refine cs_ Tryz.func59 (by kernel_rfl) rfl #[.agg #[.int .i64 ((ab_ l2 a0).f0), .int .i64 ((ab_ l2 a0).f1), .int .i64 ((ab_ l2 a0).f2)], .agg #[.int .i64 ((ab_ l2 a1).f0), .int .i64 ((ab_ l2 a1).f1), .int .i64 ((ab_ l2 a1).f2)]] (by rfl) rfl rfl (Z43) ?_
 with_reducible refine (cl_.calls ((ab_ l2 a0).f0) ((ab_ l2 a0).f1) ((ab_ l2 a0).f2) ((ab_ l2 a1).f0) ((ab_ l2 a1).f1) ((ab_ l2 a1).f2) xh _ A8.out).mono ?_
 rintro e jc ⟨rfl, hb⟩
 refine ⟨_, rfl, ?_⟩
 refine k2_ (Ye_ jI) (aq_ (ol_) hb) ?_
 clear jI HB
 intro jI HB
 (try clear hb)
 (try clear hb2)
 refine hK.out _ _ ⟨(aE_ jI.out 0).trans rfl, ((HB.out.cell (World.block_lt_of_cell? w _ hw430_0)).trans hw430_0), ((HB.out.cell (World.block_lt_of_cell? w _ hw430_1)).trans hw430_1), ((HB.out.cell (World.block_lt_of_cell? w _ hw430_2)).trans hw430_2), ((HB.out.cell (World.block_lt_of_cell? w _ hw431_0)).trans hw431_0), ((HB.out.cell (World.block_lt_of_cell? w _ hw431_1)).trans hw431_1), ((HB.out.cell (World.block_lt_of_cell? w _ hw431_2)).trans hw431_2)⟩ (fun hHeld => ?_)
 clear hK K
 refine nm_ 14 ?_
 refine pu_ 9 5 (M_ 10 0) ?_
 refine cw_ (bS_ HT_.out (by kernel_rfl)) ?_
 try go_wp2
 go_ret
 exact ⟨Z9, ol_⟩
theorem iR_ {p : Prop} (h : p := by repeat' first | (with_reducible first | apply ih0 | apply ih0 | apply ap_.mono | apply ap_.mono | apply as_.mono | apply as_.mono | apply aM_.mono | apply aM_.mono | apply bk_.mono | apply bk_.mono | exact LeO.refl _ | exact LeO.none _ | refine LeO.ite ?_ ?_ | refine LeO.bind ?_ (fun _ => ?_)) | exact LeO.none _ | refine LeO.ite ?_ ?_ | refine LeO.bind ?_ (fun _ => ?_)) : p := h
def bn_ (w0 W : World) (g : Nat) (f0 : Int) (f1 : Int) (f2 : Int) : Prop := W.heap[g]? = some (.cells #[.int .i64 f0, .int .i64 f1, .int .i64 f2] 61 (0, 0)) ∧ w0.heap.size ≤ g
theorem bn_.grown {w0 W : World} {g : Nat} {f0 : Int} {f1 : Int} {f2 : Int} {W1 : World} {row : Option Nat} (h : bn_ w0 W g f0 f1 f2) (hw : W.grownBy W1 row) (hne : some g ≠ row) : bn_ w0 W1 g f0 f1 f2 := by
 obtain ⟨hb, hg⟩ := h
 exact ⟨bg_ hb hw hne, hg⟩
theorem bn_.own_neN {w0 W : World} {g : Nat} {f0 : Int} {f1 : Int} {f2 : Int} {α : Type} {d : Kd α} {e : Nat} {base : Nat} {ok : Nat → Prop} {v : Value} {xs : List α} (h : bn_ w0 W g f0 f1 f2) (ho : Kd.N d e W base ok v xs) (ht : e ≠ 61) : some g ≠ v.ownBlock := by
 obtain ⟨hb, hg⟩ := h
 exact Kd.N_ne ho hb ht
theorem bn_.fresh {w0 W : World} {g : Nat} {f0 : Int} {f1 : Int} {f2 : Int} (h : bn_ w0 W g f0 f1 f2) : ∀ k, W.heap.size ≤ k → k ≠ g := by
 obtain ⟨hb, hg⟩ := h
 exact Kd.freshB hb
theorem bn_.kept {w0 W : World} {g : Nat} {f0 : Int} {f1 : Int} {f2 : Int} {W1 : World} {S : Nat → Prop} (h : bn_ w0 W g f0 f1 f2) (hk : ce_ W W1 S) (hne : ¬ S g) : bn_ w0 W1 g f0 f1 f2 := by
 obtain ⟨hb, hg⟩ := h
 exact ⟨gX_ hb hk hne, hg⟩
theorem bn_.below {w0 W : World} {g : Nat} {f0 : Int} {f1 : Int} {f2 : Int} {W1 : World} (h : bn_ w0 W g f0 f1 f2) (hw : Below W.heap.size W W1) : bn_ w0 W1 g f0 f1 f2 := h.grown (d3_ hw none) (by simp)
theorem bn_.alloc {w0 W : World} {g : Nat} {f0 : Int} {f1 : Int} {f2 : Int} (h : bn_ w0 W g f0 f1 f2) (o : Obj) : bn_ w0 (W.alloc o) g f0 f1 f2 := h.below (aC_ (Below.refl _ _) o)
theorem bn_.drewN {w0 W : World} {g : Nat} {f0 : Int} {f1 : Int} {f2 : Int} (h : bn_ w0 W g f0 f1 f2) (m : Nat) : bn_ w0 (W.drewN m) g f0 f1 f2 := h
theorem bn_.drew {w0 W : World} {g : Nat} {f0 : Int} {f1 : Int} {f2 : Int} (h : bn_ w0 W g f0 f1 f2) : bn_ w0 W.drew g f0 f1 f2 := h
theorem bn_.at_ {w0 W : World} {g : Nat} {f0 : Int} {f1 : Int} {f2 : Int} {w' : World} {m : Nat} (hq : W.drewN m = w') (h : bn_ w0 W g f0 f1 f2) : bn_ w0 w' g f0 f1 f2 := by subst hq; exact bn_.drewN h m
theorem bn_.apart {w0 W : World} {g : Nat} {f0 : Int} {f1 : Int} {f2 : Int} {α : Type} {d : Kd α} {e : Nat} {base : Nat} {ok : Nat → Prop} {v : Value} {xs : List α} (h : bn_ w0 W g f0 f1 f2) (ho : d.R e W base ok v xs) (ht : ∀ q, q ∈ e :: d.E → q ≠ 61) : d.R e W base (fun k => ok k ∧ k ≠ g) v xs := by
 obtain ⟨hb, hg⟩ := h
 exact Kd.qf_ ho hb ht
theorem bn_.own_ne {w0 W : World} {g : Nat} {f0 : Int} {f1 : Int} {f2 : Int} {α : Type} {d : Kd α} {e : Nat} {base : Nat} {ok : Nat → Prop} {v : Value} {xs : List α} (h : bn_ w0 W g f0 f1 f2) (ho : d.R e W base ok v xs) (ht : e ≠ 61) : some g ≠ v.ownBlock := by
 obtain ⟨hb, hg⟩ := h
 exact Kd.qb_ ho hb ht
theorem bn_.apartQ {w0 W : World} {g : Nat} {f0 : Int} {f1 : Int} {f2 : Int} {α : Type} {d : Kd α} {e : Nat} {base : Nat} {ok : Nat → Prop} {v : Value} {xs : List α} (h : bn_ w0 W g f0 f1 f2) (ho : d.Q e W base ok v xs) (ht : ∀ q, q ∈ e :: d.E → q ≠ 61) : d.Q e W base (fun k => ok k ∧ k ≠ g) v xs := by
 obtain ⟨hb, hg⟩ := h
 exact Kd.Q_types ho hb ht
theorem bn_.own_neQ {w0 W : World} {g : Nat} {f0 : Int} {f1 : Int} {f2 : Int} {α : Type} {d : Kd α} {e : Nat} {base : Nat} {ok : Nat → Prop} {v : Value} {xs : List α} (h : bn_ w0 W g f0 f1 f2) (ho : d.Q e W base ok v xs) (ht : e ≠ 61) : some g ≠ v.ownBlock := by
 obtain ⟨hb, hg⟩ := h
 exact Kd.Q_ne ho hb ht
theorem bn_.apartS {w0 W : World} {g : Nat} {f0 : Int} {f1 : Int} {f2 : Int} {α : Type} {d : Kd α} {e : Nat} {base : Nat} {ok : Nat → Prop} {v : Value} {xs : List α} (h : bn_ w0 W g f0 f1 f2) (ho : d.S e W base ok v xs) (ht : ∀ q, q ∈ e :: d.E → q ≠ 61) : d.S e W base (fun k => ok k ∧ k ≠ g) v xs := by
 obtain ⟨hb, hg⟩ := h
 exact Kd.S_types ho hb ht
theorem bn_.own_neS {w0 W : World} {g : Nat} {f0 : Int} {f1 : Int} {f2 : Int} {α : Type} {d : Kd α} {e : Nat} {base : Nat} {ok : Nat → Prop} {v : Value} {xs : List α} (h : bn_ w0 W g f0 f1 f2) (ho : d.S e W base ok v xs) (ht : e ≠ 61) : some g ≠ v.ownBlock := by
 obtain ⟨hb, hg⟩ := h
 exact Kd.S_ne ho hb ht
theorem bn_.lt {w0 W : World} {g : Nat} {f0 : Int} {f1 : Int} {f2 : Int} (h : bn_ w0 W g f0 f1 f2) : g < W.heap.size := by
 obtain ⟨hb, hg⟩ := h
 exact bV_ hb
theorem bn_.ge {w0 W : World} {g : Nat} {f0 : Int} {f1 : Int} {f2 : Int} (h : bn_ w0 W g f0 f1 f2) : w0.heap.size ≤ g := by
 obtain ⟨hb, hg⟩ := h
 exact hg
theorem bn_.ne_blk {w0 W : World} {g : Nat} {f0 : Int} {f1 : Int} {f2 : Int} {a : Nat} {cs : Array Value} {t : TypeId} {fr : Nat × Nat} (h : bn_ w0 W g f0 f1 f2) (hb2 : W.heap[a]? = some (.cells cs t fr)) (ht : t ≠ 61) : g ≠ a := by
 obtain ⟨hb, hg⟩ := h
 rintro rfl
 rw [hb] at hb2
 injection hb2 with hb2
 injection hb2 with _ ht2
 exact ht ht2.symm
theorem bn_.far {w0 W : World} {g : Nat} {f0 : Int} {f1 : Int} {f2 : Int} {p : Addr} (h : bn_ w0 W g f0 f1 f2) (hne : g ≠ p.block) (u : Value) : bn_ w0 (W.setCell p u) g f0 f1 f2 := by
 obtain ⟨hb, hg⟩ := h
 exact ⟨c0_ hb hne u, hg⟩
theorem po_ {W : World} {g : Nat} {f0 : Int} {f1 : Int} {f2 : Int} (h : W.heap[g]? = some (.cells #[.int .i64 f0, .int .i64 f1, .int .i64 f2] 61 (0, 0))) : W.cell? ⟨g, 0, none⟩ = some (.int .i64 f0) := (aE_ h 0).trans rfl
theorem bn_.set_0 {w0 W : World} {g : Nat} {f0 : Int} {f1 : Int} {f2 : Int} (h : bn_ w0 W g f0 f1 f2) (x : Int) : bn_ w0 (W.setCell ⟨g, 0, none⟩ (.int .i64 x)) g x f1 f2 := by
 obtain ⟨hb, hg⟩ := h
 exact ⟨by simpa using d4_ hb 0 (.int .i64 x), hg⟩
theorem pl_ {W : World} {g : Nat} {f0 : Int} {f1 : Int} {f2 : Int} (h : W.heap[g]? = some (.cells #[.int .i64 f0, .int .i64 f1, .int .i64 f2] 61 (0, 0))) : W.cell? ⟨g, 1, none⟩ = some (.int .i64 f1) := (aE_ h 1).trans rfl
theorem bn_.set_1 {w0 W : World} {g : Nat} {f0 : Int} {f1 : Int} {f2 : Int} (h : bn_ w0 W g f0 f1 f2) (x : Int) : bn_ w0 (W.setCell ⟨g, 1, none⟩ (.int .i64 x)) g f0 x f2 := by
 obtain ⟨hb, hg⟩ := h
 exact ⟨by simpa using d4_ hb 1 (.int .i64 x), hg⟩
theorem pk_ {W : World} {g : Nat} {f0 : Int} {f1 : Int} {f2 : Int} (h : W.heap[g]? = some (.cells #[.int .i64 f0, .int .i64 f1, .int .i64 f2] 61 (0, 0))) : W.cell? ⟨g, 2, none⟩ = some (.int .i64 f2) := (aE_ h 2).trans rfl
theorem bn_.set_2 {w0 W : World} {g : Nat} {f0 : Int} {f1 : Int} {f2 : Int} (h : bn_ w0 W g f0 f1 f2) (x : Int) : bn_ w0 (W.setCell ⟨g, 2, none⟩ (.int .i64 x)) g f0 f1 x := by
 obtain ⟨hb, hg⟩ := h
 exact ⟨by simpa using d4_ hb 2 (.int .i64 x), hg⟩
theorem bn_.new (w0 W : World) (f0 : Int) (f1 : Int) (f2 : Int) (hB : Below w0.heap.size w0 W) : bn_ w0 (W.alloc (.cells #[.int .i64 f0, .int .i64 f1, .int .i64 f2] 61)) W.heap.size f0 f1 f2 := ⟨by simpa using heap_alloc_new W _, hB.size⟩
instance mN_ : Inhabited S61 := ⟨z61⟩
def a6_ (a b : S61) : Bool := decide (a.f1 < b.f1 ∨ (a.f1 = b.f1 ∧ a.f0 < b.f0))
theorem a6_.swo : Go.Sort.SWO a6_ := by
 constructor
 ·intro x; unfold a6_; exact decide_eq_false (by omega)
 ·intro x y z h1 h2; unfold a6_ at *; have := of_decide_eq_true h1; have := of_decide_eq_true h2; exact decide_eq_true (by omega)
 intro x y z h1 h2; unfold a6_ at *; have := of_decide_eq_false h1; have := of_decide_eq_false h2; exact decide_eq_false (by omega)
def bR_.f (l : List S61) : Option (List S61) := if l.length ≤ 8796093022208 ∧ ∀ a ∈ l, ∀ b ∈ l, a6_ a b = false → a6_ b a = false → a.f0 = b.f0 ∧ a.f1 = b.f1 ∧ a.f2 = b.f2 then some (l.mergeSort (fun a b => !a6_ b a)) else none
theorem bR_.uniq {l r ys : List S61} (h : bR_.f l = some r) (hp : ys.Perm l) (hs : ys.Pairwise (fun a b => a6_ b a = false)) : ys = r := by
 unfold bR_.f at h
 split at h
 ·rename_i hc
  obtain rfl := Option.some.inj h
  have hO := a6_.swo
  have hm := List.mergeSort_perm l (fun a b => !a6_ b a)
  have hq : (l.mergeSort (fun a b => !a6_ b a)).Pairwise (fun a b => a6_ b a = false) := by
   have := List.pairwise_mergeSort (le := fun a b => !a6_ b a) (by
    intro a b c h1 h2
    simp only [Bool.not_eq_true'] at *
    exact hO.ntrans c b a h2 h1) (by
    intro a b
    simp only [Bool.or_eq_true, Bool.not_eq_true']
    by_cases h : a6_ b a = true
    ·right
     cases h2 : a6_ a b with
     | false => rfl
     | true => have := hO.trans a b a h2 h; rw [hO.irrefl] at this; cases this
    left; exact Bool.eq_false_iff.2 h) l
   exact this.imp (fun h => by simpa using h)
  refine dR_ (fun a b => a6_ b a = false) ys _ (hp.trans hm.symm) hs hq (fun a ha b hb h1 h2 => ?_)
  have := hc.2 a (hp.mem_iff.1 ha) b (hp.mem_iff.1 hb) h2 h1
  obtain ⟨a0, a1, a2⟩ := a
  obtain ⟨b0, b1, b2⟩ := b
  simp only at this
  obtain ⟨rfl, rfl, rfl⟩ := this
  rfl
 cases h
theorem bR_.short {l r : List S61} (h : bR_.f l = some r) : l.length < 1152921504606846976 := by
 unfold bR_.f at h
 split at h
 ·omega
 cases h
theorem by_.lt (i j : Nat) (l : List S61) (hi : i < l.length) (hj : j < l.length) : by_.f i j l = some (a6_ l[i]! l[j]!) := by
 have e1 : ab_ l (i : Int) = l[i]! := by unfold ab_; rw [Int.toNat_natCast, List.getD_eq_getElem?_getD, List.getElem?_eq_getElem hi, getElem!_pos l i hi]; rfl
 have e2 : ab_ l (j : Int) = l[j]! := by unfold ab_; rw [Int.toNat_natCast, List.getD_eq_getElem?_getD, List.getElem?_eq_getElem hj, getElem!_pos l j hj]; rfl
 unfold by_.f
 rw [if_pos (by omega), if_pos (by omega), if_pos (by omega), if_pos (by omega), e1, e2]
 unfold cl_.f a6_
 split
 ·simp only [Option.bind_some, Option.some.injEq, decide_eq_decide]; omega
 simp only [Option.bind_some, Option.some.injEq, decide_eq_decide]; omega
noncomputable def bk_.ie : TypeInfo := (Tryz.prog.info? 61).get (by kernel_rfl)
noncomputable def bk_.it : TypeInfo := (Tryz.prog.info? 24).get (by kernel_rfl)
set_option maxHeartbeats 2000000 in
theorem bk_.sorts (xs zs : List S61) (A : Option Addr) (c : Nat) (gb base : Nat) (W : World) (hz : bR_.f xs = some zs) (hR : Kd.R k61 61 W base (fun k_ => k_ ≠ gb) (.slice A xs.length c) xs)
  (hbx : W.heap[gb]? = some (.cells #[.slice A xs.length c] 24 (0, 0))) :
  Calls Tryz.prog 34 #[.iface 24 (.slice A xs.length c), .func (.func 89) #[] #[.pointer (some ⟨gb, 0, none⟩)]] W fun e' w' => e' = .returned (.tuple #[]) ∧
   xs.length = zs.length ∧ Kd.R k61 61 w' base (fun k_ => k_ ≠ gb) (.slice A zs.length c) zs ∧ w'.heap[gb]? = some (.cells #[.slice A zs.length c] 24 (0, 0)) ∧ W.grownBy w' (Value.ownBlock (.slice A xs.length c)) := by
 have hgb : gb < W.heap.size := (Array.getElem?_eq_some_iff.1 hbx).1
 have hne : some gb ≠ Value.ownBlock (.slice A xs.length c) := fun e => hR.1 gb e.symm rfl
 have hK : ∀ n, Lib.swapperK n bk_.ie 25 = if n = 0 then 1 else if n = 1 then 2 else 9 := by
  intro n
  have a : bk_.ie.hasPointers = false := by kernel_rfl
  have b : bk_.ie.bytes = 24 := by kernel_rfl
  rcases Nat.lt_or_ge n 2 with h | h
  ·rcases Nat.eq_zero_or_pos n with h0 | h0
   ·subst h0; simp [Lib.swapperK]
   obtain rfl : n = 1 := by omega
   simp [Lib.swapperK]
  have c : (n == 0) = false := by simp; omega
  have d : (n == 1) = false := by simp; omega
  rw [if_neg (by omega), if_neg (by omega)]
  simp [Lib.swapperK, a, b, c, d]
 have hf : ∀ n, Tryz.prog.funcs.findIdx? (·.name == "internal/reflectlite" ++ ".Swapper$" ++ toString (Lib.swapperK n bk_.ie 25)) = some (if n = 0 then 91 else if n = 1 then 92 else 99) := by
  intro n
  rw [hK]
  by_cases h0 : n = 0
  ·rw [if_pos h0, if_pos h0]; kernel_rfl
  rw [if_neg h0, if_neg h0]
  by_cases h1 : n = 1
  ·rw [if_pos h1, if_pos h1]; kernel_rfl
  rw [if_neg h1, if_neg h1]; kernel_rfl
 refine (gh_ Tryz.laysGt8 24 61 bk_.it bk_.ie (by kernel_rfl) (by kernel_rfl) (by kernel_rfl) (by kernel_rfl) 25 (fun _ => by kernel_rfl) k61 (fun x => [.int .i64 x.f0, .int .i64 x.f1, .int .i64 x.f2]) (fun w base ok x cs => by show k61.M w base ok x cs ↔ _; exact ⟨c6_, fun h => h ▸ b9_ _ _ _ _⟩) (fun _ => rfl) (by kernel_rfl) (fun _ => by kernel_rfl) a6_ a6_.swo 89 #[.pointer (some ⟨gb, 0, none⟩)]
  (enters_of Tryz.func89 (by kernel_rfl) rfl) false _ hf (fun n h2 args W => by
   rw [if_neg (by omega), if_neg (by omega)]
   exact run_callFunc_extern Tryz.func99 (by kernel_rfl) (by kernel_rfl) (by kernel_rfl) (e := Extern.ReflectliteSwapper.swap false) (by kernel_rfl) args W) A c xs base (fun k_ => k_ ≠ gb) W (bR_.short hz) hR ?_).mono ?_
 ·intro W' ys hl hC hg i j hi hj
  have hb' : W'.heap[gb]? = some (.cells #[.slice A ys.length c] 24 (0, 0)) := by rw [hg.block gb hgb hne, hbx, hl]
  have hc : xs.length ≤ c := (Kd.pV_ hR).2.1
  have := by_.calls i j gb A c ys (a6_ ys[i]! ys[j]!) W' (by rw [hl]; exact hC) (by omega) hb' (by_.lt i j ys (by omega) (by omega))
  exact this.mono fun e w h => ⟨h.1, h.2⟩
 rintro e' w' ⟨he, ys, hp, hs, ho, hg⟩
 obtain rfl := bR_.uniq hz hp hs
 have hl := hp.length_eq
 rw [← hl] at ho
 exact ⟨he, hl.symm, ho, by rw [hg.block gb hgb hne, hbx, hl], hg⟩
def bk_.f (k : Nat) (l0 : List (S61)) : Option ((List (S61)) × Bool) := if (l0.length : Int) > 60 then (some (([] : List (S61)), false)) else ((ct_.f l0).bind fun e6 => ((bR_.f e6).bind fun iR => ((as_.f k iR).bind fun mJ => (if mJ = true then (some (iR, true)) else (some (([] : List (S61)), false))))))
theorem bk_.mono : ∀ a0 k, LeO (bk_.f k a0) (bk_.f (k + 1) a0) := by
 intro a0 k
 unfold bk_.f
 exact iR_
set_option maxHeartbeats 8000000 in
set_option maxRecDepth 100000 in
theorem bk_.calls (k : Nat) (A0 : Option Addr) (c0 : Nat) (l0 : List (S61)) (r1 : List (S61)) (r2 : Bool) (w : World) (hr0 : Kd.C k61 w A0 l0.length l0) (hc0 : l0.length ≤ c0) (h : bk_.f k l0 = some (r1, r2)) :
  Calls Tryz.prog 66 #[.slice A0 l0.length c0] w fun e w' => ∃ v0_ : Value, e = .returned (.tuple #[v0_, .bool r2]) ∧ Kd.R k61 61 w' w.heap.size (fun _ => True) v0_ r1 ∧ Below w.heap.size w w' := by
 have HR0 := aa_.mk hr0
 have HC0 := aa_.mk hc0
 clear hr0 hc0
 have HB := aa_.mk (Below.refl w.heap.size w)
 have H := h; unfold bk_.f at H
 clear h
 replace H := iw_ H; obtain ⟨c2, H⟩ | ⟨c2, H⟩ := H
 ·have dB : decide (60 < (l0.length : Int)) = true := decide_eq_true c2
  have BQ : decide (60 < l0.length) = true := decide_eq_true (by omega)
  clear c2
  obtain ⟨rfl, rfl⟩ := sp_ H; clear H
  go_enter Tryz.func66, Tryz.ntmps66
  go_wp2
  go_ret2
  exact ⟨_, Z9, Z17, Z2⟩
 have dB : decide (60 < (l0.length : Int)) = false := decide_eq_false c2
 have BQ : decide (60 < l0.length) = false := decide_eq_false (by omega)
 clear c2
 replace H := bd_ H; obtain ⟨e6, A3, H⟩ := H
 replace H := bd_ H; obtain ⟨iR, A4, H⟩ := H
 replace H := bd_ H; obtain ⟨mJ, A5, H⟩ := H
 replace H := it_ H; obtain ⟨rfl, H⟩ | ⟨rfl, H⟩ := H
 ·obtain ⟨rfl, rfl⟩ := sp_ H; clear H
  go_enter Tryz.func66, Tryz.ntmps66
  go_wp2_with (first | ((with_reducible refine ae_ (f := 88) rfl ?_); refine gl_ 9 Tryz.func88 #[.slice A0 l0.length c0] ?_; (with_reducible refine (ct_.calls _ _ l0 e6 _ ?_ ?_ A3.out).mono ?_); exact (Z15 HR0); exact HC0.out; rintro e w7 ⟨v232, rfl, ho0, hb⟩; refine ⟨_, rfl, ?_⟩; refine k2_ Wo_ Ws_ ?_; clear HB; intro eS HB; (try clear hb ho0); obtain ⟨BK, BL, NC⟩ := Kd.pW_ eS.out; subst NC) | ((with_reducible refine au_ (N := 4) rfl ?_); refine bv_ 4 24 #[.slice none 0 0] ?_; intro gbS hg wS hbox hb; refine k4_ (Kd.pX_ (Kd.p5_ (Kd.p6_ (Z1 eS) gbS (Nat.le_of_eq hg.symm)) hb) (ok' := fun k_ => k_ ≠ gbS) (fun _ hk => hk.2)) Ws_ hbox (Wg_ w gbS) ?_; clear eS HB; intro eS HB BKS GES; clear hb hbox hg; have hcS : wS.cell? ⟨gbS, 0, none⟩ = some (.slice none 0 0) := (aE_ BKS.out 0).trans rfl; have hfS := a1_ BKS.out 0) | ((with_reducible refine ae_ (f := 34) rfl ?_); refine ey_ (some 13) rfl rfl Tryz.func34 (by kernel_rfl) rfl #[.iface 24 (.slice BK e6.length BL), .func (.func 89) #[] #[.pointer (some ⟨gbS, 0, none⟩)]] rfl (Z99) ?_; refine (bk_.sorts e6 iR BK BL gbS w.heap.size (wS.setCell ⟨gbS, 0, none⟩ (.slice BK e6.length BL)) A4.out (Kd.p4_ (p := ⟨gbS, 0, none⟩) eS.out (fun _ hk => hk) (.slice BK e6.length BL)) (bb_ (cs := #[.slice none 0 0]) BKS.out 0 (.slice BK e6.length BL) rfl)).mono ?_; rintro e wT ⟨rfl, hln, ho, hbx, hg⟩; refine ⟨_, rfl, ?_⟩; have n1_ := aa_.mk ((aK_ HB.out GES.out).grown hg (mu_) (fun k_ hk_ => Kd.p9_ eS.out k_ hk_)); clear eS HB BKS hcS hfS hg; have fo := aa_.mk ho; have HB := n1_; have BKS := aa_.mk hbx; clear ho hbx n1_; have hcS : wT.cell? ⟨gbS, 0, none⟩ = some (.slice BK iR.length BL) := (aE_ BKS.out 0).trans rfl; rw [hln]) | ((with_reducible refine ae_ (f := 28) rfl ?_); refine gl_ 15 Tryz.func28 #[.slice BK iR.length BL] ?_; (with_reducible refine (as_.calls k _ _ iR true _ ?_ ?_ A5.out).mono ?_); exact (Z3 fo); exact (Kd.pV_ fo.out).2.1; rintro e nI ⟨rfl, hb⟩; refine ⟨_, rfl, ?_⟩; have n0_ := aa_.mk (cj_ (g := gbS) BKS.out hb); have n1_ := aa_.mk (Ya_ fo); have n2_ := aa_.mk Ws_; clear fo; clear HB; clear BKS hcS; have BKS := n0_; have hcS : nI.cell? ⟨gbS, 0, none⟩ = some (.slice BK iR.length BL) := (aE_ BKS.out 0).trans rfl; have fo := n1_; have HB := n2_; clear n0_ n1_ n2_; (try clear hb)))
  go_ret2
  exact ⟨_, Z9, Z38 fo, Z2⟩
 obtain ⟨rfl, rfl⟩ := sp_ H; clear H
 go_enter Tryz.func66, Tryz.ntmps66
 go_wp2_with (first | ((with_reducible refine ae_ (f := 88) rfl ?_); refine gl_ 9 Tryz.func88 #[.slice A0 l0.length c0] ?_; (with_reducible refine (ct_.calls _ _ l0 e6 _ ?_ ?_ A3.out).mono ?_); exact (Z15 HR0); exact HC0.out; rintro e qT ⟨v232, rfl, ho0, hb⟩; refine ⟨_, rfl, ?_⟩; refine k2_ Wo_ Ws_ ?_; clear HB; intro eS HB; (try clear hb ho0); obtain ⟨oF, oG, GF⟩ := Kd.pW_ eS.out; subst GF) | ((with_reducible refine au_ (N := 4) rfl ?_); refine bv_ 4 24 #[.slice none 0 0] ?_; intro gbS hg wS hbox hb; refine k4_ (Kd.pX_ (Kd.p5_ (Kd.p6_ (Z1 eS) gbS (Nat.le_of_eq hg.symm)) hb) (ok' := fun k_ => k_ ≠ gbS) (fun _ hk => hk.2)) Ws_ hbox (Wg_ w gbS) ?_; clear eS HB; intro eS HB BKS GES; clear hb hbox hg; have hcS : wS.cell? ⟨gbS, 0, none⟩ = some (.slice none 0 0) := (aE_ BKS.out 0).trans rfl; have hfS := a1_ BKS.out 0) | ((with_reducible refine ae_ (f := 34) rfl ?_); refine ey_ (some 13) rfl rfl Tryz.func34 (by kernel_rfl) rfl #[.iface 24 (.slice oF e6.length oG), .func (.func 89) #[] #[.pointer (some ⟨gbS, 0, none⟩)]] rfl (Z99) ?_; refine (bk_.sorts e6 iR oF oG gbS w.heap.size (wS.setCell ⟨gbS, 0, none⟩ (.slice oF e6.length oG)) A4.out (Kd.p4_ (p := ⟨gbS, 0, none⟩) eS.out (fun _ hk => hk) (.slice oF e6.length oG)) (bb_ (cs := #[.slice none 0 0]) BKS.out 0 (.slice oF e6.length oG) rfl)).mono ?_; rintro e wT ⟨rfl, hln, ho, hbx, hg⟩; refine ⟨_, rfl, ?_⟩; have n1_ := aa_.mk ((aK_ HB.out GES.out).grown hg (mu_) (fun k_ hk_ => Kd.p9_ eS.out k_ hk_)); clear eS HB BKS hcS hfS hg; have fo := aa_.mk ho; have HB := n1_; have BKS := aa_.mk hbx; clear ho hbx n1_; have hcS : wT.cell? ⟨gbS, 0, none⟩ = some (.slice oF iR.length oG) := (aE_ BKS.out 0).trans rfl; rw [hln]) | ((with_reducible refine ae_ (f := 28) rfl ?_); refine gl_ 15 Tryz.func28 #[.slice oF iR.length oG] ?_; (with_reducible refine (as_.calls k _ _ iR false _ ?_ ?_ A5.out).mono ?_); exact (Z3 fo); exact (Kd.pV_ fo.out).2.1; rintro e lR ⟨rfl, hb⟩; refine ⟨_, rfl, ?_⟩; have n0_ := aa_.mk (cj_ (g := gbS) BKS.out hb); have n1_ := aa_.mk (Ya_ fo); have n2_ := aa_.mk Ws_; clear fo; clear HB; clear BKS hcS; have BKS := n0_; have hcS : lR.cell? ⟨gbS, 0, none⟩ = some (.slice oF iR.length oG) := (aE_ BKS.out 0).trans rfl; have fo := n1_; have HB := n2_; clear n0_ n1_ n2_; (try clear hb)))
 go_ret2
 exact ⟨_, Z9, Z17, Z2⟩
def br_ (w0 W : World) (g : Nat) (f0 : Int) (f1 : Int) : Prop := W.heap[g]? = some (.cells #[.int .i64 f0, .int .i64 f1] 42 (0, 0)) ∧ w0.heap.size ≤ g
theorem br_.grown {w0 W : World} {g : Nat} {f0 : Int} {f1 : Int} {W1 : World} {row : Option Nat} (h : br_ w0 W g f0 f1) (hw : W.grownBy W1 row) (hne : some g ≠ row) : br_ w0 W1 g f0 f1 := by
 obtain ⟨hb, hg⟩ := h
 exact ⟨bg_ hb hw hne, hg⟩
theorem br_.own_neN {w0 W : World} {g : Nat} {f0 : Int} {f1 : Int} {α : Type} {d : Kd α} {e : Nat} {base : Nat} {ok : Nat → Prop} {v : Value} {xs : List α} (h : br_ w0 W g f0 f1) (ho : Kd.N d e W base ok v xs) (ht : e ≠ 42) : some g ≠ v.ownBlock := by
 obtain ⟨hb, hg⟩ := h
 exact Kd.N_ne ho hb ht
theorem br_.fresh {w0 W : World} {g : Nat} {f0 : Int} {f1 : Int} (h : br_ w0 W g f0 f1) : ∀ k, W.heap.size ≤ k → k ≠ g := by
 obtain ⟨hb, hg⟩ := h
 exact Kd.freshB hb
theorem br_.kept {w0 W : World} {g : Nat} {f0 : Int} {f1 : Int} {W1 : World} {S : Nat → Prop} (h : br_ w0 W g f0 f1) (hk : ce_ W W1 S) (hne : ¬ S g) : br_ w0 W1 g f0 f1 := by
 obtain ⟨hb, hg⟩ := h
 exact ⟨gX_ hb hk hne, hg⟩
theorem br_.below {w0 W : World} {g : Nat} {f0 : Int} {f1 : Int} {W1 : World} (h : br_ w0 W g f0 f1) (hw : Below W.heap.size W W1) : br_ w0 W1 g f0 f1 := h.grown (d3_ hw none) (by simp)
theorem br_.alloc {w0 W : World} {g : Nat} {f0 : Int} {f1 : Int} (h : br_ w0 W g f0 f1) (o : Obj) : br_ w0 (W.alloc o) g f0 f1 := h.below (aC_ (Below.refl _ _) o)
theorem br_.drewN {w0 W : World} {g : Nat} {f0 : Int} {f1 : Int} (h : br_ w0 W g f0 f1) (m : Nat) : br_ w0 (W.drewN m) g f0 f1 := h
theorem br_.drew {w0 W : World} {g : Nat} {f0 : Int} {f1 : Int} (h : br_ w0 W g f0 f1) : br_ w0 W.drew g f0 f1 := h
theorem br_.at_ {w0 W : World} {g : Nat} {f0 : Int} {f1 : Int} {w' : World} {m : Nat} (hq : W.drewN m = w') (h : br_ w0 W g f0 f1) : br_ w0 w' g f0 f1 := by subst hq; exact br_.drewN h m
theorem br_.apart {w0 W : World} {g : Nat} {f0 : Int} {f1 : Int} {α : Type} {d : Kd α} {e : Nat} {base : Nat} {ok : Nat → Prop} {v : Value} {xs : List α} (h : br_ w0 W g f0 f1) (ho : d.R e W base ok v xs) (ht : ∀ q, q ∈ e :: d.E → q ≠ 42) : d.R e W base (fun k => ok k ∧ k ≠ g) v xs := by
 obtain ⟨hb, hg⟩ := h
 exact Kd.qf_ ho hb ht
theorem br_.own_ne {w0 W : World} {g : Nat} {f0 : Int} {f1 : Int} {α : Type} {d : Kd α} {e : Nat} {base : Nat} {ok : Nat → Prop} {v : Value} {xs : List α} (h : br_ w0 W g f0 f1) (ho : d.R e W base ok v xs) (ht : e ≠ 42) : some g ≠ v.ownBlock := by
 obtain ⟨hb, hg⟩ := h
 exact Kd.qb_ ho hb ht
theorem br_.apartQ {w0 W : World} {g : Nat} {f0 : Int} {f1 : Int} {α : Type} {d : Kd α} {e : Nat} {base : Nat} {ok : Nat → Prop} {v : Value} {xs : List α} (h : br_ w0 W g f0 f1) (ho : d.Q e W base ok v xs) (ht : ∀ q, q ∈ e :: d.E → q ≠ 42) : d.Q e W base (fun k => ok k ∧ k ≠ g) v xs := by
 obtain ⟨hb, hg⟩ := h
 exact Kd.Q_types ho hb ht
theorem br_.own_neQ {w0 W : World} {g : Nat} {f0 : Int} {f1 : Int} {α : Type} {d : Kd α} {e : Nat} {base : Nat} {ok : Nat → Prop} {v : Value} {xs : List α} (h : br_ w0 W g f0 f1) (ho : d.Q e W base ok v xs) (ht : e ≠ 42) : some g ≠ v.ownBlock := by
 obtain ⟨hb, hg⟩ := h
 exact Kd.Q_ne ho hb ht
theorem br_.apartS {w0 W : World} {g : Nat} {f0 : Int} {f1 : Int} {α : Type} {d : Kd α} {e : Nat} {base : Nat} {ok : Nat → Prop} {v : Value} {xs : List α} (h : br_ w0 W g f0 f1) (ho : d.S e W base ok v xs) (ht : ∀ q, q ∈ e :: d.E → q ≠ 42) : d.S e W base (fun k => ok k ∧ k ≠ g) v xs := by
 obtain ⟨hb, hg⟩ := h
 exact Kd.S_types ho hb ht
theorem br_.own_neS {w0 W : World} {g : Nat} {f0 : Int} {f1 : Int} {α : Type} {d : Kd α} {e : Nat} {base : Nat} {ok : Nat → Prop} {v : Value} {xs : List α} (h : br_ w0 W g f0 f1) (ho : d.S e W base ok v xs) (ht : e ≠ 42) : some g ≠ v.ownBlock := by
 obtain ⟨hb, hg⟩ := h
 exact Kd.S_ne ho hb ht
theorem br_.lt {w0 W : World} {g : Nat} {f0 : Int} {f1 : Int} (h : br_ w0 W g f0 f1) : g < W.heap.size := by
 obtain ⟨hb, hg⟩ := h
 exact bV_ hb
theorem br_.ge {w0 W : World} {g : Nat} {f0 : Int} {f1 : Int} (h : br_ w0 W g f0 f1) : w0.heap.size ≤ g := by
 obtain ⟨hb, hg⟩ := h
 exact hg
theorem br_.ne_blk {w0 W : World} {g : Nat} {f0 : Int} {f1 : Int} {a : Nat} {cs : Array Value} {t : TypeId} {fr : Nat × Nat} (h : br_ w0 W g f0 f1) (hb2 : W.heap[a]? = some (.cells cs t fr)) (ht : t ≠ 42) : g ≠ a := by
 obtain ⟨hb, hg⟩ := h
 rintro rfl
 rw [hb] at hb2
 injection hb2 with hb2
 injection hb2 with _ ht2
 exact ht ht2.symm
theorem br_.far {w0 W : World} {g : Nat} {f0 : Int} {f1 : Int} {p : Addr} (h : br_ w0 W g f0 f1) (hne : g ≠ p.block) (u : Value) : br_ w0 (W.setCell p u) g f0 f1 := by
 obtain ⟨hb, hg⟩ := h
 exact ⟨c0_ hb hne u, hg⟩
theorem pj_ {W : World} {g : Nat} {f0 : Int} {f1 : Int} (h : W.heap[g]? = some (.cells #[.int .i64 f0, .int .i64 f1] 42 (0, 0))) : W.cell? ⟨g, 0, none⟩ = some (.int .i64 f0) := (aE_ h 0).trans rfl
theorem br_.set_0 {w0 W : World} {g : Nat} {f0 : Int} {f1 : Int} (h : br_ w0 W g f0 f1) (x : Int) : br_ w0 (W.setCell ⟨g, 0, none⟩ (.int .i64 x)) g x f1 := by
 obtain ⟨hb, hg⟩ := h
 exact ⟨by simpa using d4_ hb 0 (.int .i64 x), hg⟩
theorem pm_ {W : World} {g : Nat} {f0 : Int} {f1 : Int} (h : W.heap[g]? = some (.cells #[.int .i64 f0, .int .i64 f1] 42 (0, 0))) : W.cell? ⟨g, 1, none⟩ = some (.int .i64 f1) := (aE_ h 1).trans rfl
theorem br_.set_1 {w0 W : World} {g : Nat} {f0 : Int} {f1 : Int} (h : br_ w0 W g f0 f1) (x : Int) : br_ w0 (W.setCell ⟨g, 1, none⟩ (.int .i64 x)) g f0 x := by
 obtain ⟨hb, hg⟩ := h
 exact ⟨by simpa using d4_ hb 1 (.int .i64 x), hg⟩
theorem br_.new (w0 W : World) (f0 : Int) (f1 : Int) (hB : Below w0.heap.size w0 W) : br_ w0 (W.alloc (.cells #[.int .i64 f0, .int .i64 f1] 42)) W.heap.size f0 f1 := ⟨by simpa using heap_alloc_new W _, hB.size⟩
instance l0_ : Inhabited S42 := ⟨z42⟩
def ba_ (a b : S42) : Bool := decide (a.f0 < b.f0 ∨ (a.f0 = b.f0 ∧ a.f1 < b.f1))
theorem ba_.swo : Go.Sort.SWO ba_ := by
 constructor
 ·intro x; unfold ba_; exact decide_eq_false (by omega)
 ·intro x y z h1 h2; unfold ba_ at *; have := of_decide_eq_true h1; have := of_decide_eq_true h2; exact decide_eq_true (by omega)
 intro x y z h1 h2; unfold ba_ at *; have := of_decide_eq_false h1; have := of_decide_eq_false h2; exact decide_eq_false (by omega)
def bF_.f (l : List S42) : Option (List S42) := if l.length ≤ 8796093022208 ∧ ∀ a ∈ l, ∀ b ∈ l, ba_ a b = false → ba_ b a = false → a.f0 = b.f0 ∧ a.f1 = b.f1 then some (l.mergeSort (fun a b => !ba_ b a)) else none
theorem bF_.uniq {l r ys : List S42} (h : bF_.f l = some r) (hp : ys.Perm l) (hs : ys.Pairwise (fun a b => ba_ b a = false)) : ys = r := by
 unfold bF_.f at h
 split at h
 ·rename_i hc
  obtain rfl := Option.some.inj h
  have hO := ba_.swo
  have hm := List.mergeSort_perm l (fun a b => !ba_ b a)
  have hq : (l.mergeSort (fun a b => !ba_ b a)).Pairwise (fun a b => ba_ b a = false) := by
   have := List.pairwise_mergeSort (le := fun a b => !ba_ b a) (by
    intro a b c h1 h2
    simp only [Bool.not_eq_true'] at *
    exact hO.ntrans c b a h2 h1) (by
    intro a b
    simp only [Bool.or_eq_true, Bool.not_eq_true']
    by_cases h : ba_ b a = true
    ·right
     cases h2 : ba_ a b with
     | false => rfl
     | true => have := hO.trans a b a h2 h; rw [hO.irrefl] at this; cases this
    left; exact Bool.eq_false_iff.2 h) l
   exact this.imp (fun h => by simpa using h)
  refine dR_ (fun a b => ba_ b a = false) ys _ (hp.trans hm.symm) hs hq (fun a ha b hb h1 h2 => ?_)
  have := hc.2 a (hp.mem_iff.1 ha) b (hp.mem_iff.1 hb) h2 h1
  obtain ⟨a0, a1⟩ := a
  obtain ⟨b0, b1⟩ := b
  simp only at this
  obtain ⟨rfl, rfl⟩ := this
  rfl
 cases h
theorem bF_.short {l r : List S42} (h : bF_.f l = some r) : l.length < 1152921504606846976 := by
 unfold bF_.f at h
 split at h
 ·omega
 cases h
theorem ck_.lt (i j : Nat) (l : List S42) (hi : i < l.length) (hj : j < l.length) : ck_.f i j l = some (ba_ l[i]! l[j]!) := by
 have e1 : ac_ l (i : Int) = l[i]! := by unfold ac_; rw [Int.toNat_natCast, List.getD_eq_getElem?_getD, List.getElem?_eq_getElem hi, getElem!_pos l i hi]; rfl
 have e2 : ac_ l (j : Int) = l[j]! := by unfold ac_; rw [Int.toNat_natCast, List.getD_eq_getElem?_getD, List.getElem?_eq_getElem hj, getElem!_pos l j hj]; rfl
 unfold ck_.f
 rw [if_pos (by omega), if_pos (by omega), if_pos (by omega), if_pos (by omega), e1, e2]
 unfold ba_
 split
 ·simp only [Option.some.injEq, decide_eq_decide]; omega
 simp only [Option.some.injEq, decide_eq_decide]; omega
noncomputable def aM_.ie : TypeInfo := (Tryz.prog.info? 42).get (by kernel_rfl)
noncomputable def aM_.it : TypeInfo := (Tryz.prog.info? 26).get (by kernel_rfl)
set_option maxHeartbeats 2000000 in
theorem aM_.sorts (xs zs : List S42) (A : Option Addr) (c : Nat) (gb base : Nat) (W : World) (hz : bF_.f xs = some zs) (hR : Kd.R k42 42 W base (fun k_ => k_ ≠ gb) (.slice A xs.length c) xs)
  (hbx : W.heap[gb]? = some (.cells #[.slice A xs.length c] 26 (0, 0))) :
  Calls Tryz.prog 34 #[.iface 26 (.slice A xs.length c), .func (.func 65) #[] #[.pointer (some ⟨gb, 0, none⟩)]] W fun e' w' => e' = .returned (.tuple #[]) ∧
   xs.length = zs.length ∧ Kd.R k42 42 w' base (fun k_ => k_ ≠ gb) (.slice A zs.length c) zs ∧ w'.heap[gb]? = some (.cells #[.slice A zs.length c] 26 (0, 0)) ∧ W.grownBy w' (Value.ownBlock (.slice A xs.length c)) := by
 have hgb : gb < W.heap.size := (Array.getElem?_eq_some_iff.1 hbx).1
 have hne : some gb ≠ Value.ownBlock (.slice A xs.length c) := fun e => hR.1 gb e.symm rfl
 have hK : ∀ n, Lib.swapperK n aM_.ie 25 = if n = 0 then 1 else if n = 1 then 2 else 9 := by
  intro n
  have a : aM_.ie.hasPointers = false := by kernel_rfl
  have b : aM_.ie.bytes = 16 := by kernel_rfl
  rcases Nat.lt_or_ge n 2 with h | h
  ·rcases Nat.eq_zero_or_pos n with h0 | h0
   ·subst h0; simp [Lib.swapperK]
   obtain rfl : n = 1 := by omega
   simp [Lib.swapperK]
  have c : (n == 0) = false := by simp; omega
  have d : (n == 1) = false := by simp; omega
  rw [if_neg (by omega), if_neg (by omega)]
  simp [Lib.swapperK, a, b, c, d]
 have hf : ∀ n, Tryz.prog.funcs.findIdx? (·.name == "internal/reflectlite" ++ ".Swapper$" ++ toString (Lib.swapperK n aM_.ie 25)) = some (if n = 0 then 91 else if n = 1 then 92 else 99) := by
  intro n
  rw [hK]
  by_cases h0 : n = 0
  ·rw [if_pos h0, if_pos h0]; kernel_rfl
  rw [if_neg h0, if_neg h0]
  by_cases h1 : n = 1
  ·rw [if_pos h1, if_pos h1]; kernel_rfl
  rw [if_neg h1, if_neg h1]; kernel_rfl
 refine (gh_ Tryz.laysGt8 26 42 aM_.it aM_.ie (by kernel_rfl) (by kernel_rfl) (by kernel_rfl) (by kernel_rfl) 25 (fun _ => by kernel_rfl) k42 (fun x => [.int .i64 x.f0, .int .i64 x.f1]) (fun w base ok x cs => by show k42.M w base ok x cs ↔ _; exact ⟨ep_, fun h => h ▸ cy_ _ _ _ _⟩) (fun _ => rfl) (by kernel_rfl) (fun _ => by kernel_rfl) ba_ ba_.swo 65 #[.pointer (some ⟨gb, 0, none⟩)]
  (enters_of Tryz.func65 (by kernel_rfl) rfl) false _ hf (fun n h2 args W => by
   rw [if_neg (by omega), if_neg (by omega)]
   exact run_callFunc_extern Tryz.func99 (by kernel_rfl) (by kernel_rfl) (by kernel_rfl) (e := Extern.ReflectliteSwapper.swap false) (by kernel_rfl) args W) A c xs base (fun k_ => k_ ≠ gb) W (bF_.short hz) hR ?_).mono ?_
 ·intro W' ys hl hC hg i j hi hj
  have hb' : W'.heap[gb]? = some (.cells #[.slice A ys.length c] 26 (0, 0)) := by rw [hg.block gb hgb hne, hbx, hl]
  have hc : xs.length ≤ c := (Kd.pV_ hR).2.1
  have := ck_.calls i j gb A c ys (ba_ ys[i]! ys[j]!) W' (by rw [hl]; exact hC) (by omega) hb' (ck_.lt i j ys (by omega) (by omega))
  exact this.mono fun e w h => ⟨h.1, h.2.below⟩
 rintro e' w' ⟨he, ys, hp, hs, ho, hg⟩
 obtain rfl := bF_.uniq hz hp hs
 have hl := hp.length_eq
 rw [← hl] at ho
 exact ⟨he, hl.symm, ho, by rw [hg.block gb hgb hne, hbx, hl], hg⟩
def aM_.l0 : Nat → List (S61) → List (S42) → Int → Int → Option ((List (S61)) × Bool)
 | 0, _, _, _, _ => none
 | k + 1, x5, x17, x18, x19 => if x19 < x18 then (if 0 ≤ x19 then (if x19 < (x17.length : Int) then (if (wrap64 ((x5.length : Int) - 1)) ≥ 0 then (if 0 ≤ (wrap64 ((x5.length : Int) - 1)) then (if (wrap64 ((x5.length : Int) - 1)) < (x5.length : Int) then (if ((ab_ x5 (wrap64 ((x5.length : Int) - 1))).f0) = ((ac_ x17 x19).f0) then (if ((ab_ x5 (wrap64 ((x5.length : Int) - 1))).f2) ≥ ((ac_ x17 x19).f1) then (aM_.l0 k (x5.set ((wrap64 ((x5.length : Int) - 1)) : Int).toNat (⟨(ab_ x5 (wrap64 ((x5.length : Int) - 1))).f0, (ab_ x5 (wrap64 ((x5.length : Int) - 1))).f1, mx ((ab_ x5 (wrap64 ((x5.length : Int) - 1))).f2) (mn (wrap64 (((ac_ x17 x19).f1) + 4)) 2000)⟩ : S61)) x17 x18 (wrap64 (x19 + 1))) else (if x5.length < 5864062014805 then (aM_.l0 k (x5 ++ [(⟨(ac_ x17 x19).f0, (ac_ x17 x19).f1, mn (wrap64 (((ac_ x17 x19).f1) + 4)) 2000⟩ : S61)]) x17 x18 (wrap64 (x19 + 1))) else (none))) else (if x5.length < 5864062014805 then (aM_.l0 k (x5 ++ [(⟨(ac_ x17 x19).f0, (ac_ x17 x19).f1, mn (wrap64 (((ac_ x17 x19).f1) + 4)) 2000⟩ : S61)]) x17 x18 (wrap64 (x19 + 1))) else (none))) else (none)) else (none)) else (if x5.length < 5864062014805 then (aM_.l0 k (x5 ++ [(⟨(ac_ x17 x19).f0, (ac_ x17 x19).f1, mn (wrap64 (((ac_ x17 x19).f1) + 4)) 2000⟩ : S61)]) x17 x18 (wrap64 (x19 + 1))) else (none))) else (none)) else (none)) else ((bk_.f k x5).bind fun fp => (some (fp.1, fp.2)))
def aM_.f (k : Nat) (l0 : List (S42)) : Option ((List (S61)) × Bool) := (cA_.f l0).bind fun mK => ((bF_.f mK).bind fun au => (aM_.l0 k (([] : List (S61))) au (au.length : Int) 0))
theorem aM_.mono_l : ∀ k, (∀ y0 y1 y2 y3, LeO (aM_.l0 k y0 y1 y2 y3) (aM_.l0 (k + 1) y0 y1 y2 y3))
 | 0 => fun _ _ _ _ r h => by simp [aM_.l0] at h
 | k + 1 => by
  have ih0 := aM_.mono_l k
  ·intro y0 y1 y2 y3
   unfold aM_.l0
   exact iR_
theorem aM_.mono : ∀ a0 k, LeO (aM_.f k a0) (aM_.f (k + 1) a0) := by
 intro a0 k
 have ih0 := aM_.mono_l k
 unfold aM_.f
 exact iR_
set_option maxHeartbeats 8000000 in
set_option maxRecDepth 100000 in
theorem aM_.calls (k : Nat) (A0 : Option Addr) (c0 : Nat) (l0 : List (S42)) (r1 : List (S61)) (r2 : Bool) (w : World) (hr0 : Kd.C k42 w A0 l0.length l0) (hc0 : l0.length ≤ c0) (h : aM_.f k l0 = some (r1, r2)) :
  Calls Tryz.prog 32 #[.slice A0 l0.length c0] w fun e w' => ∃ v0_ : Value, e = .returned (.tuple #[v0_, .bool r2]) ∧ Kd.R k61 61 w' w.heap.size (fun _ => True) v0_ r1 ∧ Below w.heap.size w w' := by
 have hu42 := Tryz.underlying42
 have hu61 := Tryz.underlying61
 have HR0 := aa_.mk hr0
 have HC0 := aa_.mk hc0
 clear hr0 hc0
 have HB := aa_.mk (Below.refl w.heap.size w)
 have H := h; unfold aM_.f at H
 clear h
 replace H := bd_ H; obtain ⟨mK, A2, H⟩ := H
 replace H := bd_ H; obtain ⟨au, A3, H⟩ := H
 generalize e_ : ((([] : List (S61))) : List (S61)) = Jy at H
 have Dy := aa_.mk e_.symm; clear e_
 have H' := aa_.mk H
 clear H
 go_enter Tryz.func32, Tryz.ntmps32
 go_wp2_with (first | (go_at_call 64; (with_reducible refine (cA_.calls _ _ l0 mK _ ?_ ?_ A2.out).mono ?_); exact (Z15 HR0); exact HC0.out; rintro e w4 ⟨v239, rfl, ho0, hb⟩; refine k2_ Wo_ Ws_ ?_; clear HB; intro g6 HB; (try clear hb ho0); obtain ⟨GG, BM, eo5⟩ := Kd.pW_ g6.out; subst eo5) | ((with_reducible refine au_ (N := 4) rfl ?_); refine bv_ 4 26 #[.slice none 0 0] ?_; intro gbS hg wS hbox hb; refine k4_ (Kd.pX_ (Kd.p5_ (Kd.p6_ (Z1 g6) gbS (Nat.le_of_eq hg.symm)) hb) (ok' := fun k_ => k_ ≠ gbS) (fun _ hk => hk.2)) Ws_ hbox (Wg_ w gbS) ?_; clear g6 HB; intro g6 HB BKS GES; clear hb hbox hg; have hcS : wS.cell? ⟨gbS, 0, none⟩ = some (.slice none 0 0) := (aE_ BKS.out 0).trans rfl; have hfS := a1_ BKS.out 0) | (go_at_call 34; refine (aM_.sorts mK au GG BM gbS w.heap.size (wS.setCell ⟨gbS, 0, none⟩ (.slice GG mK.length BM)) A3.out (Kd.p4_ (p := ⟨gbS, 0, none⟩) g6.out (fun _ hk => hk) (.slice GG mK.length BM)) (bb_ (cs := #[.slice none 0 0]) BKS.out 0 (.slice GG mK.length BM) rfl)).mono ?_; rintro e wT ⟨rfl, hln, ho, hbx, hg⟩; have n1_ := aa_.mk ((aK_ HB.out GES.out).grown hg (mu_) (fun k_ hk_ => Kd.p9_ g6.out k_ hk_)); clear g6 HB BKS hcS hfS hg; have q8 := aa_.mk (Kd.pX_ ho (ok' := fun _ => True) (fun _ _ => trivial)); have g6 := q8; have HB := n1_; have BKS := aa_.mk hbx; clear ho hbx n1_; have hcS : wT.cell? ⟨gbS, 0, none⟩ = some (.slice GG au.length BM) := (aE_ BKS.out 0).trans rfl; rw [hln]) | ((with_reducible refine au_ (N := 16) rfl ?_); refine lu_ k61 61 16 ([] : List (S61)) [] (aH_.none _ _) ?_; intro v245 w7 ho8 hb hg_ hnew_; clear hg_ hnew_; (first | rw [← Dy.out] at ho8 | (simp only [Int.reduceToNat] at ho8; rw [← Dy.out] at ho8)); refine k4_ (Ya_ g6) (Ya_ q8) (Kd.pY_ ho8 (ao_ (Z2))) Ws_ ?_; clear g6 q8 HB; intro g6 q8 HO246 HB; have nb_ := aa_.mk (cj_ (g := gbS) BKS.out hb); clear BKS hcS; have BKS := nb_; clear nb_; have hcS : w7.cell? ⟨gbS, 0, none⟩ = some (.slice GG au.length BM) := (aE_ BKS.out 0).trans rfl; clear hb ho8))
 (try simp only [Act.put, List.setIfInBounds_toArray, List.set_cons_zero, List.set_cons_succ])
 go_loopg [5, 19] k (fun kq v5 Jz w' => ∃ (aE : List (S61)) (aj : Int), Jz = .int .i64 aj ∧ aa_ (aM_.l0 kq aE au (au.length : Int) aj = some (r1, r2)) ∧ aa_ (kq ≤ k) ∧ aa_ (Kd.R k61 61 w' w.heap.size (fun _ => True) v5 aE) ∧ aa_ (Kd.R k42 42 w' w.heap.size (fun _ => True) (.slice GG au.length BM) au) ∧ aa_ (Below w.heap.size w w'))
 case atStart => exact ⟨(Jy), (0), (Z14), H', ⟨Nat.le_refl _⟩, ⟨Z1 HO246⟩, ⟨Z38 q8⟩, ⟨Z2⟩⟩
 case round =>
  clear H'
  obtain ⟨aE, aj, rfl, HA, HK1, aa, aV, HB⟩ := hrel
  cases gk with
  | zero => exact absurd HA.out (by simp [aM_.l0])
  | succ k1 =>
   have H := HA.out
   clear HA
   simp only [aM_.l0] at H
   replace H := iv_ H; obtain ⟨de, H⟩ | ⟨de, H⟩ := H
   ·replace H := id_ H; obtain ⟨dG, H⟩ := H
    replace H := id_ H; obtain ⟨fm, H⟩ := H
    obtain ⟨cQ, hji13⟩ : ∃ j_ : Int, (mn (wrap64 (((ac_ au aj).f1) + 4)) 2000) = j_ := ⟨_, rfl⟩
    (first | rw [hji13] at H | simp only [hji13] at H)
    have hji13_ : (if 2000 < (wrap64 (((ac_ au aj).f1) + 4)) then 2000 else (wrap64 (((ac_ au aj).f1) + 4))) = cQ := hji13
    replace H := iw_ H; obtain ⟨c14, H⟩ | ⟨c14, H⟩ := H
    ·have jD : decide (0 ≤ (wrap64 ((aE.length : Int) - 1))) = true := decide_eq_true c14
     clear c14
     obtain ⟨aU, hji15⟩ : ∃ j_ : Int, (wrap64 ((aE.length : Int) - 1)) = j_ := ⟨_, rfl⟩
     (first | rw [hji15] at H | simp only [hji15] at H)
     (try rw [hji15] at jD)
     have hji15w : (IntKind.i64.wrap ((aE.length : Int) - 1)) = aU := (bA_ _).trans hji15
     replace H := id_ H; obtain ⟨fQ, H⟩ := H
     replace H := id_ H; obtain ⟨i2, H⟩ := H
     replace H := ic_ H; obtain ⟨eQ, oS, H⟩ | ⟨eQ, oS, c18, H⟩ := H
     ·replace H := iw_ H; obtain ⟨c19, H⟩ | ⟨c19, H⟩ := H
      ·have mm : decide (((ac_ au aj).f1) ≤ ((ab_ aE (aU)).f2)) = true := decide_eq_true c19
       clear c19
       obtain ⟨eE, hji20⟩ : ∃ j_ : Int, (mx ((ab_ aE (aU)).f2) (cQ)) = j_ := ⟨_, rfl⟩
       (first | rw [hji20] at H | simp only [hji20] at H)
       have hji20_ : (if ((ab_ aE (aU)).f2) < (cQ) then (cQ) else ((ab_ aE (aU)).f2)) = eE := hji20
       generalize e_ : ((aE.set ((aU) : Int).toNat (⟨(ab_ aE (aU)).f0, (ab_ aE (aU)).f1, eE⟩ : S61)) : List (S61)) = yN at H
       have yO := aa_.mk e_.symm; clear e_
       have H' := aa_.mk H
       clear H
       obtain ⟨oT, e247, pt, pu, jh, ji⟩ := cg_ (Kd.pV_ aV.out).2.2 aj
       cases e247
       go_wp2_with (first | ((with_reducible refine au_ (N := 7) rfl ?_); refine bv_ 7 42 #[.int .i64 0, .int .i64 0] ?_; intro ar hg jE hbox hb; refine k6_ (Ya_ aa) (Kd.p5_ (Kd.p6_ (Z1 aV) ar (Nat.le_of_eq hg.symm)) hb) Ws_ (hbox) (Wg_ w ar) (Wg_ w ar) ?_; clear aa aV HB; intro aa aV HB aQ g7 gH; clear hb hbox hg; obtain ⟨iC, iD, iE, iF⟩ := cH_ (w := jE) aQ.out) | ((with_reducible refine cM_ (t := 42) (p := 7) rfl ?_); (try (rw [e8_ jE]; generalize hq_ : World.drewN jE _ = jE; have n0_ := aa_.mk (Kd.qG_ hq_ aa.out); have n1_ := aa_.mk (Kd.qG_ hq_ aV.out); have n2_ := aa_.mk (ly_ hq_ aQ.out); have n3_ := aa_.mk (jn_ hq_ HB.out); clear hq_ aa aV aQ HB; have aa := n0_; have aV := n1_; have aQ := n2_; have HB := n3_; clear n0_ n1_ n2_ n3_)); refine cB_ (t := 42) (p := 7) (v := ?vo_w24) (w1 := ((jE.setCell ⟨ar, 0, none⟩ (.int .i64 ((ac_ au aj).f0))).setCell ⟨ar, 1, none⟩ (.int .i64 ((ac_ au aj).f1)))) ?hg ?ho ?hn ?hr ?_; (case ho => rfl); (case hg => rfl); (case hn => rfl); (case hr => exact Z39); intro cP hw; have n0_ : aa_ (Kd.R k61 61 cP w.heap.size (fun _ => True) u5 aE) := ⟨(by rw [hw]; exact Z19)⟩; have n1_ : aa_ (Kd.R k42 42 cP w.heap.size (fun k_ => k_ ≠ ar) (.slice (some oT) au.length BM) au) := ⟨(Z87)⟩; have n2_ : aa_ (cP.heap[ar]? = some (.cells #[.int .i64 ((ac_ au aj).f0), .int .i64 ((ac_ au aj).f1)] 42 (0, 0))) := ⟨(by rw [hw]; exact Z16)⟩; have n3_ : aa_ (Below w.heap.size w cP) := ⟨(by rw [hw]; exact Z18)⟩; clear hw; clear aa; clear aV; clear aQ; clear HB; have aa := n0_; have aV := n1_; have aQ := n2_; have HB := n3_; clear n0_ n1_ n2_ n3_; obtain ⟨jP, jQ, jR, jS⟩ := cH_ (w := cP) aQ.out; obtain ⟨B0, gO, pv⟩ := Kd.pW_ aa.out; subst pv; have df : 0 ≤ ((aU) : Int) := of_decide_eq_true (Z8); have dg : (aU) < (aE.length : Int) := of_decide_eq_true (Z8); obtain ⟨bV, e249, bh, bi, bj⟩ := di_ (Kd.pV_ aa.out).2.2 (aU) df dg; cases e249; replace df := eq_true df; replace dg := eq_true dg; have eT : 0 ≤ ((aU) : Int) := of_decide_eq_true (Z8); have eU : (aU) < (aE.length : Int) := of_decide_eq_true (Z8); obtain ⟨g8, e250, bZ, b3, b4⟩ := di_ (Kd.pV_ aa.out).2.2 (aU) eT eU; obtain rfl : bV = g8 := (by injection e250); replace eT := eq_true eT; replace eU := eq_true eU; have nK : 0 ≤ ((aU) : Int) := of_decide_eq_true (Z8); have nL : (aU) < (aE.length : Int) := of_decide_eq_true (Z8); obtain ⟨ra, e251, jT, jU, jV⟩ := di_ (Kd.pV_ aa.out).2.2 (aU) nK nL; obtain rfl : bV = ra := (by injection e251); replace nK := eq_true nK; replace nL := eq_true nL; have oU : 0 ≤ ((aU) : Int) := of_decide_eq_true (Z8); have oV : ((aU) : Int) < ((aE.length : Int) : Int) := of_decide_eq_true (Z8); obtain ⟨go21, B2, jW, jX, gl21, cl21, HG21⟩ := Kd.qs_ aa.out (by omega); (first | cases jW | (injection jW with ea_ en_ ec_; (first | subst ea_ | (injection ea_ with ea_; subst ea_)); subst ec_; clear en_)); have GB21 := aa_.mk jX; have GG21 := aa_.mk HG21; clear jX gl21 HG21; (first | simp only [bO_] at bh | skip); (first | simp only [bO_] at bi | skip); (first | simp only [bO_] at bj | skip); (first | simp only [bO_] at bZ | skip); (first | simp only [bO_] at b3 | skip); (first | simp only [bO_] at b4 | skip); (first | simp only [bO_] at jT | skip); (first | simp only [bO_] at jU | skip); (first | simp only [bO_] at jV | skip); obtain ⟨ce21, hcl21, hM21, hcc21, hfr21⟩ := Kd.qm_ aa.out z61 ((aU) : Int) oU oV; obtain rfl := c6_ hM21; have pw : cP.cell? ⟨go21, ((aU) : Int).toNat * 3, none⟩ = some (.int .i64 ((ab_ aE (aU)).f0)) := hcc21 0 _ rfl; have yP : cP.cell? ⟨go21, ((aU) : Int).toNat * 3 + 1, none⟩ = some (.int .i64 ((ab_ aE (aU)).f1)) := hcc21 1 _ rfl; have yQ : cP.cell? ⟨go21, ((aU) : Int).toNat * 3 + 2, none⟩ = some (.int .i64 ((ab_ aE (aU)).f2)) := hcc21 2 _ rfl; have hf21_0 : cP.frozen? ⟨go21, ((aU) : Int).toNat * 3, none⟩ = false := hfr21 0; have hf21_1 : cP.frozen? ⟨go21, ((aU) : Int).toNat * 3 + 1, none⟩ = false := hfr21 1; have hf21_2 : cP.frozen? ⟨go21, ((aU) : Int).toNat * 3 + 2, none⟩ = false := hfr21 2; clear hcl21 hcc21 hfr21 hM21; replace oU := eq_true oU; replace oV := eq_true oV; have HX27 := aa_.mk (show Kd.R k61 61 cP w.heap.size (fun _ => True) (.slice (some ⟨go21, 0, none⟩) aE.length gO) aE from (Z1 aa)); obtain ⟨ce27, hcl27, hM27, hcc27, hfr27⟩ := Kd.qm_ HX27.out z61 ((aU) : Int) (of_decide_eq_true (Z8)) (Z54); obtain rfl := c6_ hM27; have HP27 := Kd.qx_ HX27.out ((aU) : Int) (of_decide_eq_true (Z8)) (Z54) (seg := [.int .i64 eE]) (j := 2) hcl27 hcc27 (show 3 ≤ 3 from by decide) (x' := (⟨(ab_ aE (aU)).f0, (ab_ aE (aU)).f1, eE⟩ : S61)) (b9_ _ _ _ (⟨(ab_ aE (aU)).f0, (ab_ aE (aU)).f1, eE⟩ : S61) ) (fun _ hk => hk); have eV := hcc27 2 _ rfl; (try simp only [show (k61).sz = 3 from rfl, Nat.mul_one, Nat.add_zero] at eV); have hf27_2 := hfr27 2; (try simp only [show (k61).sz = 3 from rfl, Nat.mul_one, Nat.add_zero] at hf27_2); clear hcl27 hcc27 hfr27 hM27))
       repeat (go_quiet (fail); try go_wp2_with (((with_reducible refine cM_ (t := 3) (p := 62) rfl ?_); (try (rw [e8_ cP]; generalize hq_ : World.drewN cP _ = cP; have n0_ := aa_.mk (Kd.qG_ hq_ aa.out); have n1_ := aa_.mk (Kd.qG_ hq_ aV.out); have n2_ := aa_.mk (ly_ hq_ aQ.out); have n3_ := aa_.mk (jn_ hq_ HB.out); clear hq_ aa aV aQ HB; have aa := n0_; have aV := n1_; have aQ := n2_; have HB := n3_; clear n0_ n1_ n2_ n3_; (try (have HX27 := aa_.mk (show Kd.R k61 61 cP w.heap.size (fun _ => True) (.slice (some ⟨go21, 0, none⟩) aE.length gO) aE from (Z1 aa)))); (try (obtain ⟨ce27, hcl27, hM27, hcc27, hfr27⟩ := Kd.qm_ HX27.out z61 ((aU) : Int) (of_decide_eq_true (Z8)) (Z54))); (try (obtain rfl := c6_ hM27)); (try (have HP27 := Kd.qx_ HX27.out ((aU) : Int) (of_decide_eq_true (Z8)) (Z54) (seg := [.int .i64 eE]) (j := 2) hcl27 hcc27 (show 3 ≤ 3 from by decide) (x' := (⟨(ab_ aE (aU)).f0, (ab_ aE (aU)).f1, eE⟩ : S61)) (b9_ _ _ _ (⟨(ab_ aE (aU)).f0, (ab_ aE (aU)).f1, eE⟩ : S61) ) (fun _ hk => hk))); (try (have eV := hcc27 2 _ rfl)); (try (try simp only [show (k61).sz = 3 from rfl, Nat.mul_one, Nat.add_zero] at eV)); (try (have hf27_2 := hfr27 2)); (try (try simp only [show (k61).sz = 3 from rfl, Nat.mul_one, Nat.add_zero] at hf27_2)); (try (clear hcl27 hcc27 hfr27 hM27)))); refine cB_ (t := 3) (p := 62) (v := ?vo_w28) (w1 := (cP.setCell ⟨go21, ((aU) : Int).toNat * 3 + 2, none⟩ (.int .i64 eE))) ?hg ?ho ?hn ?hr ?_; (case ho => rfl); (case hg => rfl); (case hn => rfl); (case hr => exact Z39); intro i3 hw; have hg : cP.grownBy i3 (some go21) := (by rw [hw]; exact HP27.2); have hp_ : Kd.R k61 61 i3 w.heap.size (fun _ => True) (.slice (some ⟨go21, 0, none⟩) aE.length gO) yN := (by rw [hw, yO.out]; exact HP27.1); clear HP27; refine k4_ (hp_) (Kd.qe_ (v := (.slice (some ⟨go21, 0, none⟩) aE.length gO)) (Z1 aV) (Kd.qd_ aa.out) (by decide) hg) (bg_ (zo_ aQ) hg (Kd.qb_ aa.out aQ.out (by decide))) ((ne_ : Below w.heap.size w i3)) ?_; clear aa aV aQ HB; intro aa aV aQ HB; clear hg hw hp_)))
       go_roundg k1
       case measure => have := HK1.out; omega
       case rel => exact ⟨(yN), (wrap64 (aj + 1)), (Z14), H', ⟨Z91 HK1⟩, ⟨Z1 aa⟩, ⟨Z38 aV⟩, ⟨Z18⟩⟩
      have mm : decide (((ac_ au aj).f1) ≤ ((ab_ aE (aU)).f2)) = false := decide_eq_false c19
      clear c19
      replace H := ia_ H; obtain ⟨rb, H⟩ := H
      generalize e_ : ((aE ++ [(⟨(ac_ au aj).f0, (ac_ au aj).f1, cQ⟩ : S61)]) : List (S61)) = JA at H
      have yR := aa_.mk e_.symm; clear e_
      have H' := aa_.mk H
      clear H
      obtain ⟨oT, e247, pt, pu, jh, ji⟩ := cg_ (Kd.pV_ aV.out).2.2 aj
      cases e247
      go_wp2_with (((with_reducible refine au_ (N := 7) rfl ?_); refine bv_ 7 42 #[.int .i64 0, .int .i64 0] ?_; intro ar hg iG hbox hb; refine k6_ (Ya_ aa) (Kd.p5_ (Kd.p6_ (Z1 aV) ar (Nat.le_of_eq hg.symm)) hb) Ws_ (hbox) (Wg_ w ar) (Wg_ w ar) ?_; clear aa aV HB; intro aa aV HB aQ g7 gH; clear hb hbox hg; obtain ⟨px, pz, pA, pB⟩ := cH_ (w := iG) aQ.out; obtain ⟨re, jj, nM⟩ := Kd.pW_ aa.out; subst nM; have df : 0 ≤ ((aU) : Int) := of_decide_eq_true (Z8); have dg : (aU) < (aE.length : Int) := of_decide_eq_true (Z8); obtain ⟨bV, e249, bh, bi, bj⟩ := di_ (Kd.pV_ aa.out).2.2 (aU) df dg; cases e249; have hn249_0 : bV.block ≠ ar := Kd.own_blk (Kd.qb_ aa.out aQ.out (by decide)); have hn249_1 : bV.block ≠ ar := Kd.own_blk (Kd.qb_ aa.out aQ.out (by decide)); replace bh := (bN_ (p := ⟨ar, 0, none⟩) (Z50) (.int .i64 ((ac_ au aj).f0))).trans bh; replace bi := (bN_ (p := ⟨ar, 0, none⟩) (Z50) (.int .i64 ((ac_ au aj).f0))).trans bi; replace bj := (bN_ (p := ⟨ar, 0, none⟩) (Z50) (.int .i64 ((ac_ au aj).f0))).trans bj; replace bh := (bN_ (p := ⟨ar, 1, none⟩) (Z51) (.int .i64 ((ac_ au aj).f1))).trans bh; replace bi := (bN_ (p := ⟨ar, 1, none⟩) (Z51) (.int .i64 ((ac_ au aj).f1))).trans bi; replace bj := (bN_ (p := ⟨ar, 1, none⟩) (Z51) (.int .i64 ((ac_ au aj).f1))).trans bj; (try have hy249_0 := fun (n_ : Nat) => (show ((((iG.drewN n_).setCell ⟨ar, 0, none⟩ (.int .i64 ((ac_ au aj).f0))).setCell ⟨ar, 1, none⟩ (.int .i64 ((ac_ au aj).f1)))).cell? _ = some _ from bh)); (try have hy249_1 := fun (n_ : Nat) => (show ((((iG.drewN n_).setCell ⟨ar, 0, none⟩ (.int .i64 ((ac_ au aj).f0))).setCell ⟨ar, 1, none⟩ (.int .i64 ((ac_ au aj).f1)))).cell? _ = some _ from bi)); (try have hy249_2 := fun (n_ : Nat) => (show ((((iG.drewN n_).setCell ⟨ar, 0, none⟩ (.int .i64 ((ac_ au aj).f0))).setCell ⟨ar, 1, none⟩ (.int .i64 ((ac_ au aj).f1)))).cell? _ = some _ from bj)); clear hn249_0; clear hn249_1; replace df := eq_true df; replace dg := eq_true dg; have eT : 0 ≤ ((aU) : Int) := of_decide_eq_true (Z8); have eU : (aU) < (aE.length : Int) := of_decide_eq_true (Z8); obtain ⟨g8, e250, bZ, b3, b4⟩ := di_ (Kd.pV_ aa.out).2.2 (aU) eT eU; obtain rfl : bV = g8 := (by injection e250); have hn250_0 : bV.block ≠ ar := Kd.own_blk (Kd.qb_ aa.out aQ.out (by decide)); have hn250_1 : bV.block ≠ ar := Kd.own_blk (Kd.qb_ aa.out aQ.out (by decide)); replace bZ := (bN_ (p := ⟨ar, 0, none⟩) (Z81) (.int .i64 ((ac_ au aj).f0))).trans bZ; replace b3 := (bN_ (p := ⟨ar, 0, none⟩) (Z81) (.int .i64 ((ac_ au aj).f0))).trans b3; replace b4 := (bN_ (p := ⟨ar, 0, none⟩) (Z81) (.int .i64 ((ac_ au aj).f0))).trans b4; replace bZ := (bN_ (p := ⟨ar, 1, none⟩) (Z82) (.int .i64 ((ac_ au aj).f1))).trans bZ; replace b3 := (bN_ (p := ⟨ar, 1, none⟩) (Z82) (.int .i64 ((ac_ au aj).f1))).trans b3; replace b4 := (bN_ (p := ⟨ar, 1, none⟩) (Z82) (.int .i64 ((ac_ au aj).f1))).trans b4; (try have hy250_0 := fun (n_ : Nat) => (show ((((iG.drewN n_).setCell ⟨ar, 0, none⟩ (.int .i64 ((ac_ au aj).f0))).setCell ⟨ar, 1, none⟩ (.int .i64 ((ac_ au aj).f1)))).cell? _ = some _ from bZ)); (try have hy250_1 := fun (n_ : Nat) => (show ((((iG.drewN n_).setCell ⟨ar, 0, none⟩ (.int .i64 ((ac_ au aj).f0))).setCell ⟨ar, 1, none⟩ (.int .i64 ((ac_ au aj).f1)))).cell? _ = some _ from b3)); (try have hy250_2 := fun (n_ : Nat) => (show ((((iG.drewN n_).setCell ⟨ar, 0, none⟩ (.int .i64 ((ac_ au aj).f0))).setCell ⟨ar, 1, none⟩ (.int .i64 ((ac_ au aj).f1)))).cell? _ = some _ from b4)); clear hn250_0; clear hn250_1; replace eT := eq_true eT; replace eU := eq_true eU))
      repeat (go_quiet (fail); try go_wp2_with (((with_reducible refine bh_ (b := .append) (xs := #[.tmp 63, .tmp 70]) rfl ?_); at_builtin; refine fy_ (w0 := w) w.heap.size (.tmp 63) (.tmp 70) (.slice (some bV) aE.length jj) aE (⟨(ac_ au aj).f0, (ac_ au aj).f1, cQ⟩ : S61) [.int .i64 ((ac_ au aj).f0), .int .i64 ((ac_ au aj).f1), .int .i64 cQ] (fun _ => True) rfl (Z39) ?aP ?aF ?aO ?aB ?aS ?aL ?_; (case aP => exact b9_ _ _ _ (⟨(ac_ au aj).f0, (ac_ au aj).f1, cQ⟩ : S61)); (case aB => exact Z18); (case aF => exact (fun _ _ => trivial)); (case aO => exact Z19); (case aS => exact (ao_ (Z18))); (case aL => exact Z91 rb); intro JB m9 ho hb hg hat; rw [← yR.out] at ho; refine k4_ (Kd.qe_ (Z30) (Kd.qd_ (Z32)) (by decide) hg) (bg_ (g := ar) (o := .cells #[.int .i64 ((ac_ au aj).f0), .int .i64 ((ac_ au aj).f1)] 42 (0, 0)) (Z16) hg (Kd.qb_ aa.out aQ.out (by decide))) (hb) (ho) ?_; clear aV aQ HB aa; intro aV aQ HB yS; clear ho hb hg hat)))
      go_roundg k1
      case measure => have := HK1.out; omega
      case rel => exact ⟨(JA), (wrap64 (aj + 1)), (Z14), H', ⟨Z91 HK1⟩, ⟨Z1 yS⟩, ⟨Z38 aV⟩, ⟨Z18⟩⟩
     replace H := ia_ H; obtain ⟨yT, H⟩ := H
     generalize e_ : ((aE ++ [(⟨(ac_ au aj).f0, (ac_ au aj).f1, cQ⟩ : S61)]) : List (S61)) = JC at H
     have yU := aa_.mk e_.symm; clear e_
     have H' := aa_.mk H
     clear H
     obtain ⟨oT, e247, pt, pu, jh, ji⟩ := cg_ (Kd.pV_ aV.out).2.2 aj
     cases e247
     go_wp2_with (((with_reducible refine au_ (N := 7) rfl ?_); refine bv_ 7 42 #[.int .i64 0, .int .i64 0] ?_; intro ar hg lN hbox hb; refine k6_ (Ya_ aa) (Kd.p5_ (Kd.p6_ (Z1 aV) ar (Nat.le_of_eq hg.symm)) hb) Ws_ (hbox) (Wg_ w ar) (Wg_ w ar) ?_; clear aa aV HB; intro aa aV HB aQ g7 gH; clear hb hbox hg; obtain ⟨na, nb, nc, ne⟩ := cH_ (w := lN) aQ.out; obtain ⟨eW, eh, mL⟩ := Kd.pW_ aa.out; subst mL; have df : 0 ≤ ((aU) : Int) := of_decide_eq_true (Z8); have dg : (aU) < (aE.length : Int) := of_decide_eq_true (Z8); obtain ⟨bV, e249, bh, bi, bj⟩ := di_ (Kd.pV_ aa.out).2.2 (aU) df dg; cases e249; have hn249_0 : bV.block ≠ ar := Kd.own_blk (Kd.qb_ aa.out aQ.out (by decide)); have hn249_1 : bV.block ≠ ar := Kd.own_blk (Kd.qb_ aa.out aQ.out (by decide)); replace bh := (bN_ (p := ⟨ar, 0, none⟩) (Z50) (.int .i64 ((ac_ au aj).f0))).trans bh; replace bi := (bN_ (p := ⟨ar, 0, none⟩) (Z50) (.int .i64 ((ac_ au aj).f0))).trans bi; replace bj := (bN_ (p := ⟨ar, 0, none⟩) (Z50) (.int .i64 ((ac_ au aj).f0))).trans bj; replace bh := (bN_ (p := ⟨ar, 1, none⟩) (Z51) (.int .i64 ((ac_ au aj).f1))).trans bh; replace bi := (bN_ (p := ⟨ar, 1, none⟩) (Z51) (.int .i64 ((ac_ au aj).f1))).trans bi; replace bj := (bN_ (p := ⟨ar, 1, none⟩) (Z51) (.int .i64 ((ac_ au aj).f1))).trans bj; (try have hy249_0 := fun (n_ : Nat) => (show ((((lN.drewN n_).setCell ⟨ar, 0, none⟩ (.int .i64 ((ac_ au aj).f0))).setCell ⟨ar, 1, none⟩ (.int .i64 ((ac_ au aj).f1)))).cell? _ = some _ from bh)); (try have hy249_1 := fun (n_ : Nat) => (show ((((lN.drewN n_).setCell ⟨ar, 0, none⟩ (.int .i64 ((ac_ au aj).f0))).setCell ⟨ar, 1, none⟩ (.int .i64 ((ac_ au aj).f1)))).cell? _ = some _ from bi)); (try have hy249_2 := fun (n_ : Nat) => (show ((((lN.drewN n_).setCell ⟨ar, 0, none⟩ (.int .i64 ((ac_ au aj).f0))).setCell ⟨ar, 1, none⟩ (.int .i64 ((ac_ au aj).f1)))).cell? _ = some _ from bj)); clear hn249_0; clear hn249_1; replace df := eq_true df; replace dg := eq_true dg))
     repeat (go_quiet (fail); try go_wp2_with (((with_reducible refine bh_ (b := .append) (xs := #[.tmp 63, .tmp 70]) rfl ?_); at_builtin; refine fy_ (w0 := w) w.heap.size (.tmp 63) (.tmp 70) (.slice (some bV) aE.length eh) aE (⟨(ac_ au aj).f0, (ac_ au aj).f1, cQ⟩ : S61) [.int .i64 ((ac_ au aj).f0), .int .i64 ((ac_ au aj).f1), .int .i64 cQ] (fun _ => True) rfl (Z39) ?aP ?aF ?aO ?aB ?aS ?aL ?_; (case aP => exact b9_ _ _ _ (⟨(ac_ au aj).f0, (ac_ au aj).f1, cQ⟩ : S61)); (case aB => exact Z18); (case aF => exact (fun _ _ => trivial)); (case aO => exact Z19); (case aS => exact (ao_ (Z18))); (case aL => exact Z91 yT); intro JD uP ho hb hg hat; rw [← yU.out] at ho; refine k4_ (Kd.qe_ (Z30) (Kd.qd_ (Z32)) (by decide) hg) (bg_ (g := ar) (o := .cells #[.int .i64 ((ac_ au aj).f0), .int .i64 ((ac_ au aj).f1)] 42 (0, 0)) (Z16) hg (Kd.qb_ aa.out aQ.out (by decide))) (hb) (ho) ?_; clear aV aQ HB aa; intro aV aQ HB yV; clear ho hb hg hat)))
     go_roundg k1
     case measure => have := HK1.out; omega
     case rel => exact ⟨(JC), (wrap64 (aj + 1)), (Z14), H', ⟨Z91 HK1⟩, ⟨Z1 yV⟩, ⟨Z38 aV⟩, ⟨Z18⟩⟩
    have jD : decide (0 ≤ (wrap64 ((aE.length : Int) - 1))) = false := decide_eq_false c14
    clear c14
    replace H := ia_ H; obtain ⟨nN, H⟩ := H
    generalize e_ : ((aE ++ [(⟨(ac_ au aj).f0, (ac_ au aj).f1, cQ⟩ : S61)]) : List (S61)) = xi at H
    have oW := aa_.mk e_.symm; clear e_
    have H' := aa_.mk H
    clear H
    obtain ⟨oT, e247, pt, pu, jh, ji⟩ := cg_ (Kd.pV_ aV.out).2.2 aj
    cases e247
    go_wp2_with (((with_reducible refine au_ (N := 7) rfl ?_); refine bv_ 7 42 #[.int .i64 0, .int .i64 0] ?_; intro ar hg Ca hbox hb; refine k6_ (Ya_ aa) (Kd.p5_ (Kd.p6_ (Z1 aV) ar (Nat.le_of_eq hg.symm)) hb) Ws_ (hbox) (Wg_ w ar) (Wg_ w ar) ?_; clear aa aV HB; intro aa aV HB aQ g7 gH; clear hb hbox hg; obtain ⟨mX, mY, mZ, m0⟩ := cH_ (w := Ca) aQ.out; obtain ⟨rg, rh, nO⟩ := Kd.pW_ aa.out; subst nO))
    repeat (go_quiet (fail); try go_wp2_with (((with_reducible refine bh_ (b := .append) (xs := #[.tmp 63, .tmp 70]) rfl ?_); at_builtin; refine fy_ (w0 := w) w.heap.size (.tmp 63) (.tmp 70) (.slice rg aE.length rh) aE (⟨(ac_ au aj).f0, (ac_ au aj).f1, cQ⟩ : S61) [.int .i64 ((ac_ au aj).f0), .int .i64 ((ac_ au aj).f1), .int .i64 cQ] (fun _ => True) rfl (Z39) ?aP ?aF ?aO ?aB ?aS ?aL ?_; (case aP => exact b9_ _ _ _ (⟨(ac_ au aj).f0, (ac_ au aj).f1, cQ⟩ : S61)); (case aB => exact Z18); (case aF => exact (fun _ _ => trivial)); (case aO => exact Z19); (case aS => exact (ao_ (Z18))); (case aL => exact Z91 nN); intro GH yj ho hb hg hat; rw [← oW.out] at ho; refine k4_ (Kd.qe_ (Z30) (Kd.qd_ (Z32)) (by decide) hg) (bg_ (g := ar) (o := .cells #[.int .i64 ((ac_ au aj).f0), .int .i64 ((ac_ au aj).f1)] 42 (0, 0)) (Z16) hg (Kd.qb_ aa.out aQ.out (by decide))) (hb) (ho) ?_; clear aV aQ HB aa; intro aV aQ HB hD; clear ho hb hg hat)))
    go_roundg k1
    case measure => have := HK1.out; omega
    case rel => exact ⟨(xi), (wrap64 (aj + 1)), (Z14), H', ⟨Z91 HK1⟩, ⟨Z1 hD⟩, ⟨Z38 aV⟩, ⟨Z18⟩⟩
   replace H := bd_ H; obtain ⟨⟨pC, xj⟩, ND, H⟩ := H
   replace H : (some (pC, xj)) = some (r1, r2) := H
   obtain ⟨rfl, rfl⟩ := sp_ H; clear H
   obtain ⟨GI, Cb, oH⟩ := Kd.pW_ aa.out
   subst oH
   go_wp2_with ((go_at_call 66; (with_reducible refine (bk_.calls k1 _ _ aE pC xj _ ?_ ?_ ND.out).mono ?_); exact (Z3 aa); exact (Kd.pV_ aa.out).2.1; rintro e yk ⟨JF, rfl, ho0, hb⟩; refine k4_ (Yb_ aa) (Ya_ aV) (Wa_ aa) Ws_ ?_; clear aa aV HB; intro aa aV yW HB; (try clear hb ho0)))
   repeat (go_quiet (fail); try go_wp2_with (fail))
   go_ret2
   exact ⟨_, Z9, Z38 yW, Z2⟩
def aT_.f (k : Nat) (l0 : List (S42)) : Option ((List (S61)) × Bool) := (ap_.f k l0).bind fun yX => (if yX = true then ((aM_.f k l0).bind fun ri => (some (ri.1, ri.2))) else (some (([] : List (S61)), false)))
theorem aT_.mono : ∀ a0 k, LeO (aT_.f k a0) (aT_.f (k + 1) a0) := by
 intro a0 k
 unfold aT_.f
 exact iR_
set_option maxHeartbeats 8000000 in
set_option maxRecDepth 100000 in
theorem aT_.calls (k : Nat) (A0 : Option Addr) (c0 : Nat) (l0 : List (S42)) (r1 : List (S61)) (r2 : Bool) (w : World) (hr0 : Kd.C k42 w A0 l0.length l0) (hc0 : l0.length ≤ c0) (h : aT_.f k l0 = some (r1, r2)) :
  Calls Tryz.prog 9 #[.slice A0 l0.length c0] w fun e w' => ∃ v0_ : Value, e = .returned (.tuple #[v0_, .bool r2]) ∧ Kd.R k61 61 w' w.heap.size (fun _ => True) v0_ r1 ∧ Below w.heap.size w w' := by
 have HR0 := aa_.mk hr0
 have HC0 := aa_.mk hc0
 clear hr0 hc0
 have HB := aa_.mk (Below.refl w.heap.size w)
 have H := h; unfold aT_.f at H
 clear h
 replace H := bd_ H; obtain ⟨yX, A2, H⟩ := H
 replace H := it_ H; obtain ⟨rfl, H⟩ | ⟨rfl, H⟩ := H
 ·replace H := bd_ H; obtain ⟨⟨JG, JH⟩, A4, H⟩ := H
  replace H : (some (JG, JH)) = some (r1, r2) := H
  obtain ⟨rfl, rfl⟩ := sp_ H; clear H
  go_enter Tryz.func9, Tryz.ntmps9
  go_wp2_with (first | ((with_reducible refine ae_ (f := 13) rfl ?_); refine gl_ 5 Tryz.func13 #[.slice A0 l0.length c0] ?_; (with_reducible refine (ap_.calls k _ _ l0 true _ ?_ ?_ A2.out).mono ?_); exact (Z15 HR0); exact HC0.out; rintro e w5 ⟨rfl, hb⟩; refine ⟨_, rfl, ?_⟩; refine k1_ Ws_ ?_; clear HB; intro HB; (try clear hb)) | ((with_reducible refine ae_ (f := 32) rfl ?_); refine gl_ 8 Tryz.func32 #[.slice A0 l0.length c0] ?_; (with_reducible refine (aM_.calls k _ _ l0 JG JH _ ?_ ?_ A4.out).mono ?_); exact (Z10 HR0); exact HC0.out; rintro e w6 ⟨v436, rfl, ho0, hb⟩; refine ⟨_, rfl, ?_⟩; refine k2_ Wo_ Ws_ ?_; clear HB; intro HO437 HB; (try clear hb ho0)))
  go_ret2
  exact ⟨_, Z9, Z1 HO437, Z2⟩
 obtain ⟨rfl, rfl⟩ := sp_ H; clear H
 go_enter Tryz.func9, Tryz.ntmps9
 go_wp2_with (((with_reducible refine ae_ (f := 13) rfl ?_); refine gl_ 5 Tryz.func13 #[.slice A0 l0.length c0] ?_; (with_reducible refine (ap_.calls k _ _ l0 false _ ?_ ?_ A2.out).mono ?_); exact (Z15 HR0); exact HC0.out; rintro e w7 ⟨rfl, hb⟩; refine ⟨_, rfl, ?_⟩; refine k1_ Ws_ ?_; clear HB; intro HB; (try clear hb)))
 go_ret2
 exact ⟨_, Z9, Z17, Z2⟩
def bp_.f (l0 : List (Int)) : Option (List (Int)) := if l0.length ≤ 17592186044416 then some l0 else none
set_option maxHeartbeats 8000000 in
set_option maxRecDepth 100000 in
theorem bp_.calls (A0 : Option Addr) (c0 : Nat) (l0 : List (Int)) (r : List (Int)) (w : World) (hr0 : Kd.C (Kd.int .i64) w A0 l0.length l0) (hc0 : l0.length ≤ c0) (h : bp_.f l0 = some r) :
  Calls Tryz.prog 67 #[.slice A0 l0.length c0] w fun e w' => ∃ v0_ : Value, e = .returned (v0_) ∧ Kd.R (Kd.int .i64) 3 w' w.heap.size (fun _ => True) v0_ r ∧ Below w.heap.size w w' := by
 have hn : l0.length ≤ 17592186044416 ∧ l0 = r := by
  unfold bp_.f at h
  split at h
  ·exact ⟨by assumption, Option.some.inj h⟩
  cases h
 obtain ⟨hn, rfl⟩ := hn
 clear h
 have hq : ∀ (w : World) (a : Option Addr) (n c n' c' : Nat), (binOp .eql 43 (.slice a n c) (.slice none n' c')).run Tryz.prog w = .ok (.bool a.isNone) w := fun w a n c n' c' => Lib.run_eql_slice_nil w _ _ a n c n' c' Tryz.underlying43
 have HC := aa_.mk hr0
 have HN := aa_.mk hn
 have HB := aa_.mk (Below.refl w.heap.size w)
 clear hr0 hn
 rcases A0 with _ | ad
 ·have h0 : l0 = [] := by
   cases l0 with
   | nil => rfl
   | cons x xs =>
    obtain ⟨ad, h, _⟩ := HC.out.2.2 (by simp)
    cases h
  subst h0
  clear HC HN
  go_enter Tryz.func67, Tryz.ntmps67
  go_wp2
  go_ret
  exact ⟨_, rfl, Kd.qt_ _ _ _ _ _, Below.refl _ _⟩
 go_enter Tryz.func67, Tryz.ntmps67
 go_wp2_with (at_builtin; refine Kd.qj_ (Kd.int .i64) (w0 := w) w.heap.size rfl _ _ 43 3 (.int .i64 0) 8 rfl Tryz.underlying43 (by kernel_rfl) rfl (by decide) (by omega) (.slice (some ⟨w.heap.size, 0, none⟩) 0 0) [] l0 _ _ _ (fun _ => True) (fun _ => False) rfl rfl ?aO ?aR (fun _ _ h => h) (fun _ h => h.elim) ?aF ?aB ?aS ?aL ?_)
 case aO => exact ⟨fun _ _ => trivial, [], World.ownsRow_made w #[] 0 (Nat.le_refl _) (Nat.zero_le _) (by simp), aH_.none _ _⟩
 case aR => exact Kd.qg_ HC.out _
 case aF => exact fun _ _ => trivial
 case aB => exact aC_ (Below.refl _ _) _
 case aS => simp
 case aL => have := HN.out; simp only [List.length_nil]; omega
 intro v1 w1 ho hb hg hat
 go_wp2
 go_ret
 exact ⟨_, rfl, ho, hb⟩
theorem bD_.of_reps {xs : List Int} {inner : List Value} (h : aH_ (fun x cs => cs = [Value.int .i64 x]) 1 xs inner) : inner = xs.map (Value.int .i64) := by
 obtain ⟨h1, h2⟩ := h
 refine List.ext_getElem (by simp [h1]) fun j g1 g2 => ?_
 have hj : j < xs.length := by simpa using g2
 have e := h2 j _ (List.getElem?_eq_getElem hj)
 have e2 := congrArg (fun l => l[0]?) e
 simp only [List.getElem?_take, List.getElem?_drop, Nat.mul_one, Nat.add_zero, Nat.zero_lt_one, if_true, List.getElem?_cons_zero] at e2
 rw [List.getElem?_eq_getElem g1] at e2
 rw [Option.some.inj e2, List.getElem_map]
theorem bD_.reps (xs : List Int) : aH_ (fun x cs => cs = [Value.int .i64 x]) 1 xs (xs.map (Value.int .i64)) := by
 refine ⟨by simp, fun j p hp => ?_⟩
 obtain ⟨hj, rfl⟩ := List.getElem?_eq_some_iff.1 hp
 rw [Nat.mul_one, List.drop_eq_getElem_cons (by simpa using hj)]
 simp
theorem bD_.ints (A : Option Addr) (c : Nat) (xs : List Int) (base : Nat) (ok : Nat → Prop) (w : World) (hlen : xs.length < 4611686018427387904) (hR : Kd.R (Kd.int .i64) 3 w base ok (.slice A xs.length c) xs) :
  Calls Tryz.prog 68 #[.slice A xs.length c] w fun e' w' => e' = .returned (.tuple #[]) ∧ Kd.R (Kd.int .i64) 3 w' base ok (.slice A xs.length c) (xs.mergeSort fun x y => decide (x ≤ y)) ∧ w.grownBy w' (Value.ownBlock (.slice A xs.length c)) := by
 have hl : (xs.mergeSort fun x y => decide (x ≤ y)).length = xs.length := List.length_mergeSort xs
 obtain ⟨h0, inner, ho, hr⟩ := hR
 have ein : inner = xs.map (Value.int .i64) := bD_.of_reps hr
 subst ein
 obtain ⟨hlen2, ho2⟩ := ho
 rcases ho2 with ⟨hv, hn⟩ | ⟨g, cap, cur, hv, hb, hh, hc, hm, hs, ht⟩
 ·injection hv with hv1 hv2 hv3
  subst hv1 hv3
  obtain rfl : xs = [] := List.length_eq_zero_iff.1 hn
  refine (Any.sort_Ints_none Tryz.lays191 none 0 w).mono ?_
  rintro e' w' ⟨rfl, rfl⟩
  exact ⟨rfl, by simpa using Kd.pX_ (Kd.qt_ (Kd.int .i64) 3 w' base ok) (fun _ h => h), World.grownBy.refl _ _⟩
 injection hv with hv1 hv2 hv3
 subst hv1 hv3
 replace ht : List.take (xs.length * 1) cur.toList = List.map (Value.int .i64) xs := ht
 rw [Nat.mul_one] at ht
 have hH := holds_of_blockI hh ht
 refine (Any.sort_Ints Tryz.lays191 g 0 c xs w hH (Array.getElem?_eq_some_iff.1 hh).1 hlen).mono ?_
 rintro e' w' ⟨rfl, n, os, rfl⟩
 refine ⟨rfl, ⟨h0, (xs.mergeSort fun x y => decide (x ≤ y)).map (Value.int .i64), ?_, bD_.reps _⟩, Go.grownBy_sortedI _⟩
 rw [hl]
 exact Go.ownsRow_sortedI hl hb hh hc hm hs
theorem bD_.compact (A : Option Addr) (c : Nat) (xs : List Int) (n : Nat) (hn_ : xs.length = n) (base : Nat) (ok : Nat → Prop) (w : World) (hR : Kd.R (Kd.int .i64) 3 w base ok (.slice A n c) xs) :
  Calls Tryz.prog 69 #[.slice A n c] w fun e' w' => e' = .returned (.slice A (Lib.compact xs).length c) ∧ Kd.R (Kd.int .i64) 3 w' base ok (.slice A (Lib.compact xs).length c) (Lib.compact xs) ∧ w.grownBy w' (Value.ownBlock (.slice A n c)) := by
 subst hn_
 have hle : (Lib.compact xs).length ≤ xs.length := by unfold Lib.compact Lib.compactUpTo; rw [List.length_map]; exact Nat.le_trans (List.length_filter_le _ _) (by simp)
 obtain ⟨h0, inner, ho, hr⟩ := hR
 have ein : inner = xs.map (Value.int .i64) := bD_.of_reps hr
 subst ein
 obtain ⟨hlen2, ho2⟩ := ho
 rcases ho2 with ⟨hv, hn⟩ | ⟨g, cap, cur, hv, hb, hh, hc, hm, hs, ht⟩
 ·injection hv with hv1 hv2 hv3
  subst hv1 hv3
  obtain rfl : xs = [] := List.length_eq_zero_iff.1 hn
  refine (Any.slices_Compact_int_empty Tryz.lays220 none 0 w).mono ?_
  rintro e' w' ⟨rfl, rfl⟩
  exact ⟨rfl, Kd.qt_ (Kd.int .i64) 3 w' base ok, World.grownBy.refl _ _⟩
 injection hv with hv1 hv2 hv3
 subst hv1 hv3
 replace ht : List.take (xs.length * 1) cur.toList = List.map (Value.int .i64) xs := ht
 rw [Nat.mul_one] at ht
 have hH := holds_of_blockI hh ht
 refine (Any.slices_Compact_int Tryz.lays220 g 0 c xs w hH (by unfold maxLen at hm; omega) hc).mono ?_
 rintro e' w' ⟨rfl, q, rfl⟩
 have hg : w.grownBy (Go.Sort.putRow (Value.int .i64) (Go.Sort.ahead w q) g 0 (Lib.compact xs ++ List.replicate (xs.length - (Lib.compact xs).length) 0).toArray) (some g) := by
  have := Go.grownBy_sortedI (w := w) (g := g) (n := q) (os := #[]) (Lib.compact xs ++ List.replicate (xs.length - (Lib.compact xs).length) 0).toArray
  rwa [Go.Sort.grow_empty] at this
 refine ⟨rfl, ⟨h0, (Lib.compact xs).map (Value.int .i64), ⟨by rw [List.length_map]; exact (Nat.mul_one _).symm, .inr ⟨g, c, Go.Sort.putCells (Value.int .i64) 0 (Lib.compact xs ++ List.replicate (xs.length - (Lib.compact xs).length) 0).toArray cur, rfl, hb, ?_, by omega, hm, by simpa [Go.Sort.putCells] using hs, ?_⟩⟩, bD_.reps _⟩, hg⟩
 ·have := Go.heap_sortedI (n := q) (os := #[]) (Lib.compact xs ++ List.replicate (xs.length - (Lib.compact xs).length) 0).toArray hh
  rwa [Go.Sort.grow_empty] at this
 have hl2 : (Lib.compact xs ++ List.replicate (xs.length - (Lib.compact xs).length) (0 : Int)).length = xs.length := by simp; omega
 have hs1 : cur.size = c * 1 := hs
 have := Go.take_putCellsI cur (Lib.compact xs ++ List.replicate (xs.length - (Lib.compact xs).length) 0) (by omega)
 rw [hl2] at this
 have h2 := congrArg (List.take (Lib.compact xs).length) this
 rw [List.take_take, Nat.min_eq_left hle, ← List.map_take, List.take_left] at h2
 rw [show (Lib.compact xs).length * (Kd.int .i64).sz = (Lib.compact xs).length from Nat.mul_one _]
 exact h2
def bD_.f (l0 : List Int) : Option (List Int) := (bp_.f l0).bind fun t => some (Lib.compact (t.mergeSort fun x y => decide (x ≤ y)))
set_option maxHeartbeats 8000000 in
set_option maxRecDepth 100000 in
theorem bD_.calls (A0 : Option Addr) (c0 : Nat) (l0 : List Int) (r : List Int) (w : World) (hr0 : Kd.C (Kd.int .i64) w A0 l0.length l0) (hc0 : l0.length ≤ c0) (h : bD_.f l0 = some r) :
  Calls Tryz.prog 33 #[.slice A0 l0.length c0] w fun e w' => ∃ v0_ : Value, e = .returned (v0_) ∧ Kd.R (Kd.int .i64) 3 w' w.heap.size (fun _ => True) v0_ r ∧ Below w.heap.size w w' := by
 have HR0 := aa_.mk hr0
 have HC0 := aa_.mk hc0
 clear hr0 hc0
 obtain ⟨t, A1, H⟩ := Option.bind_eq_some_iff.mp h
 obtain rfl := Option.some.inj H
 have A2 := aa_.mk A1
 have hlt : t.length < 4611686018427387904 := by
  unfold bp_.f at A1
  split at A1
  ·rw [← Option.some.inj A1]; omega
  cases A1
 have HN := aa_.mk hlt
 clear h A1 H hlt
 go_enter Tryz.func33, Tryz.ntmps33
 go_wp2_with (first | ((with_reducible refine ae_ (f := 67) rfl ?_); refine ey_ (some 5) rfl rfl Tryz.func67 (by kernel_rfl) rfl #[.slice A0 l0.length c0] rfl (Z99) ?_; refine (bp_.calls A0 c0 l0 t w HR0.out HC0.out A2.out).mono ?_; rintro e w1 ⟨v1, rfl, ho1, hb1⟩; refine ⟨_, rfl, ?_⟩; obtain ⟨Ao, co, eo⟩ := Kd.pW_ ho1; subst eo; have N2 := aa_.mk ho1; have HB1 := aa_.mk hb1; clear ho1 hb1) | ((with_reducible refine ae_ (f := 68) rfl ?_); refine ey_ (some 7) rfl rfl Tryz.func68 (by kernel_rfl) rfl #[.slice Ao t.length co] rfl (Z99) ?_; refine (bD_.ints Ao co t w.heap.size (fun _ => True) w1 HN.out N2.out).mono ?_; rintro e w2 ⟨rfl, ho2, hg2⟩; refine ⟨_, rfl, ?_⟩; have hl2 : (t.mergeSort fun x y => decide (x ≤ y)).length = t.length := List.length_mergeSort t; have HB2 := aa_.mk (HB1.out.grown hg2 (HB1.out).size (fun k_ hk_ => Kd.p9_ N2.out k_ hk_)); have N3 := aa_.mk ho2; clear ho2 hg2) | ((with_reducible refine ae_ (f := 69) rfl ?_); refine ey_ (some 9) rfl rfl Tryz.func69 (by kernel_rfl) rfl #[.slice Ao t.length co] rfl (Z99) ?_; refine (bD_.compact Ao co (t.mergeSort fun x y => decide (x ≤ y)) t.length hl2 w.heap.size (fun _ => True) w2 N3.out).mono ?_; rintro e w3 ⟨rfl, ho3, hg3⟩; refine ⟨_, rfl, ?_⟩; have HB3 := aa_.mk (HB2.out.grown hg3 (HB2.out).size (fun k_ hk_ => Kd.p9_ N3.out k_ hk_)); have HO3 := aa_.mk ho3; clear ho3 hg3))
 go_ret
 exact ⟨_, rfl, HO3.out, HB3.out⟩
end Go.Proofs.YtcpliaahkcbinaaGreatDoor.PFnStrokes
