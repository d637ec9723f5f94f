-- written by a program of this session: the kit's print, with outer functions of the session's own (wip/ext)
import Derived.Test.YtmnnmddfmmaohaaPFnPunchJobsx0
import Derived.Test.YtmnnmddfmmaohaaPFnPunchJobsx2
import Derived.Test.YtmnnmddfmmaohaaPFnPunchJobsx4
import Derived.Test.YtmnnmddfmmaohaaPFnPunchJobsx10
namespace Go.Proofs.Ytmnnmddfmmaohaa.PFnPunchJobs
open Go.RowKit Go.Proofs.YtmnnmddfmmaohaaW.PrintWords Go.Proofs.YtmnnmddfmmaohaaW.PrintLast Go.Proofs.YtmnnmddfmmaohaaW.PrintMore
attribute [local go_sem] max2_int min2_int max_two min_two max_three min_three max_four min_four   -- for this text's walks alone
set_option linter.unusedVariables false
set_option linter.unusedSimpArgs false
theorem mo11_ {p : Prop} (h : p := by repeat' first | (with_reducible first | apply ih0 | apply ih0 | apply impl_IsSheet.mono | apply impl_IsSheet.mono | apply impl_holeStrokes.mono | apply impl_holeStrokes.mono | apply impl_jobStrokes.mono | apply impl_jobStrokes.mono | apply impl_strokesOf.mono | apply impl_strokesOf.mono | apply spec_jbStrokes.mono | apply spec_jbStrokes.mono | exact LeO.refl _ | exact LeO.none _ | refine LeO.ite ?_ ?_ | refine LeO.bind ?_ (fun _ => ?_)) | exact LeO.none _ | refine LeO.ite ?_ ?_ | refine LeO.bind ?_ (fun _ => ?_)) : p := h

/-! ### impl_holeStrokes: function 77 -/
def impl_holeStrokes.l0 : Nat → List (S103) → Int → Int → Int → Int → Int → Option ((List (S103)) × Bool)
 | 0, _, _, _, _, _, _ => none
 | k + 1, x4, x5, x6, rc, x438001, x438002 => if x6 ≤ x5 then (if x4.length < 8796093022208 then (impl_holeStrokes.l0 k (x4 ++ [(⟨rc, x6⟩ : S103)]) x5 (wrap64 (x6 + 4)) rc x438001 x438002) else (none)) else (if 0 ≤ (wrap64 ((x4.length : Int) - 1)) then (if (wrap64 ((x4.length : Int) - 1)) < (x4.length : Int) then (if x5 > ((rd_T103 x4 (wrap64 ((x4.length : Int) - 1))).f1) then (if x4.length < 8796093022208 then (some ((x4 ++ [(⟨rc, x5⟩ : S103)]), true)) else (none)) else (some (x4, true))) else (none)) else (none))
def impl_holeStrokes.f (k : Nat) (a0_0 : Int) (a0_1 : Int) (a0_2 : Int) : Option ((List (S103)) × Bool) := if (wrap64 (a0_2 - a0_1)) < 4 then (some (([] : List (S103)), false)) else (impl_holeStrokes.l0 k (([] : List (S103))) (wrap64 (a0_2 - 4)) a0_1 a0_0 a0_1 a0_2)
theorem impl_holeStrokes.mono_l : ∀ k, (∀ y0 y1 y2 y3 y4 y5, LeO (impl_holeStrokes.l0 k y0 y1 y2 y3 y4 y5) (impl_holeStrokes.l0 (k + 1) y0 y1 y2 y3 y4 y5))
 | 0 => fun _ _ _ _ _ _ r h => by simp [impl_holeStrokes.l0] at h
 | k + 1 => by
  have ih0 := impl_holeStrokes.mono_l k
  ·intro y0 y1 y2 y3 y4 y5
   unfold impl_holeStrokes.l0
   exact mo11_
theorem impl_holeStrokes.mono : ∀ a0 a1 a2 k, LeO (impl_holeStrokes.f k a0 a1 a2) (impl_holeStrokes.f (k + 1) a0 a1 a2) := by
 intro a0 a1 a2 k
 have ih0 := impl_holeStrokes.mono_l k
 unfold impl_holeStrokes.f
 exact mo11_
set_option maxHeartbeats 8000000 in
set_option maxRecDepth 100000 in
theorem impl_holeStrokes.calls (k : Nat) (a0_0 : Int) (a0_1 : Int) (a0_2 : Int) (r1 : List (S103)) (r2 : Bool) (w : World) (h : impl_holeStrokes.f k a0_0 a0_1 a0_2 = some (r1, r2)) :
  Calls Try.prog 77 #[.agg #[.int .i64 a0_0, .int .i64 a0_1, .int .i64 a0_2]] w fun e w' => ∃ v0_ : Value, e = .returned (.tuple #[v0_, .bool r2]) ∧ Kd.R k103 103 w' w.heap.size (fun _ => True) v0_ r1 ∧ Below w.heap.size w w' := by
 have hu90 := Try.underlying90
 have hu103 := Try.underlying103
 have HB := Aside0.mk (Below.refl w.heap.size w)
 have H : (if (wrap64 (a0_2 - a0_1)) < 4 then (some (([] : List (S103)), false)) else (impl_holeStrokes.l0 k (([] : List (S103))) (wrap64 (a0_2 - 4)) a0_1 a0_0 a0_1 a0_2)) = some (r1, r2) := h
 clear h
 by_cases c2 : (wrap64 (a0_2 - a0_1)) < 4
 ·rw [if_pos c2] at H
  have hP : decide ((wrap64 (a0_2 - a0_1)) < 4) = true := decide_eq_true c2
  clear c2
  simp only [Option.some.injEq, Prod.mk.injEq] at H
  obtain ⟨rfl, rfl⟩ := H
  go_enter Try.func77, Try.ntmps77
  go_wp2_with ((with_reducible refine gate_dst (N := 1) rfl ?_); refine bv_ 1 90 #[.int .i64 a0_0, .int .i64 a0_1, .int .i64 a0_2] ?_; intro od hg w3 hbox hb; refine k4_ (below_step (Z5) hb) (hbox) ((Z38 : w.heap.size ≤ od)) ((Z38 : w.heap.size ≤ od)) ?_; clear HB; intro HB f3 GW437 DB; clear hb hbox hg; obtain ⟨zb, zc, hcz4_2, zd, ze, hfz4_2⟩ := bx3_ (w := w3) f3.out)
  go_ret2
  exact ⟨_, Z11, Z44, Z100⟩
 rw [if_neg c2] at H
 have hP : decide ((wrap64 (a0_2 - a0_1)) < 4) = false := decide_eq_false c2
 clear c2
 obtain ⟨GO, sx⟩ : ∃ y_ : List (S103), y_ = (([] : List (S103))) := ⟨_, rfl⟩
 replace H : (impl_holeStrokes.l0 k GO (wrap64 (a0_2 - 4)) a0_1 a0_0 a0_1 a0_2) = some (r1, r2) := hx_ sx H
 have DH := Aside0.mk sx
 clear sx
 have H' := Aside0.mk H
 clear H
 go_enter Try.func77, Try.ntmps77
 go_wp2_with (first | ((with_reducible refine gate_dst (N := 1) rfl ?_); refine bv_ 1 90 #[.int .i64 a0_0, .int .i64 a0_1, .int .i64 a0_2] ?_; intro od hg w5 hbox hb; refine k4_ (below_step (Z5) hb) (hbox) ((Z38 : w.heap.size ≤ od)) ((Z38 : w.heap.size ≤ od)) ?_; clear HB; intro HB f3 GW437 DB; clear hb hbox hg; obtain ⟨mt, mu, pm, nQ, mv, pn⟩ := bx3_ (w := w5) f3.out) | ((with_reducible refine gate_dst (N := 13) rfl ?_); refine Kd.R_lit k103 _ 103 ?hg (N := 13) ?hd (xs := ([] : List (S103))) (inner := []) (ok := fun _ => True) (okp := fun _ => True) ?hr ?hp (fun _ hk => hk) trivial (Below.refl _ _) (Nat.le_refl _) (by simp) ?_; (case hd => rfl); (case hg => rfl); (case hr => exact Z110); (case hp => exact (Reps.none _ _)); intro v439 w7 ho8 hb hg_ hnew_; clear hg_ hnew_; (first | rw [← DH.out] at ho8 | (simp only [Int.reduceToNat] at ho8; rw [← DH.out] at ho8)); refine k3_ (Kd.R_lower ho8 (below_size (Z100))) (Ye_ f3) (below_step (Z100) hb) ?_; clear f3 HB; intro HO440 f3 HB; clear hb ho8; obtain ⟨iO, jj, uL, jk, jl, uM⟩ := bx3_ (w := w7) f3.out))
 (try simp only [Act.put, List.setIfInBounds_toArray, List.set_cons_zero, List.set_cons_succ])
 go_loopg [4, 6] k (fun kq v4 v6 w' => ∃ (aX : List (S103)) (gp : Int), v6 = .int .i64 gp ∧ Aside0 (impl_holeStrokes.l0 kq aX (wrap64 (a0_2 - 4)) gp a0_0 a0_1 a0_2 = some (r1, r2)) ∧ Aside0 (kq ≤ k) ∧ Aside0 (Kd.R k103 103 w' w.heap.size (fun _ => True) v4 aX) ∧ Aside0 (w'.heap[od]? = some (.cells #[.int .i64 a0_0, .int .i64 a0_1, .int .i64 a0_2] 90 (0, 0))) ∧ Aside0 (Below w.heap.size w w'))
 case atStart => exact ⟨(GO), (a0_1), (Z41), H', ⟨Nat.le_refl _⟩, ⟨Z2 HO440⟩, ⟨Z1 f3⟩, ⟨Z100⟩⟩
 case round =>
  clear H'
  (try clear c2); (try clear hP); (try clear p2); (try clear p6); (try clear c7); (try clear zb); (try clear zc); (try clear hcz4_2); (try clear mt); (try clear mu); (try clear pm); (try clear iO); (try clear jj); (try clear uL); (try clear zd); (try clear ze); (try clear hfz4_2); (try clear nQ); (try clear mv); (try clear pn); (try clear jk); (try clear jl); (try clear uM)
  obtain ⟨aX, gp, rfl, HA, HK1, aJ, f3, HB⟩ := hrel
  cases gk with
  | zero => exact absurd HA.out (by simp [impl_holeStrokes.l0])
  | succ k1 =>
   have H := HA.out
   clear HA
   simp only [impl_holeStrokes.l0] at H
   by_cases c10 : gp ≤ (wrap64 (a0_2 - 4))
   ·rw [if_pos c10] at H
    have ga : decide (gp ≤ (wrap64 (a0_2 - 4))) = true := decide_eq_true c10
    clear c10
    by_cases c11 : aX.length < 8796093022208
    case neg => rw [if_neg c11] at H; exact absurd H (by simp)
    rw [if_pos c11] at H
    have zf := Aside0.mk c11
    clear c11
    obtain ⟨GP, sy⟩ : ∃ y_ : List (S103), y_ = (aX ++ [(⟨a0_0, gp⟩ : S103)]) := ⟨_, rfl⟩
    replace H : (impl_holeStrokes.l0 k1 GP (wrap64 (a0_2 - 4)) (wrap64 (gp + 4)) a0_0 a0_1 a0_2) = some (r1, r2) := hx_ sy H
    have Ny441 := Aside0.mk sy
    clear sy
    have H' := Aside0.mk H
    clear H
    obtain ⟨gC, gD, wy, gE, gF, wz⟩ := bx3_ (w := wr) f3.out
    go_wp2_with ((with_reducible refine gate_builtin (b := .append) (xs := #[.tmp 24, .tmp 29]) rfl ?_); at_builtin; refine Kd.R_append k103 (w0 := w) w.heap.size rfl (.tmp 24) (.tmp 29) 63 103 (.agg #[(.int .i64 0), (.int .i64 0)]) 16 rfl Try.underlying63 info103 rfl (by decide) (by omega) u4 aX (⟨a0_0, gp⟩ : S103) [.int .i64 a0_0, .int .i64 gp] (fun _ => True) (fun _ => False) rfl rfl ?aP (fun _ hk => hk.elim) ?aF ?aO ?aB ?aS ?aL ?_; (case aP => exact k103_mkM _ _ _ (⟨a0_0, gp⟩ : S103)); (case aB => exact Z100); (case aF => exact (fun _ _ => trivial)); (case aO => exact (Z2 aJ)); (case aS => exact (below_size (Z100))); (case aL => exact Z182 zf); intro v442 lG ho hb hg hat; rw [← Ny441.out] at ho; refine k3_ (blk_grown (g := od) (o := .cells #[.int .i64 a0_0, .int .i64 a0_1, .int .i64 a0_2] 90 (0, 0)) (Z1 f3) hg (Kd.R_ne aJ.out f3.out (by decide))) (hb) (ho) ?_; clear f3 HB aJ; intro f3 HB HO443; clear ho hb hg hat)
    go_roundg k1
    case measure => have := HK1.out; omega
    case rel => exact ⟨(GP), (wrap64 (gp + 4)), (Z41), H', ⟨Z182 HK1⟩, ⟨Z2 HO443⟩, ⟨Z1 f3⟩, ⟨Z100⟩⟩
   rw [if_neg c10] at H
   have ga : decide (gp ≤ (wrap64 (a0_2 - 4))) = false := decide_eq_false c10
   clear c10
   obtain ⟨la, hji14⟩ : ∃ j_ : Int, (wrap64 ((aX.length : Int) - 1)) = j_ := ⟨_, rfl⟩
   replace H : (if 0 ≤ (la) then (if (la) < (aX.length : Int) then (if (wrap64 (a0_2 - 4)) > ((rd_T103 aX (la)).f1) then (if aX.length < 8796093022208 then (some ((aX ++ [(⟨a0_0, (wrap64 (a0_2 - 4))⟩ : S103)]), true)) else (none)) else (some (aX, true))) else (none)) else (none)) = some (r1, r2) := by first | (rw [hji14] at H; exact H) | (simp only [hji14] at H ⊢; exact H)
   have hji14w : (IntKind.i64.wrap ((aX.length : Int) - 1)) = la := (i64_w _).trans hji14
   by_cases c15 : 0 ≤ (la)
   case neg => rw [if_neg c15] at H; exact absurd H (by simp)
   rw [if_pos c15] at H
   have oe : decide (0 ≤ (la)) = true := decide_eq_true c15
   clear c15
   by_cases c16 : (la) < (aX.length : Int)
   case neg => rw [if_neg c16] at H; exact absurd H (by simp)
   rw [if_pos c16] at H
   have mU : decide ((la) < (aX.length : Int)) = true := decide_eq_true c16
   clear c16
   by_cases c17 : (wrap64 (a0_2 - 4)) > ((rd_T103 aX (la)).f1)
   ·rw [if_pos c17] at H
    have sA : decide (((rd_T103 aX (la)).f1) < (wrap64 (a0_2 - 4))) = true := decide_eq_true c17
    clear c17
    by_cases c18 : aX.length < 8796093022208
    case neg => rw [if_neg c18] at H; exact absurd H (by simp)
    rw [if_pos c18] at H
    have sB := Aside0.mk c18
    clear c18
    obtain ⟨y445, sC⟩ : ∃ y_ : List (S103), y_ = (aX ++ [(⟨a0_0, (wrap64 (a0_2 - 4))⟩ : S103)]) := ⟨_, rfl⟩
    replace H : (some (y445, true)) = some (r1, r2) := hx_ sC H
    have Ny445 := Aside0.mk sC
    clear sC
    simp only [Option.some.injEq, Prod.mk.injEq] at H
    obtain ⟨rfl, rfl⟩ := H
    obtain ⟨zg, qw, uN⟩ := Kd.R_slice aJ.out
    subst uN
    have uO : 0 ≤ ((la) : Int) := of_decide_eq_true (Z21)
    have uP : (la) < (aX.length : Int) := of_decide_eq_true (Z21)
    obtain ⟨DI, e444, hx444_0, hx444_1⟩ := at_T103 (Kd.R_reads' aJ.out).2.2 (la) uO uP
    cases e444
    replace uO := eq_true uO
    replace uP := eq_true uP
    obtain ⟨wA, wB, hcz20_2, wC, wD, hfz20_2⟩ := bx3_ (w := wr) f3.out
    go_wp2_with ((with_reducible refine gate_builtin (b := .append) (xs := #[.tmp 40, .tmp 45]) rfl ?_); at_builtin; refine Kd.R_append k103 (w0 := w) w.heap.size rfl (.tmp 40) (.tmp 45) 63 103 (.agg #[(.int .i64 0), (.int .i64 0)]) 16 rfl Try.underlying63 info103 rfl (by decide) (by omega) (.slice (some DI) aX.length qw) aX (⟨a0_0, (wrap64 (a0_2 - 4))⟩ : S103) [.int .i64 a0_0, .int .i64 (wrap64 (a0_2 - 4))] (fun _ => True) (fun _ => False) rfl rfl ?aP (fun _ hk => hk.elim) ?aF ?aO ?aB ?aS ?aL ?_; (case aP => exact k103_mkM _ _ _ (⟨a0_0, (wrap64 (a0_2 - 4))⟩ : S103)); (case aB => exact Z100); (case aF => exact (fun _ _ => trivial)); (case aO => exact (Z2 aJ)); (case aS => exact (below_size (Z100))); (case aL => exact Z182 sB); intro v446 DD ho hb hg hat; rw [← Ny445.out] at ho; refine k3_ (blk_grown (g := od) (o := .cells #[.int .i64 a0_0, .int .i64 a0_1, .int .i64 a0_2] 90 (0, 0)) (Z1 f3) hg (Kd.R_ne aJ.out f3.out (by decide))) (hb) (ho) ?_; clear f3 HB aJ; intro f3 HB HO447; clear ho hb hg hat)
    go_ret2
    exact ⟨_, Z237, Z2 HO447, Z100⟩
   rw [if_neg c17] at H
   have sA : decide (((rd_T103 aX (la)).f1) < (wrap64 (a0_2 - 4))) = false := decide_eq_false c17
   clear c17
   simp only [Option.some.injEq, Prod.mk.injEq] at H
   obtain ⟨rfl, rfl⟩ := H
   obtain ⟨GQ, zh, xN⟩ := Kd.R_slice aJ.out
   subst xN
   have uO : 0 ≤ ((la) : Int) := of_decide_eq_true (Z21)
   have uP : (la) < (aX.length : Int) := of_decide_eq_true (Z21)
   obtain ⟨DI, e444, hx444_0, hx444_1⟩ := at_T103 (Kd.R_reads' aJ.out).2.2 (la) uO uP
   cases e444
   replace uO := eq_true uO
   replace uP := eq_true uP
   go_wp2
   go_ret2
   exact ⟨_, Z237, Z2 aJ, Z100⟩

/-! ### impl_strokesOf: function 83 -/
def impl_strokesOf.l0 : Nat → List (S103) → List (S90) → Int → Int → Option ((List (S103)) × Bool)
 | 0, _, _, _, _ => none
 | k + 1, x4, x10, x11, x12 => if x12 < x11 then (if 0 ≤ x12 then (if x12 < (x10.length : Int) then ((impl_holeStrokes.f k ((rd_T90 x10 x12).f0) ((rd_T90 x10 x12).f1) ((rd_T90 x10 x12).f2)).bind fun zi => (if zi.2 = true then (if x4.length + zi.1.length < 8796093022208 then (impl_strokesOf.l0 k (x4 ++ zi.1) x10 x11 (wrap64 (x12 + 1))) else (none)) else (some (([] : List (S103)), false)))) else (none)) else (none)) else (if (x4.length : Int) > 200 then (some (([] : List (S103)), false)) else (some (x4, true)))
def impl_strokesOf.f (k : Nat) (l0 : List (S90)) : Option ((List (S103)) × Bool) := impl_strokesOf.l0 k (([] : List (S103))) l0 (l0.length : Int) 0
theorem impl_strokesOf.mono_l : ∀ k, (∀ y0 y1 y2 y3, LeO (impl_strokesOf.l0 k y0 y1 y2 y3) (impl_strokesOf.l0 (k + 1) y0 y1 y2 y3))
 | 0 => fun _ _ _ _ r h => by simp [impl_strokesOf.l0] at h
 | k + 1 => by
  have ih0 := impl_strokesOf.mono_l k
  ·intro y0 y1 y2 y3
   unfold impl_strokesOf.l0
   exact mo11_
theorem impl_strokesOf.mono : ∀ a0 k, LeO (impl_strokesOf.f k a0) (impl_strokesOf.f (k + 1) a0) := by
 intro a0 k
 have ih0 := impl_strokesOf.mono_l k
 unfold impl_strokesOf.f
 exact mo11_
set_option maxHeartbeats 8000000 in
set_option maxRecDepth 100000 in
theorem impl_strokesOf.calls (k : Nat) (A0 : Option Addr) (c0 : Nat) (l0 : List (S90)) (r1 : List (S103)) (r2 : Bool) (w : World) (hr0 : Kd.C k90 w A0 l0.length l0) (hc0 : l0.length ≤ c0) (h : impl_strokesOf.f k l0 = some (r1, r2)) :
  Calls Try.prog 83 #[.slice A0 l0.length c0] w fun e w' => ∃ v0_ : Value, e = .returned (.tuple #[v0_, .bool r2]) ∧ Kd.R k103 103 w' w.heap.size (fun _ => True) v0_ r1 ∧ Below w.heap.size w w' := by
 have hu90 := Try.underlying90
 have HR0 := Aside0.mk hr0
 have HC0 := Aside0.mk hc0
 clear hr0 hc0
 have HB := Aside0.mk (Below.refl w.heap.size w)
 have H : (impl_strokesOf.l0 k (([] : List (S103))) l0 (l0.length : Int) 0) = some (r1, r2) := h
 clear h
 obtain ⟨GR, sD⟩ : ∃ y_ : List (S103), y_ = (([] : List (S103))) := ⟨_, rfl⟩
 replace H : (impl_strokesOf.l0 k GR l0 (l0.length : Int) 0) = some (r1, r2) := hx_ sD H
 have DJ := Aside0.mk sD
 clear sD
 have H' := Aside0.mk H
 clear H
 go_enter Try.func83, Try.ntmps83
 go_wp2_with ((with_reducible refine gate_dst (N := 9) rfl ?_); refine Kd.R_lit k103 _ 103 ?hg (N := 9) ?hd (xs := ([] : List (S103))) (inner := []) (ok := fun _ => True) (okp := fun _ => True) ?hr ?hp (fun _ hk => hk) trivial (Below.refl _ _) (Nat.le_refl _) (by simp) ?_; (case hd => rfl); (case hg => rfl); (case hr => exact Z110); (case hp => exact (Reps.none _ _)); intro v449 w2 ho3 hb hg_ hnew_; clear hg_ hnew_; (first | rw [← DJ.out] at ho3 | (simp only [Int.reduceToNat] at ho3; rw [← DJ.out] at ho3)); refine k2_ (Kd.R_lower ho3 (below_size (Z5))) (below_step (Z5) hb) ?_; clear HB; intro HO450 HB; clear hb ho3)
 (try simp only [Act.put, List.setIfInBounds_toArray, List.set_cons_zero, List.set_cons_succ])
 go_loopg [4, 12] k (fun kq v4 I9 w' => ∃ (aX : List (S103)) (aM : Int), I9 = .int .i64 aM ∧ Aside0 (impl_strokesOf.l0 kq aX l0 (l0.length : Int) aM = some (r1, r2)) ∧ Aside0 (kq ≤ k) ∧ Aside0 (Kd.R k103 103 w' w.heap.size (fun _ => True) v4 aX) ∧ Aside0 (Below w.heap.size w w'))
 case atStart => exact ⟨(GR), (0), (Z41), H', ⟨Nat.le_refl _⟩, ⟨Z2 HO450⟩, ⟨Z5⟩⟩
 case round =>
  clear H'
  (try clear p2)
  obtain ⟨aX, aM, rfl, HA, HK1, aJ, HB⟩ := hrel
  cases gk with
  | zero => exact absurd HA.out (by simp [impl_strokesOf.l0])
  | succ k1 =>
   have H := HA.out
   clear HA
   simp only [impl_strokesOf.l0] at H
   by_cases c4 : aM < (l0.length : Int)
   ·rw [if_pos c4] at H
    have go : decide (aM < (l0.length : Int)) = true := decide_eq_true c4
    clear c4
    by_cases c5 : 0 ≤ aM
    case neg => rw [if_neg c5] at H; exact absurd H (by simp)
    rw [if_pos c5] at H
    have gW : decide (0 ≤ aM) = true := decide_eq_true c5
    clear c5
    by_cases c6 : aM < (l0.length : Int)
    case neg => rw [if_neg c6] at H; exact absurd H (by simp)
    rw [if_pos c6] at H
    have nR : decide (aM < (l0.length : Int)) = true := decide_eq_true c6
    clear c6
    obtain ⟨⟨xO, t456⟩, A7, H⟩ := bd_ H
    (try dsimp only at H)
    by_cases c8 : t456 = true
    ·subst c8
     rw [if_pos rfl] at H
     by_cases c9 : aX.length + xO.length < 8796093022208
     case neg => rw [if_neg c9] at H; exact absurd H (by simp)
     rw [if_pos c9] at H
     have LMc9 := Aside0.mk c9
     clear c9
     obtain ⟨GS, sE⟩ : ∃ y_ : List (S103), y_ = (aX ++ xO) := ⟨_, rfl⟩
     replace H : (impl_strokesOf.l0 k1 GS l0 (l0.length : Int) (wrap64 (aM + 1))) = some (r1, r2) := hx_ sE H
     have Ny457 := Aside0.mk sE
     clear sE
     have H' := Aside0.mk H
     clear H
     have uQ : 0 ≤ (aM : Int) := of_decide_eq_true (Z21)
     have uR : aM < (l0.length : Int) := of_decide_eq_true (Z21)
     obtain ⟨ad451, e451, jm, jn, jo⟩ := at_T90 HR0.out aM uQ uR
     cases e451
     replace jm := (HB.out.cell (World.block_lt_of_cell? w _ jm)).trans jm
     replace jn := (HB.out.cell (World.block_lt_of_cell? w _ jn)).trans jn
     replace jo := (HB.out.cell (World.block_lt_of_cell? w _ jo)).trans jo
     replace uQ := eq_true uQ
     replace uR := eq_true uR
     go_wp2_with (first | ((with_reducible refine gate_dst (N := 6) rfl ?_); refine bv_ 6 90 #[.int .i64 0, .int .i64 0, .int .i64 0] ?_; intro j7 hg oB hbox hb; refine k5_ (Ya_ aJ) (below_step (Z5) hb) (hbox) ((Z38 : w.heap.size ≤ j7)) ((Z38 : w.heap.size ≤ j7)) ?_; clear aJ HB; intro aJ HB io GW452 Dx; clear hb hbox hg; obtain ⟨lH, lI, wE, lJ, lK, wF⟩ := bx3_ (w := oB) io.out) | ((with_reducible refine gate_callee (f := 77) rfl ?_); refine gl_ 18 Try.func77 #[.agg #[.int .i64 ((rd_T90 l0 aM).f0), .int .i64 ((rd_T90 l0 aM).f1), .int .i64 ((rd_T90 l0 aM).f2)]] ?_; (with_reducible refine (impl_holeStrokes.calls k1 ((rd_T90 l0 aM).f0) ((rd_T90 l0 aM).f1) ((rd_T90 l0 aM).f2) xO true _ A7.out).mono ?_); rintro e yI ⟨v454, rfl, ho0, hb⟩; refine ⟨_, rfl, ?_⟩; refine k4_ (Kd.R_elder' (Z121) (Kd.R_base ho0) hb) (Kd.R_lower (Kd.R_new' ho0 (Kd.R_lt (Z121))) (below_size (Z135))) (blk_below (g := j7) (o := .cells #[.int .i64 ((rd_T90 l0 aM).f0), .int .i64 ((rd_T90 l0 aM).f1), .int .i64 ((rd_T90 l0 aM).f2)] 90 (0, 0)) (Z68 io) hb) (below_step (Z135) hb) ?_; clear aJ io HB; intro aJ po io HB; (try clear hb ho0); obtain ⟨GT, GU, Fi⟩ := Kd.R_slice po.out; subst Fi) | ((with_reducible refine gate_builtin (b := .append) (xs := #[.tmp 23, .tmp 24]) rfl ?_); at_builtin; refine Kd.R_append_rows k103 (w0 := w) w.heap.size rfl (.tmp 23) (.tmp 24) 63 103 (.agg #[(.int .i64 0), (.int .i64 0)]) 16 rfl Try.underlying63 info103 rfl (by decide) (by omega) u4 aX xO _ _ _ (fun k_ => some k_ ≠ (.slice GT xO.length GU : Value).ownBlock) (fun _ => False) rfl rfl ?aO ?aR (fun _ _ h => h) (fun _ h => h.elim) ?aF ?aB ?aS ?aL ?_; (case aR => exact Z7 po); (case aB => exact Z135); (case aF => exact (fun k_ hk => Kd.fresh' (Yd_ po) k_ hk)); (case aO => exact (Z185 aJ)); (case aS => exact (below_size (Z135))); (case aL => exact Z182 LMc9); intro v458 lG ho hb hg hat; rw [← Ny457.out] at ho; refine k4_ (blk_grown (g := j7) (o := .cells #[.int .i64 ((rd_T90 l0 aM).f0), .int .i64 ((rd_T90 l0 aM).f1), .int .i64 ((rd_T90 l0 aM).f2)] 90 (0, 0)) (Z1 io) hg (Kd.R_ne aJ.out io.out (by decide))) (Kd.R_after (ok := (fun _ => True)) (Z2 po) hg hat) (hb) (ho) ?_; clear io po HB aJ; intro io po HB HO459; clear ho hb hg hat))
     go_roundg k1
     case measure => have := HK1.out; omega
     case rel => exact ⟨(GS), (wrap64 (aM + 1)), (Z41), H', ⟨Z182 HK1⟩, ⟨Z47 HO459⟩, ⟨Z135⟩⟩
    replace c8 := Bool.eq_false_iff.mpr c8
    subst c8
    rw [if_neg (show ¬ (false = true) by decide)] at H
    simp only [Option.some.injEq, Prod.mk.injEq] at H
    obtain ⟨rfl, rfl⟩ := H
    have uQ : 0 ≤ (aM : Int) := of_decide_eq_true (Z21)
    have uR : aM < (l0.length : Int) := of_decide_eq_true (Z21)
    obtain ⟨ad451, e451, jm, jn, jo⟩ := at_T90 HR0.out aM uQ uR
    cases e451
    replace jm := (HB.out.cell (World.block_lt_of_cell? w _ jm)).trans jm
    replace jn := (HB.out.cell (World.block_lt_of_cell? w _ jn)).trans jn
    replace jo := (HB.out.cell (World.block_lt_of_cell? w _ jo)).trans jo
    replace uQ := eq_true uQ
    replace uR := eq_true uR
    go_wp2_with (first | ((with_reducible refine gate_dst (N := 6) rfl ?_); refine bv_ 6 90 #[.int .i64 0, .int .i64 0, .int .i64 0] ?_; intro j7 hg qt hbox hb; refine k5_ (Ya_ aJ) (below_step (Z5) hb) (hbox) ((Z38 : w.heap.size ≤ j7)) ((Z38 : w.heap.size ≤ j7)) ?_; clear aJ HB; intro aJ HB io GW452 Dx; clear hb hbox hg; obtain ⟨mV, mW, hcz16_2, mX, mY, hfz16_2⟩ := bx3_ (w := qt) io.out) | ((with_reducible refine gate_callee (f := 77) rfl ?_); refine gl_ 18 Try.func77 #[.agg #[.int .i64 ((rd_T90 l0 aM).f0), .int .i64 ((rd_T90 l0 aM).f1), .int .i64 ((rd_T90 l0 aM).f2)]] ?_; (with_reducible refine (impl_holeStrokes.calls k1 ((rd_T90 l0 aM).f0) ((rd_T90 l0 aM).f1) ((rd_T90 l0 aM).f2) xO false _ A7.out).mono ?_); rintro e ws ⟨v454, rfl, ho0, hb⟩; refine ⟨_, rfl, ?_⟩; refine k4_ (Kd.R_elder' (Z121) (Kd.R_base ho0) hb) (Kd.R_lower (Kd.R_new' ho0 (Kd.R_lt (Z121))) (below_size (Z135))) (blk_below (g := j7) (o := .cells #[.int .i64 ((rd_T90 l0 aM).f0), .int .i64 ((rd_T90 l0 aM).f1), .int .i64 ((rd_T90 l0 aM).f2)] 90 (0, 0)) (Z68 io) hb) (below_step (Z135) hb) ?_; clear aJ io HB; intro aJ po io HB; (try clear hb ho0)))
    go_ret2
    exact ⟨_, Z11, Z44, Z135⟩
   rw [if_neg c4] at H
   have go : decide (aM < (l0.length : Int)) = false := decide_eq_false c4
   clear c4
   by_cases c18 : (aX.length : Int) > 200
   ·rw [if_pos c18] at H
    have mi : decide (200 < (aX.length : Int)) = true := decide_eq_true c18
    have qR : decide (200 < aX.length) = true := decide_eq_true (by omega)
    clear c18
    simp only [Option.some.injEq, Prod.mk.injEq] at H
    obtain ⟨rfl, rfl⟩ := H
    obtain ⟨zg, qw, uN⟩ := Kd.R_slice aJ.out
    subst uN
    go_wp2
    go_ret2
    exact ⟨_, Z11, Z44, Z5⟩
   rw [if_neg c18] at H
   have mi : decide (200 < (aX.length : Int)) = false := decide_eq_false c18
   have qR : decide (200 < aX.length) = false := decide_eq_false (by omega)
   clear c18
   simp only [Option.some.injEq, Prod.mk.injEq] at H
   obtain ⟨rfl, rfl⟩ := H
   obtain ⟨GV, GW, zk⟩ := Kd.R_slice aJ.out
   subst zk
   go_wp2
   go_ret2
   exact ⟨_, Z11, Z2 aJ, Z5⟩

/-! ### impl_jobStrokes: function 66 -/
def impl_jobStrokes.f (k : Nat) (l0_0 : List (S90)) (a0_1 : Int) : Option ((List (S103)) × Bool) := (impl_IsSheet.f k l0_0).bind fun zl => (if zl = true then ((impl_strokesOf.f k l0_0).bind fun lb => (if lb.2 = true then (if a0_1 ≥ 0 then (some (lb.1, decide (a0_1 ≤ (lb.1.length : Int)))) else (some (lb.1, false))) else (some (lb.1, false)))) else (some (([] : List (S103)), false)))
theorem impl_jobStrokes.mono : ∀ a0 a1 k, LeO (impl_jobStrokes.f k a0 a1) (impl_jobStrokes.f (k + 1) a0 a1) := by
 intro a0 a1 k
 unfold impl_jobStrokes.f
 exact mo11_
set_option maxHeartbeats 8000000 in
set_option maxRecDepth 100000 in
theorem impl_jobStrokes.calls (k : Nat) (A0_0 : Option Addr) (c0_0 : Nat) (l0_0 : List (S90)) (a0_1 : Int) (r1 : List (S103)) (r2 : Bool) (w : World) (hr0_0 : Kd.C k90 w A0_0 l0_0.length l0_0) (hc0_0 : l0_0.length ≤ c0_0) (h : impl_jobStrokes.f k l0_0 a0_1 = some (r1, r2)) :
  Calls Try.prog 66 #[.agg #[.slice A0_0 l0_0.length c0_0, .int .i64 a0_1]] w fun e w' => ∃ v0_ : Value, e = .returned (.tuple #[v0_, .bool r2]) ∧ Kd.R k103 103 w' w.heap.size (fun _ => True) v0_ r1 ∧ Below w.heap.size w w' := by
 have hu44 := Try.underlying44
 have HR0_0 := Aside0.mk hr0_0
 have HC0_0 := Aside0.mk hc0_0
 clear hr0_0 hc0_0
 have HB := Aside0.mk (Below.refl w.heap.size w)
 have H : ((impl_IsSheet.f k l0_0).bind fun zl => (if zl = true then ((impl_strokesOf.f k l0_0).bind fun lb => (if lb.2 = true then (if a0_1 ≥ 0 then (some (lb.1, decide (a0_1 ≤ (lb.1.length : Int)))) else (some (lb.1, false))) else (some (lb.1, false)))) else (some (([] : List (S103)), false)))) = some (r1, r2) := h
 clear h
 obtain ⟨zl, A2, H⟩ := bd_ H
 (try dsimp only at H)
 by_cases c3 : zl = true
 ·subst c3
  rw [if_pos rfl] at H
  obtain ⟨⟨re, t463⟩, A4, H⟩ := bd_ H
  (try dsimp only at H)
  by_cases c5 : t463 = true
  ·subst c5
   rw [if_pos rfl] at H
   by_cases c6 : a0_1 ≥ 0
   ·rw [if_pos c6] at H
    have nR : decide (0 ≤ a0_1) = true := decide_eq_true c6
    clear c6
    simp only [Option.some.injEq, Prod.mk.injEq] at H
    obtain ⟨rfl, rfl⟩ := H
    go_enter Try.func66, Try.ntmps66
    go_wp2_with (first | ((with_reducible refine gate_dst (N := 1) rfl ?_); (try (refine gate_guard (by rfl) ?_; dsimp only)); refine bv_ 1 44 #[.slice A0_0 l0_0.length c0_0, .int .i64 a0_1] ?_; intro eA hg w7 hbox hb; refine k4_ (below_step (Z5) hb) (hbox) ((Z38 : w.heap.size ≤ eA)) ((Z38 : w.heap.size ≤ eA)) ?_; clear HB; intro HB bu lc jO; clear hb hbox hg; obtain ⟨fg, fh, fy, fi⟩ := bx2_ (w := w7) bu.out) | (go_at_call 82; (with_reducible refine (impl_IsSheet.calls k _ _ l0_0 true _ ?_ ?_ A2.out).mono ?_); exact (Z15 HR0_0); exact HC0_0.out; rintro e w9 ⟨rfl, hb⟩; refine k2_ (Ye_ bu) (below_step (Z40) hb) ?_; clear bu HB; intro bu HB; (try clear hb); obtain ⟨gc, gG, gf, gH⟩ := bx2_ (w := w9) bu.out) | (go_at_call 83; (with_reducible refine (impl_strokesOf.calls k _ _ l0_0 re true _ ?_ ?_ A4.out).mono ?_); exact (Z15 HR0_0); exact HC0_0.out; rintro e mN ⟨sF, rfl, ho0, hb⟩; refine k3_ (Kd.R_lower ho0 (below_size (Z40))) (Ye_ bu) (below_step (Z40) hb) ?_; clear bu HB; intro iw bu HB; (try clear hb ho0); obtain ⟨gC, gD, gE, gF⟩ := bx2_ (w := mN) bu.out; obtain ⟨mZ, m0, pp⟩ := Kd.R_slice iw.out; subst pp))
    repeat (go_quiet (fail); try go_wp2_with (fail))
    go_ret2
    exact ⟨_, Z11, Z2 iw, Z40⟩
   rw [if_neg c6] at H
   have nR : decide (0 ≤ a0_1) = false := decide_eq_false c6
   clear c6
   simp only [Option.some.injEq, Prod.mk.injEq] at H
   obtain ⟨rfl, rfl⟩ := H
   go_enter Try.func66, Try.ntmps66
   go_wp2_with (first | ((with_reducible refine gate_dst (N := 1) rfl ?_); (try (refine gate_guard (by rfl) ?_; dsimp only)); refine bv_ 1 44 #[.slice A0_0 l0_0.length c0_0, .int .i64 a0_1] ?_; intro eA hg oC hbox hb; refine k4_ (below_step (Z5) hb) (hbox) ((Z38 : w.heap.size ≤ eA)) ((Z38 : w.heap.size ≤ eA)) ?_; clear HB; intro HB bu lc jO; clear hb hbox hg; obtain ⟨m2, m3, m4, m5⟩ := bx2_ (w := oC) bu.out) | (go_at_call 82; (with_reducible refine (impl_IsSheet.calls k _ _ l0_0 true _ ?_ ?_ A2.out).mono ?_); exact (Z15 HR0_0); exact HC0_0.out; rintro e mT ⟨rfl, hb⟩; refine k2_ (Ye_ bu) (below_step (Z40) hb) ?_; clear bu HB; intro bu HB; (try clear hb); obtain ⟨lL, lM, lN, lO⟩ := bx2_ (w := mT) bu.out) | (go_at_call 83; (with_reducible refine (impl_strokesOf.calls k _ _ l0_0 re true _ ?_ ?_ A4.out).mono ?_); exact (Z15 HR0_0); exact HC0_0.out; rintro e B2 ⟨sF, rfl, ho0, hb⟩; refine k3_ (Kd.R_lower ho0 (below_size (Z40))) (Ye_ bu) (below_step (Z40) hb) ?_; clear bu HB; intro iw bu HB; (try clear hb ho0); obtain ⟨gX, gY, gZ, g0⟩ := bx2_ (w := B2) bu.out))
   repeat (go_quiet (fail); try go_wp2_with (fail))
   go_ret2
   exact ⟨_, Z11, Z2 iw, Z40⟩
  replace c5 := Bool.eq_false_iff.mpr c5
  subst c5
  rw [if_neg (show ¬ (false = true) by decide)] at H
  simp only [Option.some.injEq, Prod.mk.injEq] at H
  obtain ⟨rfl, rfl⟩ := H
  go_enter Try.func66, Try.ntmps66
  go_wp2_with (first | ((with_reducible refine gate_dst (N := 1) rfl ?_); (try (refine gate_guard (by rfl) ?_; dsimp only)); refine bv_ 1 44 #[.slice A0_0 l0_0.length c0_0, .int .i64 a0_1] ?_; intro eA hg ss hbox hb; refine k4_ (below_step (Z5) hb) (hbox) ((Z38 : w.heap.size ≤ eA)) ((Z38 : w.heap.size ≤ eA)) ?_; clear HB; intro HB bu lc jO; clear hb hbox hg; obtain ⟨m6, m7, m8, m9⟩ := bx2_ (w := ss) bu.out) | (go_at_call 82; (with_reducible refine (impl_IsSheet.calls k _ _ l0_0 true _ ?_ ?_ A2.out).mono ?_); exact (Z15 HR0_0); exact HC0_0.out; rintro e iU ⟨rfl, hb⟩; refine k2_ (Ye_ bu) (below_step (Z40) hb) ?_; clear bu HB; intro bu HB; (try clear hb); obtain ⟨g1, g2, g3, g4⟩ := bx2_ (w := iU) bu.out) | (go_at_call 83; (with_reducible refine (impl_strokesOf.calls k _ _ l0_0 re false _ ?_ ?_ A4.out).mono ?_); exact (Z15 HR0_0); exact HC0_0.out; rintro e fE ⟨sF, rfl, ho0, hb⟩; refine k3_ (Kd.R_lower ho0 (below_size (Z40))) (Ye_ bu) (below_step (Z40) hb) ?_; clear bu HB; intro iw bu HB; (try clear hb ho0)))
  repeat (go_quiet (fail); try go_wp2_with (fail))
  go_ret2
  exact ⟨_, Z11, Z2 iw, Z40⟩
 replace c3 := Bool.eq_false_iff.mpr c3
 subst c3
 rw [if_neg (show ¬ (false = true) by decide)] at H
 simp only [Option.some.injEq, Prod.mk.injEq] at H
 obtain ⟨rfl, rfl⟩ := H
 go_enter Try.func66, Try.ntmps66
 go_wp2_with (first | ((with_reducible refine gate_dst (N := 1) rfl ?_); (try (refine gate_guard (by rfl) ?_; dsimp only)); refine bv_ 1 44 #[.slice A0_0 l0_0.length c0_0, .int .i64 a0_1] ?_; intro eA hg qN hbox hb; refine k4_ (below_step (Z5) hb) (hbox) ((Z38 : w.heap.size ≤ eA)) ((Z38 : w.heap.size ≤ eA)) ?_; clear HB; intro HB bu lc jO; clear hb hbox hg; obtain ⟨jp, jq, jr, js⟩ := bx2_ (w := qN) bu.out) | (go_at_call 82; (with_reducible refine (impl_IsSheet.calls k _ _ l0_0 false _ ?_ ?_ A2.out).mono ?_); exact (Z15 HR0_0); exact HC0_0.out; rintro e IW ⟨rfl, hb⟩; refine k2_ (Ye_ bu) (below_step (Z40) hb) ?_; clear bu HB; intro bu HB; (try clear hb)))
 repeat (go_quiet (fail); try go_wp2_with (fail))
 go_ret2
 exact ⟨_, Z11, Z44, Z40⟩

/-! ### slices_Clone_Hole: function 97: by this session -/
def slices_Clone_Hole.f (l0 : List (S90)) : Option (List (S90)) := if l0.length ≤ 5864062014805 then some l0 else none
set_option maxHeartbeats 8000000 in
set_option maxRecDepth 100000 in
theorem slices_Clone_Hole.calls (A0 : Option Addr) (c0 : Nat) (l0 : List (S90)) (r : List (S90)) (w : World) (hr0 : Kd.C k90 w A0 l0.length l0) (hc0 : l0.length ≤ c0) (h : slices_Clone_Hole.f l0 = some r) :
  Calls Try.prog 97 #[.slice A0 l0.length c0] w fun e w' => ∃ v0_ : Value, e = .returned (v0_) ∧ Kd.R k90 90 w' w.heap.size (fun _ => True) v0_ r ∧ Below w.heap.size w w' := by
 have hn : l0.length ≤ 5864062014805 ∧ l0 = r := by
  unfold slices_Clone_Hole.f at h
  split at h
  ·exact ⟨by assumption, Option.some.inj h⟩
  cases h
 obtain ⟨hn, rfl⟩ := hn
 clear h
 have hq : ∀ (w : World) (a : Option Addr) (n c n' c' : Nat), (binOp .eql 42 (.slice a n c) (.slice none n' c')).run Try.prog w = .ok (.bool a.isNone) w := fun w a n c n' c' => Lib.run_eql_slice_nil w _ _ a n c n' c' Try.underlying42
 have HC := Aside0.mk hr0
 have HN := Aside0.mk hn
 have HB := Aside0.mk (Below.refl w.heap.size w)
 clear hr0 hn
 rcases A0 with _ | ad
 ·have h0 : l0 = [] := by
   cases l0 with
   | nil => rfl
   | cons x xs =>
    obtain ⟨ad, h, _⟩ := HC.out.2.2 (by simp)
    cases h
  subst h0
  clear HC HN
  go_enter Try.func97, Try.ntmps97
  go_wp2
  go_ret
  exact ⟨_, rfl, Kd.R_nil _ _ _ _ _, Below.refl _ _⟩
 go_enter Try.func97, Try.ntmps97
 go_wp2_with (at_builtin; refine Kd.R_append_rows k90 (w0 := w) w.heap.size rfl _ _ 42 90 (.agg #[(.int .i64 0), (.int .i64 0), (.int .i64 0)]) 24 rfl Try.underlying42 (by kernel_rfl) rfl (by decide) (by omega) (.slice (some ⟨w.heap.size, 0, none⟩) 0 0) [] l0 _ _ _ (fun _ => True) (fun _ => False) rfl rfl ?aO ?aR (fun _ _ h => h) (fun _ h => h.elim) ?aF ?aB ?aS ?aL ?_)
 case aO => exact ⟨fun _ _ => trivial, [], World.ownsRow_made w #[] 0 (Nat.le_refl _) (Nat.zero_le _) (by simp), Reps.none _ _⟩
 case aR => exact Kd.C_alloc HC.out _
 case aF => exact fun _ _ => trivial
 case aB => exact below_alloc (Below.refl _ _) _
 case aS => simp
 case aL => have := HN.out; simp only [List.length_nil]; omega
 intro v1 w1 ho hb hg hat
 go_wp2
 go_ret
 exact ⟨_, rfl, ho, hb⟩

/-! ### impl_jobAt: function 67 -/
def impl_jobAt.f (l0 : List (S90)) (a1 : Int) : Option ((List (S90)) × Int) := (slices_Clone_Hole.f l0).bind fun rf => (some (rf, a1))
set_option maxHeartbeats 8000000 in
set_option maxRecDepth 100000 in
theorem impl_jobAt.calls (A0 : Option Addr) (c0 : Nat) (l0 : List (S90)) (a1 : Int) (r1 : List (S90)) (r2 : Int) (w : World) (hr0 : Kd.C k90 w A0 l0.length l0) (hc0 : l0.length ≤ c0) (h : impl_jobAt.f l0 a1 = some (r1, r2)) :
  Calls Try.prog 67 #[.slice A0 l0.length c0, .int .i64 a1] w fun e w' => ∃ v0_ : Value, e = .returned (.agg #[v0_, .int .i64 r2]) ∧ Kd.R k90 90 w' w.heap.size (fun _ => True) v0_ r1 ∧ Below w.heap.size w w' := by
 have hu44 := Try.underlying44
 have HR0 := Aside0.mk hr0
 have HC0 := Aside0.mk hc0
 clear hr0 hc0
 have HB := Aside0.mk (Below.refl w.heap.size w)
 have H : ((slices_Clone_Hole.f l0).bind fun rf => (some (rf, a1))) = some (r1, r2) := h
 clear h
 obtain ⟨rf, A3, H⟩ := bd_ H
 replace H : (some (rf, a1)) = some (r1, r2) := H
 simp only [Option.some.injEq, Prod.mk.injEq] at H
 obtain ⟨rfl, rfl⟩ := H
 go_enter Try.func67, Try.ntmps67
 go_wp2_with (first | ((with_reducible refine gate_dst (N := 4) rfl ?_); refine bv_ 4 44 #[.slice none 0 0, .int .i64 0] ?_; intro sG hg w4 hbox hb; refine k4_ (below_step (Z5) hb) (hbox) ((Z38 : w.heap.size ≤ sG)) ((Z38 : w.heap.size ≤ sG)) ?_; clear HB; intro HB qS GW466 GE466; clear hb hbox hg) | ((with_reducible refine gate_callee (f := 97) rfl ?_); refine gl_ 6 Try.func97 #[.slice A0 l0.length c0] ?_; (with_reducible refine (slices_Clone_Hole.calls _ _ l0 rf _ ?_ ?_ A3.out).mono ?_); exact (Z15 HR0); exact HC0.out; rintro e w5 ⟨v468, rfl, ho0, hb⟩; refine ⟨_, rfl, ?_⟩; refine k3_ (Kd.R_lower ho0 (below_size (Z215))) (Ye_ qS) (below_step (Z215) hb) ?_; clear qS HB; intro DK qS HB; (try clear hb ho0); obtain ⟨Ch, Ci, GX⟩ := Kd.R_slice DK.out; subst GX; obtain ⟨mw, my, mz, mA⟩ := bx2_ (w := w5) qS.out))
 refine bodyPost_ret (results_cell_row rfl _ _ sG 44 #[.slice Ch rf.length Ci, .int .i64 a1] (0, 0) _ rfl (by (with_reducible repeat (first | refine blk_drewN ?_ _ | refine blk_drew ?_ | refine blk_alloc ?_ _)); refine blk_put (cs := #[.slice Ch rf.length Ci, .int .i64 0]) ?_ 1 _ rfl; (with_reducible repeat (first | refine blk_drewN ?_ _ | refine blk_drew ?_ | refine blk_alloc ?_ _)); refine blk_put (cs := #[.slice none 0 0, .int .i64 0]) ?_ 0 _ rfl; (with_reducible repeat (first | refine blk_drewN ?_ _ | refine blk_drew ?_ | refine blk_alloc ?_ _)); exact qS.out) Try.underlying44 rfl (by kernel_rfl)) rfl ?_
 exact ⟨_, Z11, by (with_reducible repeat (first | apply Kd.R_alloc | apply Kd.R_drewN | apply Kd.R_drew)); exact Kd.R_mono (Kd.R_far (p := ⟨sG, 1, none⟩) (Kd.R_far (p := ⟨sG, 0, none⟩) (Kd.R_types DK.out qS.out (by decide)) (fun _ hk => hk.2) (.slice Ch rf.length Ci)) (fun _ hk => hk.2) (.int .i64 a1)) (fun _ hk => trivial), Z215⟩

/-! ### impl_MakeStrokes: function 23 -/
def impl_MakeStrokes.f (k : Nat) (l0_0 : List (S90)) (a0_1 : Int) (a1 : Int) : Option ((List (S90)) × Int × Int × Bool) := (impl_jobStrokes.f k l0_0 a0_1).bind fun pq => (if pq.2 = true then (if a1 < 0 then (some (([] : List (S90)), 0, 0, false)) else (if a1 > 200 then (some (([] : List (S90)), 0, 0, false)) else ((impl_jobAt.f l0_0 (wrap64 (a0_1 + (mn a1 (wrap64 ((pq.1.length : Int) - a0_1)))))).bind fun og => (some (og.1, og.2, mn a1 (wrap64 ((pq.1.length : Int) - a0_1)), true))))) else (some (([] : List (S90)), 0, 0, false)))
theorem impl_MakeStrokes.mono : ∀ a0 a1 a2 k, LeO (impl_MakeStrokes.f k a0 a1 a2) (impl_MakeStrokes.f (k + 1) a0 a1 a2) := by
 intro a0 a1 a2 k
 unfold impl_MakeStrokes.f
 exact mo11_
set_option maxHeartbeats 8000000 in
set_option maxRecDepth 100000 in
theorem impl_MakeStrokes.calls (k : Nat) (A0_0 : Option Addr) (c0_0 : Nat) (l0_0 : List (S90)) (a0_1 : Int) (a1 : Int) (r1 : List (S90)) (r2 : Int) (r3 : Int) (r4 : Bool) (w : World) (hr0_0 : Kd.C k90 w A0_0 l0_0.length l0_0) (hc0_0 : l0_0.length ≤ c0_0) (h : impl_MakeStrokes.f k l0_0 a0_1 a1 = some (r1, r2, r3, r4)) :
  Calls Try.prog 23 #[.agg #[.slice A0_0 l0_0.length c0_0, .int .i64 a0_1], .int .i64 a1] w fun e w' => ∃ v0_ : Value, e = .returned (.tuple #[.agg #[v0_, .int .i64 r2], .int .i64 r3, .bool r4]) ∧ Kd.R k90 90 w' w.heap.size (fun _ => True) v0_ r1 ∧ Below w.heap.size w w' := by
 have hu44 := Try.underlying44
 have HR0_0 := Aside0.mk hr0_0
 have HC0_0 := Aside0.mk hc0_0
 clear hr0_0 hc0_0
 have HB := Aside0.mk (Below.refl w.heap.size w)
 have H : ((impl_jobStrokes.f k l0_0 a0_1).bind fun pq => (if pq.2 = true then (if a1 < 0 then (some (([] : List (S90)), 0, 0, false)) else (if a1 > 200 then (some (([] : List (S90)), 0, 0, false)) else ((impl_jobAt.f l0_0 (wrap64 (a0_1 + (mn a1 (wrap64 ((pq.1.length : Int) - a0_1)))))).bind fun og => (some (og.1, og.2, mn a1 (wrap64 ((pq.1.length : Int) - a0_1)), true))))) else (some (([] : List (S90)), 0, 0, false)))) = some (r1, r2, r3, r4) := h
 clear h
 obtain ⟨⟨uS, t475⟩, A3, H⟩ := bd_ H
 (try dsimp only at H)
 by_cases c4 : t475 = true
 ·subst c4
  rw [if_pos rfl] at H
  by_cases c5 : a1 < 0
  ·rw [if_pos c5] at H
   have gW : decide (a1 < 0) = true := decide_eq_true c5
   clear c5
   simp only [Option.some.injEq, Prod.mk.injEq] at H
   obtain ⟨rfl, rfl, rfl, rfl⟩ := H
   go_enter Try.func23, Try.ntmps23
   go_wp2_with (first | ((with_reducible refine gate_dst (N := 2) rfl ?_); refine bv_ 2 44 #[.slice A0_0 l0_0.length c0_0, .int .i64 a0_1] ?_; intro fT hg w6 hbox hb; refine k4_ (below_step (Z5) hb) (hbox) ((Z38 : w.heap.size ≤ fT)) ((Z38 : w.heap.size ≤ fT)) ?_; clear HB; intro HB ev zm sh; clear hb hbox hg) | ((with_reducible refine gate_dst (N := 4) rfl ?_); refine bv_ 4 44 #[.slice none 0 0, .int .i64 0] ?_; intro fA hg w7 hbox hb; refine k7_ (Ye_ ev) (below_step (Z95) hb) (hbox) ((Z232 : w.heap.size ≤ fA)) ((Z232 : w.heap.size ≤ fA)) ((Z199 : fT ≠ fA)) ((Z200 : fA ≠ fT)) ?_; clear ev HB; intro ev HB fj zn wa gv gw; clear hb hbox hg; have hnb8 := gv.out; have hnc8 := gw.out; obtain ⟨iO, jj, jk, jl⟩ := bx2_ (w := w7) ev.out) | ((with_reducible refine gate_callee (f := 66) rfl ?_); refine gl_ 12 Try.func66 #[.agg #[.slice A0_0 l0_0.length c0_0, .int .i64 a0_1]] ?_; (with_reducible refine (impl_jobStrokes.calls k _ _ l0_0 a0_1 uS true _ ?_ ?_ A3.out).mono ?_); exact (Z15 HR0_0); exact HC0_0.out; rintro e oB ⟨Fj, rfl, ho0, hb⟩; refine ⟨_, rfl, ?_⟩; refine k4_ (Kd.R_lower ho0 (below_size (Z73))) (Ye_ ev) (Ye_ fj) (below_step (Z73) hb) ?_; clear ev fj HB; intro pr ev fj HB; (try clear hb ho0); obtain ⟨lH, lI, lJ, lK⟩ := bx2_ (w := oB) fj.out))
   refine bodyPost_ret (results_ctt rfl _ _ fA 44 #[.slice none 0 0, .int .i64 0] (0, 0) _ rfl (Z48 fj) Try.underlying44 rfl (by kernel_rfl)) rfl ?_
   exact ⟨_, Z11, Z44, Z73⟩
  rw [if_neg c5] at H
  have gW : decide (a1 < 0) = false := decide_eq_false c5
  clear c5
  by_cases c12 : a1 > 200
  ·rw [if_pos c12] at H
   have na : decide (200 < a1) = true := decide_eq_true c12
   clear c12
   simp only [Option.some.injEq, Prod.mk.injEq] at H
   obtain ⟨rfl, rfl, rfl, rfl⟩ := H
   go_enter Try.func23, Try.ntmps23
   go_wp2_with (first | ((with_reducible refine gate_dst (N := 2) rfl ?_); refine bv_ 2 44 #[.slice A0_0 l0_0.length c0_0, .int .i64 a0_1] ?_; intro fT hg lG hbox hb; refine k4_ (below_step (Z5) hb) (hbox) ((Z38 : w.heap.size ≤ fT)) ((Z38 : w.heap.size ≤ fT)) ?_; clear HB; intro HB ev zm sh; clear hb hbox hg) | ((with_reducible refine gate_dst (N := 4) rfl ?_); refine bv_ 4 44 #[.slice none 0 0, .int .i64 0] ?_; intro fA hg oC hbox hb; refine k7_ (Ye_ ev) (below_step (Z95) hb) (hbox) ((Z232 : w.heap.size ≤ fA)) ((Z232 : w.heap.size ≤ fA)) ((Z199 : fT ≠ fA)) ((Z200 : fA ≠ fT)) ?_; clear ev HB; intro ev HB fj zn wa gv gw; clear hb hbox hg; have hnb15 := gv.out; have hnc15 := gw.out; obtain ⟨mV, mW, mX, mY⟩ := bx2_ (w := oC) ev.out) | ((with_reducible refine gate_callee (f := 66) rfl ?_); refine gl_ 12 Try.func66 #[.agg #[.slice A0_0 l0_0.length c0_0, .int .i64 a0_1]] ?_; (with_reducible refine (impl_jobStrokes.calls k _ _ l0_0 a0_1 uS true _ ?_ ?_ A3.out).mono ?_); exact (Z15 HR0_0); exact HC0_0.out; rintro e ws ⟨Fj, rfl, ho0, hb⟩; refine ⟨_, rfl, ?_⟩; refine k4_ (Kd.R_lower ho0 (below_size (Z73))) (Ye_ ev) (Ye_ fj) (below_step (Z73) hb) ?_; clear ev fj HB; intro pr ev fj HB; (try clear hb ho0); obtain ⟨wG, wH, wI, wJ⟩ := bx2_ (w := ws) fj.out))
   refine bodyPost_ret (results_ctt rfl _ _ fA 44 #[.slice none 0 0, .int .i64 0] (0, 0) _ rfl (Z48 fj) Try.underlying44 rfl (by kernel_rfl)) rfl ?_
   exact ⟨_, Z11, Z44, Z73⟩
  rw [if_neg c12] at H
  have na : decide (200 < a1) = false := decide_eq_false c12
  clear c12
  obtain ⟨i2, hji19⟩ : ∃ j_ : Int, (mn a1 (wrap64 ((uS.length : Int) - a0_1))) = j_ := ⟨_, rfl⟩
  replace H : ((impl_jobAt.f l0_0 (wrap64 (a0_1 + (i2)))).bind fun og => (some (og.1, og.2, i2, true))) = some (r1, r2, r3, r4) := by first | (rw [hji19] at H; exact H) | (simp only [hji19] at H ⊢; exact H)
  (try rw [hji19] at A3)
  have hji19_ : (if (wrap64 ((uS.length : Int) - a0_1)) < a1 then (wrap64 ((uS.length : Int) - a0_1)) else a1) = i2 := hji19
  obtain ⟨⟨Cj, Fk⟩, eK, H⟩ := bd_ H
  (try dsimp only at H)
  simp only [Option.some.injEq, Prod.mk.injEq] at H
  obtain ⟨rfl, rfl, rfl, rfl⟩ := H
  go_enter Try.func23, Try.ntmps23
  go_wp2_with (first | ((with_reducible refine gate_dst (N := 2) rfl ?_); refine bv_ 2 44 #[.slice A0_0 l0_0.length c0_0, .int .i64 a0_1] ?_; intro fT hg DD hbox hb; refine k4_ (below_step (Z5) hb) (hbox) ((Z38 : w.heap.size ≤ fT)) ((Z38 : w.heap.size ≤ fT)) ?_; clear HB; intro HB ev zm sh; clear hb hbox hg) | ((with_reducible refine gate_dst (N := 4) rfl ?_); refine bv_ 4 44 #[.slice none 0 0, .int .i64 0] ?_; intro fA hg iU hbox hb; refine k7_ (Ye_ ev) (below_step (Z95) hb) (hbox) ((Z232 : w.heap.size ≤ fA)) ((Z232 : w.heap.size ≤ fA)) ((Z199 : fT ≠ fA)) ((Z200 : fA ≠ fT)) ?_; clear ev HB; intro ev HB fj zn wa gv gw; clear hb hbox hg; have hnb23 := gv.out; have hnc23 := gw.out; obtain ⟨wK, wL, wM, wN⟩ := bx2_ (w := iU) ev.out) | ((with_reducible refine gate_callee (f := 66) rfl ?_); refine gl_ 12 Try.func66 #[.agg #[.slice A0_0 l0_0.length c0_0, .int .i64 a0_1]] ?_; (with_reducible refine (impl_jobStrokes.calls k _ _ l0_0 a0_1 uS true _ ?_ ?_ A3.out).mono ?_); exact (Z15 HR0_0); exact HC0_0.out; rintro e qN ⟨Fj, rfl, ho0, hb⟩; refine ⟨_, rfl, ?_⟩; refine k4_ (Kd.R_lower ho0 (below_size (Z73))) (Ye_ ev) (Ye_ fj) (below_step (Z73) hb) ?_; clear ev fj HB; intro pr ev fj HB; (try clear hb ho0); obtain ⟨Fl, mB, uT⟩ := Kd.R_slice pr.out; subst uT; obtain ⟨wO, wP, wQ, wR⟩ := bx2_ (w := qN) ev.out) | ((with_reducible refine gate_callee (f := 67) rfl ?_); refine goesL_ (some 39) rfl rfl Try.func67 (by kernel_rfl) rfl #[.slice A0_0 l0_0.length c0_0, .int .i64 (wrap64 (a0_1 + (i2)))] rfl (by (try simp only [List.map_toArray, List.map_cons, List.map_nil]); first | done | (simp only [hji19]; rfl) | rfl | (simp only [List.length_drop, List.length_take]; rfl)) ?_; (with_reducible refine (impl_jobAt.calls _ _ l0_0 (wrap64 (a0_1 + (i2))) Cj Fk _ ?_ ?_ eK.out).mono ?_); exact (Z15 HR0_0); exact HC0_0.out; rintro e pt ⟨v477, rfl, ho0, hb⟩; refine ⟨_, rfl, ?_⟩; refine k5_ (Ya_ pr) (Kd.R_lower ho0 (below_size (Z73))) (Ye_ ev) (Ye_ fj) (below_step (Z73) hb) ?_; clear pr ev fj HB; intro pr DL ev fj HB; (try clear hb ho0); obtain ⟨Fm, Fn, eo29⟩ := Kd.R_slice DL.out; subst eo29; obtain ⟨nb, nc, ne, nf⟩ := bx2_ (w := pt) fj.out))
  refine bodyPost_ret (results_ctt rfl _ _ fA 44 #[.slice Fm Cj.length Fn, .int .i64 Fk] (0, 0) _ rfl (by (with_reducible repeat (first | refine blk_drewN ?_ _ | refine blk_drew ?_ | refine blk_alloc ?_ _)); refine blk_put (cs := #[.slice Fm Cj.length Fn, .int .i64 0]) ?_ 1 _ rfl; (with_reducible repeat (first | refine blk_drewN ?_ _ | refine blk_drew ?_ | refine blk_alloc ?_ _)); refine blk_put (cs := #[.slice none 0 0, .int .i64 0]) ?_ 0 _ rfl; (with_reducible repeat (first | refine blk_drewN ?_ _ | refine blk_drew ?_ | refine blk_alloc ?_ _)); exact fj.out) Try.underlying44 rfl (by kernel_rfl)) rfl ?_
  exact ⟨_, by first | rfl | (simp [errW_none, errW_some] <;> rfl) | (simp only [← hji19]; first | rfl | (simp [errW_none, errW_some] <;> rfl)) | (simp [*, errW_none, errW_some] <;> rfl), by (with_reducible repeat (first | apply Kd.R_alloc | apply Kd.R_drewN | apply Kd.R_drew)); exact Kd.R_mono (Kd.R_far (p := ⟨fA, 1, none⟩) (Kd.R_far (p := ⟨fA, 0, none⟩) (Kd.R_types DL.out fj.out (by decide)) (fun _ hk => hk.2) (.slice Fm Cj.length Fn)) (fun _ hk => hk.2) (.int .i64 Fk)) (fun _ hk => trivial), Z73⟩
 replace c4 := Bool.eq_false_iff.mpr c4
 subst c4
 rw [if_neg (show ¬ (false = true) by decide)] at H
 simp only [Option.some.injEq, Prod.mk.injEq] at H
 obtain ⟨rfl, rfl, rfl, rfl⟩ := H
 go_enter Try.func23, Try.ntmps23
 go_wp2_with (first | ((with_reducible refine gate_dst (N := 2) rfl ?_); refine bv_ 2 44 #[.slice A0_0 l0_0.length c0_0, .int .i64 a0_1] ?_; intro fT hg GY hbox hb; refine k4_ (below_step (Z5) hb) (hbox) ((Z38 : w.heap.size ≤ fT)) ((Z38 : w.heap.size ≤ fT)) ?_; clear HB; intro HB ev zm sh; clear hb hbox hg) | ((with_reducible refine gate_dst (N := 4) rfl ?_); refine bv_ 4 44 #[.slice none 0 0, .int .i64 0] ?_; intro fA hg B7 hbox hb; refine k7_ (Ye_ ev) (below_step (Z95) hb) (hbox) ((Z232 : w.heap.size ≤ fA)) ((Z232 : w.heap.size ≤ fA)) ((Z199 : fT ≠ fA)) ((Z200 : fA ≠ fT)) ?_; clear ev HB; intro ev HB fj zn wa gv gw; clear hb hbox hg; have hnb33 := gv.out; have hnc33 := gw.out; obtain ⟨hcz34_0, hcz34_1, hfz34_0, hfz34_1⟩ := bx2_ (w := B7) ev.out) | ((with_reducible refine gate_callee (f := 66) rfl ?_); refine gl_ 12 Try.func66 #[.agg #[.slice A0_0 l0_0.length c0_0, .int .i64 a0_1]] ?_; (with_reducible refine (impl_jobStrokes.calls k _ _ l0_0 a0_1 uS false _ ?_ ?_ A3.out).mono ?_); exact (Z15 HR0_0); exact HC0_0.out; rintro e qQ ⟨Fj, rfl, ho0, hb⟩; refine ⟨_, rfl, ?_⟩; refine k4_ (Kd.R_lower ho0 (below_size (Z73))) (Ye_ ev) (Ye_ fj) (below_step (Z73) hb) ?_; clear ev fj HB; intro pr ev fj HB; (try clear hb ho0); obtain ⟨lP, lQ, lR, lS⟩ := bx2_ (w := qQ) fj.out))
 refine bodyPost_ret (results_ctt rfl _ _ fA 44 #[.slice none 0 0, .int .i64 0] (0, 0) _ rfl (Z48 fj) Try.underlying44 rfl (by kernel_rfl)) rfl ?_
 exact ⟨_, Z11, Z44, Z73⟩

/-! ### spec_l1Least: function 69 -/
def spec_l1Least.f (a0 : Int) (a1 : Int) : Option (Int) := if a0 < a1 then (some a0) else (some a1)
set_option maxHeartbeats 8000000 in
set_option maxRecDepth 100000 in
theorem spec_l1Least.calls (a0 : Int) (a1 : Int) (r : Int) (w : World) (h : spec_l1Least.f a0 a1 = some r) :
  Calls Try.prog 69 #[.int .i64 a0, .int .i64 a1] w fun e w' => e = .returned (.int .i64 r) ∧ Drawn0 w w' := by
 have H : (if a0 < a1 then (some a0) else (some a1)) = some r := h
 clear h
 by_cases c3 : a0 < a1
 ·rw [if_pos c3] at H
  have f5 : decide (a0 < a1) = true := decide_eq_true c3
  clear c3
  obtain rfl := Option.some.inj H
  go_enter Try.func69, Try.ntmps69
  go_wp2
  go_ret
  exact ⟨Z41, Z138⟩
 rw [if_neg c3] at H
 have f5 : decide (a0 < a1) = false := decide_eq_false c3
 clear c3
 obtain rfl := Option.some.inj H
 go_enter Try.func69, Try.ntmps69
 go_wp2
 go_ret
 exact ⟨Z41, Z138⟩

/-! ### spec_jbOwn: function 70 -/
def spec_jbOwn.f (l0 : List (S90)) (a1 : Int) : Option ((List (S90)) × Int) := (some (([] : List (S90)) : List (S90))).bind fun pu => (if pu.length + l0.length < 5864062014805 then (some ((pu ++ l0), a1)) else (none))
set_option maxHeartbeats 8000000 in
set_option maxRecDepth 100000 in
theorem spec_jbOwn.calls (A0 : Option Addr) (c0 : Nat) (l0 : List (S90)) (a1 : Int) (r1 : List (S90)) (r2 : Int) (w : World) (hr0 : Kd.C k90 w A0 l0.length l0) (hc0 : l0.length ≤ c0) (h : spec_jbOwn.f l0 a1 = some (r1, r2)) :
  Calls Try.prog 70 #[.slice A0 l0.length c0, .int .i64 a1] w fun e w' => ∃ v0_ : Value, e = .returned (.agg #[v0_, .int .i64 r2]) ∧ Kd.R k90 90 w' w.heap.size (fun _ => True) v0_ r1 ∧ Below w.heap.size w w' := by
 have hu44 := Try.underlying44
 have HR0 := Aside0.mk hr0
 have HC0 := Aside0.mk hc0
 clear hr0 hc0
 have HB := Aside0.mk (Below.refl w.heap.size w)
 have H : ((some (([] : List (S90)) : List (S90))).bind fun pu => (if pu.length + l0.length < 5864062014805 then (some ((pu ++ l0), a1)) else (none))) = some (r1, r2) := h
 clear h
 obtain ⟨pu, sH⟩ : ∃ y_ : List (S90), y_ = (([] : List (S90))) := ⟨_, rfl⟩
 replace H : (if pu.length + l0.length < 5864062014805 then (some ((pu ++ l0), a1)) else (none)) = some (r1, r2) := hx_ sH H
 have DM := Aside0.mk sH
 clear sH
 by_cases c3 : pu.length + l0.length < 5864062014805
 case neg => rw [if_neg c3] at H; exact absurd H (by simp)
 rw [if_pos c3] at H
 have zp := Aside0.mk c3
 clear c3
 obtain ⟨Ck, sI⟩ : ∃ y_ : List (S90), y_ = (pu ++ l0) := ⟨_, rfl⟩
 replace H : (some (Ck, a1)) = some (r1, r2) := hx_ sI H
 have Ny484 := Aside0.mk sI
 clear sI
 simp only [Option.some.injEq, Prod.mk.injEq] at H
 obtain ⟨rfl, rfl⟩ := H
 go_enter Try.func70, Try.ntmps70
 go_wp2_with (first | ((with_reducible refine gate_dst (N := 4) rfl ?_); refine bv_ 4 44 #[.slice none 0 0, .int .i64 0] ?_; intro qT hg w4 hbox hb; refine k4_ (below_step (Z5) hb) (hbox) ((Z38 : w.heap.size ≤ qT)) ((Z38 : w.heap.size ≤ qT)) ?_; clear HB; intro HB mj GW480 GE480; clear hb hbox hg) | ((with_reducible refine gate_dst (N := 5) rfl ?_); refine Kd.R_lit k90 _ 90 ?hg (N := 5) ?hd (xs := ([] : List (S90))) (inner := []) (ok := fun _ => True) (okp := fun _ => True) ?hr ?hp (fun _ hk => hk) trivial (Below.refl _ _) (Nat.le_refl _) (by simp) ?_; (case hd => rfl); (case hg => rfl); (case hr => exact Z110); (case hp => exact (Reps.none _ _)); intro v482 w5 ho6 hb hg_ hnew_; clear hg_ hnew_; (first | rw [← DM.out] at ho6 | (simp only [Int.reduceToNat] at ho6; rw [← DM.out] at ho6)); refine k3_ (Kd.R_lower ho6 (below_size (Z166))) (Ye_ mj) (below_step (Z166) hb) ?_; clear mj HB; intro zq mj HB; clear hb ho6) | ((with_reducible refine gate_builtin (b := .append) (xs := #[.tmp 5, .tmp 6]) rfl ?_); at_builtin; refine Kd.R_append_rows k90 (w0 := w) w.heap.size rfl (.tmp 5) (.tmp 6) 42 90 (.agg #[(.int .i64 0), (.int .i64 0), (.int .i64 0)]) 24 rfl Try.underlying42 info90 rfl (by decide) (by omega) v482 pu l0 _ _ _ (fun _ => True) (fun _ => False) rfl rfl ?aO ?aR (fun _ _ h => h) (fun _ h => h.elim) ?aF ?aB ?aS ?aL ?_; (case aR => exact Z15 HR0); (case aB => exact Z166); (case aF => exact (fun _ _ => trivial)); (case aO => exact (Z2 zq)); (case aS => exact (below_size (Z166))); (case aL => exact Z182 zp); intro v485 w7 ho hb hg hat; rw [← Ny484.out] at ho; refine k3_ (blk_grown (g := qT) (o := .cells #[.slice none 0 0, .int .i64 0] 44 (0, 0)) (Z1 mj) hg (Kd.R_ne zq.out mj.out (by decide))) (hb) (ho) ?_; clear mj HB zq; intro mj HB DN; clear ho hb hg hat; obtain ⟨mO, mM, zr⟩ := Kd.R_slice DN.out; subst zr; obtain ⟨iO, jj, jk, jl⟩ := bx2_ (w := w7) mj.out))
 refine bodyPost_ret (results_cell_row rfl _ _ qT 44 #[.slice mO Ck.length mM, .int .i64 a1] (0, 0) _ rfl (by (with_reducible repeat (first | refine blk_drewN ?_ _ | refine blk_drew ?_ | refine blk_alloc ?_ _)); refine blk_put (cs := #[.slice mO Ck.length mM, .int .i64 0]) ?_ 1 _ rfl; (with_reducible repeat (first | refine blk_drewN ?_ _ | refine blk_drew ?_ | refine blk_alloc ?_ _)); refine blk_put (cs := #[.slice none 0 0, .int .i64 0]) ?_ 0 _ rfl; (with_reducible repeat (first | refine blk_drewN ?_ _ | refine blk_drew ?_ | refine blk_alloc ?_ _)); exact mj.out) Try.underlying44 rfl (by kernel_rfl)) rfl ?_
 exact ⟨_, Z11, by (with_reducible repeat (first | apply Kd.R_alloc | apply Kd.R_drewN | apply Kd.R_drew)); exact Kd.R_mono (Kd.R_far (p := ⟨qT, 1, none⟩) (Kd.R_far (p := ⟨qT, 0, none⟩) (Kd.R_types DN.out mj.out (by decide)) (fun _ hk => hk.2) (.slice mO Ck.length mM)) (fun _ hk => hk.2) (.int .i64 a1)) (fun _ hk => trivial), Z166⟩

/-! ### spec_MakeStrokes: function 24 -/
def spec_MakeStrokes.j0 : Nat → Int → List (S103) → Bool → List (S90) → Int → Option ((List (S90)) × Int × Int × Bool)
 | 0, _, _, _, _, _ => none
 | k + 1, x1, x7, x21, x488000, wU => if x21 = true then (some (([] : List (S90)), 0, 0, false)) else ((spec_l1Least.f x1 (wrap64 ((x7.length : Int) - wU))).bind fun xP => ((spec_jbOwn.f x488000 (wrap64 (wU + xP))).bind fun DO => (some (DO.1, DO.2, xP, true))))
def spec_MakeStrokes.f (k : Nat) (l0_0 : List (S90)) (a0_1 : Int) (a1 : Int) : Option ((List (S90)) × Int × Int × Bool) := (spec_jbStrokes.f k l0_0 a0_1).bind fun pv => (if pv.2 = true then ((spec_l1In.f a1 0 200).bind fun xQ => (spec_MakeStrokes.j0 k a1 pv.1 (!xQ) l0_0 a0_1)) else (spec_MakeStrokes.j0 k a1 pv.1 true l0_0 a0_1))
theorem spec_MakeStrokes.mono_l : ∀ k, (∀ y0 y1 y2 y3 y4, LeO (spec_MakeStrokes.j0 k y0 y1 y2 y3 y4) (spec_MakeStrokes.j0 (k + 1) y0 y1 y2 y3 y4))
 | 0 => fun _ _ _ _ _ r h => by simp [spec_MakeStrokes.j0] at h
 | k + 1 => by
  have ih0 := spec_MakeStrokes.mono_l k
  ·intro y0 y1 y2 y3 y4
   unfold spec_MakeStrokes.j0
   exact mo11_
theorem spec_MakeStrokes.mono : ∀ a0 a1 a2 k, LeO (spec_MakeStrokes.f k a0 a1 a2) (spec_MakeStrokes.f (k + 1) a0 a1 a2) := by
 intro a0 a1 a2 k
 have ih0 := spec_MakeStrokes.mono_l k
 unfold spec_MakeStrokes.f
 exact mo11_
set_option maxHeartbeats 8000000 in
set_option maxRecDepth 100000 in
theorem spec_MakeStrokes.calls (k : Nat) (A0_0 : Option Addr) (c0_0 : Nat) (l0_0 : List (S90)) (a0_1 : Int) (a1 : Int) (r1 : List (S90)) (r2 : Int) (r3 : Int) (r4 : Bool) (w : World) (hr0_0 : Kd.C k90 w A0_0 l0_0.length l0_0) (hc0_0 : l0_0.length ≤ c0_0) (h : spec_MakeStrokes.f k l0_0 a0_1 a1 = some (r1, r2, r3, r4)) :
  Calls Try.prog 24 #[.agg #[.slice A0_0 l0_0.length c0_0, .int .i64 a0_1], .int .i64 a1] w fun e w' => ∃ v0_ : Value, e = .returned (.tuple #[.agg #[v0_, .int .i64 r2], .int .i64 r3, .bool r4]) ∧ Kd.R k90 90 w' w.heap.size (fun _ => True) v0_ r1 ∧ Below w.heap.size w w' := by
 have hu44 := Try.underlying44
 have HR0_0 := Aside0.mk hr0_0
 have HC0_0 := Aside0.mk hc0_0
 clear hr0_0 hc0_0
 have HB := Aside0.mk (Below.refl w.heap.size w)
 have H : ((spec_jbStrokes.f k l0_0 a0_1).bind fun pv => (if pv.2 = true then ((spec_l1In.f a1 0 200).bind fun xQ => (spec_MakeStrokes.j0 k a1 pv.1 (!xQ) l0_0 a0_1)) else (spec_MakeStrokes.j0 k a1 pv.1 true l0_0 a0_1))) = some (r1, r2, r3, r4) := h
 clear h
 obtain ⟨⟨uU, GZ⟩, A3, H⟩ := bd_ H
 (try dsimp only at H)
 have HC4 := Aside0.mk H
 clear H
 go_enter Try.func24, Try.ntmps24
 go_upto_region 2 with (first | ((with_reducible refine gate_dst (N := 2) rfl ?_); refine bv_ 2 44 #[.slice A0_0 l0_0.length c0_0, .int .i64 a0_1] ?_; intro oh hg w5 hbox hb; refine k4_ (below_step (Z5) hb) (hbox) ((Z38 : w.heap.size ≤ oh)) ((Z38 : w.heap.size ≤ oh)) ?_; clear HB; intro HB f4 GW487 Dj; clear hb hbox hg) | ((with_reducible refine gate_dst (N := 4) rfl ?_); refine bv_ 4 44 #[.slice none 0 0, .int .i64 0] ?_; intro ml hg w6 hbox hb; refine k7_ (Ye_ f4) (below_step (Z216) hb) (hbox) ((by rw [hg]; exact (below_size (Z216)) : w.heap.size ≤ ml)) ((by rw [hg]; exact (below_size (Z216)) : w.heap.size ≤ ml)) ((by rw [hg]; exact Nat.ne_of_lt (blk_lt (g := oh) (o := .cells #[.slice A0_0 l0_0.length c0_0, .int .i64 a0_1] 44 (0, 0)) (Z1 f4)) : oh ≠ ml)) ((by rw [hg]; exact Nat.ne_of_gt (blk_lt (g := oh) (o := .cells #[.slice A0_0 l0_0.length c0_0, .int .i64 a0_1] 44 (0, 0)) (Z1 f4)) : ml ≠ oh)) ?_; clear f4 HB; intro f4 HB gK GW488 GE488 nS nT; clear hb hbox hg; have G0 := nS.out; have G1 := nT.out; obtain ⟨fg, fh, fy, fi⟩ := bx2_ (w := w6) f4.out) | ((with_reducible refine gate_callee (f := 68) rfl ?_); refine gl_ 12 Try.func68 #[.agg #[.slice A0_0 l0_0.length c0_0, .int .i64 a0_1]] ?_; (with_reducible refine (spec_jbStrokes.calls k _ _ l0_0 a0_1 uU GZ _ ?_ ?_ A3.out).mono ?_); exact (Z15 HR0_0); exact HC0_0.out; rintro e w9 ⟨v490, rfl, ho0, hb⟩; refine ⟨_, rfl, ?_⟩; refine k4_ (Kd.R_lower ho0 (below_size (Z105))) (Ye_ f4) (Ye_ gK) (below_step (Z105) hb) ?_; clear f4 gK HB; intro DP f4 gK HB; (try clear hb ho0)))
 (try simp only [Act.put, List.setIfInBounds_toArray, List.set_cons_zero, List.set_cons_succ])
 go_cut [21] (fun v21 wc => ∃ (kq : Nat) (wV : Bool), v21 = .bool wV ∧ Aside0 (spec_MakeStrokes.j0 kq a1 uU wV l0_0 a0_1 = some (r1, r2, r3, r4)) ∧ Aside0 (kq ≤ k) ∧ Aside0 (Kd.R k103 103 wc w.heap.size (fun _ => True) v490 uU) ∧ Aside0 (wc.heap[oh]? = some (.cells #[(.slice A0_0 l0_0.length c0_0), .int .i64 a0_1] 44 (0, 0))) ∧ Aside0 (wc.heap[ml]? = some (.cells #[(.slice none 0 0), .int .i64 0] 44 (0, 0))) ∧ Aside0 (Below w.heap.size w wc))
 case first =>
  have H := HC4.out
  clear HC4
  by_cases c10 : GZ = true
  ·subst c10
   rw [if_pos rfl] at H
   obtain ⟨xQ, GK, H⟩ := bd_ H
   (try dsimp only at H)
   have H' := Aside0.mk H
   clear H
   go_wp2_with (go_at_call 52; (with_reducible refine (spec_l1In.calls a1 0 200 xQ _ GK.out).mono ?_); rintro e w' ⟨rfl, ⟨nd, rfl⟩⟩)
   go_meet
   case rel => exact ⟨_, (!xQ), (Z41), H', ⟨Z168⟩, ⟨Z2 DP⟩, ⟨Z1 f4⟩, ⟨Z1 gK⟩, ⟨Z105⟩⟩
  replace c10 := Bool.eq_false_iff.mpr c10
  subst c10
  rw [if_neg (show ¬ (false = true) by decide)] at H
  have H' := Aside0.mk H
  clear H
  go_wp2
  go_meet
  case rel => exact ⟨_, (true), (Z41), H', ⟨Z168⟩, ⟨Z2 DP⟩, ⟨Z1 f4⟩, ⟨Z1 gK⟩, ⟨Z105⟩⟩
 case rest =>
  clear HC4
  (try clear c1); (try clear c2); (try clear p2); (try clear c6); (try clear c7); (try clear c10); (try clear fg); (try clear fh); (try clear fy); (try clear fi)
  obtain ⟨kq, wV, rfl, HA, HJ3, uV, f4, gK, HB⟩ := hcut
  cases kq with
  | zero => exact absurd HA.out (by simp [spec_MakeStrokes.j0])
  | succ kj3 =>
   have H := HA.out
   clear HA
   simp only [spec_MakeStrokes.j0] at H
   by_cases c12 : wV = true
   ·subst c12
    rw [if_pos rfl] at H
    simp only [Option.some.injEq, Prod.mk.injEq] at H
    obtain ⟨rfl, rfl, rfl, rfl⟩ := H
    have hnb13 := nT.out
    have hnc13 := nS.out
    obtain ⟨oT, oU, oV, oW⟩ := bx2_ (w := wc) gK.out
    go_wp2
    refine bodyPost_ret (results_ctt rfl _ _ ml 44 #[.slice none 0 0, .int .i64 0] (0, 0) _ rfl (Z48 gK) Try.underlying44 rfl (by kernel_rfl)) rfl ?_
    exact ⟨_, Z11, Z44, Z105⟩
   replace c12 := Bool.eq_false_iff.mpr c12
   subst c12
   rw [if_neg (show ¬ (false = true) by decide)] at H
   obtain ⟨xP, Ff, H⟩ := bd_ H
   (try dsimp only at H)
   obtain ⟨⟨Cl, Fo⟩, Fp, H⟩ := bd_ H
   (try dsimp only at H)
   simp only [Option.some.injEq, Prod.mk.injEq] at H
   obtain ⟨rfl, rfl, rfl, rfl⟩ := H
   obtain ⟨uJ, sd, zt⟩ := Kd.R_slice uV.out
   subst zt
   have DQ := nS.out
   have DR := nT.out
   obtain ⟨gX, gY, gZ, g0⟩ := bx2_ (w := wc) f4.out
   go_wp2_with (first | ((with_reducible refine gate_callee (f := 69) rfl ?_); refine gl_ 29 Try.func69 #[.int .i64 a1, .int .i64 (wrap64 ((uU.length : Int) - a0_1))] ?_; (with_reducible refine (spec_l1Least.calls a1 (wrap64 ((uU.length : Int) - a0_1)) xP _ Ff.out).mono ?_); rintro e w' ⟨rfl, ⟨nd, rfl⟩⟩; refine ⟨_, rfl, ?_⟩; (try (rw [drewN_self wc]; generalize hq_ : World.drewN wc _ = wc; have n0_ : Aside0 (Kd.R k103 103 wc w.heap.size (fun _ => True) (.slice uJ uU.length sd) uU) := ⟨by rw [← hq_]; exact (Z2 uV)⟩; have n1_ : Aside0 (wc.heap[oh]? = some (.cells #[.slice A0_0 l0_0.length c0_0, .int .i64 a0_1] 44 (0, 0))) := ⟨by rw [← hq_]; exact (Z1 f4)⟩; have n2_ : Aside0 (wc.heap[ml]? = some (.cells #[.slice none 0 0, .int .i64 0] 44 (0, 0))) := ⟨by rw [← hq_]; exact (Z1 gK)⟩; have n3_ : Aside0 (Below w.heap.size w wc) := ⟨by rw [← hq_]; exact Z105⟩; clear uV f4 gK HB hq_; have uV := n0_; have f4 := n1_; have gK := n2_; have HB := n3_; clear n0_ n1_ n2_ n3_; obtain ⟨gX, gY, gZ, g0⟩ := bx2_ (w := wc) f4.out))) | ((with_reducible refine gate_callee (f := 70) rfl ?_); refine gl_ 36 Try.func70 #[.slice A0_0 l0_0.length c0_0, .int .i64 (wrap64 (a0_1 + xP))] ?_; (with_reducible refine (spec_jbOwn.calls _ _ l0_0 (wrap64 (a0_1 + xP)) Cl Fo _ ?_ ?_ Fp.out).mono ?_); exact (Z15 HR0_0); exact HC0_0.out; rintro e ss ⟨v496, rfl, ho0, hb⟩; refine ⟨_, rfl, ?_⟩; refine k5_ (Ya_ uV) (Kd.R_lower ho0 (below_size (Z105))) (Ye_ f4) (Ye_ gK) (below_step (Z105) hb) ?_; clear uV f4 gK HB; intro uV DS f4 gK HB; (try clear hb ho0); obtain ⟨Fq, xR, qx⟩ := Kd.R_slice DS.out; subst qx; obtain ⟨hcz22_0, hcz22_1, hfz22_0, hfz22_1⟩ := bx2_ (w := ss) gK.out))
   refine bodyPost_ret (results_ctt rfl _ _ ml 44 #[.slice Fq Cl.length xR, .int .i64 Fo] (0, 0) _ rfl (by (with_reducible repeat (first | refine blk_drewN ?_ _ | refine blk_drew ?_ | refine blk_alloc ?_ _)); refine blk_put (cs := #[.slice Fq Cl.length xR, .int .i64 0]) ?_ 1 _ rfl; (with_reducible repeat (first | refine blk_drewN ?_ _ | refine blk_drew ?_ | refine blk_alloc ?_ _)); refine blk_put (cs := #[.slice none 0 0, .int .i64 0]) ?_ 0 _ rfl; (with_reducible repeat (first | refine blk_drewN ?_ _ | refine blk_drew ?_ | refine blk_alloc ?_ _)); exact gK.out) Try.underlying44 rfl (by kernel_rfl)) rfl ?_
   exact ⟨_, Z11, by (with_reducible repeat (first | apply Kd.R_alloc | apply Kd.R_drewN | apply Kd.R_drew)); exact Kd.R_mono (Kd.R_far (p := ⟨ml, 1, none⟩) (Kd.R_far (p := ⟨ml, 0, none⟩) (Kd.R_types DS.out gK.out (by decide)) (fun _ hk => hk.2) (.slice Fq Cl.length xR)) (fun _ hk => hk.2) (.int .i64 Fo)) (fun _ hk => trivial), Z105⟩

/-! ### impl_StrokesLeft: function 25 -/
def impl_StrokesLeft.f (k : Nat) (l0_0 : List (S90)) (a0_1 : Int) : Option (Int × Bool) := (impl_jobStrokes.f k l0_0 a0_1).bind fun sK => (if sK.2 = true then (some (wrap64 ((sK.1.length : Int) - a0_1), true)) else (some (0, false)))
theorem impl_StrokesLeft.mono : ∀ a0 a1 k, LeO (impl_StrokesLeft.f k a0 a1) (impl_StrokesLeft.f (k + 1) a0 a1) := by
 intro a0 a1 k
 unfold impl_StrokesLeft.f
 exact mo11_
set_option maxHeartbeats 8000000 in
set_option maxRecDepth 100000 in
theorem impl_StrokesLeft.calls (k : Nat) (A0_0 : Option Addr) (c0_0 : Nat) (l0_0 : List (S90)) (a0_1 : Int) (r1 : Int) (r2 : Bool) (w : World) (hr0_0 : Kd.C k90 w A0_0 l0_0.length l0_0) (hc0_0 : l0_0.length ≤ c0_0) (h : impl_StrokesLeft.f k l0_0 a0_1 = some (r1, r2)) :
  Calls Try.prog 25 #[.agg #[.slice A0_0 l0_0.length c0_0, .int .i64 a0_1]] w fun e w' => e = .returned (.tuple #[.int .i64 r1, .bool r2]) ∧ Below w.heap.size w w' := by
 have hu44 := Try.underlying44
 have HR0_0 := Aside0.mk hr0_0
 have HC0_0 := Aside0.mk hc0_0
 clear hr0_0 hc0_0
 have HB := Aside0.mk (Below.refl w.heap.size w)
 have H : ((impl_jobStrokes.f k l0_0 a0_1).bind fun sK => (if sK.2 = true then (some (wrap64 ((sK.1.length : Int) - a0_1), true)) else (some (0, false)))) = some (r1, r2) := h
 clear h
 obtain ⟨⟨G2, t503⟩, A2, H⟩ := bd_ H
 (try dsimp only at H)
 by_cases c3 : t503 = true
 ·subst c3
  rw [if_pos rfl] at H
  simp only [Option.some.injEq, Prod.mk.injEq] at H
  obtain ⟨rfl, rfl⟩ := H
  go_enter Try.func25, Try.ntmps25
  go_wp2_with (first | ((with_reducible refine gate_dst (N := 1) rfl ?_); refine bv_ 1 44 #[.slice A0_0 l0_0.length c0_0, .int .i64 a0_1] ?_; intro sL hg w4 hbox hb; refine k4_ (below_step (Z5) hb) (hbox) ((Z38 : w.heap.size ≤ sL)) ((Z38 : w.heap.size ≤ sL)) ?_; clear HB; intro HB mm GW499 Dt; clear hb hbox hg; obtain ⟨nU, nV, px, nW⟩ := bx2_ (w := w4) mm.out) | ((with_reducible refine gate_callee (f := 66) rfl ?_); refine gl_ 8 Try.func66 #[.agg #[.slice A0_0 l0_0.length c0_0, .int .i64 a0_1]] ?_; (with_reducible refine (impl_jobStrokes.calls k _ _ l0_0 a0_1 G2 true _ ?_ ?_ A2.out).mono ?_); exact (Z15 HR0_0); exact HC0_0.out; rintro e w6 ⟨v501, rfl, ho0, hb⟩; refine ⟨_, rfl, ?_⟩; refine k3_ (Kd.R_lower ho0 (below_size (Z150))) (Ye_ mm) (below_step (Z150) hb) ?_; clear mm HB; intro DT mm HB; (try clear hb ho0); obtain ⟨hG, fw, Cm⟩ := Kd.R_slice DT.out; subst Cm; obtain ⟨fg, fh, fy, fi⟩ := bx2_ (w := w6) mm.out))
  go_ret2
  exact ⟨Z11, Z150⟩
 replace c3 := Bool.eq_false_iff.mpr c3
 subst c3
 rw [if_neg (show ¬ (false = true) by decide)] at H
 simp only [Option.some.injEq, Prod.mk.injEq] at H
 obtain ⟨rfl, rfl⟩ := H
 go_enter Try.func25, Try.ntmps25
 go_wp2_with (first | ((with_reducible refine gate_dst (N := 1) rfl ?_); refine bv_ 1 44 #[.slice A0_0 l0_0.length c0_0, .int .i64 a0_1] ?_; intro sL hg w9 hbox hb; refine k4_ (below_step (Z5) hb) (hbox) ((Z38 : w.heap.size ≤ sL)) ((Z38 : w.heap.size ≤ sL)) ?_; clear HB; intro HB mm GW499 Dt; clear hb hbox hg; obtain ⟨gc, gG, gf, gH⟩ := bx2_ (w := w9) mm.out) | ((with_reducible refine gate_callee (f := 66) rfl ?_); refine gl_ 8 Try.func66 #[.agg #[.slice A0_0 l0_0.length c0_0, .int .i64 a0_1]] ?_; (with_reducible refine (impl_jobStrokes.calls k _ _ l0_0 a0_1 G2 false _ ?_ ?_ A2.out).mono ?_); exact (Z15 HR0_0); exact HC0_0.out; rintro e mN ⟨v501, rfl, ho0, hb⟩; refine ⟨_, rfl, ?_⟩; refine k3_ (Kd.R_lower ho0 (below_size (Z150))) (Ye_ mm) (below_step (Z150) hb) ?_; clear mm HB; intro DT mm HB; (try clear hb ho0)))
 go_ret2
 exact ⟨Z11, Z150⟩

end Go.Proofs.Ytmnnmddfmmaohaa.PFnPunchJobs
