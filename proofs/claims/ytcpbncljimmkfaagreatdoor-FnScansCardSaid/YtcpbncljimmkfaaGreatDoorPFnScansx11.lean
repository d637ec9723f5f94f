-- written by a program of this session: the kit's print, with outer functions of the session's own (wip/ext)
import Derived.Test.YtcpbncljimmkfaaGreatDoorPFnScansx0
import Derived.Test.YtcpbncljimmkfaaGreatDoorPFnScansx2
import Derived.Test.YtcpbncljimmkfaaGreatDoorPFnScansx3
import Derived.Test.YtcpbncljimmkfaaGreatDoorPFnScansx7
import Derived.Test.YtcpbncljimmkfaaGreatDoorPFnScansx8
import Derived.Test.YtcpbncljimmkfaaGreatDoorPFnScansx9
namespace Go.Proofs.YtcpbncljimmkfaaGreatDoor.PFnScans
open Go.RowKit Go.Proofs.YtcpbncljimmkfaaGreatDoorW.PrintWords Go.Proofs.YtcpbncljimmkfaaGreatDoorW.PrintLast Go.Proofs.YtcpbncljimmkfaaGreatDoorW.PrintMore
attribute [local go_sem] max2_int min2_int max_two min_two max_three min_three max_four min_four   -- for this text's walks alone
set_option linter.unusedVariables false
set_option linter.unusedSimpArgs false
theorem mo11_ {p : Prop} (h : p := by repeat' first | (with_reducible first | apply ih0 | apply ih0 | apply ih1 | apply ih1 | apply impl_IsSheet.mono | apply impl_IsSheet.mono | apply spec_shGood.mono | apply spec_shGood.mono | apply spec_shOpen.mono | apply spec_shOpen.mono | exact LeO.refl _ | exact LeO.none _ | refine LeO.ite ?_ ?_ | refine LeO.bind ?_ (fun _ => ?_)) | exact LeO.none _ | refine LeO.ite ?_ ?_ | refine LeO.bind ?_ (fun _ => ?_)) : p := h

/-! ### impl_OpenTracks: function 11: by this session -/
theorem impl_sortInts.of_reps {xs : List Int} {inner : List Value} (h : Reps (fun x cs => cs = [Value.int .i64 x]) 1 xs inner) : inner = xs.map (Value.int .i64) := by
 obtain ⟨h1, h2⟩ := h
 refine List.ext_getElem (by simp [h1]) fun j g1 g2 => ?_
 have hj : j < xs.length := by simpa using g2
 have e := h2 j _ (List.getElem?_eq_getElem hj)
 have e2 := congrArg (fun l => l[0]?) e
 simp only [List.getElem?_take, List.getElem?_drop, Nat.mul_one, Nat.add_zero, Nat.zero_lt_one, if_true, List.getElem?_cons_zero] at e2
 rw [List.getElem?_eq_getElem g1] at e2
 rw [Option.some.inj e2, List.getElem_map]
theorem impl_sortInts.reps (xs : List Int) : Reps (fun x cs => cs = [Value.int .i64 x]) 1 xs (xs.map (Value.int .i64)) := by
 refine ⟨by simp, fun j p hp => ?_⟩
 obtain ⟨hj, rfl⟩ := List.getElem?_eq_some_iff.1 hp
 rw [Nat.mul_one, List.drop_eq_getElem_cons (by simpa using hj)]
 simp
/-- sort.Ints at a row of the call's own. -/
theorem impl_sortInts.ints (A : Option Addr) (c : Nat) (xs : List Int) (base : Nat) (ok : Nat → Prop) (w : World) (hlen : xs.length < 4611686018427387904) (hR : Kd.R (Kd.int .i64) 3 w base ok (.slice A xs.length c) xs) :
  Calls Tryz.prog 37 #[.slice A xs.length c] w fun e' w' => e' = .returned (.tuple #[]) ∧ Kd.R (Kd.int .i64) 3 w' base ok (.slice A xs.length c) (xs.mergeSort fun x y => decide (x ≤ y)) ∧ w.grownBy w' (Value.ownBlock (.slice A xs.length c)) := by
 have hl : (xs.mergeSort fun x y => decide (x ≤ y)).length = xs.length := List.length_mergeSort xs
 obtain ⟨h0, inner, ho, hr⟩ := hR
 have ein : inner = xs.map (Value.int .i64) := impl_sortInts.of_reps hr
 subst ein
 obtain ⟨hlen2, ho2⟩ := ho
 rcases ho2 with ⟨hv, hn⟩ | ⟨g, cap, cur, hv, hb, hh, hc, hm, hs, ht⟩
 ·injection hv with hv1 hv2 hv3
  subst hv1 hv3
  obtain rfl : xs = [] := List.length_eq_zero_iff.1 hn
  refine (Any.sort_Ints_none Tryz.lays191 none 0 w).mono ?_
  rintro e' w' ⟨rfl, rfl⟩
  exact ⟨rfl, by simpa using Kd.R_mono (Kd.R_nil (Kd.int .i64) 3 w' base ok) (fun _ h => h), World.grownBy.refl _ _⟩
 injection hv with hv1 hv2 hv3
 subst hv1 hv3
 replace ht : List.take (xs.length * 1) cur.toList = List.map (Value.int .i64) xs := ht
 rw [Nat.mul_one] at ht
 have hH := holds_of_blockI hh ht
 refine (Any.sort_Ints Tryz.lays191 g 0 c xs w hH (Array.getElem?_eq_some_iff.1 hh).1 hlen).mono ?_
 rintro e' w' ⟨rfl, n, os, rfl⟩
 refine ⟨rfl, ⟨h0, (xs.mergeSort fun x y => decide (x ≤ y)).map (Value.int .i64), ?_, impl_sortInts.reps _⟩, Go.grownBy_sortedI _⟩
 rw [hl]
 exact Go.ownsRow_sortedI hl hb hh hc hm hs
def impl_sortInts.f (l : List Int) : Option (List Int) := if l.length < 4611686018427387904 then some (l.mergeSort fun x y => decide (x ≤ y)) else none
theorem impl_sortInts.row (A : Option Addr) (c : Nat) (xs ys : List Int) (base : Nat) (ok : Nat → Prop) (w : World) (h : impl_sortInts.f xs = some ys) (hR : Kd.R (Kd.int .i64) 3 w base ok (.slice A xs.length c) xs) :
  Calls Tryz.prog 37 #[.slice A xs.length c] w fun e' w' => e' = .returned (.tuple #[]) ∧ Kd.R (Kd.int .i64) 3 w' base ok (.slice A xs.length c) ys ∧ w.grownBy w' (Value.ownBlock (.slice A xs.length c)) := by
 unfold impl_sortInts.f at h
 split at h
 ·rename_i hl
  obtain rfl := Option.some.inj h
  exact impl_sortInts.ints A c xs base ok w hl hR
 cases h
mutual
def impl_OpenTracks.j0 : Nat → List (S55) → Int → Bool → Option (List Int × Bool)
 | 0, _, _, _ => none
 | k + 1, x0, x1, x19 => if x19 = true then (some (([] : List Int), false)) else (impl_OpenTracks.l0 k x1 (([] : List Int)) x0 (x0.length : Int) 0)
def impl_OpenTracks.l0 : Nat → Int → List Int → List (S55) → Int → Int → Option (List Int × Bool)
 | 0, _, _, _, _, _ => none
 | k + 1, x1, x6, x21, x22, x23 => if x23 < x22 then (if 0 ≤ x23 then (if x23 < (x21.length : Int) then ((impl_isOpen.f ((rd_T55 x21 x23).f0) ((rd_T55 x21 x23).f1) ((rd_T55 x21 x23).f2) x1).bind fun qw => (if qw = true then (if x6.length < 17592186044416 then (impl_OpenTracks.l0 k x1 (x6 ++ [(rd_T55 x21 x23).f0]) x21 x22 (wrap64 (x23 + 1))) else (none)) else (impl_OpenTracks.l0 k x1 x6 x21 x22 (wrap64 (x23 + 1))))) else (none)) else (none)) else ((impl_sortInts.f x6).bind fun uj => (some (uj, true)))
end
def impl_OpenTracks.f (k : Nat) (l0 : List (S55)) (a1 : Int) : Option (List Int × Bool) := (impl_IsSheet.f k l0).bind fun mh => (if mh = true then (if a1 < 0 then (impl_OpenTracks.j0 k l0 a1 true) else (impl_OpenTracks.j0 k l0 a1 (decide (a1 ≥ 2000)))) else (impl_OpenTracks.j0 k l0 a1 true))
theorem impl_OpenTracks.mono_l : ∀ k, (∀ y0 y1 y2, LeO (impl_OpenTracks.j0 k y0 y1 y2) (impl_OpenTracks.j0 (k + 1) y0 y1 y2)) ∧ (∀ y0 y1 y2 y3 y4, LeO (impl_OpenTracks.l0 k y0 y1 y2 y3 y4) (impl_OpenTracks.l0 (k + 1) y0 y1 y2 y3 y4))
 | 0 => ⟨fun _ _ _ r h => by simp [impl_OpenTracks.j0] at h, fun _ _ _ _ _ r h => by simp [impl_OpenTracks.l0] at h⟩
 | k + 1 => by
  obtain ⟨ih0, ih1⟩ := impl_OpenTracks.mono_l k
  refine ⟨?_, ?_⟩
  ·intro y0 y1 y2
   unfold impl_OpenTracks.j0
   exact mo11_
  intro y0 y1 y2 y3 y4
  unfold impl_OpenTracks.l0
  exact mo11_
theorem impl_OpenTracks.mono : ∀ a0 a1 k, LeO (impl_OpenTracks.f k a0 a1) (impl_OpenTracks.f (k + 1) a0 a1) := by
 intro a0 a1 k
 obtain ⟨ih0, ih1⟩ := impl_OpenTracks.mono_l k
 unfold impl_OpenTracks.f
 exact mo11_
set_option maxHeartbeats 8000000 in
set_option maxRecDepth 100000 in
theorem impl_OpenTracks.calls (k : Nat) (A0 : Option Addr) (c0 : Nat) (l0 : List (S55)) (a1 : Int) (r1 : List Int) (r2 : Bool) (w : World) (hr0 : Kd.C k55 w A0 l0.length l0) (hc0 : l0.length ≤ c0) (h : impl_OpenTracks.f k l0 a1 = some (r1, r2)) :
  Calls Tryz.prog 11 #[.slice A0 l0.length c0, .int .i64 a1] w fun e w' => ∃ v0_ : Value, e = .returned (.tuple #[v0_, .bool r2]) ∧ Kd.R (Kd.int .i64) 3 w' w.heap.size (fun _ => True) v0_ r1 ∧ Below w.heap.size w w' := by
 have hu55 := Tryz.underlying55
 have HR0 := Aside0.mk hr0
 have HC0 := Aside0.mk hc0
 clear hr0 hc0
 have HB := Aside0.mk (Below.refl w.heap.size w)
 have H : ((impl_IsSheet.f k l0).bind fun mh => (if mh = true then (if a1 < 0 then (impl_OpenTracks.j0 k l0 a1 true) else (impl_OpenTracks.j0 k l0 a1 (decide (a1 ≥ 2000)))) else (impl_OpenTracks.j0 k l0 a1 true))) = some (r1, r2) := h
 clear h
 have HC3 := Aside0.mk H
 clear H
 go_enter Tryz.func11, Tryz.ntmps11
 go_upto_region 1 with (fail)
 go_cut [19] (fun zZ wc => ∃ (kq : Nat) (ak : Bool), zZ = .bool ak ∧ Aside0 (impl_OpenTracks.j0 kq l0 a1 ak = some (r1, r2)) ∧ Aside0 (kq ≤ k) ∧ Aside0 (Below w.heap.size w wc))
 case first =>
  have H := HC3.out
  clear HC3
  obtain ⟨mh, A4, H⟩ := bd_ H
  (try dsimp only at H)
  by_cases c5 : mh = true
  ·subst c5
   rw [if_pos rfl] at H
   by_cases c6 : a1 < 0
   ·rw [if_pos c6] at H
    have ck : decide (a1 < 0) = true := decide_eq_true c6
    clear c6
    (first | rw [ck] | (simp only [i64_w, i32_w]; rw [ck]) | skip)
    have H' := Aside0.mk H
    clear H
    go_wp2_with ((with_reducible refine gate_callee (f := 28) rfl ?_); refine gl_ 10 Tryz.func28 #[.slice A0 l0.length c0] ?_; (with_reducible refine (impl_IsSheet.calls k _ _ l0 true _ ?_ ?_ A4.out).mono ?_); exact (Z22 HR0); exact HC0.out; rintro e w7 ⟨rfl, hb⟩; refine ⟨_, rfl, ?_⟩; refine k1_ (below_step (Z2) hb) ?_; clear HB; intro HB; (try clear hb))
    go_meet
    case rel => exact ⟨_, (true), (Z11), H', ⟨Z69⟩, ⟨Z2⟩⟩
   rw [if_neg c6] at H
   have ck : decide (a1 < 0) = false := decide_eq_false c6
   clear c6
   (first | rw [ck] | (simp only [i64_w, i32_w]; rw [ck]) | skip)
   have H' := Aside0.mk H
   clear H
   go_wp2_with ((with_reducible refine gate_callee (f := 28) rfl ?_); refine gl_ 10 Tryz.func28 #[.slice A0 l0.length c0] ?_; (with_reducible refine (impl_IsSheet.calls k _ _ l0 true _ ?_ ?_ A4.out).mono ?_); exact (Z22 HR0); exact HC0.out; rintro e w8 ⟨rfl, hb⟩; refine ⟨_, rfl, ?_⟩; refine k1_ (below_step (Z2) hb) ?_; clear HB; intro HB; (try clear hb))
   go_meet
   case rel => exact ⟨_, (decide (a1 ≥ 2000)), (Z11), H', ⟨Z69⟩, ⟨Z2⟩⟩
  replace c5 := Bool.eq_false_iff.mpr c5
  subst c5
  rw [if_neg (show ¬ (false = true) by decide)] at H
  have H' := Aside0.mk H
  clear H
  go_wp2_with ((with_reducible refine gate_callee (f := 28) rfl ?_); refine gl_ 10 Tryz.func28 #[.slice A0 l0.length c0] ?_; (with_reducible refine (impl_IsSheet.calls k _ _ l0 false _ ?_ ?_ A4.out).mono ?_); exact (Z22 HR0); exact HC0.out; rintro e w9 ⟨rfl, hb⟩; refine ⟨_, rfl, ?_⟩; refine k1_ (below_step (Z2) hb) ?_; clear HB; intro HB; (try clear hb))
  go_meet
  case rel => exact ⟨_, (true), (Z11), H', ⟨Z69⟩, ⟨Z2⟩⟩
 case rest =>
  clear HC3
  obtain ⟨kq, ak, rfl, HA, l4, HB⟩ := hcut
  cases kq with
  | zero => exact absurd HA.out (by simp [impl_OpenTracks.j0])
  | succ ua =>
   have H := HA.out
   clear HA
   simp only [impl_OpenTracks.j0] at H
   by_cases c10 : ak = true
   ·subst c10
    rw [if_pos rfl] at H
    simp only [Option.some.injEq, Prod.mk.injEq] at H
    obtain ⟨rfl, rfl⟩ := H
    go_wp2
    go_ret2
    exact ⟨_, Z9, Z15, Z2⟩
   replace c10 := Bool.eq_false_iff.mpr c10
   subst c10
   rw [if_neg (show ¬ (false = true) by decide)] at H
   obtain ⟨rM, e7⟩ : ∃ y_ : List Int, y_ = (([] : List Int)) := ⟨_, rfl⟩
   replace H : (impl_OpenTracks.l0 ua a1 rM l0 (l0.length : Int) 0) = some (r1, r2) := by first | (rw [e7]; with_reducible exact H) | (have H2_ := (Option.bind_some _ _).symm.trans H; rw [e7]; with_reducible exact H2_) | (have H2_ := (Option.bind_some _ _).symm.trans H; with_reducible exact H2_) | with_reducible exact H | (rw [e7]; exact H) | exact H
   have mi := Aside0.mk e7
   clear e7
   have H' := Aside0.mk H
   clear H
   go_wp2_with ((with_reducible refine gate_dst (N := 20) rfl ?_); refine Kd.R_lit (Kd.int .i64) _ 3 ?hg (N := 20) ?hd (xs := ([] : List Int)) (inner := []) (ok := fun _ => True) (okp := fun _ => True) ?hr ?hp (fun _ hk => hk) trivial (Below.refl _ _) (Nat.le_refl _) (by simp) ?_; (case hd => rfl); (case hg => rfl); (case hr => exact Z41); (case hp => exact (Reps.none _ _)); intro v558 g3 ho12 hb hg_ hnew_; clear hg_ hnew_; (first | rw [← mi.out] at ho12 | (simp only [Int.reduceToNat] at ho12; rw [← mi.out] at ho12)); refine k2_ (Kd.R_lower ho12 (below_size (Z2))) (below_step (Z2) hb) ?_; clear HB; intro rN HB; clear hb ho12)
   (try simp only [Act.put, List.setIfInBounds_toArray, List.set_cons_zero, List.set_cons_succ])
   go_loopg [6, 23] ua (fun kq v6 v23 w' => ∃ (da : List Int) (aZ : Int), v23 = .int .i64 aZ ∧ Aside0 (impl_OpenTracks.l0 kq a1 da l0 (l0.length : Int) aZ = some (r1, r2)) ∧ Aside0 (kq ≤ ua) ∧ Aside0 (Kd.R (Kd.int .i64) 3 w' w.heap.size (fun _ => True) v6 da) ∧ Aside0 (Below w.heap.size w w'))
   case atStart => exact ⟨(rM), (0), (Z11), H', ⟨Nat.le_refl _⟩, ⟨Z3 rN⟩, ⟨Z2⟩⟩
   case round =>
    clear H'
    (try clear c10)
    obtain ⟨da, aZ, rfl, HA, HK2, bO, HB⟩ := hrel
    cases gk with
    | zero => exact absurd HA.out (by simp [impl_OpenTracks.l0])
    | succ k2 =>
     have H := HA.out
     clear HA
     simp only [impl_OpenTracks.l0] at H
     by_cases c13 : aZ < (l0.length : Int)
     ·rw [if_pos c13] at H
      have cq : decide (aZ < (l0.length : Int)) = true := decide_eq_true c13
      clear c13
      by_cases c14 : 0 ≤ aZ
      case neg => rw [if_neg c14] at H; exact absurd H (by simp)
      rw [if_pos c14] at H
      have ee : decide (0 ≤ aZ) = true := decide_eq_true c14
      clear c14
      by_cases c15 : aZ < (l0.length : Int)
      case neg => rw [if_neg c15] at H; exact absurd H (by simp)
      rw [if_pos c15] at H
      have fQ : decide (aZ < (l0.length : Int)) = true := decide_eq_true c15
      clear c15
      obtain ⟨qw, C2, H⟩ := bd_ H
      (try dsimp only at H)
      by_cases c17 : qw = true
      ·subst c17
       rw [if_pos rfl] at H
       by_cases c18 : da.length < 17592186044416
       case neg => rw [if_neg c18] at H; exact absurd H (by simp)
       rw [if_pos c18] at H
       have mj := Aside0.mk c18
       clear c18
       obtain ⟨z3, ml⟩ : ∃ y_ : List Int, y_ = (da ++ [(rd_T55 l0 aZ).f0]) := ⟨_, rfl⟩
       replace H : (impl_OpenTracks.l0 k2 a1 z3 l0 (l0.length : Int) (wrap64 (aZ + 1))) = some (r1, r2) := by first | (rw [ml]; with_reducible exact H) | (have H2_ := (Option.bind_some _ _).symm.trans H; rw [ml]; with_reducible exact H2_) | (have H2_ := (Option.bind_some _ _).symm.trans H; with_reducible exact H2_) | with_reducible exact H | (rw [ml]; exact H) | exact H
       have Ny563 := Aside0.mk ml
       clear ml
       have H' := Aside0.mk H
       clear H
       have hL : 0 ≤ (aZ : Int) := of_decide_eq_true (Z8)
       have hP : aZ < (l0.length : Int) := of_decide_eq_true (Z8)
       obtain ⟨rO, e560, ce, eq, er⟩ := at_T55 HR0.out aZ hL hP
       cases e560
       replace ce := (HB.out.cell (World.block_lt_of_cell? w _ ce)).trans ce
       replace eq := (HB.out.cell (World.block_lt_of_cell? w _ eq)).trans eq
       replace er := (HB.out.cell (World.block_lt_of_cell? w _ er)).trans er
       replace hL := eq_true hL
       replace hP := eq_true hP
       go_wp2_with (first | ((with_reducible refine gate_dst (N := 8) rfl ?_); refine bv_ 8 55 #[.int .i64 0, .int .i64 0, .int .i64 0] ?_; intro e5 hg uk hbox hb; refine k5_ (Ya_ bO) (below_step (Z2) hb) (hbox) ((Z33 : w.heap.size ≤ e5)) ((Z33 : w.heap.size ≤ e5)) ?_; clear bO HB; intro bO HB dU GW561 vM; clear hb hbox hg; obtain ⟨hcz20_0, hcz20_1, hcz20_2, hfz20_0, hfz20_1, hfz20_2⟩ := bx3_ (w := uk) dU.out) | ((with_reducible refine gate_callee (f := 31) rfl ?_); refine gl_ 29 Tryz.func31 #[.agg #[.int .i64 ((rd_T55 l0 aZ).f0), .int .i64 ((rd_T55 l0 aZ).f1), .int .i64 ((rd_T55 l0 aZ).f2)], .int .i64 a1] ?_; (with_reducible refine (impl_isOpen.calls ((rd_T55 l0 aZ).f0) ((rd_T55 l0 aZ).f1) ((rd_T55 l0 aZ).f2) a1 true _ C2.out).mono ?_); rintro e vP ⟨rfl, hb⟩; refine ⟨_, rfl, ?_⟩; refine k3_ (Kd.R_below (Z72) hb) (blk_below (g := e5) (o := .cells #[.int .i64 ((rd_T55 l0 aZ).f0), .int .i64 ((rd_T55 l0 aZ).f1), .int .i64 ((rd_T55 l0 aZ).f2)] 55 (0, 0)) (Z57) hb) (below_step (Z53) hb) ?_; clear bO dU HB; intro bO dU HB; (try clear hb); obtain ⟨hcz22_0, hcz22_1, hcz22_2, hfz22_0, hfz22_1, hfz22_2⟩ := bx3_ (w := vP) dU.out) | ((with_reducible refine gate_builtin (b := .append) (xs := #[.tmp 30, .tmp 33]) rfl ?_); at_builtin; refine Kd.R_append (Kd.int .i64) (w0 := w) w.heap.size rfl (.tmp 30) (.tmp 33) 34 3 (.int .i64 0) 8 rfl Tryz.underlying34 info3 rfl (by decide) (by omega) u6 da ((rd_T55 l0 aZ).f0) [.int .i64 ((rd_T55 l0 aZ).f0)] (fun _ => True) (fun _ => False) rfl rfl ?aP (fun _ hk => hk.elim) ?aF ?aO ?aB ?aS ?aL ?_; (case aP => exact rfl); (case aB => exact Z53); (case aF => exact (fun _ _ => trivial)); (case aO => exact (Z3 bO)); (case aS => exact (below_size (Z53))); (case aL => exact Z83 mj); intro v564 mm ho hb hg hat; rw [← Ny563.out] at ho; refine k3_ (blk_grown (g := e5) (o := .cells #[.int .i64 ((rd_T55 l0 aZ).f0), .int .i64 ((rd_T55 l0 aZ).f1), .int .i64 ((rd_T55 l0 aZ).f2)] 55 (0, 0)) (Z7 dU) hg (Kd.R_ne bO.out dU.out (by decide))) (hb) (ho) ?_; clear dU HB bO; intro dU HB HO565; clear ho hb hg hat))
       go_roundg k2
       case measure => have := l4.out; have := HK2.out; omega
       case rel => exact ⟨(z3), (wrap64 (aZ + 1)), (Z11), H', ⟨by have := l4.out; have := HK2.out; omega⟩, ⟨Z3 HO565⟩, ⟨Z53⟩⟩
      replace c17 := Bool.eq_false_iff.mpr c17
      subst c17
      rw [if_neg (show ¬ (false = true) by decide)] at H
      have H' := Aside0.mk H
      clear H
      have hL : 0 ≤ (aZ : Int) := of_decide_eq_true (Z8)
      have hP : aZ < (l0.length : Int) := of_decide_eq_true (Z8)
      obtain ⟨rO, e560, ce, eq, er⟩ := at_T55 HR0.out aZ hL hP
      cases e560
      replace ce := (HB.out.cell (World.block_lt_of_cell? w _ ce)).trans ce
      replace eq := (HB.out.cell (World.block_lt_of_cell? w _ eq)).trans eq
      replace er := (HB.out.cell (World.block_lt_of_cell? w _ er)).trans er
      replace hL := eq_true hL
      replace hP := eq_true hP
      go_wp2_with (first | ((with_reducible refine gate_dst (N := 8) rfl ?_); refine bv_ 8 55 #[.int .i64 0, .int .i64 0, .int .i64 0] ?_; intro e5 hg mn hbox hb; refine k5_ (Ya_ bO) (below_step (Z2) hb) (hbox) ((Z33 : w.heap.size ≤ e5)) ((Z33 : w.heap.size ≤ e5)) ?_; clear bO HB; intro bO HB dU GW561 vM; clear hb hbox hg; obtain ⟨hcz25_0, hcz25_1, hcz25_2, hfz25_0, hfz25_1, hfz25_2⟩ := bx3_ (w := mn) dU.out) | ((with_reducible refine gate_callee (f := 31) rfl ?_); refine gl_ 29 Tryz.func31 #[.agg #[.int .i64 ((rd_T55 l0 aZ).f0), .int .i64 ((rd_T55 l0 aZ).f1), .int .i64 ((rd_T55 l0 aZ).f2)], .int .i64 a1] ?_; (with_reducible refine (impl_isOpen.calls ((rd_T55 l0 aZ).f0) ((rd_T55 l0 aZ).f1) ((rd_T55 l0 aZ).f2) a1 false _ C2.out).mono ?_); rintro e zP ⟨rfl, hb⟩; refine ⟨_, rfl, ?_⟩; refine k3_ (Kd.R_below (Z72) hb) (blk_below (g := e5) (o := .cells #[.int .i64 ((rd_T55 l0 aZ).f0), .int .i64 ((rd_T55 l0 aZ).f1), .int .i64 ((rd_T55 l0 aZ).f2)] 55 (0, 0)) (Z57) hb) (below_step (Z53) hb) ?_; clear bO dU HB; intro bO dU HB; (try clear hb)))
      go_roundg k2
      case measure => have := l4.out; have := HK2.out; omega
      case rel => exact ⟨(da), (wrap64 (aZ + 1)), (Z11), H', ⟨by have := l4.out; have := HK2.out; omega⟩, ⟨Z3 bO⟩, ⟨Z53⟩⟩
     rw [if_neg c13] at H
     have cq : decide (aZ < (l0.length : Int)) = false := decide_eq_false c13
     clear c13
     obtain ⟨uj, ul, H⟩ := bd_ H
     replace H : (some (uj, true)) = some (r1, r2) := H
     simp only [Option.some.injEq, Prod.mk.injEq] at H
     obtain ⟨rfl, rfl⟩ := H
     obtain ⟨xU, xV, xW⟩ := Kd.R_slice bO.out
     subst xW
     go_wp2_with ((with_reducible refine gate_callee (f := 37) rfl ?_); refine goesL_ (some 37) rfl rfl Tryz.func37 (by kernel_rfl) rfl #[.slice xU da.length xV] rfl (Z107) ?_; (with_reducible refine (impl_sortInts.row xU xV da uj w.heap.size (fun _ => True) _ ul.out ?side1).mono ?_); (case side1 => exact Z3 bO); rintro e w29 ⟨rfl, ho0, hg⟩; refine ⟨_, rfl, ?_⟩; have n1_ := Aside0.mk ho0; have n2_ := Aside0.mk (pw_below_grown (Z2) _ (below_size (Z2)) hg (fun k_ hk_ => Kd.R_base bO.out k_ hk_)); clear bO; clear HB; have rP := n1_; have HB := n2_; clear n1_ n2_; (try clear hg ho0))
     go_ret2
     exact ⟨_, Z9, Z25 rP, Z2⟩

/-! ### spec_shStep: function 38 -/
def spec_shStep.f (a0 : Int) : Option (Bool) := (spec_l1In.f a0 0 1999).bind fun qx => (some qx)
set_option maxHeartbeats 8000000 in
set_option maxRecDepth 100000 in
theorem spec_shStep.calls (a0 : Int) (r : Bool) (w : World) (h : spec_shStep.f a0 = some r) :
  Calls Tryz.prog 38 #[.int .i64 a0] w fun e w' => e = .returned (.bool r) ∧ Drawn0 w w' := by
 have H : ((spec_l1In.f a0 0 1999).bind fun qx => (some qx)) = some r := h
 clear h
 obtain ⟨qx, A2, H⟩ := bd_ H
 replace H : (some qx) = some r := H
 obtain rfl := Option.some.inj H
 go_enter Tryz.func38, Tryz.ntmps38
 go_wp2_with ((with_reducible refine gate_callee (f := 33) rfl ?_); refine gl_ 4 Tryz.func33 #[.int .i64 a0, .int .i64 0, .int .i64 1999] ?_; (with_reducible refine (spec_l1In.calls a0 0 1999 qx _ A2.out).mono ?_); rintro e w' ⟨rfl, ⟨nd, rfl⟩⟩; refine ⟨_, rfl, ?_⟩)
 go_ret
 exact ⟨Z11, Z14⟩

/-! ### spec_OpenTracks: function 12 -/
def spec_OpenTracks.f (k : Nat) (l0 : List (S55)) (a1 : Int) : Option (List Int × Bool) := (spec_shGood.f k l0).bind fun rQ => (if rQ = true then ((spec_shStep.f a1).bind fun rR => (if rR = true then ((spec_shOpen.f k l0 a1).bind fun qy => (some (qy, true))) else (some (([] : List Int), false)))) else (some (([] : List Int), false)))
theorem spec_OpenTracks.mono : ∀ a0 a1 k, LeO (spec_OpenTracks.f k a0 a1) (spec_OpenTracks.f (k + 1) a0 a1) := by
 intro a0 a1 k
 unfold spec_OpenTracks.f
 exact mo11_
set_option maxHeartbeats 8000000 in
set_option maxRecDepth 100000 in
theorem spec_OpenTracks.calls (k : Nat) (A0 : Option Addr) (c0 : Nat) (l0 : List (S55)) (a1 : Int) (r1 : List Int) (r2 : Bool) (w : World) (hr0 : Kd.C k55 w A0 l0.length l0) (hc0 : l0.length ≤ c0) (h : spec_OpenTracks.f k l0 a1 = some (r1, r2)) :
  Calls Tryz.prog 12 #[.slice A0 l0.length c0, .int .i64 a1] w fun e w' => ∃ v0_ : Value, e = .returned (.tuple #[v0_, .bool r2]) ∧ Kd.R (Kd.int .i64) 3 w' w.heap.size (fun _ => True) v0_ r1 ∧ Below w.heap.size w w' := by
 have HR0 := Aside0.mk hr0
 have HC0 := Aside0.mk hc0
 clear hr0 hc0
 have HB := Aside0.mk (Below.refl w.heap.size w)
 have H : ((spec_shGood.f k l0).bind fun rQ => (if rQ = true then ((spec_shStep.f a1).bind fun rR => (if rR = true then ((spec_shOpen.f k l0 a1).bind fun qy => (some (qy, true))) else (some (([] : List Int), false)))) else (some (([] : List Int), false)))) = some (r1, r2) := h
 clear h
 obtain ⟨rQ, A3, H⟩ := bd_ H
 (try dsimp only at H)
 by_cases c4 : rQ = true
 ·subst c4
  rw [if_pos rfl] at H
  obtain ⟨rR, A5, H⟩ := bd_ H
  (try dsimp only at H)
  by_cases c6 : rR = true
  ·subst c6
   rw [if_pos rfl] at H
   obtain ⟨qy, A7, H⟩ := bd_ H
   replace H : (some (qy, true)) = some (r1, r2) := H
   simp only [Option.some.injEq, Prod.mk.injEq] at H
   obtain ⟨rfl, rfl⟩ := H
   go_enter Tryz.func12, Tryz.ntmps12
   go_wp2_with (first | ((with_reducible refine gate_callee (f := 32) rfl ?_); refine gl_ 7 Tryz.func32 #[.slice A0 l0.length c0] ?_; (with_reducible refine (spec_shGood.calls k _ _ l0 true _ ?_ ?_ A3.out).mono ?_); exact (Z10 HR0); exact HC0.out; rintro e w8 ⟨rfl, hb⟩; refine ⟨_, rfl, ?_⟩; refine k1_ (below_step (Z2) hb) ?_; clear HB; intro HB; (try clear hb)) | (go_at_call 38; (with_reducible refine (spec_shStep.calls a1 true _ A5.out).mono ?_); rintro e w' ⟨rfl, ⟨nd, rfl⟩⟩) | ((with_reducible refine gate_callee (f := 39) rfl ?_); refine gl_ 16 Tryz.func39 #[.slice A0 l0.length c0, .int .i64 a1] ?_; (with_reducible refine (spec_shOpen.calls k _ _ l0 a1 qy _ ?_ ?_ A7.out).mono ?_); exact Z103; exact HC0.out; rintro e w9 ⟨v440, rfl, ho0, hb⟩; refine ⟨_, rfl, ?_⟩; refine k2_ (Kd.R_lower ho0 (below_size (Z2))) (below_step (Z2) hb) ?_; clear HB; intro HO441 HB; (try clear hb ho0)))
   go_ret2
   exact ⟨_, Z9, Z3 HO441, Z2⟩
  replace c6 := Bool.eq_false_iff.mpr c6
  subst c6
  rw [if_neg (show ¬ (false = true) by decide)] at H
  simp only [Option.some.injEq, Prod.mk.injEq] at H
  obtain ⟨rfl, rfl⟩ := H
  go_enter Tryz.func12, Tryz.ntmps12
  go_wp2_with (first | ((with_reducible refine gate_callee (f := 32) rfl ?_); refine gl_ 7 Tryz.func32 #[.slice A0 l0.length c0] ?_; (with_reducible refine (spec_shGood.calls k _ _ l0 true _ ?_ ?_ A3.out).mono ?_); exact (Z10 HR0); exact HC0.out; rintro e pL ⟨rfl, hb⟩; refine ⟨_, rfl, ?_⟩; refine k1_ (below_step (Z2) hb) ?_; clear HB; intro HB; (try clear hb)) | (go_at_call 38; (with_reducible refine (spec_shStep.calls a1 false _ A5.out).mono ?_); rintro e w' ⟨rfl, ⟨nd, rfl⟩⟩))
  go_ret2
  exact ⟨_, Z9, Z15, Z2⟩
 replace c4 := Bool.eq_false_iff.mpr c4
 subst c4
 rw [if_neg (show ¬ (false = true) by decide)] at H
 simp only [Option.some.injEq, Prod.mk.injEq] at H
 obtain ⟨rfl, rfl⟩ := H
 go_enter Tryz.func12, Tryz.ntmps12
 go_wp2_with ((with_reducible refine gate_callee (f := 32) rfl ?_); refine gl_ 7 Tryz.func32 #[.slice A0 l0.length c0] ?_; (with_reducible refine (spec_shGood.calls k _ _ l0 false _ ?_ ?_ A3.out).mono ?_); exact (Z10 HR0); exact HC0.out; rintro e g3 ⟨rfl, hb⟩; refine ⟨_, rfl, ?_⟩; refine k1_ (below_step (Z2) hb) ?_; clear HB; intro HB; (try clear hb))
 go_ret2
 exact ⟨_, Z9, Z15, Z2⟩

/-! ### laws_sameInts: function 13 -/
def laws_sameInts.l0 : Nat → List Int → List Int → Int → Int → Option (Bool)
 | 0, _, _, _, _ => none
 | k + 1, x0, x1, x12, x13 => if x13 < x12 then (if 0 ≤ x13 then (if x13 < (x0.length : Int) then (if x13 < (x1.length : Int) then (if (rd x0 x13) = (rd x1 x13) then (laws_sameInts.l0 k x0 x1 x12 (wrap64 (x13 + 1))) else (some false)) else (none)) else (none)) else (none)) else (some true)
def laws_sameInts.f (k : Nat) (l0 : List Int) (l1 : List Int) : Option (Bool) := if (l0.length : Int) = (l1.length : Int) then (laws_sameInts.l0 k l0 l1 (l0.length : Int) 0) else (some false)
theorem laws_sameInts.mono_l : ∀ k, (∀ y0 y1 y2 y3, LeO (laws_sameInts.l0 k y0 y1 y2 y3) (laws_sameInts.l0 (k + 1) y0 y1 y2 y3))
 | 0 => fun _ _ _ _ r h => by simp [laws_sameInts.l0] at h
 | k + 1 => by
  have ih0 := laws_sameInts.mono_l k
  ·intro y0 y1 y2 y3
   unfold laws_sameInts.l0
   exact mo11_
theorem laws_sameInts.mono : ∀ a0 a1 k, LeO (laws_sameInts.f k a0 a1) (laws_sameInts.f (k + 1) a0 a1) := by
 intro a0 a1 k
 have ih0 := laws_sameInts.mono_l k
 unfold laws_sameInts.f
 exact mo11_
set_option maxHeartbeats 8000000 in
set_option maxRecDepth 100000 in
theorem laws_sameInts.calls (k : Nat) (A0 : Option Addr) (c0 : Nat) (l0 : List Int) (A1 : Option Addr) (c1 : Nat) (l1 : List Int) (r : Bool) (w : World) (hr0 : Kd.C (Kd.int .i64) w A0 l0.length l0) (hc0 : l0.length ≤ c0) (hr1 : Kd.C (Kd.int .i64) w A1 l1.length l1) (hc1 : l1.length ≤ c1) (h : laws_sameInts.f k l0 l1 = some r) :
  Calls Tryz.prog 13 #[.slice A0 l0.length c0, .slice A1 l1.length c1] w fun e w' => e = .returned (.bool r) ∧ Drawn0 w w' := by
 have HR0 := Aside0.mk hr0
 have HC0 := Aside0.mk hc0
 clear hr0 hc0
 have HR1 := Aside0.mk hr1
 have HC1 := Aside0.mk hc1
 clear hr1 hc1
 have H : (if (l0.length : Int) = (l1.length : Int) then (laws_sameInts.l0 k l0 l1 (l0.length : Int) 0) else (some false)) = some r := h
 clear h
 by_cases c3 : (l0.length : Int) = (l1.length : Int)
 ·rw [if_pos c3] at H
  have bA : ((l0.length : Int) == (l1.length : Int)) = true := beq_iff_eq.mpr c3
  have fU : ((l0.length : Int) != (l1.length : Int)) = false := bne_eq_false_iff_eq.mpr c3
  have mo : (l0.length == l1.length) = true := by first | simpa using c3 | (simp at c3 ⊢; omega)
  clear c3
  have H' := Aside0.mk H
  clear H
  go_enter Tryz.func13, Tryz.ntmps13
  go_wp2
  repeat (go_quiet (fail); try go_wp2)
  go_loopg [13] k (fun kq ug w' => ∃ (af : Int), ug = .int .i64 af ∧ Aside0 (laws_sameInts.l0 kq l0 l1 (l0.length : Int) af = some r) ∧ Aside0 (kq ≤ k) ∧ Drawn0 w w')
  case atStart => exact ⟨(0), (Z11), H', ⟨Nat.le_refl _⟩, Z14⟩
  case round =>
   clear H'
   (try clear c1); (try clear c3); (try clear bA); (try clear fU); (try clear mo)
   obtain ⟨af, rfl, HA, HK1, ⟨m1, rfl⟩⟩ := hrel
   cases gk with
   | zero => exact absurd HA.out (by simp [laws_sameInts.l0])
   | succ k1 =>
    have H := HA.out
    clear HA
    simp only [laws_sameInts.l0] at H
    by_cases c4 : af < (l0.length : Int)
    ·rw [if_pos c4] at H
     have bZ : decide (af < (l0.length : Int)) = true := decide_eq_true c4
     clear c4
     by_cases c5 : 0 ≤ af
     case neg => rw [if_neg c5] at H; exact absurd H (by simp)
     rw [if_pos c5] at H
     have ci : decide (0 ≤ af) = true := decide_eq_true c5
     clear c5
     by_cases c6 : af < (l0.length : Int)
     case neg => rw [if_neg c6] at H; exact absurd H (by simp)
     rw [if_pos c6] at H
     have ck : decide (af < (l0.length : Int)) = true := decide_eq_true c6
     clear c6
     by_cases c7 : af < (l1.length : Int)
     case neg => rw [if_neg c7] at H; exact absurd H (by simp)
     rw [if_pos c7] at H
     have cd : decide (af < (l1.length : Int)) = true := decide_eq_true c7
     clear c7
     by_cases c8 : (rd l0 af) = (rd l1 af)
     ·rw [if_pos c8] at H
      have ep : ((rd l0 af) == (rd l1 af)) = true := beq_iff_eq.mpr c8
      have qz : ((rd l0 af) != (rd l1 af)) = false := bne_eq_false_iff_eq.mpr c8
      clear c8
      have H' := Aside0.mk H
      clear H
      have oP : 0 ≤ (af : Int) := of_decide_eq_true (Z8)
      have oQ : af < (l0.length : Int) := of_decide_eq_true (Z8)
      obtain ⟨ad442, e442, hx442_0⟩ := Kd.at_int HR0.out af oP oQ
      cases e442
      replace oP := eq_true oP
      replace oQ := eq_true oQ
      have oR : 0 ≤ (af : Int) := of_decide_eq_true (Z8)
      have oS : af < (l1.length : Int) := of_decide_eq_true (Z8)
      obtain ⟨ad443, e443, hx443_0⟩ := Kd.at_int HR1.out af oR oS
      cases e443
      replace oR := eq_true oR
      replace oS := eq_true oS
      go_wp2
      repeat (go_quiet (fail); try go_wp2)
      go_roundg k1
      case measure => have := HK1.out; omega
      case rel => exact ⟨(wrap64 (af + 1)), (Z11), H', ⟨Z83 HK1⟩, Z14⟩
     rw [if_neg c8] at H
     have ep : ((rd l0 af) == (rd l1 af)) = false := beq_eq_false_iff_ne.mpr c8
     have qz : ((rd l0 af) != (rd l1 af)) = true := bne_iff_ne.mpr c8
     obtain rfl := Option.some.inj H
     have oP : 0 ≤ (af : Int) := of_decide_eq_true (Z8)
     have oQ : af < (l0.length : Int) := of_decide_eq_true (Z8)
     obtain ⟨ad442, e442, hx442_0⟩ := Kd.at_int HR0.out af oP oQ
     cases e442
     replace oP := eq_true oP
     replace oQ := eq_true oQ
     have oR : 0 ≤ (af : Int) := of_decide_eq_true (Z8)
     have oS : af < (l1.length : Int) := of_decide_eq_true (Z8)
     obtain ⟨ad443, e443, hx443_0⟩ := Kd.at_int HR1.out af oR oS
     cases e443
     replace oR := eq_true oR
     replace oS := eq_true oS
     go_wp2
     repeat (go_quiet (fail); try go_wp2)
     go_ret
     exact ⟨Z11, Z14⟩
    rw [if_neg c4] at H
    have bZ : decide (af < (l0.length : Int)) = false := decide_eq_false c4
    clear c4
    obtain rfl := Option.some.inj H
    go_wp2
    repeat (go_quiet (fail); try go_wp2)
    go_ret
    exact ⟨Z11, Z14⟩
 rw [if_neg c3] at H
 have bA : ((l0.length : Int) == (l1.length : Int)) = false := beq_eq_false_iff_ne.mpr c3
 have fU : ((l0.length : Int) != (l1.length : Int)) = true := bne_iff_ne.mpr c3
 have mo : (l0.length == l1.length) = false := by first | simpa using c3 | (simp at c3 ⊢; omega)
 obtain rfl := Option.some.inj H
 go_enter Tryz.func13, Tryz.ntmps13
 go_wp2
 repeat (go_quiet (fail); try go_wp2)
 go_ret
 exact ⟨Z11, Z14⟩

/-! ### laws_pIn: function 14 -/
def laws_pIn.l0 : Nat → Int → List Int → Int → Int → Option (Bool)
 | 0, _, _, _, _ => none
 | k + 1, x1, x7, x8, x9 => if x9 < x8 then (if 0 ≤ x9 then (if x9 < (x7.length : Int) then (if (rd x7 x9) = x1 then (some true) else (laws_pIn.l0 k x1 x7 x8 (wrap64 (x9 + 1)))) else (none)) else (none)) else (some false)
def laws_pIn.f (k : Nat) (l0 : List Int) (a1 : Int) : Option (Bool) := laws_pIn.l0 k a1 l0 (l0.length : Int) 0
theorem laws_pIn.mono_l : ∀ k, (∀ y0 y1 y2 y3, LeO (laws_pIn.l0 k y0 y1 y2 y3) (laws_pIn.l0 (k + 1) y0 y1 y2 y3))
 | 0 => fun _ _ _ _ r h => by simp [laws_pIn.l0] at h
 | k + 1 => by
  have ih0 := laws_pIn.mono_l k
  ·intro y0 y1 y2 y3
   unfold laws_pIn.l0
   exact mo11_
theorem laws_pIn.mono : ∀ a0 a1 k, LeO (laws_pIn.f k a0 a1) (laws_pIn.f (k + 1) a0 a1) := by
 intro a0 a1 k
 have ih0 := laws_pIn.mono_l k
 unfold laws_pIn.f
 exact mo11_
set_option maxHeartbeats 8000000 in
set_option maxRecDepth 100000 in
theorem laws_pIn.calls (k : Nat) (A0 : Option Addr) (c0 : Nat) (l0 : List Int) (a1 : Int) (r : Bool) (w : World) (hr0 : Kd.C (Kd.int .i64) w A0 l0.length l0) (hc0 : l0.length ≤ c0) (h : laws_pIn.f k l0 a1 = some r) :
  Calls Tryz.prog 14 #[.slice A0 l0.length c0, .int .i64 a1] w fun e w' => e = .returned (.bool r) ∧ Drawn0 w w' := by
 have HR0 := Aside0.mk hr0
 have HC0 := Aside0.mk hc0
 clear hr0 hc0
 have H : (laws_pIn.l0 k a1 l0 (l0.length : Int) 0) = some r := h
 clear h
 have H' := Aside0.mk H
 clear H
 go_enter Tryz.func14, Tryz.ntmps14
 go_wp2
 go_loopg [9] k (fun kq v9 w' => ∃ (aj : Int), v9 = .int .i64 aj ∧ Aside0 (laws_pIn.l0 kq a1 l0 (l0.length : Int) aj = some r) ∧ Aside0 (kq ≤ k) ∧ Drawn0 w w')
 case atStart => exact ⟨(0), (Z11), H', ⟨Nat.le_refl _⟩, Z14⟩
 case round =>
  clear H'
  obtain ⟨aj, rfl, HA, HK1, ⟨m1, rfl⟩⟩ := hrel
  cases gk with
  | zero => exact absurd HA.out (by simp [laws_pIn.l0])
  | succ k1 =>
   have H := HA.out
   clear HA
   simp only [laws_pIn.l0] at H
   by_cases c3 : aj < (l0.length : Int)
   ·rw [if_pos c3] at H
    have bA : decide (aj < (l0.length : Int)) = true := decide_eq_true c3
    clear c3
    by_cases c4 : 0 ≤ aj
    case neg => rw [if_neg c4] at H; exact absurd H (by simp)
    rw [if_pos c4] at H
    have bZ : decide (0 ≤ aj) = true := decide_eq_true c4
    clear c4
    by_cases c5 : aj < (l0.length : Int)
    case neg => rw [if_neg c5] at H; exact absurd H (by simp)
    rw [if_pos c5] at H
    have ci : decide (aj < (l0.length : Int)) = true := decide_eq_true c5
    clear c5
    by_cases c6 : (rd l0 aj) = a1
    ·rw [if_pos c6] at H
     have ck : ((rd l0 aj) == a1) = true := beq_iff_eq.mpr c6
     have gN : ((rd l0 aj) != a1) = false := bne_eq_false_iff_eq.mpr c6
     clear c6
     obtain rfl := Option.some.inj H
     have oT : 0 ≤ (aj : Int) := of_decide_eq_true (Z8)
     have oU : aj < (l0.length : Int) := of_decide_eq_true (Z8)
     obtain ⟨ad444, e444, hx444_0⟩ := Kd.at_int HR0.out aj oT oU
     cases e444
     replace oT := eq_true oT
     replace oU := eq_true oU
     go_wp2
     go_ret
     exact ⟨Z11, Z14⟩
    rw [if_neg c6] at H
    have ck : ((rd l0 aj) == a1) = false := beq_eq_false_iff_ne.mpr c6
    have gN : ((rd l0 aj) != a1) = true := bne_iff_ne.mpr c6
    have H' := Aside0.mk H
    clear H
    have oT : 0 ≤ (aj : Int) := of_decide_eq_true (Z8)
    have oU : aj < (l0.length : Int) := of_decide_eq_true (Z8)
    obtain ⟨ad444, e444, hx444_0⟩ := Kd.at_int HR0.out aj oT oU
    cases e444
    replace oT := eq_true oT
    replace oU := eq_true oU
    go_wp2
    go_roundg k1
    case measure => have := HK1.out; omega
    case rel => exact ⟨(wrap64 (aj + 1)), (Z11), H', ⟨Z83 HK1⟩, Z14⟩
   rw [if_neg c3] at H
   have bA : decide (aj < (l0.length : Int)) = false := decide_eq_false c3
   clear c3
   obtain rfl := Option.some.inj H
   go_wp2
   go_ret
   exact ⟨Z11, Z14⟩

end Go.Proofs.YtcpbncljimmkfaaGreatDoor.PFnScans
