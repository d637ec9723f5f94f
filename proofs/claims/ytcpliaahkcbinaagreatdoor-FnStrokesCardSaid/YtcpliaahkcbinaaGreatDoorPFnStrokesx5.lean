import Derived.Test.YtcpliaahkcbinaaGreatDoorPFnStrokesx0
import Derived.Test.YtcpliaahkcbinaaGreatDoorPFnStrokesx2
import Derived.Test.YtcpliaahkcbinaaGreatDoorPFnStrokesx3
import Derived.Test.YtcpliaahkcbinaaGreatDoorPFnStrokesx4
import Derived.Test.YtcpliaahkcbinaaGreatDoorPFnStrokesx1
namespace Go.Proofs.YtcpliaahkcbinaaGreatDoor.PFnStrokes
open Go.RowKit Go.Proofs.YtcpliaahkcbinaaGreatDoorW.PrintWords Go.Proofs.YtcpliaahkcbinaaGreatDoorW.PrintLast Go.Proofs.YtcpliaahkcbinaaGreatDoorW.PrintMore
attribute [local go_sem] dS_ dV_ eo_ em_ dw_ dx_ dX_ dU_
set_option linter.unusedVariables false
set_option linter.unusedSimpArgs false
theorem ef_ {p : Prop} (h : p := by repeat' first | (with_reducible first | apply ih0 | apply ih0 | apply ih1 | apply ih1 | apply ap_.mono | apply ap_.mono | apply bi_.mono | apply bi_.mono | apply ah_.mono | apply ah_.mono | apply aQ_.mono | apply aQ_.mono | exact LeO.refl _ | exact LeO.none _ | refine LeO.ite ?_ ?_ | refine LeO.bind ?_ (fun _ => ?_)) | exact LeO.none _ | refine LeO.ite ?_ ?_ | refine LeO.bind ?_ (fun _ => ?_)) : p := h
mutual
def aO_.j0 : Nat → List (S42) → Int → Bool → Option (List Int × Bool)
 | 0, _, _, _ => none
 | k + 1, x0, x1, x16 => if x16 = true then (some (([] : List Int), false)) else (if 0 ≤ x1 then (if (x1 : Int).toNat ≤ 35184372088832 then (aO_.l0 k x1 (List.replicate (x1 : Int).toNat 0) x0 (x0.length : Int) 0) else (none)) else (none))
def aO_.l0 : Nat → Int → List Int → List (S42) → Int → Int → Option (List Int × Bool)
 | 0, _, _, _, _, _ => none
 | k + 1, x1, x6, x19, x20, x21 => if x21 < x20 then (if 0 ≤ x21 then (if x21 < (x19.length : Int) then (if x1 = 0 then (none) else (if 0 ≤ (Int.tmod ((ac_ x19 x21).f0) x1) then (if (Int.tmod ((ac_ x19 x21).f0) x1) < (x6.length : Int) then (aO_.l0 k x1 (x6.set ((Int.tmod ((ac_ x19 x21).f0) x1) : Int).toNat (wrap64 ((rd x6 (Int.tmod ((ac_ x19 x21).f0) x1)) + 1))) x19 x20 (wrap64 (x21 + 1))) else (none)) else (none))) else (none)) else (none)) else (some (x6, true))
end
def aO_.f (k : Nat) (l0 : List (S42)) (a1 : Int) : Option (List Int × Bool) := (ap_.f k l0).bind fun Ac => (if Ac = true then ((da_.f a1).bind fun xJ => (aO_.j0 k l0 a1 (!xJ))) else (aO_.j0 k l0 a1 true))
theorem aO_.mono_l : ∀ k, (∀ y0 y1 y2, LeO (aO_.j0 k y0 y1 y2) (aO_.j0 (k + 1) y0 y1 y2)) ∧ (∀ y0 y1 y2 y3 y4, LeO (aO_.l0 k y0 y1 y2 y3 y4) (aO_.l0 (k + 1) y0 y1 y2 y3 y4))
 | 0 => ⟨fun _ _ _ r h => by simp [aO_.j0] at h, fun _ _ _ _ _ r h => by simp [aO_.l0] at h⟩
 | k + 1 => by
  obtain ⟨ih0, ih1⟩ := aO_.mono_l k
  refine ⟨?_, ?_⟩
  ·intro y0 y1 y2
   unfold aO_.j0
   exact ef_
  intro y0 y1 y2 y3 y4
  unfold aO_.l0
  exact ef_
theorem aO_.mono : ∀ a0 a1 k, LeO (aO_.f k a0 a1) (aO_.f (k + 1) a0 a1) := by
 intro a0 a1 k
 obtain ⟨ih0, ih1⟩ := aO_.mono_l k
 unfold aO_.f
 exact ef_
set_option maxHeartbeats 8000000 in
set_option maxRecDepth 100000 in
theorem aO_.calls (k : Nat) (A0 : Option Addr) (c0 : Nat) (l0 : List (S42)) (a1 : Int) (r1 : List Int) (r2 : Bool) (w : World) (hr0 : Kd.C k42 w A0 l0.length l0) (hc0 : l0.length ≤ c0) (h : aO_.f k l0 a1 = some (r1, r2)) :
  Calls Tryz.prog 18 #[.slice A0 l0.length c0, .int .i64 a1] w fun e w' => ∃ v0_ : Value, e = .returned (.tuple #[v0_, .bool r2]) ∧ Kd.R (Kd.int .i64) 3 w' w.heap.size (fun _ => True) v0_ r1 ∧ Below w.heap.size w w' := by
 have hu42 := Tryz.underlying42
 have HR0 := aa_.mk hr0
 have HC0 := aa_.mk hc0
 clear hr0 hc0
 have HB := aa_.mk (Below.refl w.heap.size w)
 have H := h; unfold aO_.f at H
 clear h
 have HC3 := aa_.mk H
 clear H
 go_enter Tryz.func18, Tryz.ntmps18
 go_upto_region 1 with (fail)
 go_cut [16] (fun NR wc => ∃ (kq : Nat) (lg : Bool), NR = .bool lg ∧ aa_ (aO_.j0 kq l0 a1 lg = some (r1, r2)) ∧ aa_ (kq ≤ k) ∧ aa_ (Below w.heap.size w wc))
 case first =>
  have H := HC3.out
  clear HC3
  replace H := bd_ H; obtain ⟨Ac, A4, H⟩ := H
  replace H := it_ H; obtain ⟨rfl, H⟩ | ⟨rfl, H⟩ := H
  ·replace H := bd_ H; obtain ⟨xJ, A6, H⟩ := H
   have H' := aa_.mk H
   clear H
   go_wp2_with (first | ((with_reducible refine ae_ (f := 13) rfl ?_); refine gl_ 10 Tryz.func13 #[.slice A0 l0.length c0] ?_; (with_reducible refine (ap_.calls k _ _ l0 true _ ?_ ?_ A4.out).mono ?_); exact (Z10 HR0); exact HC0.out; rintro e w7 ⟨rfl, hb⟩; refine ⟨_, rfl, ?_⟩; refine k1_ Ws_ ?_; clear HB; intro HB; (try clear hb)) | (go_at_call 46; (with_reducible refine (da_.calls a1 xJ _ A6.out).mono ?_); rintro e w' ⟨rfl, ⟨nd, rfl⟩⟩))
   go_meet
   case rel => exact ⟨_, (!xJ), (Z14), H', ⟨d7_⟩, ⟨Z2⟩⟩
  have H' := aa_.mk H
  clear H
  go_wp2_with (((with_reducible refine ae_ (f := 13) rfl ?_); refine gl_ 10 Tryz.func13 #[.slice A0 l0.length c0] ?_; (with_reducible refine (ap_.calls k _ _ l0 false _ ?_ ?_ A4.out).mono ?_); exact (Z10 HR0); exact HC0.out; rintro e w8 ⟨rfl, hb⟩; refine ⟨_, rfl, ?_⟩; refine k1_ Ws_ ?_; clear HB; intro HB; (try clear hb)))
  go_meet
  case rel => exact ⟨_, (true), (Z14), H', ⟨d7_⟩, ⟨Z2⟩⟩
 case rest =>
  clear HC3
  obtain ⟨kq, lg, rfl, HA, zS, HB⟩ := hcut
  cases kq with
  | zero => exact absurd HA.out (by simp [aO_.j0])
  | succ o8 =>
   have H := HA.out
   clear HA
   simp only [aO_.j0] at H
   replace H := it_ H; obtain ⟨rfl, H⟩ | ⟨rfl, H⟩ := H
   ·obtain ⟨rfl, rfl⟩ := sp_ H; clear H
    go_wp2
    go_ret2
    exact ⟨_, Z9, Z17, Z2⟩
   replace H := ie_ H; obtain ⟨de, ss, H⟩ := H
   replace H := ie_ H; obtain ⟨dG, n8, H⟩ := H
   generalize e_ : ((List.replicate (a1 : Int).toNat 0) : List Int) = KB at H
   have D2 := aa_.mk e_.symm; clear e_
   have H' := aa_.mk H
   clear H
   go_wp2_with (((with_reducible refine au_ (N := 18) rfl ?_); refine Kd.qC_ (Kd.int .i64) _ 3 rfl (N := 18) rfl 43 _ _ rfl a1 rfl rfl Tryz.underlying43 (.int .i64 0) 8 hc_ rfl (by decide) (by omega) 0 (ok := fun _ => True) (okp := fun _ => True) rfl (fun _ hk => hk) trivial (of_decide_eq_true (Z8)) (Nat.le_trans (Nat.mul_le_mul_right _ (of_decide_eq_true (Z8) : a1.toNat ≤ 35184372088832)) (by omega)) (Below.refl _ _) (Nat.le_refl _) ?_; intro KC qT ho13 hb hg_ hnew_; clear hg_ hnew_; (first | rw [← D2.out] at ho13 | (simp only [Int.reduceToNat] at ho13; rw [← D2.out] at ho13)); refine k2_ (Kd.pY_ ho13 (ao_ (Z2))) Ws_ ?_; clear HB; intro HO633 HB; clear hb ho13))
   (try simp only [Act.put, List.setIfInBounds_toArray, List.set_cons_zero, List.set_cons_succ])
   go_loopg [21] o8 (fun kq GS w' => ∃ (bH : List Int) (al : Int), GS = .int .i64 al ∧ aa_ (aO_.l0 kq a1 bH l0 (l0.length : Int) al = some (r1, r2)) ∧ aa_ (kq ≤ o8) ∧ aa_ (Kd.R (Kd.int .i64) 3 w' w.heap.size (fun _ => True) KC bH) ∧ aa_ (Below w.heap.size w w'))
   case atStart => exact ⟨(KB), (0), (Z14), H', ⟨Nat.le_refl _⟩, ⟨Z1 HO633⟩, ⟨Z2⟩⟩
   case round =>
    clear H'
    (try clear de); (try clear ss); (try clear dG); (try clear n8)
    obtain ⟨bH, al, rfl, HA, HK2, ac, HB⟩ := hrel
    cases gk with
    | zero => exact absurd HA.out (by simp [aO_.l0])
    | succ k2 =>
     have H := HA.out
     clear HA
     simp only [aO_.l0] at H
     replace H := iv_ H; obtain ⟨jD, H⟩ | ⟨jD, H⟩ := H
     ·replace H := id_ H; obtain ⟨dR, H⟩ := H
      replace H := id_ H; obtain ⟨fQ, H⟩ := H
      replace H := iw_ H; obtain ⟨c17, H⟩ | ⟨c17, H⟩ := H
      ·exact absurd H (by simp)
      have i2 : (a1 == 0) = false := beq_eq_false_iff_ne.mpr c17
      have wn : (a1 != 0) = true := bne_iff_ne.mpr c17
      obtain ⟨cE, hji18⟩ : ∃ j_ : Int, (Int.tmod ((ac_ l0 al).f0) a1) = j_ := ⟨_, rfl⟩
      (first | rw [hji18] at H | simp only [hji18] at H)
      replace H := id_ H; obtain ⟨mm, H⟩ := H
      replace H := id_ H; obtain ⟨dS, H⟩ := H
      generalize e_ : ((bH.set ((cE) : Int).toNat (wrap64 ((rd bH (cE)) + 1))) : List Int) = H6 at H
      have Ny637 := aa_.mk e_.symm; clear e_
      have H' := aa_.mk H
      clear H
      obtain ⟨ad634, e634, pY, pZ, H7, H8⟩ := ds_ HR0.out HB.out al
      cases e634
      go_wp2_with (first | ((with_reducible refine au_ (N := 8) rfl ?_); refine bv_ 8 42 #[.int .i64 0, .int .i64 0] ?_; intro mA hg jE hbox hb; refine k5_ (Ya_ ac) Ws_ (hbox) (Wg_ w mA) (Wg_ w mA) ?_; clear ac HB; intro ac HB i8 GW635 GE635; clear hb hbox hg; obtain ⟨iC, iD, iE, iF⟩ := cH_ (w := jE) i8.out) | ((with_reducible refine cM_ (t := 42) (p := 8) rfl ?_); refine cB_ (t := 42) (p := 8) (v := ?vo_w24) (w1 := ((jE.setCell ⟨mA, 0, none⟩ (.int .i64 ((ac_ l0 al).f0))).setCell ⟨mA, 1, none⟩ (.int .i64 ((ac_ l0 al).f1)))) ?hg ?ho ?hn ?hr ?_; (case ho => rfl); (case hg => rfl); (case hn => rfl); (case hr => exact Z39); intro cP hw; have n0_ : aa_ (Kd.R (Kd.int .i64) 3 cP w.heap.size (fun _ => True) KC bH) := ⟨(by rw [hw]; exact (by (with_reducible repeat (first | apply Kd.p1_ | apply Kd.p0_ | apply Kd.pZ_)); exact Kd.pX_ (Kd.p4_ (p := ⟨mA, 1, none⟩) (Kd.p4_ (p := ⟨mA, 0, none⟩) (Kd.qf_ ac.out i8.out (by decide)) (fun _ hk => hk.2) (.int .i64 ((ac_ l0 al).f0))) (fun _ hk => hk.2) (.int .i64 ((ac_ l0 al).f1))) (fun _ hk => trivial)))⟩; have n1_ : aa_ (cP.heap[mA]? = some (.cells #[.int .i64 ((ac_ l0 al).f0), .int .i64 ((ac_ l0 al).f1)] 42 (0, 0))) := ⟨(by rw [hw]; exact (Z83 i8))⟩; have n2_ : aa_ (Below w.heap.size w cP) := ⟨(by rw [hw]; exact ow_)⟩; clear hw; clear ac; clear i8; clear HB; have ac := n0_; have i8 := n1_; have HB := n2_; clear n0_ n1_ n2_; obtain ⟨jP, jQ, jR, jS⟩ := cH_ (w := cP) i8.out; obtain ⟨B0, gO, pv⟩ := Kd.pW_ ac.out; subst pv; have H9 : 0 ≤ ((cE) : Int) := of_decide_eq_true (Z8); have Ia : (cE) < (bH.length : Int) := of_decide_eq_true (Z8); obtain ⟨ad636, e636, hx636_0⟩ := Kd.at_int (Kd.pV_ ac.out).2.2 (cE) H9 Ia; cases e636; replace H9 := eq_true H9; replace Ia := eq_true Ia; have oU : 0 ≤ ((cE) : Int) := of_decide_eq_true (Z8); have oV : ((cE) : Int) < ((bH.length : Int) : Int) := of_decide_eq_true (Z8); obtain ⟨go21, B2, jW, jX, gl21, cl21, HG21⟩ := Kd.qs_ ac.out (by omega); (first | cases jW | (injection jW with ea_ en_ ec_; (first | subst ea_ | (injection ea_ with ea_; subst ea_)); subst ec_; clear en_)); have GB21 := aa_.mk jX; have GG21 := aa_.mk HG21; clear jX gl21 HG21; (first | simp only [bO_] at hx636_0 | skip); obtain ⟨pw, hf21_0⟩ := Kd.qv_ 0 ac.out ((cE) : Int) oU oV; replace oU := eq_true oU; replace oV := eq_true oV; obtain ⟨hy27_, hz27_⟩ := Kd.qv_ 0 ac.out ((cE) : Int) (of_decide_eq_true (Z8)) (of_decide_eq_true (Z8)); have HP27 := Kd.qD_ ac.out ((cE) : Int) (wrap64 ((rd bH (cE)) + 1))) | ((with_reducible refine cM_ (t := 3) (p := 33) rfl ?_); refine cB_ (t := 3) (p := 33) (v := ?vo_w28) (w1 := (cP.setCell ⟨go21, ((cE) : Int).toNat, none⟩ (.int .i64 (wrap64 ((rd bH (cE)) + 1))))) ?hg ?ho ?hn ?hr ?_; (case ho => rfl); (case hg => rfl); (case hn => rfl); (case hr => exact Z39); intro i3 hw; have hg : cP.grownBy i3 (some go21) := (by rw [hw]; exact HP27.2); have hp_ : Kd.R (Kd.int .i64) 3 i3 w.heap.size (fun _ => True) (.slice (some ⟨go21, 0, none⟩) bH.length gO) H6 := (by rw [hw, Ny637.out]; exact HP27.1); clear HP27; refine k3_ (hp_) (bg_ (zo_ i8) hg (Kd.qb_ ac.out i8.out (by decide))) ((ne_ : Below w.heap.size w i3)) ?_; clear ac i8 HB; intro ac i8 HB; clear hg hw hp_))
      go_roundg k2
      case measure => have := zS.out; have := HK2.out; omega
      case rel => exact ⟨(H6), (wrap64 (al + 1)), (Z14), H', ⟨fc_ zS⟩, ⟨Z1 ac⟩, ⟨ow_⟩⟩
     obtain ⟨rfl, rfl⟩ := sp_ H; clear H
     go_wp2
     go_ret2
     exact ⟨_, Z9, Z1 ac, Z2⟩
def dt_.f (a0 : Int) : Option (Bool) := (bK_.f a0 1 5).bind fun xK => (some xK)
set_option maxHeartbeats 8000000 in
set_option maxRecDepth 100000 in
theorem dt_.calls (a0 : Int) (r : Bool) (w : World) (h : dt_.f a0 = some r) :
  Calls Tryz.prog 47 #[.int .i64 a0] w fun e w' => e = .returned (.bool r) ∧ bH_ w w' := by
 have H := h; unfold dt_.f at H
 clear h
 replace H := bd_ H; obtain ⟨xK, A2, H⟩ := H
 replace H : (some xK) = some r := H
 obtain rfl := Option.some.inj H
 go_enter Tryz.func47, Tryz.ntmps47
 go_wp2_with (((with_reducible refine ae_ (f := 79) rfl ?_); refine gl_ 4 Tryz.func79 #[.int .i64 a0, .int .i64 1, .int .i64 5] ?_; (with_reducible refine (bK_.calls a0 1 5 xK _ A2.out).mono ?_); rintro e w' ⟨rfl, ⟨nd, rfl⟩⟩; refine ⟨_, rfl, ?_⟩))
 go_ret
 exact ⟨Z14, Z41⟩
mutual
def aX_.j0 : Nat → List (S42) → Int → Bool → Option (List Int × Bool)
 | 0, _, _, _ => none
 | k + 1, x0, x1, x16 => if x16 = true then (some (([] : List Int), false)) else (if 0 ≤ x1 then (if (x1 : Int).toNat ≤ 35184372088832 then (aX_.l0 k x1 (List.replicate (x1 : Int).toNat 0) x0 (x0.length : Int) 0) else (none)) else (none))
def aX_.l0 : Nat → Int → List Int → List (S42) → Int → Int → Option (List Int × Bool)
 | 0, _, _, _, _, _ => none
 | k + 1, x1, x6, x19, x20, x21 => if x21 < x20 then (if 0 ≤ x21 then (if x21 < (x19.length : Int) then (if x1 = 0 then (none) else (if 0 ≤ (Int.tmod ((ac_ x19 x21).f0) x1) then (if (Int.tmod ((ac_ x19 x21).f0) x1) < (x6.length : Int) then (aX_.l0 k x1 (x6.set ((Int.tmod ((ac_ x19 x21).f0) x1) : Int).toNat (wrap64 ((rd x6 (Int.tmod ((ac_ x19 x21).f0) x1)) + 1))) x19 x20 (wrap64 (x21 + 1))) else (none)) else (none))) else (none)) else (none)) else (some (x6, true))
end
def aX_.f (k : Nat) (l0 : List (S42)) (a1 : Int) : Option (List Int × Bool) := (aQ_.f k l0).bind fun Ad => (if Ad = true then ((dt_.f a1).bind fun xL => (aX_.j0 k l0 a1 (!xL))) else (aX_.j0 k l0 a1 true))
theorem aX_.mono_l : ∀ k, (∀ y0 y1 y2, LeO (aX_.j0 k y0 y1 y2) (aX_.j0 (k + 1) y0 y1 y2)) ∧ (∀ y0 y1 y2 y3 y4, LeO (aX_.l0 k y0 y1 y2 y3 y4) (aX_.l0 (k + 1) y0 y1 y2 y3 y4))
 | 0 => ⟨fun _ _ _ r h => by simp [aX_.j0] at h, fun _ _ _ _ _ r h => by simp [aX_.l0] at h⟩
 | k + 1 => by
  obtain ⟨ih0, ih1⟩ := aX_.mono_l k
  refine ⟨?_, ?_⟩
  ·intro y0 y1 y2
   unfold aX_.j0
   exact ef_
  intro y0 y1 y2 y3 y4
  unfold aX_.l0
  exact ef_
theorem aX_.mono : ∀ a0 a1 k, LeO (aX_.f k a0 a1) (aX_.f (k + 1) a0 a1) := by
 intro a0 a1 k
 obtain ⟨ih0, ih1⟩ := aX_.mono_l k
 unfold aX_.f
 exact ef_
set_option maxHeartbeats 8000000 in
set_option maxRecDepth 100000 in
theorem aX_.calls (k : Nat) (A0 : Option Addr) (c0 : Nat) (l0 : List (S42)) (a1 : Int) (r1 : List Int) (r2 : Bool) (w : World) (hr0 : Kd.C k42 w A0 l0.length l0) (hc0 : l0.length ≤ c0) (h : aX_.f k l0 a1 = some (r1, r2)) :
  Calls Tryz.prog 19 #[.slice A0 l0.length c0, .int .i64 a1] w fun e w' => ∃ v0_ : Value, e = .returned (.tuple #[v0_, .bool r2]) ∧ Kd.R (Kd.int .i64) 3 w' w.heap.size (fun _ => True) v0_ r1 ∧ Below w.heap.size w w' := by
 have hu42 := Tryz.underlying42
 have HR0 := aa_.mk hr0
 have HC0 := aa_.mk hc0
 clear hr0 hc0
 have HB := aa_.mk (Below.refl w.heap.size w)
 have H := h; unfold aX_.f at H
 clear h
 have HC3 := aa_.mk H
 clear H
 go_enter Tryz.func19, Tryz.ntmps19
 go_upto_region 1 with (fail)
 go_cut [16] (fun NR wc => ∃ (kq : Nat) (lg : Bool), NR = .bool lg ∧ aa_ (aX_.j0 kq l0 a1 lg = some (r1, r2)) ∧ aa_ (kq ≤ k) ∧ aa_ (Below w.heap.size w wc))
 case first =>
  have H := HC3.out
  clear HC3
  replace H := bd_ H; obtain ⟨Ad, A4, H⟩ := H
  replace H := it_ H; obtain ⟨rfl, H⟩ | ⟨rfl, H⟩ := H
  ·replace H := bd_ H; obtain ⟨xL, A6, H⟩ := H
   have H' := aa_.mk H
   clear H
   go_wp2_with (first | ((with_reducible refine ae_ (f := 36) rfl ?_); refine gl_ 10 Tryz.func36 #[.slice A0 l0.length c0] ?_; (with_reducible refine (aQ_.calls k _ _ l0 true _ ?_ ?_ A4.out).mono ?_); exact (Z10 HR0); exact HC0.out; rintro e w7 ⟨rfl, hb⟩; refine ⟨_, rfl, ?_⟩; refine k1_ Ws_ ?_; clear HB; intro HB; (try clear hb)) | (go_at_call 47; (with_reducible refine (dt_.calls a1 xL _ A6.out).mono ?_); rintro e w' ⟨rfl, ⟨nd, rfl⟩⟩))
   go_meet
   case rel => exact ⟨_, (!xL), (Z14), H', ⟨d7_⟩, ⟨Z2⟩⟩
  have H' := aa_.mk H
  clear H
  go_wp2_with (((with_reducible refine ae_ (f := 36) rfl ?_); refine gl_ 10 Tryz.func36 #[.slice A0 l0.length c0] ?_; (with_reducible refine (aQ_.calls k _ _ l0 false _ ?_ ?_ A4.out).mono ?_); exact (Z10 HR0); exact HC0.out; rintro e w8 ⟨rfl, hb⟩; refine ⟨_, rfl, ?_⟩; refine k1_ Ws_ ?_; clear HB; intro HB; (try clear hb)))
  go_meet
  case rel => exact ⟨_, (true), (Z14), H', ⟨d7_⟩, ⟨Z2⟩⟩
 case rest =>
  clear HC3
  obtain ⟨kq, lg, rfl, HA, zS, HB⟩ := hcut
  cases kq with
  | zero => exact absurd HA.out (by simp [aX_.j0])
  | succ o8 =>
   have H := HA.out
   clear HA
   simp only [aX_.j0] at H
   replace H := it_ H; obtain ⟨rfl, H⟩ | ⟨rfl, H⟩ := H
   ·obtain ⟨rfl, rfl⟩ := sp_ H; clear H
    go_wp2
    go_ret2
    exact ⟨_, Z9, Z17, Z2⟩
   replace H := ie_ H; obtain ⟨de, ss, H⟩ := H
   replace H := ie_ H; obtain ⟨dG, n8, H⟩ := H
   generalize e_ : ((List.replicate (a1 : Int).toNat 0) : List Int) = KD at H
   have D3 := aa_.mk e_.symm; clear e_
   have H' := aa_.mk H
   clear H
   go_wp2_with (((with_reducible refine au_ (N := 18) rfl ?_); refine Kd.qC_ (Kd.int .i64) _ 3 rfl (N := 18) rfl 43 _ _ rfl a1 rfl rfl Tryz.underlying43 (.int .i64 0) 8 hc_ rfl (by decide) (by omega) 0 (ok := fun _ => True) (okp := fun _ => True) rfl (fun _ hk => hk) trivial (of_decide_eq_true (Z8)) (Nat.le_trans (Nat.mul_le_mul_right _ (of_decide_eq_true (Z8) : a1.toNat ≤ 35184372088832)) (by omega)) (Below.refl _ _) (Nat.le_refl _) ?_; intro KE qT ho13 hb hg_ hnew_; clear hg_ hnew_; (first | rw [← D3.out] at ho13 | (simp only [Int.reduceToNat] at ho13; rw [← D3.out] at ho13)); refine k2_ (Kd.pY_ ho13 (ao_ (Z2))) Ws_ ?_; clear HB; intro HO643 HB; clear hb ho13))
   (try simp only [Act.put, List.setIfInBounds_toArray, List.set_cons_zero, List.set_cons_succ])
   go_loopg [21] o8 (fun kq GS w' => ∃ (bH : List Int) (al : Int), GS = .int .i64 al ∧ aa_ (aX_.l0 kq a1 bH l0 (l0.length : Int) al = some (r1, r2)) ∧ aa_ (kq ≤ o8) ∧ aa_ (Kd.R (Kd.int .i64) 3 w' w.heap.size (fun _ => True) KE bH) ∧ aa_ (Below w.heap.size w w'))
   case atStart => exact ⟨(KD), (0), (Z14), H', ⟨Nat.le_refl _⟩, ⟨Z1 HO643⟩, ⟨Z2⟩⟩
   case round =>
    clear H'
    (try clear de); (try clear ss); (try clear dG); (try clear n8)
    obtain ⟨bH, al, rfl, HA, HK2, ac, HB⟩ := hrel
    cases gk with
    | zero => exact absurd HA.out (by simp [aX_.l0])
    | succ k2 =>
     have H := HA.out
     clear HA
     simp only [aX_.l0] at H
     replace H := iv_ H; obtain ⟨jD, H⟩ | ⟨jD, H⟩ := H
     ·replace H := id_ H; obtain ⟨dR, H⟩ := H
      replace H := id_ H; obtain ⟨fQ, H⟩ := H
      replace H := iw_ H; obtain ⟨c17, H⟩ | ⟨c17, H⟩ := H
      ·exact absurd H (by simp)
      have i2 : (a1 == 0) = false := beq_eq_false_iff_ne.mpr c17
      have wn : (a1 != 0) = true := bne_iff_ne.mpr c17
      obtain ⟨cE, hji18⟩ : ∃ j_ : Int, (Int.tmod ((ac_ l0 al).f0) a1) = j_ := ⟨_, rfl⟩
      (first | rw [hji18] at H | simp only [hji18] at H)
      replace H := id_ H; obtain ⟨mm, H⟩ := H
      replace H := id_ H; obtain ⟨dS, H⟩ := H
      generalize e_ : ((bH.set ((cE) : Int).toNat (wrap64 ((rd bH (cE)) + 1))) : List Int) = Ib at H
      have Ny647 := aa_.mk e_.symm; clear e_
      have H' := aa_.mk H
      clear H
      obtain ⟨ad644, e644, p0, p8, Ic, Id⟩ := ds_ HR0.out HB.out al
      cases e644
      go_wp2_with (first | ((with_reducible refine au_ (N := 8) rfl ?_); refine bv_ 8 42 #[.int .i64 0, .int .i64 0] ?_; intro mB hg jE hbox hb; refine k5_ (Ya_ ac) Ws_ (hbox) (Wg_ w mB) (Wg_ w mB) ?_; clear ac HB; intro ac HB i9 GW645 GE645; clear hb hbox hg; obtain ⟨iC, iD, iE, iF⟩ := cH_ (w := jE) i9.out) | ((with_reducible refine cM_ (t := 42) (p := 8) rfl ?_); refine cB_ (t := 42) (p := 8) (v := ?vo_w24) (w1 := ((jE.setCell ⟨mB, 0, none⟩ (.int .i64 ((ac_ l0 al).f0))).setCell ⟨mB, 1, none⟩ (.int .i64 ((ac_ l0 al).f1)))) ?hg ?ho ?hn ?hr ?_; (case ho => rfl); (case hg => rfl); (case hn => rfl); (case hr => exact Z39); intro cP hw; have n0_ : aa_ (Kd.R (Kd.int .i64) 3 cP w.heap.size (fun _ => True) KE bH) := ⟨(by rw [hw]; exact (by (with_reducible repeat (first | apply Kd.p1_ | apply Kd.p0_ | apply Kd.pZ_)); exact Kd.pX_ (Kd.p4_ (p := ⟨mB, 1, none⟩) (Kd.p4_ (p := ⟨mB, 0, none⟩) (Kd.qf_ ac.out i9.out (by decide)) (fun _ hk => hk.2) (.int .i64 ((ac_ l0 al).f0))) (fun _ hk => hk.2) (.int .i64 ((ac_ l0 al).f1))) (fun _ hk => trivial)))⟩; have n1_ : aa_ (cP.heap[mB]? = some (.cells #[.int .i64 ((ac_ l0 al).f0), .int .i64 ((ac_ l0 al).f1)] 42 (0, 0))) := ⟨(by rw [hw]; exact (Z83 i9))⟩; have n2_ : aa_ (Below w.heap.size w cP) := ⟨(by rw [hw]; exact o4_)⟩; clear hw; clear ac; clear i9; clear HB; have ac := n0_; have i9 := n1_; have HB := n2_; clear n0_ n1_ n2_; obtain ⟨jP, jQ, jR, jS⟩ := cH_ (w := cP) i9.out; obtain ⟨B0, gO, pv⟩ := Kd.pW_ ac.out; subst pv; have Ie : 0 ≤ ((cE) : Int) := of_decide_eq_true (Z8); have If : (cE) < (bH.length : Int) := of_decide_eq_true (Z8); obtain ⟨ad646, e646, hx646_0⟩ := Kd.at_int (Kd.pV_ ac.out).2.2 (cE) Ie If; cases e646; replace Ie := eq_true Ie; replace If := eq_true If; have oU : 0 ≤ ((cE) : Int) := of_decide_eq_true (Z8); have oV : ((cE) : Int) < ((bH.length : Int) : Int) := of_decide_eq_true (Z8); obtain ⟨go21, B2, jW, jX, gl21, cl21, HG21⟩ := Kd.qs_ ac.out (by omega); (first | cases jW | (injection jW with ea_ en_ ec_; (first | subst ea_ | (injection ea_ with ea_; subst ea_)); subst ec_; clear en_)); have GB21 := aa_.mk jX; have GG21 := aa_.mk HG21; clear jX gl21 HG21; (first | simp only [bO_] at hx646_0 | skip); obtain ⟨pw, hf21_0⟩ := Kd.qv_ 0 ac.out ((cE) : Int) oU oV; replace oU := eq_true oU; replace oV := eq_true oV; obtain ⟨hy27_, hz27_⟩ := Kd.qv_ 0 ac.out ((cE) : Int) (of_decide_eq_true (Z8)) (of_decide_eq_true (Z8)); have HP27 := Kd.qD_ ac.out ((cE) : Int) (wrap64 ((rd bH (cE)) + 1))) | ((with_reducible refine cM_ (t := 3) (p := 33) rfl ?_); refine cB_ (t := 3) (p := 33) (v := ?vo_w28) (w1 := (cP.setCell ⟨go21, ((cE) : Int).toNat, none⟩ (.int .i64 (wrap64 ((rd bH (cE)) + 1))))) ?hg ?ho ?hn ?hr ?_; (case ho => rfl); (case hg => rfl); (case hn => rfl); (case hr => exact Z39); intro i3 hw; have hg : cP.grownBy i3 (some go21) := (by rw [hw]; exact HP27.2); have hp_ : Kd.R (Kd.int .i64) 3 i3 w.heap.size (fun _ => True) (.slice (some ⟨go21, 0, none⟩) bH.length gO) Ib := (by rw [hw, Ny647.out]; exact HP27.1); clear HP27; refine k3_ (hp_) (bg_ (zo_ i9) hg (Kd.qb_ ac.out i9.out (by decide))) ((ne_ : Below w.heap.size w i3)) ?_; clear ac i9 HB; intro ac i9 HB; clear hg hw hp_))
      go_roundg k2
      case measure => have := zS.out; have := HK2.out; omega
      case rel => exact ⟨(Ib), (wrap64 (al + 1)), (Z14), H', ⟨fc_ zS⟩, ⟨Z1 ac⟩, ⟨o4_⟩⟩
     obtain ⟨rfl, rfl⟩ := sp_ H; clear H
     go_wp2
     go_ret2
     exact ⟨_, Z9, Z1 ac, Z2⟩
def a3_.l0 : Nat → List Int → List Int → Int → Int → Option (Bool)
 | 0, _, _, _, _ => none
 | k + 1, x0, x1, x12, x13 => if x13 < x12 then (if 0 ≤ x13 then (if x13 < (x0.length : Int) then (if x13 < (x1.length : Int) then (if (rd x0 x13) = (rd x1 x13) then (a3_.l0 k x0 x1 x12 (wrap64 (x13 + 1))) else (some false)) else (none)) else (none)) else (none)) else (some true)
def a3_.f (k : Nat) (l0 : List Int) (l1 : List Int) : Option (Bool) := if (l0.length : Int) = (l1.length : Int) then (a3_.l0 k l0 l1 (l0.length : Int) 0) else (some false)
theorem a3_.mono_l : ∀ k, (∀ y0 y1 y2 y3, LeO (a3_.l0 k y0 y1 y2 y3) (a3_.l0 (k + 1) y0 y1 y2 y3))
 | 0 => fun _ _ _ _ r h => by simp [a3_.l0] at h
 | k + 1 => by
  have ih0 := a3_.mono_l k
  ·intro y0 y1 y2 y3
   unfold a3_.l0
   exact ef_
theorem a3_.mono : ∀ a0 a1 k, LeO (a3_.f k a0 a1) (a3_.f (k + 1) a0 a1) := by
 intro a0 a1 k
 have ih0 := a3_.mono_l k
 unfold a3_.f
 exact ef_
set_option maxHeartbeats 8000000 in
set_option maxRecDepth 100000 in
theorem a3_.calls (k : Nat) (A0 : Option Addr) (c0 : Nat) (l0 : List Int) (A1 : Option Addr) (c1 : Nat) (l1 : List Int) (r : Bool) (w : World) (hr0 : Kd.C (Kd.int .i64) w A0 l0.length l0) (hc0 : l0.length ≤ c0) (hr1 : Kd.C (Kd.int .i64) w A1 l1.length l1) (hc1 : l1.length ≤ c1) (h : a3_.f k l0 l1 = some r) :
  Calls Tryz.prog 20 #[.slice A0 l0.length c0, .slice A1 l1.length c1] w fun e w' => e = .returned (.bool r) ∧ bH_ w w' := by
 have HR0 := aa_.mk hr0
 have HC0 := aa_.mk hc0
 clear hr0 hc0
 have HR1 := aa_.mk hr1
 have HC1 := aa_.mk hc1
 clear hr1 hc1
 have H := h; unfold a3_.f at H
 clear h
 replace H := iw_ H; obtain ⟨c3, H⟩ | ⟨c3, H⟩ := H
 ·have cU : ((l0.length : Int) == (l1.length : Int)) = true := beq_iff_eq.mpr c3
  have je : ((l0.length : Int) != (l1.length : Int)) = false := bne_eq_false_iff_eq.mpr c3
  have qZ : (l0.length == l1.length) = true := by first | simpa using c3 | (simp at c3 ⊢; omega)
  clear c3
  have H' := aa_.mk H
  clear H
  go_enter Tryz.func20, Tryz.ntmps20
  go_wp2
  repeat (go_quiet (fail); try go_wp2)
  go_loopg [13] k (fun kq Jx w' => ∃ (aM : Int), Jx = .int .i64 aM ∧ aa_ (a3_.l0 kq l0 l1 (l0.length : Int) aM = some r) ∧ aa_ (kq ≤ k) ∧ bH_ w w')
  case atStart => exact ⟨(0), (Z14), H', ⟨Nat.le_refl _⟩, Z41⟩
  case round =>
   clear H'
   (try clear c1); (try clear c3); (try clear cU); (try clear je); (try clear qZ)
   obtain ⟨aM, rfl, HA, HK1, ⟨m1, rfl⟩⟩ := hrel
   cases gk with
   | zero => exact absurd HA.out (by simp [a3_.l0])
   | succ k1 =>
    have H := HA.out
    clear HA
    simp only [a3_.l0] at H
    replace H := iv_ H; obtain ⟨da, H⟩ | ⟨da, H⟩ := H
    ·replace H := id_ H; obtain ⟨dp, H⟩ := H
     replace H := id_ H; obtain ⟨cC, H⟩ := H
     replace H := id_ H; obtain ⟨dJ, H⟩ := H
     replace H := ic_ H; obtain ⟨gN, yE, H⟩ | ⟨gN, yE, c8, H⟩ := H
     ·have H' := aa_.mk H
      clear H
      have vy : 0 ≤ (aM : Int) := of_decide_eq_true (Z8)
      have vz : aM < (l0.length : Int) := of_decide_eq_true (Z8)
      obtain ⟨ad648, e648, hx648_0⟩ := Kd.at_int HR0.out aM vy vz
      cases e648
      replace vy := eq_true vy
      replace vz := eq_true vz
      have vA : 0 ≤ (aM : Int) := of_decide_eq_true (Z8)
      have vB : aM < (l1.length : Int) := of_decide_eq_true (Z8)
      obtain ⟨ad649, e649, hx649_0⟩ := Kd.at_int HR1.out aM vA vB
      cases e649
      replace vA := eq_true vA
      replace vB := eq_true vB
      go_wp2
      repeat (go_quiet (fail); try go_wp2)
      go_roundg k1
      case measure => have := HK1.out; omega
      case rel => exact ⟨(wrap64 (aM + 1)), (Z14), H', ⟨Z91 HK1⟩, Z41⟩
     obtain rfl := Option.some.inj H
     have vy : 0 ≤ (aM : Int) := of_decide_eq_true (Z8)
     have vz : aM < (l0.length : Int) := of_decide_eq_true (Z8)
     obtain ⟨ad648, e648, hx648_0⟩ := Kd.at_int HR0.out aM vy vz
     cases e648
     replace vy := eq_true vy
     replace vz := eq_true vz
     have vA : 0 ≤ (aM : Int) := of_decide_eq_true (Z8)
     have vB : aM < (l1.length : Int) := of_decide_eq_true (Z8)
     obtain ⟨ad649, e649, hx649_0⟩ := Kd.at_int HR1.out aM vA vB
     cases e649
     replace vA := eq_true vA
     replace vB := eq_true vB
     go_wp2
     repeat (go_quiet (fail); try go_wp2)
     go_ret
     exact ⟨Z14, Z41⟩
    obtain rfl := Option.some.inj H
    go_wp2
    repeat (go_quiet (fail); try go_wp2)
    go_ret
    exact ⟨Z14, Z41⟩
 have cU : ((l0.length : Int) == (l1.length : Int)) = false := beq_eq_false_iff_ne.mpr c3
 have je : ((l0.length : Int) != (l1.length : Int)) = true := bne_iff_ne.mpr c3
 have qZ : (l0.length == l1.length) = false := by first | simpa using c3 | (simp at c3 ⊢; omega)
 obtain rfl := Option.some.inj H
 go_enter Tryz.func20, Tryz.ntmps20
 go_wp2
 repeat (go_quiet (fail); try go_wp2)
 go_ret
 exact ⟨Z14, Z41⟩
def bs_.l0 : Nat → Int → List Int → Int → Int → Option (Int)
 | 0, _, _, _, _ => none
 | k + 1, x3, x6, x7, x8 => if x8 < x7 then (if 0 ≤ x8 then (if x8 < (x6.length : Int) then (bs_.l0 k (wrap64 (x3 + (rd x6 x8))) x6 x7 (wrap64 (x8 + 1))) else (none)) else (none)) else (some x3)
def bs_.f (k : Nat) (l0 : List Int) : Option (Int) := bs_.l0 k 0 l0 (l0.length : Int) 0
theorem bs_.mono_l : ∀ k, (∀ y0 y1 y2 y3, LeO (bs_.l0 k y0 y1 y2 y3) (bs_.l0 (k + 1) y0 y1 y2 y3))
 | 0 => fun _ _ _ _ r h => by simp [bs_.l0] at h
 | k + 1 => by
  have ih0 := bs_.mono_l k
  ·intro y0 y1 y2 y3
   unfold bs_.l0
   exact ef_
theorem bs_.mono : ∀ a0 k, LeO (bs_.f k a0) (bs_.f (k + 1) a0) := by
 intro a0 k
 have ih0 := bs_.mono_l k
 unfold bs_.f
 exact ef_
set_option maxHeartbeats 8000000 in
set_option maxRecDepth 100000 in
theorem bs_.calls (k : Nat) (A0 : Option Addr) (c0 : Nat) (l0 : List Int) (r : Int) (w : World) (hr0 : Kd.C (Kd.int .i64) w A0 l0.length l0) (hc0 : l0.length ≤ c0) (h : bs_.f k l0 = some r) :
  Calls Tryz.prog 21 #[.slice A0 l0.length c0] w fun e w' => e = .returned (.int .i64 r) ∧ bH_ w w' := by
 have HR0 := aa_.mk hr0
 have HC0 := aa_.mk hc0
 clear hr0 hc0
 have H := h; unfold bs_.f at H
 clear h
 have H' := aa_.mk H
 clear H
 go_enter Tryz.func21, Tryz.ntmps21
 go_wp2
 go_loopg [3, 8] k (fun kq v3 v8 w' => ∃ (aN : Int) (cZ : Int), v3 = .int .i64 aN ∧ v8 = .int .i64 cZ ∧ aa_ (bs_.l0 kq aN l0 (l0.length : Int) cZ = some r) ∧ aa_ (kq ≤ k) ∧ bH_ w w')
 case atStart => exact ⟨(0), (0), (Z14), (Z14), H', ⟨Nat.le_refl _⟩, Z41⟩
 case round =>
  clear H'
  obtain ⟨aN, cZ, rfl, rfl, HA, HK1, ⟨m1, rfl⟩⟩ := hrel
  cases gk with
  | zero => exact absurd HA.out (by simp [bs_.l0])
  | succ k1 =>
   have H := HA.out
   clear HA
   simp only [bs_.l0] at H
   replace H := iv_ H; obtain ⟨dB, H⟩ | ⟨dB, H⟩ := H
   ·replace H := id_ H; obtain ⟨cU, H⟩ := H
    replace H := id_ H; obtain ⟨da, H⟩ := H
    have H' := aa_.mk H
    clear H
    have Ig : 0 ≤ (cZ : Int) := of_decide_eq_true (Z8)
    have Ih : cZ < (l0.length : Int) := of_decide_eq_true (Z8)
    obtain ⟨ad650, e650, hx650_0⟩ := Kd.at_int HR0.out cZ Ig Ih
    cases e650
    replace Ig := eq_true Ig
    replace Ih := eq_true Ih
    go_wp2
    go_roundg k1
    case measure => have := HK1.out; omega
    case rel => exact ⟨(wrap64 (aN + (rd l0 cZ))), (wrap64 (cZ + 1)), (Z14), (Z14), H', ⟨Z91 HK1⟩, Z41⟩
   obtain rfl := Option.some.inj H
   go_wp2
   go_ret
   exact ⟨Z14, Z41⟩
def bi_.f (k : Nat) (l0 : List Int) : Option ((List (S42))) := (ah_.f k l0 0 0).bind fun Ae => (some Ae.1)
theorem bi_.mono : ∀ a0 k, LeO (bi_.f k a0) (bi_.f (k + 1) a0) := by
 intro a0 k
 unfold bi_.f
 exact ef_
set_option maxHeartbeats 8000000 in
set_option maxRecDepth 100000 in
theorem bi_.calls (k : Nat) (A0 : Option Addr) (c0 : Nat) (l0 : List Int) (r : List (S42)) (w : World) (hr0 : Kd.C (Kd.int .u8) w A0 l0.length l0) (hc0 : l0.length ≤ c0) (h : bi_.f k l0 = some r) :
  Calls Tryz.prog 48 #[.slice A0 l0.length c0] w fun e w' => ∃ v0_ : Value, e = .returned (v0_) ∧ Kd.R k42 42 w' w.heap.size (fun _ => True) v0_ r ∧ Below w.heap.size w w' := by
 have hu54 := Tryz.underlying54
 have HR0 := aa_.mk hr0
 have HC0 := aa_.mk hc0
 clear hr0 hc0
 have HB := aa_.mk (Below.refl w.heap.size w)
 have H := h; unfold bi_.f at H
 clear h
 replace H := bd_ H; obtain ⟨⟨KF, t655, t656⟩, A2, H⟩ := H
 replace H : (some KF) = some r := H
 obtain rfl := Option.some.inj H
 go_enter Tryz.func48, Tryz.ntmps48
 go_wp2_with (first | ((with_reducible refine au_ (N := 6) rfl ?_); refine bv_ 6 54 #[.slice A0 l0.length c0, .int .i64 0, .int .u64 0] ?_; intro sx hg w3 hbox hb; refine k4_ Ws_ ((show aj_ w w3 sx l0 0 0 from ⟨_, _, hbox, (Z21), HR0.out⟩)) (Wg_ w sx) (Wg_ w sx) ?_; clear HB; intro HB HI651 GW651 GE651; clear hb hbox hg) | ((with_reducible refine ae_ (f := 38) rfl ?_); refine gl_ 8 Tryz.func38 #[.pointer (some ⟨sx, 0, none⟩)] ?_; (with_reducible refine (ah_.calls k sx l0 0 0 KF t655 t656 w _ ?_ ?_ A2.out).mono ?_); exact (Z4 HI651); exact m7_; rintro e w4 ⟨v653, rfl, ho0, hi, hb, hk⟩; refine ⟨_, rfl, ?_⟩; refine k3_ (Kd.pY_ ho0 (ao_ (m7_))) (hb) (hi) ?_; clear HB HI651; intro HO654 HB HI651; (try clear hb hk hi ho0)))
 go_ret
 exact ⟨_, Z9, Z1 HO654, m7_⟩
def bm_.f (k : Nat) (l0 : List Int) : Option ((List (S42))) := (bi_.f k l0).bind fun xM => (some xM)
theorem bm_.mono : ∀ a0 k, LeO (bm_.f k a0) (bm_.f (k + 1) a0) := by
 intro a0 k
 unfold bm_.f
 exact ef_
set_option maxHeartbeats 8000000 in
set_option maxRecDepth 100000 in
theorem bm_.calls (k : Nat) (A0 : Option Addr) (c0 : Nat) (l0 : List Int) (r : List (S42)) (w : World) (hr0 : Kd.C (Kd.int .u8) w A0 l0.length l0) (hc0 : l0.length ≤ c0) (h : bm_.f k l0 = some r) :
  Calls Tryz.prog 22 #[.slice A0 l0.length c0] w fun e w' => ∃ v0_ : Value, e = .returned (v0_) ∧ Kd.R k42 42 w' w.heap.size (fun _ => True) v0_ r ∧ Below w.heap.size w w' := by
 have HR0 := aa_.mk hr0
 have HC0 := aa_.mk hc0
 clear hr0 hc0
 have HB := aa_.mk (Below.refl w.heap.size w)
 have H := h; unfold bm_.f at H
 clear h
 replace H := bd_ H; obtain ⟨xM, A2, H⟩ := H
 replace H : (some xM) = some r := H
 obtain rfl := Option.some.inj H
 go_enter Tryz.func22, Tryz.ntmps22
 go_wp2_with (((with_reducible refine ae_ (f := 48) rfl ?_); refine gl_ 4 Tryz.func48 #[.slice A0 l0.length c0] ?_; (with_reducible refine (bi_.calls k _ _ l0 xM _ ?_ ?_ A2.out).mono ?_); exact (Z15 HR0); exact HC0.out; rintro e w3 ⟨v658, rfl, ho0, hb⟩; refine ⟨_, rfl, ?_⟩; refine k2_ Wo_ Ws_ ?_; clear HB; intro HO659 HB; (try clear hb ho0)))
 go_ret
 exact ⟨_, Z9, Z1 HO659, Z2⟩
theorem fT_ {p : Prop} (h : p := by repeat' first | (with_reducible first | apply ih0 | apply ih0 | apply ih1 | apply ih1 | apply ih2 | apply ih2 | apply ih3 | apply ih3 | apply ih4 | apply ih4 | apply ih5 | apply ih5 | apply aQ_.mono | apply aQ_.mono | apply am_.mono | apply am_.mono | exact LeO.refl _ | exact LeO.none _ | refine LeO.ite ?_ ?_ | refine LeO.bind ?_ (fun _ => ?_)) | exact LeO.none _ | refine LeO.ite ?_ ?_ | refine LeO.bind ?_ (fun _ => ?_)) : p := h
mutual
def af_.l0 : Nat → List (S42) → List (S61) → Int → Option ((List (S61)) × Bool)
 | 0, _, _, _ => none
 | k + 1, x0, x4, x5 => if x5 < 20 then (if 2001 ≤ 281474976710656 then (af_.l1 k x0 x4 x5 (List.replicate 2001 false) x0 (x0.length : Int) 0) else (none)) else ((am_.f k x4).bind fun D4 => (some (D4.1, D4.2)))
def af_.l1 : Nat → List (S42) → List (S61) → Int → List Bool → List (S42) → Int → Int → Option ((List (S61)) × Bool)
 | 0, _, _, _, _, _, _, _ => none
 | k + 1, x0, x4, x5, x6, x21, x22, x23 => if x23 < x22 then (if 0 ≤ x23 then (if x23 < (x21.length : Int) then (af_.l2 k x0 x4 x5 x6 0 x21 x22 x23 ((ac_ x21 x23).f0) ((ac_ x21 x23).f1)) else (none)) else (none)) else (af_.l3 k x0 x4 x5 x6 (x6.length : Int) 0)
def af_.l2 : Nat → List (S42) → List (S61) → Int → List Bool → Int → List (S42) → Int → Int → Int → Int → Option ((List (S61)) × Bool)
 | 0, _, _, _, _, _, _, _, _, _, _ => none
 | k + 1, x0, x4, x5, x6, x9, x21, x22, x23, iM, eK => if x9 < 4 then (af_.j3 k x0 x4 x5 x6 x9 x21 x22 x23 (iM == x5) iM eK) else (af_.j3 k x0 x4 x5 x6 x9 x21 x22 x23 false iM eK)
def af_.j3 : Nat → List (S42) → List (S61) → Int → List Bool → Int → List (S42) → Int → Int → Bool → Int → Int → Option ((List (S61)) × Bool)
 | 0, _, _, _, _, _, _, _, _, _, _, _ => none
 | k + 1, x0, x4, x5, x6, x9, x21, x22, x23, x34, iM, eK => if x34 = true then (if (wrap64 (eK + x9)) < 2000 then (if 0 ≤ (wrap64 (eK + x9)) then (if (wrap64 (eK + x9)) < (x6.length : Int) then (af_.l2 k x0 x4 x5 (x6.set ((wrap64 (eK + x9)) : Int).toNat true) (wrap64 (x9 + 1)) x21 x22 x23 iM eK) else (none)) else (none)) else (af_.l2 k x0 x4 x5 x6 (wrap64 (x9 + 1)) x21 x22 x23 iM eK)) else (af_.l1 k x0 x4 x5 x6 x21 x22 (wrap64 (x23 + 1)))
def af_.l3 : Nat → List (S42) → List (S61) → Int → List Bool → Int → Int → Option ((List (S61)) × Bool)
 | 0, _, _, _, _, _, _ => none
 | k + 1, x0, x4, x5, x49, x50, x51 => if x51 < x50 then (if 0 ≤ x51 then (if x51 < (x49.length : Int) then (if dP_ false x49 x51 = true then (if (x4.length : Int) > 0 then (if 0 ≤ (wrap64 ((x4.length : Int) - 1)) then (if (wrap64 ((x4.length : Int) - 1)) < (x4.length : Int) then (if ((ab_ x4 (wrap64 ((x4.length : Int) - 1))).f0) = x5 then (af_.j5 k x0 x4 x5 x51 (dP_ false x49 x51) (x4.length : Int) x49 x50 x51 (((ab_ x4 (wrap64 ((x4.length : Int) - 1))).f2) == x51)) else (af_.j5 k x0 x4 x5 x51 (dP_ false x49 x51) (x4.length : Int) x49 x50 x51 false)) else (none)) else (none)) else (af_.j5 k x0 x4 x5 x51 (dP_ false x49 x51) (x4.length : Int) x49 x50 x51 false)) else (af_.j5 k x0 x4 x5 x51 (dP_ false x49 x51) (x4.length : Int) x49 x50 x51 false)) else (none)) else (none)) else (af_.l0 k x0 x4 (wrap64 (x5 + 1)))
def af_.j5 : Nat → List (S42) → List (S61) → Int → Int → Bool → Int → List Bool → Int → Int → Bool → Option ((List (S61)) × Bool)
 | 0, _, _, _, _, _, _, _, _, _, _ => none
 | k + 1, x0, x4, x5, x10, x11, x12, x49, x50, x51, x58 => if x58 = true then (if 0 ≤ (wrap64 (x12 - 1)) then (if (wrap64 (x12 - 1)) < (x4.length : Int) then (af_.l3 k x0 (x4.set ((wrap64 (x12 - 1)) : Int).toNat (⟨(ab_ x4 (wrap64 (x12 - 1))).f0, (ab_ x4 (wrap64 (x12 - 1))).f1, wrap64 (x10 + 1)⟩ : S61)) x5 x49 x50 (wrap64 (x51 + 1))) else (none)) else (none)) else (if x11 = true then (if x4.length < 5864062014805 then (af_.l3 k x0 (x4 ++ [(⟨x5, x10, wrap64 (x10 + 1)⟩ : S61)]) x5 x49 x50 (wrap64 (x51 + 1))) else (none)) else (af_.l3 k x0 x4 x5 x49 x50 (wrap64 (x51 + 1))))
end
def af_.f (k : Nat) (l0 : List (S42)) : Option ((List (S61)) × Bool) := (aQ_.f k l0).bind fun Af => (if Af = true then (af_.l0 k l0 ([] : List (S61)) 0) else (some (([] : List (S61)), false)))
theorem af_.mono_l : ∀ k, (∀ y0 y1 y2, LeO (af_.l0 k y0 y1 y2) (af_.l0 (k + 1) y0 y1 y2)) ∧ (∀ y0 y1 y2 y3 y4 y5 y6, LeO (af_.l1 k y0 y1 y2 y3 y4 y5 y6) (af_.l1 (k + 1) y0 y1 y2 y3 y4 y5 y6)) ∧ (∀ y0 y1 y2 y3 y4 y5 y6 y7 y8 y9, LeO (af_.l2 k y0 y1 y2 y3 y4 y5 y6 y7 y8 y9) (af_.l2 (k + 1) y0 y1 y2 y3 y4 y5 y6 y7 y8 y9)) ∧ (∀ y0 y1 y2 y3 y4 y5 y6 y7 y8 y9 uR, LeO (af_.j3 k y0 y1 y2 y3 y4 y5 y6 y7 y8 y9 uR) (af_.j3 (k + 1) y0 y1 y2 y3 y4 y5 y6 y7 y8 y9 uR)) ∧ (∀ y0 y1 y2 y3 y4 y5, LeO (af_.l3 k y0 y1 y2 y3 y4 y5) (af_.l3 (k + 1) y0 y1 y2 y3 y4 y5)) ∧ (∀ y0 y1 y2 y3 y4 y5 y6 y7 y8 y9, LeO (af_.j5 k y0 y1 y2 y3 y4 y5 y6 y7 y8 y9) (af_.j5 (k + 1) y0 y1 y2 y3 y4 y5 y6 y7 y8 y9))
 | 0 => ⟨fun _ _ _ r h => by simp [af_.l0] at h, fun _ _ _ _ _ _ _ r h => by simp [af_.l1] at h, fun _ _ _ _ _ _ _ _ _ _ r h => by simp [af_.l2] at h, fun _ _ _ _ _ _ _ _ _ _ _ r h => by simp [af_.j3] at h, fun _ _ _ _ _ _ r h => by simp [af_.l3] at h, fun _ _ _ _ _ _ _ _ _ _ r h => by simp [af_.j5] at h⟩
 | k + 1 => by
  obtain ⟨ih0, ih1, ih2, ih3, ih4, ih5⟩ := af_.mono_l k
  refine ⟨?_, ?_, ?_, ?_, ?_, ?_⟩
  ·intro y0 y1 y2
   unfold af_.l0
   exact fT_
  ·intro y0 y1 y2 y3 y4 y5 y6
   unfold af_.l1
   exact fT_
  ·intro y0 y1 y2 y3 y4 y5 y6 y7 y8 y9
   unfold af_.l2
   exact fT_
  ·intro y0 y1 y2 y3 y4 y5 y6 y7 y8 y9 uR
   unfold af_.j3
   exact fT_
  ·intro y0 y1 y2 y3 y4 y5
   unfold af_.l3
   exact fT_
  intro y0 y1 y2 y3 y4 y5 y6 y7 y8 y9
  unfold af_.j5
  exact fT_
theorem af_.mono : ∀ a0 k, LeO (af_.f k a0) (af_.f (k + 1) a0) := by
 intro a0 k
 obtain ⟨ih0, ih1, ih2, ih3, ih4, ih5⟩ := af_.mono_l k
 unfold af_.f
 exact fT_
set_option maxHeartbeats 8000000 in
set_option maxRecDepth 100000 in
theorem af_.calls (k : Nat) (A0 : Option Addr) (c0 : Nat) (l0 : List (S42)) (r1 : List (S61)) (r2 : Bool) (w : World) (hr0 : Kd.C k42 w A0 l0.length l0) (hc0 : l0.length ≤ c0) (h : af_.f k l0 = some (r1, r2)) :
  Calls Tryz.prog 23 #[.slice A0 l0.length c0] w fun e w' => ∃ v0_ : Value, e = .returned (.tuple #[v0_, .bool r2]) ∧ Kd.R k61 61 w' w.heap.size (fun _ => True) v0_ r1 ∧ Below w.heap.size w w' := by
 have hu42 := Tryz.underlying42
 have hu61 := Tryz.underlying61
 have HR0 := aa_.mk hr0
 have HC0 := aa_.mk hc0
 clear hr0 hc0
 have HB := aa_.mk (Below.refl w.heap.size w)
 have H := h; unfold af_.f at H
 clear h
 replace H := bd_ H; obtain ⟨Af, A2, H⟩ := H
 replace H := it_ H; obtain ⟨rfl, H⟩ | ⟨rfl, H⟩ := H
 ·have H' := aa_.mk H
  clear H
  go_enter Tryz.func23, Tryz.ntmps23
  go_wp2_with (((with_reducible refine ae_ (f := 36) rfl ?_); refine gl_ 14 Tryz.func36 #[.slice A0 l0.length c0] ?_; (with_reducible refine (aQ_.calls k _ _ l0 true _ ?_ ?_ A2.out).mono ?_); exact (Z15 HR0); exact HC0.out; rintro e w4 ⟨rfl, hb⟩; refine ⟨_, rfl, ?_⟩; refine k1_ Ws_ ?_; clear HB; intro HB; (try clear hb)))
  (try simp only [Act.put, List.setIfInBounds_toArray, List.set_cons_zero, List.set_cons_succ])
  go_loopg [4, 5] k (fun kq v4 v5 w' => ∃ (aC : List (S61)) (aE : Int), v5 = .int .i64 aE ∧ aa_ (af_.l0 kq l0 aC aE = some (r1, r2)) ∧ aa_ (kq ≤ k) ∧ aa_ (Kd.R k61 61 w' w.heap.size (fun _ => True) v4 aC) ∧ aa_ (Below w.heap.size w w'))
  case atStart => exact ⟨(([] : List (S61))), (0), (Z14), H', ⟨Nat.le_refl _⟩, ⟨Z17⟩, ⟨Z2⟩⟩
  case round =>
   clear H'
   obtain ⟨aC, aE, rfl, HA, HK1, ak, HB⟩ := hrel
   cases gk with
   | zero => exact absurd HA.out (by simp [af_.l0])
   | succ k1 =>
    have H := HA.out
    clear HA
    simp only [af_.l0] at H
    replace H := iv_ H; obtain ⟨dp, H⟩ | ⟨dp, H⟩ := H
    ·replace H := ie_ H; obtain ⟨cC, fR, H⟩ := H
     generalize e_ : ((List.replicate 2001 false) : List Bool) = KG at H
     have D5 := aa_.mk e_.symm; clear e_
     have H' := aa_.mk H
     clear H
     go_wp2_with (((with_reducible refine au_ (N := 20) rfl ?_); refine Kd.qC_ Kd.bool _ 4 rfl (N := 20) rfl 75 _ _ rfl 2001 rfl rfl Tryz.underlying75 (.bool false) 1 pd_ rfl (by decide) (by omega) false (ok := fun _ => True) (okp := fun _ => True) rfl (fun _ hk => hk) trivial (by omega) (by omega) (Below.refl _ _) (Nat.le_refl _) ?_; intro Ii w7 ho8 hb hg_ hnew_; clear hg_ hnew_; (first | rw [← D5.out] at ho8 | (simp only [Int.reduceToNat] at ho8; rw [← D5.out] at ho8)); refine k3_ (Ya_ ak) (Kd.pY_ ho8 (ao_ (Z2))) Ws_ ?_; clear ak HB; intro ak HO667 HB; clear hb ho8))
     (try simp only [Act.put, List.setIfInBounds_toArray, List.set_cons_zero, List.set_cons_succ])
     go_loopg [23] k1 (fun kq Kt w' => ∃ (bH : List Bool) (bE : Int), Kt = .int .i64 bE ∧ aa_ (af_.l1 kq l0 aC aE bH l0 (l0.length : Int) bE = some (r1, r2)) ∧ aa_ (kq ≤ k1) ∧ aa_ (Kd.R k61 61 w' w.heap.size (fun _ => True) u4 aC) ∧ aa_ (Kd.R Kd.bool 4 w' w.heap.size (fun _ => True) Ii bH) ∧ aa_ (Below w.heap.size w w'))
     case atStart => exact ⟨(KG), (0), (Z14), H', ⟨Nat.le_refl _⟩, ⟨Z1 ak⟩, ⟨Z1 HO667⟩, ⟨Z2⟩⟩
     case round =>
      clear H'
      (try clear dp); (try clear cC); (try clear fR)
      obtain ⟨bH, bE, rfl, HA, HK2, ak, ac, HB⟩ := hrel
      cases gk with
      | zero => exact absurd HA.out (by simp [af_.l1])
      | succ k2 =>
       have H := HA.out
       clear HA
       simp only [af_.l1] at H
       replace H := iv_ H; obtain ⟨gP, H⟩ | ⟨gP, H⟩ := H
       ·replace H := id_ H; obtain ⟨de, H⟩ := H
        replace H := id_ H; obtain ⟨dG, H⟩ := H
        have H' := aa_.mk H
        clear H
        obtain ⟨ad668, e668, lh, ll, Ag, Ah⟩ := ds_ HR0.out HB.out bE
        cases e668
        go_wp2_with (((with_reducible refine au_ (N := 8) rfl ?_); refine bv_ 8 42 #[.int .i64 0, .int .i64 0] ?_; intro nx hg qT hbox hb; refine k6_ (Ya_ ak) (Ya_ ac) Ws_ (hbox) (Wg_ w nx) (Wg_ w nx) ?_; clear ak ac HB; intro ak ac HB ev GW669 GE669; clear hb hbox hg; obtain ⟨iy, iz, iA, iB⟩ := cH_ (w := qT) ev.out))
        (try simp only [Act.put, List.setIfInBounds_toArray, List.set_cons_zero, List.set_cons_succ])
        go_loopg [9] k2 (fun kq v9 w' => ∃ (jo : List Bool) (iV : Int), v9 = .int .i64 iV ∧ aa_ (af_.l2 kq l0 aC aE jo iV l0 (l0.length : Int) bE ((ac_ l0 bE).f0) ((ac_ l0 bE).f1) = some (r1, r2)) ∧ aa_ (kq ≤ k2) ∧ aa_ (Kd.R k61 61 w' w.heap.size (fun _ => True) u4 aC) ∧ aa_ (Kd.R Kd.bool 4 w' w.heap.size (fun _ => True) Ii jo) ∧ aa_ (w'.heap[nx]? = some (.cells #[.int .i64 ((ac_ l0 bE).f0), .int .i64 ((ac_ l0 bE).f1)] 42 (0, 0))) ∧ aa_ (Below w.heap.size w w'))
        case atStart => exact ⟨(bH), (0), (Z14), H', ⟨Nat.le_refl _⟩, ⟨oo_ ak⟩, ⟨oo_ ac⟩, ⟨by (with_reducible repeat (first | refine aG_ ?_ _ | refine ax_ ?_ | refine aF_ ?_ _)); refine bb_ (cs := #[.int .i64 ((ac_ l0 bE).f0), .int .i64 0]) ?_ 1 _ rfl; (with_reducible repeat (first | refine aG_ ?_ _ | refine ax_ ?_ | refine aF_ ?_ _)); refine bb_ (cs := #[.int .i64 0, .int .i64 0]) ?_ 0 _ rfl; (with_reducible repeat (first | refine aG_ ?_ _ | refine ax_ ?_ | refine aF_ ?_ _)); exact ev.out⟩, ⟨Z85⟩⟩
        case round =>
         clear H'
         (try clear gP); (try clear de); (try clear dG); (try clear iy); (try clear iz); (try clear iA); (try clear iB); (try clear lh); (try clear ll); (try clear Ag); (try clear Ah)
         obtain ⟨jo, iV, rfl, HA, HK3, ak, ac, ev, HB⟩ := hrel
         cases gk with
         | zero => exact absurd HA.out (by simp [af_.l2])
         | succ k3 =>
          have H := HA.out
          clear HA
          simp only [af_.l2] at H
          have HC14 := aa_.mk H
          clear H
          go_upto_region 12 with (fail)
          go_cut [34] (fun NE wc => ∃ (kq : Nat) (p9 : Bool), NE = .bool p9 ∧ aa_ (af_.j3 kq l0 aC aE jo iV l0 (l0.length : Int) bE p9 ((ac_ l0 bE).f0) ((ac_ l0 bE).f1) = some (r1, r2)) ∧ aa_ (kq ≤ k3) ∧ aa_ (Kd.R k61 61 wc w.heap.size (fun _ => True) u4 aC) ∧ aa_ (Kd.R Kd.bool 4 wc w.heap.size (fun _ => True) Ii jo) ∧ aa_ (wc.heap[nx]? = some (.cells #[.int .i64 ((ac_ l0 bE).f0), .int .i64 ((ac_ l0 bE).f1)] 42 (0, 0))) ∧ aa_ (Below w.heap.size w wc))
          case first =>
           have H := HC14.out
           clear HC14
           replace H := iv_ H; obtain ⟨dR, H⟩ | ⟨dR, H⟩ := H
           ·(first | rw [dR] | (simp only [bA_, ch_]; rw [dR]) | skip)
            have H' := aa_.mk H
            clear H
            obtain ⟨iu, iv, iw, ix⟩ := cH_ (w := wr) ev.out
            go_wp2
            go_meet
            case rel => exact ⟨_, ((((ac_ l0 bE).f0) == aE)), (Z14), H', ⟨hZ_⟩, ⟨Z1 ak⟩, ⟨Z1 ac⟩, ⟨Z5 ev⟩, ⟨Z85⟩⟩
           (first | rw [dR] | (simp only [bA_, ch_]; rw [dR]) | skip)
           have H' := aa_.mk H
           clear H
           go_wp2
           go_meet
           case rel => exact ⟨_, (false), (Z14), H', ⟨hZ_⟩, ⟨Z1 ak⟩, ⟨Z1 ac⟩, ⟨Z5 ev⟩, ⟨Z85⟩⟩
          case rest =>
           clear HC14
           obtain ⟨kq, p9, rfl, HA, BP, ak, ac, ev, HB⟩ := hcut
           cases kq with
           | zero => exact absurd HA.out (by simp [af_.j3])
           | succ Ai =>
            have H := HA.out
            clear HA
            simp only [af_.j3] at H
            replace H := it_ H; obtain ⟨rfl, H⟩ | ⟨rfl, H⟩ := H
            ·replace H := iv_ H; obtain ⟨eQ, H⟩ | ⟨eQ, H⟩ := H
             ·obtain ⟨lm, hji19⟩ : ∃ j_ : Int, (wrap64 (((ac_ l0 bE).f1) + iV)) = j_ := ⟨_, rfl⟩
              (first | rw [hji19] at H | simp only [hji19] at H)
              (try rw [hji19] at eQ)
              have hji19w : (IntKind.i64.wrap (((ac_ l0 bE).f1) + iV)) = lm := (bA_ _).trans hji19
              replace H := id_ H; obtain ⟨dS, H⟩ := H
              replace H := id_ H; obtain ⟨mo, H⟩ := H
              generalize e_ : ((jo.set ((lm) : Int).toNat true) : List Bool) = Ij at H
              have Ny670 := aa_.mk e_.symm; clear e_
              have H' := aa_.mk H
              clear H
              obtain ⟨iC, iD, iE, iF⟩ := cH_ (w := wc) ev.out
              have Nt : 0 ≤ ((lm) : Int) := of_decide_eq_true (Z8)
              have Nu : ((lm) : Int) < ((jo.length : Int) : Int) := of_decide_eq_true (Z8)
              obtain ⟨go22, yz, xd, KH, gl22, cl22, HG22⟩ := Kd.qs_ ac.out (by omega)
              (first | cases xd | (injection xd with ea_ en_ ec_; (first | subst ea_ | (injection ea_ with ea_; subst ea_)); subst ec_; clear en_))
              have GB22 := aa_.mk KH
              have GG22 := aa_.mk HG22
              clear KH gl22 HG22
              obtain ⟨hx22_0, hf22_0⟩ := Kd.qv_ false ac.out ((lm) : Int) Nt Nu
              replace Nt := eq_true Nt
              replace Nu := eq_true Nu
              have HP24 := Kd.qD_ ac.out ((lm) : Int) true
              go_wp2_with (((with_reducible refine cM_ (t := 4) (p := 47) rfl ?_); refine cB_ (t := 4) (p := 47) (v := ?vo_w25) (w1 := (wc.setCell ⟨go22, ((lm) : Int).toNat, none⟩ (.bool true))) ?hg ?ho ?hn ?hr ?_; (case ho => rfl); (case hg => rfl); (case hn => rfl); (case hr => exact Z39); intro Dq hw; have hg : wc.grownBy Dq (some go22) := (by rw [hw]; exact HP24.2); have hp_ : Kd.R Kd.bool 4 Dq w.heap.size (fun _ => True) (.slice (some ⟨go22, 0, none⟩) jo.length yz) Ij := (by rw [hw, Ny670.out]; exact HP24.1); clear HP24; refine k4_ (Kd.qe_ (v := (.slice (some ⟨go22, 0, none⟩) jo.length yz)) (Z1 ak) (Kd.qd_ ac.out) (by decide) hg) (hp_) (bg_ (zo_ ev) hg (Kd.qb_ ac.out ev.out (by decide))) ((by rw [hw]; exact aK_ (HB.out) GB22.out : Below w.heap.size w Dq)) ?_; clear ak ac ev HB; intro ak ac ev HB; clear hg hw hp_))
              go_roundg Ai
              case measure => have := HK1.out; have := HK2.out; have := HK3.out; have := BP.out; omega
              case rel => exact ⟨(Ij), (wrap64 (iV + 1)), (Z14), H', ⟨mC_⟩, ⟨Z1 ak⟩, ⟨Z1 ac⟩, ⟨Z5 ev⟩, ⟨Z85⟩⟩
             have H' := aa_.mk H
             clear H
             obtain ⟨qa, qb, qc, qd⟩ := cH_ (w := wc) ev.out
             go_wp2
             go_roundg Ai
             case measure => have := HK1.out; have := HK2.out; have := HK3.out; have := BP.out; omega
             case rel => exact ⟨(jo), (wrap64 (iV + 1)), (Z14), H', ⟨mC_⟩, ⟨Z1 ak⟩, ⟨Z1 ac⟩, ⟨Z5 ev⟩, ⟨Z85⟩⟩
            have H' := aa_.mk H
            clear H
            go_wp2
            go_roundg Ai
            case measure => have := HK1.out; have := HK2.out; have := HK3.out; have := BP.out; omega
            case rel => exact ⟨(jo), (wrap64 (bE + 1)), (Z14), H', ⟨mC_⟩, ⟨Z1 ak⟩, ⟨Z1 ac⟩, ⟨Z85⟩⟩
       have H' := aa_.mk H
       clear H
       obtain ⟨Ik, Cv, Il⟩ := Kd.pW_ ac.out
       subst Il
       go_wp2
       go_loopg [4, 51] k2 (fun kq v4 v51 w' => ∃ (bl : List (S61)) (bt : Int), v51 = .int .i64 bt ∧ aa_ (af_.l3 kq l0 bl aE bH (bH.length : Int) bt = some (r1, r2)) ∧ aa_ (kq ≤ k2) ∧ aa_ (Kd.R k61 61 w' w.heap.size (fun _ => True) v4 bl) ∧ aa_ (Kd.R Kd.bool 4 w' w.heap.size (fun _ => True) (.slice Ik bH.length Cv) bH) ∧ aa_ (Below w.heap.size w w'))
       case atStart => exact ⟨(aC), (0), (Z14), H', ⟨Nat.le_refl _⟩, ⟨Z1 ak⟩, ⟨Z1 ac⟩, ⟨Z2⟩⟩
       case round =>
        clear H'
        (try clear gP); (try clear de)
        obtain ⟨bl, bt, rfl, HA, HK3, ak, eY, HB⟩ := hrel
        cases gk with
        | zero => exact absurd HA.out (by simp [af_.l3])
        | succ k3 =>
         have H := HA.out
         clear HA
         simp only [af_.l3] at H
         replace H := iv_ H; obtain ⟨mg, H⟩ | ⟨mg, H⟩ := H
         ·replace H := id_ H; obtain ⟨nZ, H⟩ := H
          replace H := id_ H; obtain ⟨oR, H⟩ := H
          have HC31 := aa_.mk H
          clear H
          have Cw : 0 ≤ (bt : Int) := of_decide_eq_true (Z8)
          have Cx : bt < (bH.length : Int) := of_decide_eq_true (Z8)
          obtain ⟨ad671, e671, wH⟩ := Kd.at_bool (Kd.pV_ eY.out).2.2 bt Cw Cx
          cases e671
          replace Cw := eq_true Cw
          replace Cx := eq_true Cx
          obtain ⟨re, jj, nM⟩ := Kd.pW_ ak.out
          subst nM
          obtain ⟨bq33, hbq33⟩ : ∃ b_ : Bool, b_ = (dP_ false bH bt) := ⟨_, rfl⟩
          rw [← hbq33] at wH
          have Nbq33 := aa_.mk hbq33
          clear hbq33
          go_upto_region 21 with (fail)
          go_cut [58] (fun v58 wc => ∃ (kq : Nat) (qe : Bool), v58 = .bool qe ∧ aa_ (af_.j5 kq l0 bl aE bt bq33 (bl.length : Int) bH (bH.length : Int) bt qe = some (r1, r2)) ∧ aa_ (kq ≤ k3) ∧ aa_ (Kd.R k61 61 wc w.heap.size (fun _ => True) (.slice re bl.length jj) bl) ∧ aa_ (Kd.R Kd.bool 4 wc w.heap.size (fun _ => True) (.slice (some ad671) bH.length Cv) bH) ∧ aa_ (Below w.heap.size w wc))
          case first =>
           have H := HC31.out
           clear HC31
           have hbq33 := Nbq33.out
           replace H : (if bq33 = true then (if (bl.length : Int) > 0 then (if 0 ≤ (wrap64 ((bl.length : Int) - 1)) then (if (wrap64 ((bl.length : Int) - 1)) < (bl.length : Int) then (if ((ab_ bl (wrap64 ((bl.length : Int) - 1))).f0) = aE then (af_.j5 k3 l0 bl aE bt bq33 (bl.length : Int) bH (bH.length : Int) bt (((ab_ bl (wrap64 ((bl.length : Int) - 1))).f2) == bt)) else (af_.j5 k3 l0 bl aE bt bq33 (bl.length : Int) bH (bH.length : Int) bt false)) else (none)) else (none)) else (af_.j5 k3 l0 bl aE bt bq33 (bl.length : Int) bH (bH.length : Int) bt false)) else (af_.j5 k3 l0 bl aE bt bq33 (bl.length : Int) bH (bH.length : Int) bt false)) = some (r1, r2) := by rw [← hbq33] at H; exact H
           clear hbq33
           replace H := it_ H; obtain ⟨rfl, H⟩ | ⟨rfl, H⟩ := H
           ·replace H := iw_ H; obtain ⟨c35, H⟩ | ⟨c35, H⟩ := H
            ·have D6 : decide (0 < (bl.length : Int)) = true := decide_eq_true c35
             have D7 : decide (0 < bl.length) = true := decide_eq_true (by omega)
             clear c35
             obtain ⟨eL, hji36⟩ : ∃ j_ : Int, (wrap64 ((bl.length : Int) - 1)) = j_ := ⟨_, rfl⟩
             (first | rw [hji36] at H | simp only [hji36] at H)
             have hji36w : (IntKind.i64.wrap ((bl.length : Int) - 1)) = eL := (bA_ _).trans hji36
             replace H := id_ H; obtain ⟨oc, H⟩ := H
             replace H := id_ H; obtain ⟨D8, H⟩ := H
             replace H := ic_ H; obtain ⟨zi, zj, H⟩ | ⟨zi, zj, c39, H⟩ := H
             ·have H' := aa_.mk H
              clear H
              obtain ⟨D9, e672, wJ, wK, wL, sB, sC⟩ := d0_ (Kd.pV_ ak.out).2.2 (eL)
              cases e672
              obtain ⟨ad673, e673, hx673_0, hx673_1, hx673_2, Cy, Cz⟩ := d0_ (Kd.pV_ ak.out).2.2 (eL)
              obtain rfl : D9 = ad673 := (by injection e673)
              go_wp2
              go_meet
              case rel => exact ⟨_, ((((ab_ bl (eL)).f2) == bt)), (by first | rfl | (simp; done) | (simp only [← hji36] <;> (first | rfl | simp)) | (simp [*]; done)), H', ⟨hZ_⟩, ⟨Z1 ak⟩, ⟨Z1 eY⟩, ⟨Z2⟩⟩
             have H' := aa_.mk H
             clear H
             obtain ⟨D9, e672, wJ, wK, wL, sB, sC⟩ := d0_ (Kd.pV_ ak.out).2.2 (eL)
             cases e672
             go_wp2
             go_meet
             case rel => exact ⟨_, (false), (Z14), H', ⟨hZ_⟩, ⟨Z1 ak⟩, ⟨Z1 eY⟩, ⟨Z2⟩⟩
            have D6 : decide (0 < (bl.length : Int)) = false := decide_eq_false c35
            have D7 : decide (0 < bl.length) = false := decide_eq_false (by omega)
            clear c35
            have H' := aa_.mk H
            clear H
            go_wp2
            go_meet
            case rel => exact ⟨_, (false), (Z14), H', ⟨hZ_⟩, ⟨Z1 ak⟩, ⟨Z1 eY⟩, ⟨Z2⟩⟩
           have H' := aa_.mk H
           clear H
           go_wp2
           go_meet
           case rel => exact ⟨_, (false), (Z14), H', ⟨hZ_⟩, ⟨Z1 ak⟩, ⟨Z1 eY⟩, ⟨Z2⟩⟩
          case rest =>
           have hbq33 := Nbq33.out
           clear Nbq33
           subst hbq33
           clear HC31
           (try clear mg); (try clear nZ); (try clear oR); (try clear wH); (try clear Cw); (try clear Cx)
           obtain ⟨kq, qe, rfl, HA, BO, ak, eY, HB⟩ := hcut
           cases kq with
           | zero => exact absurd HA.out (by simp [af_.j5])
           | succ sD =>
            have H := HA.out
            clear HA
            simp only [af_.j5] at H
            replace H := it_ H; obtain ⟨rfl, H⟩ | ⟨rfl, H⟩ := H
            ·obtain ⟨dv, hji41⟩ : ∃ j_ : Int, (wrap64 ((bl.length : Int) - 1)) = j_ := ⟨_, rfl⟩
             (first | rw [hji41] at H | simp only [hji41] at H)
             have hji41w : (IntKind.i64.wrap ((bl.length : Int) - 1)) = dv := (bA_ _).trans hji41
             replace H := id_ H; obtain ⟨Aj, H⟩ := H
             replace H := id_ H; obtain ⟨c43b0, H⟩ := H
             generalize e_ : ((bl.set ((dv) : Int).toNat (⟨(ab_ bl (dv)).f0, (ab_ bl (dv)).f1, wrap64 (bt + 1)⟩ : S61)) : List (S61)) = Im at H
             have Ny674 := aa_.mk e_.symm; clear e_
             have H' := aa_.mk H
             clear H
             have NS : 0 ≤ ((dv) : Int) := of_decide_eq_true (Z8)
             have NT : ((dv) : Int) < ((bl.length : Int) : Int) := of_decide_eq_true (Z8)
             obtain ⟨go44, Ak, oM, KI, gl44, cl44, HG44⟩ := Kd.qs_ ak.out (by omega)
             (first | cases oM | (injection oM with ea_ en_ ec_; (first | subst ea_ | (injection ea_ with ea_; subst ea_)); subst ec_; clear en_))
             have GB44 := aa_.mk KI
             have GG44 := aa_.mk HG44
             clear KI gl44 HG44
             obtain ⟨ce44, hcl44, hM44, hcc44, hfr44⟩ := Kd.qm_ ak.out z61 ((dv) : Int) NS NT
             obtain rfl := c6_ hM44
             have hx44_0 : wc.cell? ⟨go44, ((dv) : Int).toNat * 3, none⟩ = some (.int .i64 ((ab_ bl (dv)).f0)) := hcc44 0 _ rfl
             have hx44_1 : wc.cell? ⟨go44, ((dv) : Int).toNat * 3 + 1, none⟩ = some (.int .i64 ((ab_ bl (dv)).f1)) := hcc44 1 _ rfl
             have hx44_2 : wc.cell? ⟨go44, ((dv) : Int).toNat * 3 + 2, none⟩ = some (.int .i64 ((ab_ bl (dv)).f2)) := hcc44 2 _ rfl
             have hf44_0 : wc.frozen? ⟨go44, ((dv) : Int).toNat * 3, none⟩ = false := hfr44 0
             have hf44_1 : wc.frozen? ⟨go44, ((dv) : Int).toNat * 3 + 1, none⟩ = false := hfr44 1
             have hf44_2 : wc.frozen? ⟨go44, ((dv) : Int).toNat * 3 + 2, none⟩ = false := hfr44 2
             clear hcl44 hcc44 hfr44 hM44
             replace NS := eq_true NS
             replace NT := eq_true NT
             have HX45 := aa_.mk (show Kd.R k61 61 wc w.heap.size (fun _ => True) (.slice (some ⟨go44, 0, none⟩) bl.length jj) bl from (Z1 ak))
             obtain ⟨ce45, hcl45, hM45, hcc45, hfr45⟩ := Kd.qm_ HX45.out z61 ((dv) : Int) (of_decide_eq_true (Z8)) (or_)
             obtain rfl := c6_ hM45
             have HP45 := Kd.qx_ HX45.out ((dv) : Int) (of_decide_eq_true (Z8)) (or_) (seg := [.int .i64 (wrap64 (bt + 1))]) (j := 2) hcl45 hcc45 (show 3 ≤ 3 from by decide) (x' := (⟨(ab_ bl (dv)).f0, (ab_ bl (dv)).f1, wrap64 (bt + 1)⟩ : S61)) (b9_ _ _ _ (⟨(ab_ bl (dv)).f0, (ab_ bl (dv)).f1, wrap64 (bt + 1)⟩ : S61) ) (fun _ hk => hk)
             have hx45_2 := hcc45 2 _ rfl
             (try simp only [show (k61).sz = 3 from rfl, Nat.mul_one, Nat.add_zero] at hx45_2)
             have hf45_2 := hfr45 2
             (try simp only [show (k61).sz = 3 from rfl, Nat.mul_one, Nat.add_zero] at hf45_2)
             clear hcl45 hcc45 hfr45 hM45
             go_wp2_with (((with_reducible refine cM_ (t := 3) (p := 90) rfl ?_); refine cB_ (t := 3) (p := 90) (v := ?vo_w46) (w1 := (wc.setCell ⟨go44, ((dv) : Int).toNat * 3 + 2, none⟩ (.int .i64 (wrap64 (bt + 1))))) ?hg ?ho ?hn ?hr ?_; (case ho => rfl); (case hg => rfl); (case hn => rfl); (case hr => exact Z39); intro yk hw; have hg : wc.grownBy yk (some go44) := (by rw [hw]; exact HP45.2); have hp_ : Kd.R k61 61 yk w.heap.size (fun _ => True) (.slice (some ⟨go44, 0, none⟩) bl.length jj) Im := (by rw [hw, Ny674.out]; exact HP45.1); clear HP45; refine k3_ (hp_) (Kd.qe_ (v := (.slice (some ⟨go44, 0, none⟩) bl.length jj)) (Z1 eY) (Kd.qd_ ak.out) (by decide) hg) ((by rw [hw]; exact aK_ (HB.out) GB44.out : Below w.heap.size w yk)) ?_; clear ak eY HB; intro ak eY HB; clear hg hw hp_))
             go_roundg sD
             case measure => have := HK1.out; have := HK2.out; have := HK3.out; have := BO.out; omega
             case rel => exact ⟨(Im), (wrap64 (bt + 1)), (Z14), H', ⟨mR_⟩, ⟨Z1 ak⟩, ⟨Z1 eY⟩, ⟨Z2⟩⟩
            obtain ⟨bq47, hbq47⟩ : ∃ b_ : Bool, b_ = (dP_ false bH bt) := ⟨_, rfl⟩
            replace H : (if (bq47) = true then (if bl.length < 5864062014805 then (af_.l3 sD l0 (bl ++ [(⟨aE, bt, wrap64 (bt + 1)⟩ : S61)]) aE bH (bH.length : Int) (wrap64 (bt + 1))) else (none)) else (af_.l3 sD l0 bl aE bH (bH.length : Int) (wrap64 (bt + 1)))) = some (r1, r2) := by rw [← hbq47] at H; exact H
            have Nbq47 := aa_.mk hbq47
            clear hbq47
            (try rw [← Nbq47.out])
            replace H := iw_ H; obtain ⟨c48, H⟩ | ⟨c48, H⟩ := H
            ·have Al : (bq47) = true := c48
             subst Al
             clear c48
             replace H := ia_ H; obtain ⟨LMc49, H⟩ := H
             generalize e_ : ((bl ++ [(⟨aE, bt, wrap64 (bt + 1)⟩ : S61)]) : List (S61)) = KJ at H
             have Ny675 := aa_.mk e_.symm; clear e_
             have H' := aa_.mk H
             clear H
             go_wp2_with (((with_reducible refine bh_ (b := .append) (xs := #[.tmp 93, .tmp 99]) rfl ?_); at_builtin; refine fy_ (w0 := w) w.heap.size (.tmp 93) (.tmp 99) (.slice re bl.length jj) bl (⟨aE, bt, wrap64 (bt + 1)⟩ : S61) [.int .i64 aE, .int .i64 bt, .int .i64 (wrap64 (bt + 1))] (fun _ => True) rfl rfl ?aP ?aF ?aO ?aB ?aS ?aL ?_; (case aP => exact b9_ _ _ _ (⟨aE, bt, wrap64 (bt + 1)⟩ : S61)); (case aB => exact Z2); (case aF => exact (fun _ _ => trivial)); (case aO => exact (Z1 ak)); (case aS => exact (ao_ (Z2))); (case aL => exact Z91 LMc49); intro v676 u1 ho hb hg hat; rw [← Ny675.out] at ho; refine k3_ (Kd.qe_ (Z1 eY) (Kd.qd_ (Z1 ak)) (by decide) hg) (hb) (ho) ?_; clear eY HB ak; intro eY HB HO677; clear ho hb hg hat))
             go_roundg sD
             case measure => have := HK1.out; have := HK2.out; have := HK3.out; have := BO.out; omega
             case rel => exact ⟨(KJ), (wrap64 (bt + 1)), (Z14), H', ⟨mR_⟩, ⟨Z1 HO677⟩, ⟨Z1 eY⟩, ⟨Z2⟩⟩
            have Al : (bq47) = false := by simpa using c48
            subst Al
            clear c48
            have H' := aa_.mk H
            clear H
            go_wp2
            go_roundg sD
            case measure => have := HK1.out; have := HK2.out; have := HK3.out; have := BO.out; omega
            case rel => exact ⟨(bl), (wrap64 (bt + 1)), (Z14), H', ⟨mR_⟩, ⟨Z1 ak⟩, ⟨Z1 eY⟩, ⟨Z2⟩⟩
         have H' := aa_.mk H
         clear H
         go_wp2
         go_roundg k3
         case measure => have := HK1.out; have := HK2.out; have := HK3.out; omega
         case rel => exact ⟨(bl), (wrap64 (aE + 1)), (Z14), H', ⟨fK_⟩, ⟨Z1 ak⟩, ⟨Z2⟩⟩
    replace H := bd_ H; obtain ⟨⟨KK, KL⟩, A51, H⟩ := H
    replace H : (some (KK, KL)) = some (r1, r2) := H
    obtain ⟨rfl, rfl⟩ := sp_ H; clear H
    obtain ⟨Cm, Cn, zF⟩ := Kd.pW_ ak.out
    subst zF
    go_wp2_with (((with_reducible refine ae_ (f := 49) rfl ?_); refine gl_ 103 Tryz.func49 #[.slice Cm aC.length Cn] ?_; (with_reducible refine (am_.calls k1 _ _ aC KK KL _ ?_ ?_ A51.out).mono ?_); exact (Z3 ak); exact (Kd.pV_ ak.out).2.1; rintro e wv ⟨v663, rfl, ho0, hb⟩; refine ⟨_, rfl, ?_⟩; refine k3_ (Yb_ ak) (Wa_ ak) Ws_ ?_; clear ak HB; intro ak HO664 HB; (try clear hb ho0)))
    go_ret2
    exact ⟨_, Z9, Z38 HO664, Z2⟩
 obtain ⟨rfl, rfl⟩ := sp_ H; clear H
 go_enter Tryz.func23, Tryz.ntmps23
 go_wp2_with (((with_reducible refine ae_ (f := 36) rfl ?_); refine gl_ 14 Tryz.func36 #[.slice A0 l0.length c0] ?_; (with_reducible refine (aQ_.calls k _ _ l0 false _ ?_ ?_ A2.out).mono ?_); exact (Z15 HR0); exact HC0.out; rintro e xp ⟨rfl, hb⟩; refine ⟨_, rfl, ?_⟩; refine k1_ Ws_ ?_; clear HB; intro HB; (try clear hb)))
 go_ret2
 exact ⟨_, Z9, Z17, Z2⟩
theorem gx_ {p : Prop} (h : p := by repeat' first | (with_reducible first | apply ih0 | apply ih0 | apply ap_.mono | apply ap_.mono | apply bl_.mono | apply bl_.mono | apply bi_.mono | apply bi_.mono | exact LeO.refl _ | exact LeO.none _ | refine LeO.ite ?_ ?_ | refine LeO.bind ?_ (fun _ => ?_)) | exact LeO.none _ | refine LeO.ite ?_ ?_ | refine LeO.bind ?_ (fun _ => ?_)) : p := h
def bf_.f (k : Nat) (l0 : List Int) : Option ((List (S42))) := (bi_.f k l0).bind fun xN => (some xN)
theorem bf_.mono : ∀ a0 k, LeO (bf_.f k a0) (bf_.f (k + 1) a0) := by
 intro a0 k
 unfold bf_.f
 exact gx_
set_option maxHeartbeats 8000000 in
set_option maxRecDepth 100000 in
theorem bf_.calls (k : Nat) (A0 : Option Addr) (c0 : Nat) (l0 : List Int) (r : List (S42)) (w : World) (hr0 : Kd.C (Kd.int .u8) w A0 l0.length l0) (hc0 : l0.length ≤ c0) (h : bf_.f k l0 = some r) :
  Calls Tryz.prog 24 #[.slice A0 l0.length c0] w fun e w' => ∃ v0_ : Value, e = .returned (v0_) ∧ Kd.R k42 42 w' w.heap.size (fun _ => True) v0_ r ∧ Below w.heap.size w w' := by
 have HR0 := aa_.mk hr0
 have HC0 := aa_.mk hc0
 clear hr0 hc0
 have HB := aa_.mk (Below.refl w.heap.size w)
 have H := h; unfold bf_.f at H
 clear h
 replace H := bd_ H; obtain ⟨xN, A2, H⟩ := H
 replace H : (some xN) = some r := H
 obtain rfl := Option.some.inj H
 go_enter Tryz.func24, Tryz.ntmps24
 go_wp2_with (((with_reducible refine ae_ (f := 48) rfl ?_); refine gl_ 4 Tryz.func48 #[.slice A0 l0.length c0] ?_; (with_reducible refine (bi_.calls k _ _ l0 xN _ ?_ ?_ A2.out).mono ?_); exact (Z15 HR0); exact HC0.out; rintro e w3 ⟨v679, rfl, ho0, hb⟩; refine ⟨_, rfl, ?_⟩; refine k2_ Wo_ Ws_ ?_; clear HB; intro HO680 HB; (try clear hb ho0)))
 go_ret
 exact ⟨_, Z9, Z1 HO680, Z2⟩
theorem tb_ {P : Program} {w w' : World} {nm : String} {k : IntKind} {zs : List Int} (h : Go.Lib.TabIs P w nm k zs) (hb : Below w.heap.size w w') : Go.Lib.TabIs P w' nm k zs := by
 unfold Go.Lib.TabIs World.var? at h ⊢
 cases hg : P.globalNamed nm with
 | none => rw [hg] at h; cases h
 | some g =>
  rw [hg] at h
  simp only [Option.bind_some] at h ⊢
  have hlt : g < w.heap.size := by
   rcases Nat.lt_or_ge g w.heap.size with h' | h'
   ·exact h'
   rw [Array.getElem?_eq_none h'] at h; cases h
  rw [hb.block g hlt]
  exact h
def strconv_Itoa.f (a0 : Int) : Option (ByteArray) := if 0 ≤ a0 ∧ a0 ≤ 9223372036854775807 then some ⟨(Go.Lib.itoa a0).toArray⟩ else none
theorem strconv_Itoa.calls (a0 : Int) (r : ByteArray) (w : World) (h : strconv_Itoa.f a0 = some r) (hT : Go.Lib.TabIs Tryz.prog w "internal/strconv.uint64pow10" .u64 Go.Lib.pow10Tab) :
  Calls Tryz.prog 84 #[.int .i64 a0] w fun e w' => e = .returned (.string r) ∧ Below w.heap.size w w' := by
 unfold strconv_Itoa.f at h
 split at h
 ·rename_i hc
  obtain rfl := Option.some.inj h
  refine (Any.strconv_Itoa Tryz.laysM171 a0 (by omega) hc.2 w hT).mono ?_
  rintro e w' ⟨rfl, k, os, rfl⟩
  exact ⟨rfl, Go.Lib.below_grow _ w (Nat.le_refl _) k os⟩
 cases h
def strings_Join.f (l0 : List (ByteArray)) (a1 : ByteArray) : Option (ByteArray) := if l0.length ≤ 140737488355328 ∧ (Go.Lib.join (l0.map (·.data.toList)) a1.data.toList).length ≤ 140737488355328 then some ⟨(Go.Lib.join (l0.map (·.data.toList)) a1.data.toList).toArray⟩ else none
theorem strings_Join.extra : Builder.Extra Tryz.prog Tryz.lays156_ren := {
 sizeBuilder := by kernel_rfl
 liesBuilder := by kernel_rfl
 t5 := Tryz.underlying5
 a5 := Tryz.isAgg5
 z5 := Tryz.sizeOf5
 v5 := Tryz.zeroValue5
 infoByte := by kernel_rfl
 cellsByte := by kernel_rfl
 sizeByte := by kernel_rfl
 neB5 := by decide }
theorem strings_Join.calls (A0 : Option Addr) (c0 : Nat) (l0 : List (ByteArray)) (a1 : ByteArray) (r : ByteArray) (w : World) (hr0 : Kd.C Kd.string w A0 l0.length l0) (hc0 : l0.length ≤ c0) (h : strings_Join.f l0 a1 = some r) :
  Calls Tryz.prog 85 #[.slice A0 l0.length c0, .string a1] w fun e w' => e = .returned (.string r) ∧ Below w.heap.size w w' := by
 unfold strings_Join.f at h
 split at h
 ·rename_i hc
  obtain rfl := Option.some.inj h
  by_cases h0 : l0 = []
  ·subst h0
   refine (Any.strings_Join_none Tryz.lays156 strings_Join.extra A0 c0 a1 w).mono ?_
   rintro e w' ⟨rfl, rfl⟩
   exact ⟨rfl, Below.refl _ _⟩
  have hpos : 0 < l0.length := List.length_pos_iff.2 h0
  obtain ⟨ad, rfl, hz⟩ := Kd.at_string hr0 0 (Int.le_refl _) (by omega)
  obtain ⟨bk, o, sp⟩ := ad
  have hz0 : w.cell? ⟨bk, o, sp⟩ = some (.string (dP_ ByteArray.empty l0 0)) := by simpa [Addr.add] using hz
  have hsp : sp = none := by
   cases sp with
   | none => rfl
   | some s =>
    unfold World.cell? at hz0
    split at hz0 <;> simp at hz0
  subst hsp
  have hadd : ∀ j : Nat, (⟨bk, o, none⟩ : Addr).add j = ⟨bk, o + j, none⟩ := fun j => by
   unfold Addr.add
   split
   ·rename_i h0; subst h0; rfl
   rfl
  refine (Any.strings_Join Tryz.lays156 strings_Join.extra bk o c0 l0 a1 w (fun j x hx => ?_) (World.block_lt_of_cell? w _ hz0) hc.1 hc0 hc.2).mono ?_
  ·obtain ⟨hj, hx'⟩ := List.getElem?_eq_some_iff.1 hx
   obtain ⟨ad', e', hcell⟩ := Kd.at_string hr0 (j : Int) (by omega) (by omega)
   obtain rfl := Option.some.inj e'
   have hr : dP_ ByteArray.empty l0 (j : Int) = x := by
    unfold dP_
    simp [List.getD_eq_getElem?_getD, hx]
   rw [hr, Int.toNat_natCast, hadd] at hcell
   exact hcell
  rintro e w' ⟨rfl, hb⟩
  exact ⟨rfl, hb⟩
 cases h
def bl_.l0 : Nat → List ByteArray → List Int → Int → Int → Option (ByteArray)
 | 0, _, _, _, _ => none
 | k + 1, x3, x7, x8, x9 => if x9 < x8 then (if 0 ≤ x9 then (if x9 < (x7.length : Int) then ((strconv_Itoa.f (rd x7 x9)).bind fun xO => (if x3.length < 8796093022208 then (bl_.l0 k (x3 ++ [xO]) x7 x8 (wrap64 (x9 + 1))) else (none))) else (none)) else (none)) else ((strings_Join.f x3 (⟨#[32]⟩ : ByteArray)).bind fun CA => (some CA))
def bl_.f (k : Nat) (l0 : List Int) : Option (ByteArray) := bl_.l0 k (([] : List ByteArray)) l0 (l0.length : Int) 0
theorem bl_.mono_l : ∀ k, (∀ y0 y1 y2 y3, LeO (bl_.l0 k y0 y1 y2 y3) (bl_.l0 (k + 1) y0 y1 y2 y3))
 | 0 => fun _ _ _ _ r h => by simp [bl_.l0] at h
 | k + 1 => by
  have ih0 := bl_.mono_l k
  ·intro y0 y1 y2 y3
   unfold bl_.l0
   exact gx_
theorem bl_.mono : ∀ a0 k, LeO (bl_.f k a0) (bl_.f (k + 1) a0) := by
 intro a0 k
 have ih0 := bl_.mono_l k
 unfold bl_.f
 exact gx_
set_option maxHeartbeats 8000000 in
set_option maxRecDepth 100000 in
theorem bl_.calls (k : Nat) (A0 : Option Addr) (c0 : Nat) (l0 : List Int) (r : ByteArray) (w : World) (hr0 : Kd.C (Kd.int .i64) w A0 l0.length l0) (hc0 : l0.length ≤ c0) (h : bl_.f k l0 = some r) (hT : Go.Lib.TabIs Tryz.prog w "internal/strconv.uint64pow10" .u64 Go.Lib.pow10Tab) :
  Calls Tryz.prog 51 #[.slice A0 l0.length c0] w fun e w' => e = .returned (.string r) ∧ Below w.heap.size w w' := by
 have HT := aa_.mk hT
 clear hT
 have HR0 := aa_.mk hr0
 have HC0 := aa_.mk hc0
 clear hr0 hc0
 have HB := aa_.mk (Below.refl w.heap.size w)
 have H := h; unfold bl_.f at H
 clear h
 generalize e_ : ((([] : List ByteArray)) : List ByteArray) = KN at H
 have Ea := aa_.mk e_.symm; clear e_
 have H' := aa_.mk H
 clear H
 go_enter Tryz.func51, Tryz.ntmps51
 go_wp2_with (((with_reducible refine au_ (N := 6) rfl ?_); refine Kd.qF_ Kd.string _ 9 ?hg (N := 6) ?hd (xs := ([] : List ByteArray)) (inner := []) (ok := fun _ => True) (okp := fun _ => True) ?hr ?hp (fun _ hk => hk) trivial (Below.refl _ _) (Nat.le_refl _) (by simp) ?_; (case hd => rfl); (case hg => rfl); (case hr => exact Z39); (case hp => exact (aH_.none _ _)); intro v682 w2 ho3 hb hg_ hnew_; clear hg_ hnew_; (first | rw [← Ea.out] at ho3 | (simp only [Int.reduceToNat] at ho3; rw [← Ea.out] at ho3)); refine k2_ (Kd.pY_ ho3 (ao_ (Z2))) Ws_ ?_; clear HB; intro HO683 HB; clear hb ho3))
 (try simp only [Act.put, List.setIfInBounds_toArray, List.set_cons_zero, List.set_cons_succ])
 go_loopg [3, 9] k (fun kq v3 v9 w' => ∃ (aN : List ByteArray) (aK : Int), v9 = .int .i64 aK ∧ aa_ (bl_.l0 kq aN l0 (l0.length : Int) aK = some r) ∧ aa_ (kq ≤ k) ∧ aa_ (Kd.R Kd.string 9 w' w.heap.size (fun _ => True) v3 aN) ∧ aa_ (Below w.heap.size w w'))
 case atStart => exact ⟨(KN), (0), (Z14), H', ⟨Nat.le_refl _⟩, ⟨Z1 HO683⟩, ⟨Z2⟩⟩
 case round =>
  clear H'
  obtain ⟨aN, aK, rfl, HA, HK1, aA, HB⟩ := hrel
  cases gk with
  | zero => exact absurd HA.out (by simp [bl_.l0])
  | succ k1 =>
   have H := HA.out
   clear HA
   simp only [bl_.l0] at H
   replace H := iv_ H; obtain ⟨da, H⟩ | ⟨da, H⟩ := H
   ·replace H := id_ H; obtain ⟨dp, H⟩ := H
    replace H := id_ H; obtain ⟨cC, H⟩ := H
    replace H := bd_ H; obtain ⟨xO, A7, H⟩ := H
    replace H := ia_ H; obtain ⟨LMc8, H⟩ := H
    generalize e_ : ((aN ++ [xO]) : List ByteArray) = KO at H
    have Ny686 := aa_.mk e_.symm; clear e_
    have H' := aa_.mk H
    clear H
    have Io : 0 ≤ (aK : Int) := of_decide_eq_true (Z8)
    have Ip : aK < (l0.length : Int) := of_decide_eq_true (Z8)
    obtain ⟨ad684, e684, qf⟩ := Kd.at_int HR0.out aK Io Ip
    cases e684
    replace qf := (HB.out.cell (World.block_lt_of_cell? w _ qf)).trans qf
    replace Io := eq_true Io
    replace Ip := eq_true Ip
    go_wp2_with (first | ((with_reducible refine ae_ (f := 84) rfl ?_); refine gl_ 15 Tryz.func84 #[.int .i64 (rd l0 aK)] ?_; (with_reducible refine (strconv_Itoa.calls (rd l0 aK) xO _ A7.out ?sideT).mono ?_); (case sideT => exact tb_ HT.out (Z2)); rintro e w9 ⟨rfl, hb⟩; refine ⟨_, rfl, ?_⟩; refine k2_ (Ya_ aA) Ws_ ?_; clear aA HB; intro aA HB; (try clear hb)) | ((with_reducible refine bh_ (b := .append) (xs := #[.tmp 13, .tmp 16]) rfl ?_); at_builtin; refine Kd.qy_ Kd.string (w0 := w) w.heap.size rfl (.tmp 13) (.tmp 16) 109 9 (.string ⟨#[]⟩) 16 rfl Tryz.underlying109 pf_ rfl (by decide) (by omega) u3 aN xO [.string xO] (fun _ => True) (fun _ => False) rfl rfl ?aP (fun _ hk => hk.elim) ?aF ?aO ?aB ?aS ?aL ?_; (case aP => exact rfl); (case aB => exact Z2); (case aF => exact (fun _ _ => trivial)); (case aO => exact (Z1 aA)); (case aS => exact (ao_ (Z2))); (case aL => exact Z91 LMc8); intro v687 jc ho hb hg hat; rw [← Ny686.out] at ho; refine k2_ (hb) (ho) ?_; clear HB aA; intro HB HO688; clear ho hb hg hat))
    go_roundg k1
    case measure => have := HK1.out; omega
    case rel => exact ⟨(KO), (wrap64 (aK + 1)), (Z14), H', ⟨Z91 HK1⟩, ⟨Z1 HO688⟩, ⟨Z2⟩⟩
   replace H := bd_ H; obtain ⟨CA, A11, H⟩ := H
   replace H : (some CA) = some r := H
   obtain rfl := Option.some.inj H
   obtain ⟨cO, bw, pI⟩ := Kd.pW_ aA.out
   subst pI
   go_wp2_with (((with_reducible refine ae_ (f := 85) rfl ?_); refine gl_ 20 Tryz.func85 #[.slice cO aN.length bw, .string (⟨#[32]⟩ : ByteArray)] ?_; (with_reducible refine (strings_Join.calls _ _ aN (⟨#[32]⟩ : ByteArray) CA _ ?_ ?_ A11.out).mono ?_); exact (Z3 aA); exact (Kd.pV_ aA.out).2.1; rintro e oE ⟨rfl, hb⟩; refine ⟨_, rfl, ?_⟩; refine k2_ (Ya_ aA) Ws_ ?_; clear aA HB; intro aA HB; (try clear hb)))
   go_ret
   exact ⟨Z9, Z2⟩
theorem gs_ {B : Nat} {w w1 w2 : World} (h : Below B w w1) (g : Below B w1 w2) : Below B w w2 := h.trans g
theorem aN_.fresh {B b : Nat} {T e : TypeId} {w : World} (h : w.heap[b]? = some (.cells #[.pointer none, .slice none 0 0] T (0, 0))) (hB : B ≤ b) : Go.Lib.IsBuilder T e B b (Go.Lib.byteCells ([] : List UInt8)) w :=
 Or.inl ⟨hB, .slice none 0 0, h, World.ownsRow_nil _ _ _ _, by simp [Value.ownBlock]⟩
theorem g0_ {T e : TypeId} {B b : Nat} {bs : List Value} {W W' : World} (h : Go.Lib.IsBuilder T e B b bs W) (hb : Below W.heap.size W W') : Go.Lib.IsBuilder T e B b bs W' := by
 have key : ∀ p, Go.Lib.BuilderAt T e B b p bs W → Go.Lib.BuilderAt T e B b p bs W' := by
  intro p h
  have hlt := h.lt
  obtain ⟨hB, v, hv, hown, hne⟩ := h
  exact ⟨hB, v, (hb.block b hlt).trans hv, jo_ hown (fun k hk => hb.block k (by
   obtain ⟨_, h0 | ⟨g, cap, cur, e1, _, hh, _⟩⟩ := hown
   ·rw [h0.1] at hk; cases hk
   rw [e1] at hk
   obtain rfl := Option.some.inj hk
   exact (Array.getElem?_eq_some_iff.1 hh).1)), hne⟩
 exact h.elim (fun x => .inl (key _ x)) (fun x => .inr (key _ x))
theorem aN_.write (B b : Nat) (x s : ByteArray) (w : World) (h : Go.Lib.IsBuilder 79 5 B b (Go.Lib.byteCells x.data.toList) w) (hlen : x.size + s.size ≤ 140737488355328) (hB : B ≤ w.heap.size) :
  Calls Tryz.prog 50 #[.pointer (some ⟨b, 0, none⟩), .string s] w fun e w' => e = .returned (.tuple #[.int .i64 s.size, .nilIface]) ∧ Go.Lib.IsBuilder 79 5 B b (Go.Lib.byteCells (x ++ s).data.toList) w' ∧ Below B w w' := by
 have hl : (Go.Lib.byteCells x.data.toList).length = x.size := by unfold Go.Lib.byteCells; rw [List.length_map, Array.length_toList]; rfl
 refine (Any.Builder_WriteString { Tryz.lays156 with } strings_Join.extra B b _ s w h (by rw [hl]; exact hlen) hB).mono ?_
 rintro e w' ⟨rfl, hu, hb⟩
 refine ⟨rfl, Or.inr ?_, hb⟩
 have e1 : Go.Lib.byteCells (x ++ s).data.toList = Go.Lib.byteCells x.data.toList ++ Go.Lib.strCells s := by
  simp [Go.Lib.byteCells, Go.Lib.strCells]
 rw [e1]
 exact hu
theorem aN_.str (B b : Nat) (x : ByteArray) (w : World) (h : Go.Lib.IsBuilder 79 5 B b (Go.Lib.byteCells x.data.toList) w) (hB : B ≤ w.heap.size) :
  Calls Tryz.prog 52 #[.pointer (some ⟨b, 0, none⟩)] w fun e w' => e = .returned (.string x) ∧ Below B w w' := by
 refine (Any.Builder_String_any { Tryz.lays156 with } strings_Join.extra B b x.data.toList w h hB).mono ?_
 rintro e w' ⟨rfl, hb⟩
 exact ⟨by simp, hb⟩
def aN_.l0 : Nat → ByteArray → List (S42) → Int → Int → Option (ByteArray × Bool)
 | 0, _, _, _, _ => none
 | k + 1, x4, x10, x11, x12 => if x12 < x11 then (if 0 ≤ x12 then (if x12 < (x10.length : Int) then ((bl_.f k (([(ac_ x10 x12).f0, (ac_ x10 x12).f1] : List Int))).bind fun gT => (if gT.size + 1 ≤ 9223372036854775807 then (if x4.size + (gT ++ (⟨#[10]⟩ : ByteArray)).size ≤ 140737488355328 then (aN_.l0 k (x4 ++ (gT ++ (⟨#[10]⟩ : ByteArray))) x10 x11 (wrap64 (x12 + 1))) else (none)) else (none))) else (none)) else (none)) else (some (x4, true))
def aN_.f (k : Nat) (l0 : List (S42)) : Option (ByteArray × Bool) := (ap_.f k l0).bind fun Am => (if Am = true then (aN_.l0 k (⟨#[]⟩ : ByteArray) l0 (l0.length : Int) 0) else (some ((⟨#[]⟩ : ByteArray), false)))
theorem aN_.mono_l : ∀ k, (∀ y0 y1 y2 y3, LeO (aN_.l0 k y0 y1 y2 y3) (aN_.l0 (k + 1) y0 y1 y2 y3))
 | 0 => fun _ _ _ _ r h => by simp [aN_.l0] at h
 | k + 1 => by
  have ih0 := aN_.mono_l k
  ·intro y0 y1 y2 y3
   unfold aN_.l0
   exact gx_
theorem aN_.mono : ∀ a0 k, LeO (aN_.f k a0) (aN_.f (k + 1) a0) := by
 intro a0 k
 have ih0 := aN_.mono_l k
 unfold aN_.f
 exact gx_
set_option maxHeartbeats 8000000 in
set_option maxRecDepth 100000 in
theorem aN_.calls (k : Nat) (A0 : Option Addr) (c0 : Nat) (l0 : List (S42)) (r1 : ByteArray) (r2 : Bool) (w : World) (hr0 : Kd.C k42 w A0 l0.length l0) (hc0 : l0.length ≤ c0) (h : aN_.f k l0 = some (r1, r2)) (hT : Go.Lib.TabIs Tryz.prog w "internal/strconv.uint64pow10" .u64 Go.Lib.pow10Tab) :
  Calls Tryz.prog 25 #[.slice A0 l0.length c0] w fun e w' => e = .returned (.tuple #[.string r1, .bool r2]) ∧ Below w.heap.size w w' := by
 have hu42 := Tryz.underlying42
 have HT := aa_.mk hT
 clear hT
 have HR0 := aa_.mk hr0
 have HC0 := aa_.mk hc0
 clear hr0 hc0
 have HB := aa_.mk (Below.refl w.heap.size w)
 have H := h; unfold aN_.f at H
 clear h
 replace H := bd_ H; obtain ⟨Am, A2, H⟩ := H
 replace H := it_ H; obtain ⟨rfl, H⟩ | ⟨rfl, H⟩ := H
 ·have H' := aa_.mk H
  clear H
  go_enter Tryz.func25, Tryz.ntmps25
  go_wp2_with (((with_reducible refine ae_ (f := 13) rfl ?_); refine gl_ 8 Tryz.func13 #[.slice A0 l0.length c0] ?_; (with_reducible refine (ap_.calls k _ _ l0 true _ ?_ ?_ A2.out).mono ?_); exact (Z15 HR0); exact HC0.out; rintro e w4 ⟨rfl, hb⟩; refine ⟨_, rfl, ?_⟩; refine k1_ Ws_ ?_; clear HB; intro HB; (try clear hb)))
  have HU := aa_.mk (aN_.fresh (T := 79) (e := 5) (hQ_ w4 (.cells #[.pointer none, .slice none 0 0] 79)) (ao_ HB.out))
  refine k1_ (aC_ HB.out (.cells #[.pointer none, .slice none 0 0] 79)) ?_
  clear HB
  intro HB
  generalize w4.heap.size = bu at HU ⊢
  generalize w4.alloc (.cells #[.pointer none, .slice none 0 0] 79) = wu at HU HB ⊢
  go_loopg [12] k (fun kq Gn w' => ∃ (aC : ByteArray) (ap : Int), Gn = .int .i64 ap ∧ aa_ (aN_.l0 kq aC l0 (l0.length : Int) ap = some (r1, r2)) ∧ aa_ (kq ≤ k) ∧ aa_ (Below w.heap.size w w') ∧ aa_ (Go.Lib.IsBuilder 79 5 w.heap.size bu (Go.Lib.byteCells aC.data.toList) w'))
  case atStart => exact ⟨((⟨#[]⟩ : ByteArray)), (0), rfl, H', ⟨Nat.le_refl _⟩, ⟨Z2⟩, ⟨HU.out⟩⟩
  case round =>
   clear H'
   clear HU
   obtain ⟨aC, ap, rfl, HA, HK1, HB, HU⟩ := hrel
   cases gk with
   | zero => exact absurd HA.out (by simp [aN_.l0])
   | succ k1 =>
    have H := HA.out
    clear HA
    simp only [aN_.l0] at H
    replace H := iv_ H; obtain ⟨dp, H⟩ | ⟨dp, H⟩ := H
    ·replace H := id_ H; obtain ⟨cC, H⟩ := H
     replace H := id_ H; obtain ⟨dJ, H⟩ := H
     generalize e_ : ((([(ac_ l0 ap).f0, (ac_ l0 ap).f1] : List Int)) : List Int) = Iq at H
     have Eb := aa_.mk e_.symm; clear e_
     replace H := bd_ H; obtain ⟨gT, A8, H⟩ := H
     by_cases c9 : gT.size + 1 ≤ 9223372036854775807
     ·rw [if_pos c9] at H
      have gP := eq_true c9
      have pF : decide (gT.size + 1 ≤ 9223372036854775807) = true := decide_eq_true c9
      try have c9b2 : (9223372036854775807 < gT.size + 1) = False := eq_false (Nat.not_lt.2 c9)
      by_cases c10 : aC.size + (gT ++ (⟨#[10]⟩ : ByteArray)).size ≤ 140737488355328
      ·rw [if_pos c10] at H
       have LW := aa_.mk c10
       have de := eq_true c10
       have ss : decide (aC.size + (gT ++ (⟨#[10]⟩ : ByteArray)).size ≤ 140737488355328) = true := decide_eq_true c10
       try have c10b2 : (140737488355328 < aC.size + (gT ++ (⟨#[10]⟩ : ByteArray)).size) = False := eq_false (Nat.not_lt.2 c10)
       have H' := aa_.mk H
       clear H
       obtain ⟨ad143, e143, qg, qh, Ir, Is⟩ := ds_ HR0.out HB.out ap
       cases e143
       have HV := aa_.mk (Below.refl wr.heap.size wr)
       go_wp2_with (first | ((with_reducible refine au_ (N := 6) rfl ?_); refine bv_ 6 42 #[.int .i64 0, .int .i64 0] ?_; intro wM hg nI hbox hb; have GV := aa_.mk ((by rw [hg]; exact Nat.le_refl _) : wr.heap.size ≤ wM); have nv_ := aa_.mk (aq_ (by repeat (first | (with_reducible first | exact HV.out | apply aC_ | apply aD_ | apply av_) | exact HV.out)) hb); clear HV; have HV := nv_; clear nv_; refine k4_ Ws_ (hbox) (Wg_ w wM) (Wg_ w wM) ?_; clear HB; intro HB od GW144 GE144; clear hb hbox hg; obtain ⟨eC, fh, eD, fi⟩ := cH_ (w := nI) od.out) | ((with_reducible refine au_ (N := 20) rfl ?_); refine lu_ (Kd.int .i64) 3 20 ([(ac_ l0 ap).f0, (ac_ l0 ap).f1] : List Int) [.int .i64 ((ac_ l0 ap).f0), .int .i64 ((ac_ l0 ap).f1)] (aH_.one (show Kd.M (Kd.int .i64) _ _ _ ((ac_ l0 ap).f0) [.int .i64 ((ac_ l0 ap).f0)] from rfl) (aH_.one (show Kd.M (Kd.int .i64) _ _ _ ((ac_ l0 ap).f1) [.int .i64 ((ac_ l0 ap).f1)] from rfl) (aH_.none _ _))) ?_; intro v146 oE ho14 hb hg_ hnew_; clear hg_ hnew_; (first | rw [← Eb.out] at ho14 | (simp only [Int.reduceToNat] at ho14; rw [← Eb.out] at ho14)); have nv_ := aa_.mk (aq_ (nd_) hb); clear HV; have HV := nv_; clear nv_; refine k3_ (Kd.pY_ ho14 (ao_ (Z86))) (cj_ (g := wM) (o := .cells #[.int .i64 ((ac_ l0 ap).f0), .int .i64 ((ac_ l0 ap).f1)] 42 (0, 0)) (oP_ od) hb) (aq_ (Z86) hb) ?_; clear od HB; intro pc od HB; clear hb ho14; obtain ⟨nG, jG, jH⟩ := Kd.pW_ pc.out; subst jH) | ((with_reducible refine ae_ (f := 51) rfl ?_); refine gl_ 21 Tryz.func51 #[.slice nG Iq.length jG] ?_; (with_reducible refine (bl_.calls k1 _ _ Iq gT _ ?side1 ?side2 A8.out ?sideT).mono ?_); (case sideT => exact tb_ HT.out (Z86)); (case side1 => exact Z3 pc); (case side2 => exact (Kd.pV_ pc.out).2.1); rintro e lR ⟨rfl, hb⟩; refine ⟨_, rfl, ?_⟩; have nv_ := aa_.mk (aq_ (nd_) hb); clear HV; have HV := nv_; clear nv_; refine k3_ (Ya_ pc) (Ye_ od) (aq_ (Z86) hb) ?_; clear pc od HB; intro pc od HB; (try clear hb)) | ((with_reducible refine ae_ (f := 50) rfl ?_); refine ey_ (some 23) rfl rfl Tryz.func50 (by kernel_rfl) rfl #[.pointer (some ⟨bu, 0, none⟩), .string (gT ++ (⟨#[10]⟩ : ByteArray))] rfl (Z99) ?_; (with_reducible refine (aN_.write w.heap.size bu aC (gT ++ (⟨#[10]⟩ : ByteArray)) _ ?sideU ?sideL ?sideS).mono ?_); (case sideU => exact g0_ HU.out (nd_)); (case sideL => exact LW.out); (case sideS => exact ao_ (Z86)); rintro e wx ⟨rfl, hu_, hb⟩; refine ⟨_, rfl, ?_⟩; have n0_ := aa_.mk (gs_ (Z86) hb); clear HB HU; have HB := n0_; have HU := aa_.mk hu_; clear n0_ hu_ hb))
       go_roundg k1
       case measure => have := HK1.out; omega
       case rel => exact ⟨(aC ++ (gT ++ (⟨#[10]⟩ : ByteArray))), (wrap64 (ap + 1)), (Z14), H', ⟨Z91 HK1⟩, ⟨(Z2)⟩, ⟨HU.out⟩⟩
      rw [if_neg c10] at H
      exact absurd H (by simp)
     rw [if_neg c9] at H
     exact absurd H (by simp)
    obtain ⟨rfl, rfl⟩ := sp_ H; clear H
    go_wp2_with ((with_reducible refine ae_ (f := 52) rfl ?_); refine ey_ (some 25) rfl rfl Tryz.func52 (by kernel_rfl) rfl #[.pointer (some ⟨bu, 0, none⟩)] rfl (Z99) ?_; (with_reducible refine (aN_.str w.heap.size bu aC _ ?sideU ?sideS).mono ?_); (case sideU => exact HU.out); (case sideS => exact ao_ (Z2)); rintro e wx ⟨rfl, hb⟩; refine ⟨_, rfl, ?_⟩; have n0_ := aa_.mk (gs_ (Z2) hb); clear HB; have HB := n0_; clear n0_ hb)
    go_ret2
    exact ⟨Z9, Z2⟩
 obtain ⟨rfl, rfl⟩ := sp_ H; clear H
 go_enter Tryz.func25, Tryz.ntmps25
 go_wp2_with (((with_reducible refine ae_ (f := 13) rfl ?_); refine gl_ 8 Tryz.func13 #[.slice A0 l0.length c0] ?_; (with_reducible refine (ap_.calls k _ _ l0 false _ ?_ ?_ A2.out).mono ?_); exact (Z15 HR0); exact HC0.out; rintro e oD ⟨rfl, hb⟩; refine ⟨_, rfl, ?_⟩; refine k1_ Ws_ ?_; clear HB; intro HB; (try clear hb)))
 go_ret2
 exact ⟨Z9, Z2⟩
def be_.f : Nat → Int → Option (ByteArray)
 | 0, _ => none
 | k + 1, a0 => if a0 < 10 then (some (strOfNums (([(wrap64 (48 + a0)) % 256] : List Int)))) else ((be_.f k (wrap64 (Int.tdiv a0 10))).bind fun jp => ((some (([(wrap64 (48 + (Int.tmod a0 10))) % 256] : List Int) : List Int)).bind fun ln => (if jp.size + (strOfNums ln).size ≤ 9223372036854775807 then (some (jp ++ (strOfNums ln))) else (none))))
theorem be_.mono_l : ∀ k, (∀ y0, LeO (be_.f k y0) (be_.f (k + 1) y0))
 | 0 => fun _ r h => by simp [be_.f] at h
 | k + 1 => by
  have ih0 := be_.mono_l k
  ·intro y0
   unfold be_.f
   exact gx_
theorem be_.mono : ∀ a0 k, LeO (be_.f k a0) (be_.f (k + 1) a0) := by
 intro a0 k
 have ih0 := be_.mono_l k
 exact ih0 a0
def be_.T3 : Bool × List (List Nat × List Nat) := (true, [([], []), ([0], [0]), ([1], [1]), ([], []), ([3], [3]), ([4], [4]), ([5], [5]), ([6], [6]), ([7], [7]), ([2, 8], [2, 8]), ([9, 2, 0, 1, 2, 3, 4, 5, 6, 7, 8, 9], [9])])
def be_.B3 : List Nat := [0, 1, 3, 0, 8, 24, 56, 120, 248, 511, 1023]
theorem be_.tab3 : bI_ .any (dd_ Tryz.f53 3) = be_.T3 := by kernel_rfl
theorem be_.bits3 : bQ_ be_.T3.2 be_.B3 = true := by kernel_rfl
set_option maxHeartbeats 8000000 in
set_option maxRecDepth 100000 in
theorem be_.calls (k : Nat) : ∀ (a0 : Int) (r : ByteArray) (w : World) (h : be_.f k a0 = some r),
  Calls Tryz.prog 53 #[.int .i64 a0] w fun e w' => e = .returned (.string r) ∧ Below w.heap.size w w' := by
 induction k using Nat.strongRecOn with
 | _ k ih =>
 intro a0 r w h
 cases k with
 | zero => exact absurd h (by simp [be_.f])
 | succ k =>
 simp only [be_.f] at h
 have HB := aa_.mk (Below.refl w.heap.size w)
 have H : (if a0 < 10 then (some (strOfNums (([(wrap64 (48 + a0)) % 256] : List Int)))) else ((be_.f k (wrap64 (Int.tdiv a0 10))).bind fun jp => ((some (([(wrap64 (48 + (Int.tmod a0 10))) % 256] : List Int) : List Int)).bind fun ln => (if jp.size + (strOfNums ln).size ≤ 9223372036854775807 then (some (jp ++ (strOfNums ln))) else (none))))) = some r := h
 clear h
 replace H := iv_ H; obtain ⟨dB, H⟩ | ⟨dB, H⟩ := H
 ·generalize e_ : ((([(wrap64 (48 + a0)) % 256] : List Int)) : List Int) = y690 at H
  have Ec := aa_.mk e_.symm; clear e_
  obtain rfl := Option.some.inj H
  go_enter Tryz.func53, Tryz.ntmps53
  go_wp2_with (((with_reducible refine au_ (N := 8) rfl ?_); refine lu_ (Kd.int .u8) 5 8 ([(wrap64 (48 + a0)) % 256] : List Int) [.int .u8 ((wrap64 (48 + a0)) % 256)] (aH_.one (show Kd.M (Kd.int .u8) _ _ _ ((wrap64 (48 + a0)) % 256) [.int .u8 ((wrap64 (48 + a0)) % 256)] from rfl) (aH_.none _ _)) ?_; intro v691 w3 ho4 hb hg_ hnew_; clear hg_ hnew_; (first | rw [← Ec.out] at ho4 | (simp only [Int.reduceToNat] at ho4; rw [← Ec.out] at ho4)); refine k2_ (Kd.pY_ ho4 (ao_ (Z2))) Ws_ ?_; clear HB; intro HO692 HB; clear hb ho4; have hcv5 := e7_ (P := Tryz.prog) Tryz.underlying22 Tryz.underlying5 Tryz.underlying9 (Kd.own_of_R HO692.out)))
  go_ret
  exact ⟨Z9, Z2⟩
 replace H := bd_ H; obtain ⟨jp, A6, H⟩ := H
 replace H := lt_ H; obtain ⟨ln, wN, H⟩ := H
 by_cases c7 : jp.size + (strOfNums ln).size ≤ 9223372036854775807
 ·rw [if_pos c7] at H
  have dJ := eq_true c7
  have Cs : decide (jp.size + (strOfNums ln).size ≤ 9223372036854775807) = true := decide_eq_true c7
  try have Kz : (9223372036854775807 < jp.size + (strOfNums ln).size) = False := eq_false (Nat.not_lt.2 c7)
  obtain rfl := Option.some.inj H
  go_enter Tryz.func53, Tryz.ntmps53
  try go_wp2
  refine k1_ (av_ HB.out) ?_
  clear HB
  intro HB
  refine b2_ (n := 11) (S := fun w' => True) (ds := []) (M_ 0 11) (by kernel_rfl) rfl rfl trivial (fun hHeld => ?_); refine bz_ be_.tab3 be_.bits3 (fun HT_ HW_ => ?_)
  generalize w.drew = w8 at HB hHeld ⊢
  refine pu_ 0 10 (M_ 1 10) ?_
  refine pu_ 1 11 (M_ 2 9) ?_
  refine pu_ 3 13 (N_ 11 11) ?_
  refine pu_ 4 14 (N_ 11 27) ?_
  refine pu_ 5 15 (N_ 11 59) ?_
  refine pu_ 6 16 (N_ 11 123) ?_
  refine iV_ (σ := Value) 2 (M_ 9 2) (fun s_ => [(12, .string jp), (17, s_), (18, .string (strOfNums ln))]) (fun s_ w' => (Kd.R (Kd.int .u8) 5 w' w.heap.size (fun _ => True) s_ ln) ∧ (Below w.heap.size w w')) ?_ ?_
  rotate_left
  ·intro hCont
   refine gn_ (i := 2) (j := 7) (Ni := some 12) (Nj := some 17) (M_ 7 4) (N_ 11 251) rfl rfl rfl rfl (eW_ HT_.out (by kernel_rfl)) (by decide) (by decide) (fun K hK => ?_) (fun K hK => ?_)
   ·skip
    refine cs_ Tryz.func53 (by kernel_rfl) rfl #[.int .i64 (wrap64 (Int.tdiv a0 10))] (by rfl) rfl rfl (Z43) ?_
    with_reducible refine (ih k (by omega) (wrap64 (Int.tdiv a0 10)) jp _ A6.out).mono ?_
    rintro e w9 ⟨rfl, hb⟩
    refine ⟨_, rfl, ?_⟩
    refine k1_ Ws_ ?_
    clear HB
    intro HB
    (try clear hb)
    refine hK.out _ _ trivial (fun hHeld => ?_)
    clear hK K
    refine nm_ 12 ?_
    refine on_ 7 (some 17) (M_ 8 3) (fun K hK => ?_)
    refine ls_ (Kd.int .u8) 5 17 ([(wrap64 (48 + (Int.tmod a0 10))) % 256] : List Int) [.int .u8 ((wrap64 (48 + (Int.tmod a0 10))) % 256)] (aH_.one (show Kd.M (Kd.int .u8) _ _ _ ((wrap64 (48 + (Int.tmod a0 10))) % 256) [.int .u8 ((wrap64 (48 + (Int.tmod a0 10))) % 256)] from rfl) (aH_.none _ _)) ?_
    intro xP jc ho11 hb hg_ hnew_
    clear hg_ hnew_
    (first | rw [← wN.out] at ho11 | (simp only [Int.reduceToNat] at ho11; rw [← wN.out] at ho11))
    refine k2_ (Kd.pY_ ho11 (ao_ (Z2))) Ws_ ?_
    clear HB
    intro fx HB
    clear hb ho11
    refine hK.out _ _ trivial (fun hHeld => ?_)
    clear hK K
    refine nm_ 17 ?_
    refine on_ 8 (some 18) (M_ 9 2) (fun K hK => ?_)
    have hcv12 := e7_ (P := Tryz.prog) Tryz.underlying22 Tryz.underlying5 Tryz.underlying9 (Kd.own_of_R fx.out)
    refine d9_ (w1 := ?_) (v := ?_) (by rfl) rfl ?_ ?_
    rotate_left 2
    ·go_simp
     constructor
     ·rfl
     rfl
    clear hcv12
    refine hK.out _ _ trivial (fun hHeld => ?_)
    clear hK K
    refine nm_ 18 ?_
    exact dk_ (Z58) (hCont (xP) _ ⟨(Z1 fx), (Z2)⟩)
   skip
   refine ls_ (Kd.int .u8) 5 17 ([(wrap64 (48 + (Int.tmod a0 10))) % 256] : List Int) [.int .u8 ((wrap64 (48 + (Int.tmod a0 10))) % 256)] (aH_.one (show Kd.M (Kd.int .u8) _ _ _ ((wrap64 (48 + (Int.tmod a0 10))) % 256) [.int .u8 ((wrap64 (48 + (Int.tmod a0 10))) % 256)] from rfl) (aH_.none _ _)) ?_
   intro xP w9 ho10 hb hg_ hnew_
   clear hg_ hnew_
   (first | rw [← wN.out] at ho10 | (simp only [Int.reduceToNat] at ho10; rw [← wN.out] at ho10))
   refine k2_ (Kd.pY_ ho10 (ao_ (Z2))) Ws_ ?_
   clear HB
   intro fx HB
   clear hb ho10
   refine hK.out _ _ trivial (fun hHeld => ?_)
   clear hK K
   refine nm_ 17 ?_
   refine gn_ (i := 2) (j := 8) (Ni := some 12) (Nj := some 18) (M_ 8 3) (N_ 11 507) rfl rfl rfl rfl (eW_ HT_.out (by kernel_rfl)) (by decide) (by decide) (fun K hK => ?_) (fun K hK => ?_)
   ·skip
    refine cs_ Tryz.func53 (by kernel_rfl) rfl #[.int .i64 (wrap64 (Int.tdiv a0 10))] (by rfl) rfl rfl (Z43) ?_
    with_reducible refine (ih k (by omega) (wrap64 (Int.tdiv a0 10)) jp _ A6.out).mono ?_
    rintro e nI ⟨rfl, hb⟩
    refine ⟨_, rfl, ?_⟩
    refine k2_ (Ya_ fx) Ws_ ?_
    clear fx HB
    intro fx HB
    (try clear hb)
    (try clear hk)
    refine hK.out _ _ trivial (fun hHeld => ?_)
    clear hK K
    refine nm_ 12 ?_
    refine on_ 8 (some 18) (M_ 9 2) (fun K hK => ?_)
    have hcv12 := e7_ (P := Tryz.prog) Tryz.underlying22 Tryz.underlying5 Tryz.underlying9 (Kd.own_of_R fx.out)
    refine d9_ (w1 := ?_) (v := ?_) (by rfl) rfl ?_ ?_
    rotate_left 2
    ·go_simp
     constructor
     ·rfl
     rfl
    clear hcv12
    refine hK.out _ _ trivial (fun hHeld => ?_)
    clear hK K
    refine nm_ 18 ?_
    exact dk_ (Z58) (hCont (xP) _ ⟨(Z1 fx), (Z2)⟩)
   skip
   have hcv11 := e7_ (P := Tryz.prog) Tryz.underlying22 Tryz.underlying5 Tryz.underlying9 (Kd.own_of_R fx.out)
   refine d9_ (w1 := ?_) (v := ?_) (by rfl) rfl ?_ ?_
   rotate_left 2
   ·go_simp
    constructor
    ·rfl
    rfl
   clear hcv11
   refine hK.out _ _ trivial (fun hHeld => ?_)
   clear hK K
   refine nm_ 18 ?_
   refine on_ 2 (some 12) (M_ 9 2) (fun K hK => ?_)
   refine cs_ Tryz.func53 (by kernel_rfl) rfl #[.int .i64 (wrap64 (Int.tdiv a0 10))] (by rfl) rfl rfl (Z43) ?_
   with_reducible refine (ih k (by omega) (wrap64 (Int.tdiv a0 10)) jp _ A6.out).mono ?_
   rintro e qT ⟨rfl, hb⟩
   refine ⟨_, rfl, ?_⟩
   refine k2_ (Ya_ fx) Ws_ ?_
   clear fx HB
   intro fx HB
   (try clear hb)
   (try clear hk)
   refine hK.out _ _ trivial (fun hHeld => ?_)
   clear hK K
   refine nm_ 12 ?_
   exact dk_ (Z58) (hCont (xP) _ ⟨(Z1 fx), (Z2)⟩)
  rintro xP oE ⟨h0_, h1_⟩
  refine k2_ (show Kd.R (Kd.int .u8) 5 oE w.heap.size (fun _ => True) xP ln from h0_) (show Below w.heap.size w oE from h1_) ?_
  clear HB h0_ h1_
  intro fx HB
  have hHeld := trivial
  refine dk_ (a' := ?_) ?_ ?_
  rotate_left
  ·simp only [e0_, Act.put, List.setIfInBounds_toArray, List.set_cons_zero, List.set_cons_succ]
   rfl
  refine pu_ 9 19 (M_ 10 1) ?_
  refine pu_ 10 2 (M_ 11 0) ?_
  refine cw_ (bS_ HT_.out (by kernel_rfl)) ?_
  try go_wp2
  go_ret
  exact ⟨Z9, Z2⟩
 rw [if_neg c7] at H
 exact absurd H (by simp)
theorem nx_ {p : Prop} (h : p := by repeat' first | (with_reducible first | apply ih0 | apply ih0 | apply be_.mono | apply be_.mono | apply aQ_.mono | apply aQ_.mono | exact LeO.refl _ | exact LeO.none _ | refine LeO.ite ?_ ?_ | refine LeO.bind ?_ (fun _ => ?_)) | exact LeO.none _ | refine LeO.ite ?_ ?_ | refine LeO.bind ?_ (fun _ => ?_)) : p := h
def aL_.l0 : Nat → ByteArray → List (S42) → Int → Int → Option (ByteArray × Bool)
 | 0, _, _, _, _ => none
 | k + 1, x4, x10, x11, x12 => if x12 < x11 then (if 0 ≤ x12 then (if x12 < (x10.length : Int) then ((be_.f k ((ac_ x10 x12).f0)).bind fun fX => (if fX.size + 1 ≤ 9223372036854775807 then ((be_.f k ((ac_ x10 x12).f1)).bind fun iW => (if (fX ++ (⟨#[32]⟩ : ByteArray)).size + iW.size ≤ 9223372036854775807 then (if ((fX ++ (⟨#[32]⟩ : ByteArray)) ++ iW).size + 1 ≤ 9223372036854775807 then (if x4.size + (((fX ++ (⟨#[32]⟩ : ByteArray)) ++ iW) ++ (⟨#[10]⟩ : ByteArray)).size ≤ 9223372036854775807 then (aL_.l0 k (x4 ++ (((fX ++ (⟨#[32]⟩ : ByteArray)) ++ iW) ++ (⟨#[10]⟩ : ByteArray))) x10 x11 (wrap64 (x12 + 1))) else (none)) else (none)) else (none))) else (none))) else (none)) else (none)) else (some (x4, true))
def aL_.f (k : Nat) (l0 : List (S42)) : Option (ByteArray × Bool) := (aQ_.f k l0).bind fun Ap => (if Ap = true then (aL_.l0 k (⟨#[]⟩ : ByteArray) l0 (l0.length : Int) 0) else (some ((⟨#[]⟩ : ByteArray), false)))
theorem aL_.mono_l : ∀ k, (∀ y0 y1 y2 y3, LeO (aL_.l0 k y0 y1 y2 y3) (aL_.l0 (k + 1) y0 y1 y2 y3))
 | 0 => fun _ _ _ _ r h => by simp [aL_.l0] at h
 | k + 1 => by
  have ih0 := aL_.mono_l k
  ·intro y0 y1 y2 y3
   unfold aL_.l0
   exact nx_
theorem aL_.mono : ∀ a0 k, LeO (aL_.f k a0) (aL_.f (k + 1) a0) := by
 intro a0 k
 have ih0 := aL_.mono_l k
 unfold aL_.f
 exact nx_
def aL_.T7 : Bool × List (List Nat × List Nat) := (true, [([], []), ([], []), ([1], [1]), ([2], [2]), ([3], [3]), ([], []), ([5], [5]), ([6, 3], [6]), ([4, 7], [4, 7]), ([8], [8]), ([0, 9], [0, 9]), ([10, 7, 0, 1, 2, 3, 4, 5, 6, 7, 8, 9, 10], [0, 10])])
def aL_.B7 : List Nat := [0, 0, 2, 6, 14, 0, 32, 110, 254, 510, 1023, 2047]
theorem aL_.tab7 : bI_ .any (dd_ Tryz.f26 7) = aL_.T7 := by kernel_rfl
theorem aL_.bits7 : bQ_ aL_.T7.2 aL_.B7 = true := by kernel_rfl
set_option maxHeartbeats 8000000 in
set_option maxRecDepth 100000 in
theorem aL_.calls (k : Nat) (A0 : Option Addr) (c0 : Nat) (l0 : List (S42)) (r1 : ByteArray) (r2 : Bool) (w : World) (hr0 : Kd.C k42 w A0 l0.length l0) (hc0 : l0.length ≤ c0) (h : aL_.f k l0 = some (r1, r2)) :
  Calls Tryz.prog 26 #[.slice A0 l0.length c0] w fun e w' => e = .returned (.tuple #[.string r1, .bool r2]) ∧ Below w.heap.size w w' := by
 have hu42 := Tryz.underlying42
 have HR0 := aa_.mk hr0
 have HC0 := aa_.mk hc0
 clear hr0 hc0
 have HB := aa_.mk (Below.refl w.heap.size w)
 have H := h; unfold aL_.f at H
 clear h
 replace H := bd_ H; obtain ⟨Ap, A2, H⟩ := H
 replace H := it_ H; obtain ⟨rfl, H⟩ | ⟨rfl, H⟩ := H
 ·have H' := aa_.mk H
  clear H
  go_enter Tryz.func26, Tryz.ntmps26
  go_wp2_with (((with_reducible refine ae_ (f := 36) rfl ?_); refine gl_ 8 Tryz.func36 #[.slice A0 l0.length c0] ?_; (with_reducible refine (aQ_.calls k _ _ l0 true _ ?_ ?_ A2.out).mono ?_); exact (Z15 HR0); exact HC0.out; rintro e w4 ⟨rfl, hb⟩; refine ⟨_, rfl, ?_⟩; refine k1_ Ws_ ?_; clear HB; intro HB; (try clear hb)))
  (try simp only [Act.put, List.setIfInBounds_toArray, List.set_cons_zero, List.set_cons_succ])
  go_loopg [4, 12] k (fun kq v4 Gn w' => ∃ (aC : ByteArray) (ap : Int), v4 = .string aC ∧ Gn = .int .i64 ap ∧ aa_ (aL_.l0 kq aC l0 (l0.length : Int) ap = some (r1, r2)) ∧ aa_ (kq ≤ k) ∧ aa_ (Below w.heap.size w w'))
  case atStart => exact ⟨((⟨#[]⟩ : ByteArray)), (0), (Z14), (Z14), H', ⟨Nat.le_refl _⟩, ⟨Z2⟩⟩
  case round =>
   clear H'
   obtain ⟨aC, ap, rfl, rfl, HA, HK1, HB⟩ := hrel
   cases gk with
   | zero => exact absurd HA.out (by simp [aL_.l0])
   | succ k1 =>
    have H := HA.out
    clear HA
    simp only [aL_.l0] at H
    replace H := iv_ H; obtain ⟨dp, H⟩ | ⟨dp, H⟩ := H
    ·replace H := id_ H; obtain ⟨cC, H⟩ := H
     replace H := id_ H; obtain ⟨dJ, H⟩ := H
     replace H := bd_ H; obtain ⟨fX, A8, H⟩ := H
     by_cases c9 : fX.size + 1 ≤ 9223372036854775807
     ·rw [if_pos c9] at H
      have gP := eq_true c9
      have pF : decide (fX.size + 1 ≤ 9223372036854775807) = true := decide_eq_true c9
      try have c9b2 : (9223372036854775807 < fX.size + 1) = False := eq_false (Nat.not_lt.2 c9)
      replace H := bd_ H; obtain ⟨iW, NU, H⟩ := H
      by_cases c11 : (fX ++ (⟨#[32]⟩ : ByteArray)).size + iW.size ≤ 9223372036854775807
      ·rw [if_pos c11] at H
       have dG := eq_true c11
       have n8 : decide ((fX ++ (⟨#[32]⟩ : ByteArray)).size + iW.size ≤ 9223372036854775807) = true := decide_eq_true c11
       try have zW : (9223372036854775807 < (fX ++ (⟨#[32]⟩ : ByteArray)).size + iW.size) = False := eq_false (Nat.not_lt.2 c11)
       try (have Ed := c11; simp only [ByteArray.size_append, show (⟨#[32]⟩ : ByteArray).size = 1 from rfl] at Ed; have c11b4 := eq_false (Nat.not_lt.2 Ed))
       by_cases c12 : ((fX ++ (⟨#[32]⟩ : ByteArray)) ++ iW).size + 1 ≤ 9223372036854775807
       ·rw [if_pos c12] at H
        have fm := eq_true c12
        have o9 : decide (((fX ++ (⟨#[32]⟩ : ByteArray)) ++ iW).size + 1 ≤ 9223372036854775807) = true := decide_eq_true c12
        try have wB : (9223372036854775807 < ((fX ++ (⟨#[32]⟩ : ByteArray)) ++ iW).size + 1) = False := eq_false (Nat.not_lt.2 c12)
        try (have Ee := c12; simp only [ByteArray.size_append, show (⟨#[32]⟩ : ByteArray).size = 1 from rfl] at Ee; have c12b4 := eq_false (Nat.not_lt.2 Ee))
        by_cases c13 : aC.size + (((fX ++ (⟨#[32]⟩ : ByteArray)) ++ iW) ++ (⟨#[10]⟩ : ByteArray)).size ≤ 9223372036854775807
        ·rw [if_pos c13] at H
         have ew := eq_true c13
         have Ar : decide (aC.size + (((fX ++ (⟨#[32]⟩ : ByteArray)) ++ iW) ++ (⟨#[10]⟩ : ByteArray)).size ≤ 9223372036854775807) = true := decide_eq_true c13
         try have As : (9223372036854775807 < aC.size + (((fX ++ (⟨#[32]⟩ : ByteArray)) ++ iW) ++ (⟨#[10]⟩ : ByteArray)).size) = False := eq_false (Nat.not_lt.2 c13)
         try (have At := c13; simp only [ByteArray.size_append, show (⟨#[10]⟩ : ByteArray).size = 1 from rfl, show (⟨#[32]⟩ : ByteArray).size = 1 from rfl] at At; have c13b4 := eq_false (Nat.not_lt.2 At))
         have H' := aa_.mk H
         clear H
         obtain ⟨ad698, e698, qi, qj, Iu, Iv⟩ := ds_ HR0.out HB.out ap
         cases e698
         try go_wp2_with (((with_reducible refine au_ (N := 6) rfl ?_); refine bv_ 6 42 #[.int .i64 0, .int .i64 0] ?_; intro hZ hg xg hbox hb; refine k4_ Ws_ (hbox) (Wg_ w hZ) (Wg_ w hZ) ?_; clear HB; intro HB dI GW699 GE699; clear hb hbox hg; obtain ⟨hcz15_0, hcz15_1, hfz15_0, hfz15_1⟩ := cH_ (w := xg) dI.out))
         have n0_ : aa_ (((xg.setCell ⟨hZ, 0, none⟩ (.int .i64 ((ac_ l0 ap).f0))).setCell ⟨hZ, 1, none⟩ (.int .i64 ((ac_ l0 ap).f1))).heap[hZ]? = some (.cells #[.int .i64 ((ac_ l0 ap).f0), .int .i64 ((ac_ l0 ap).f1)] 42 (0, 0))) := ⟨oP_ dI⟩
         have n1_ : aa_ (Below w.heap.size w ((xg.setCell ⟨hZ, 0, none⟩ (.int .i64 ((ac_ l0 ap).f0))).setCell ⟨hZ, 1, none⟩ (.int .i64 ((ac_ l0 ap).f1)))) := ⟨ln_⟩
         (try clear dI)
         (try clear HB)
         generalize ((xg.setCell ⟨hZ, 0, none⟩ (.int .i64 ((ac_ l0 ap).f0))).setCell ⟨hZ, 1, none⟩ (.int .i64 ((ac_ l0 ap).f1))) = lR at n0_ n1_ ⊢
         have dI := n0_
         have HB := n1_
         clear n0_ n1_
         refine k2_ (ax_ dI.out) (av_ HB.out) ?_
         clear dI HB
         intro dI HB
         refine b2_ (n := 12) (S := fun w' => w'.cell? ⟨hZ, 0, none⟩ = some (.int .i64 ((ac_ l0 ap).f0)) ∧ w'.cell? ⟨hZ, 1, none⟩ = some (.int .i64 ((ac_ l0 ap).f1))) (ds := []) (M_ 0 12) (by kernel_rfl) rfl rfl (et_ dI.out) (fun hHeld => ?_); refine bz_ aL_.tab7 aL_.bits7 (fun HT_ HW_ => ?_)
         generalize lR.drew = oD at dI HB hHeld ⊢
         refine pu_ 0 16 (M_ 1 11) ?_
         refine pu_ 1 17 (M_ 2 10) ?_
         refine pu_ 5 21 (N_ 12 35) ?_
         refine mB_ 2 18 (N_ 12 39) hHeld ?_
         refine mB_ 6 22 (N_ 12 103) hHeld ?_
         refine on_ 3 (some 19) (N_ 12 111) (fun K hK => ?_)
         refine cs_ Tryz.func53 (by kernel_rfl) rfl #[.int .i64 ((ac_ l0 ap).f0)] (by rfl) rfl rfl (Z43) ?_
         with_reducible refine (be_.calls k1 ((ac_ l0 ap).f0) fX _ A8.out).mono ?_
         rintro e Jj ⟨rfl, hb⟩
         refine ⟨_, rfl, ?_⟩
         refine k2_ (Ye_ dI) (aq_ (ln_) hb) ?_
         clear dI HB
         intro dI HB
         (try clear hb)
         refine hK.out _ _ (et_ dI.out) (fun hHeld => ?_)
         clear hK K
         refine nm_ 19 ?_
         refine pu_ 4 20 (M_ 7 5) ?_
         refine on_ 7 (some 23) (M_ 8 4) (fun K hK => ?_)
         refine cs_ Tryz.func53 (by kernel_rfl) rfl #[.int .i64 ((ac_ l0 ap).f1)] (by rfl) rfl rfl (Z43) ?_
         with_reducible refine (be_.calls k1 ((ac_ l0 ap).f1) iW _ NU.out).mono ?_
         rintro e Nk ⟨rfl, hb⟩
         refine ⟨_, rfl, ?_⟩
         refine k2_ (Ye_ dI) (aq_ (ln_) hb) ?_
         clear dI HB
         intro dI HB
         refine hK.out _ _ (et_ dI.out) (fun hHeld => ?_)
         clear hK K
         refine nm_ 23 ?_
         refine pu_ 8 24 (M_ 9 3) ?_
         refine pu_ 9 25 (M_ 10 2) ?_
         refine pu_ 10 26 (M_ 11 1) ?_
         refine pu_ 11 4 (M_ 12 0) ?_
         refine cw_ (bS_ HT_.out (by kernel_rfl)) ?_
         try go_wp2
         go_roundg k1
         case measure => have := HK1.out; omega
         case rel => exact ⟨(aC ++ (((fX ++ (⟨#[32]⟩ : ByteArray)) ++ iW) ++ (⟨#[10]⟩ : ByteArray))), (wrap64 (ap + 1)), (Z14), (Z14), H', ⟨Z91 HK1⟩, ⟨ln_⟩⟩
        rw [if_neg c13] at H
        exact absurd H (by simp)
       rw [if_neg c12] at H
       exact absurd H (by simp)
      rw [if_neg c11] at H
      exact absurd H (by simp)
     rw [if_neg c9] at H
     exact absurd H (by simp)
    obtain ⟨rfl, rfl⟩ := sp_ H; clear H
    go_wp2
    go_ret2
    exact ⟨Z9, Z2⟩
 obtain ⟨rfl, rfl⟩ := sp_ H; clear H
 go_enter Tryz.func26, Tryz.ntmps26
 go_wp2_with (((with_reducible refine ae_ (f := 36) rfl ?_); refine gl_ 8 Tryz.func36 #[.slice A0 l0.length c0] ?_; (with_reducible refine (aQ_.calls k _ _ l0 false _ ?_ ?_ A2.out).mono ?_); exact (Z15 HR0); exact HC0.out; rintro e Jd ⟨rfl, hb⟩; refine ⟨_, rfl, ?_⟩; refine k1_ Ws_ ?_; clear HB; intro HB; (try clear hb)))
 go_ret2
 exact ⟨Z9, Z2⟩
end Go.Proofs.YtcpliaahkcbinaaGreatDoor.PFnStrokes
