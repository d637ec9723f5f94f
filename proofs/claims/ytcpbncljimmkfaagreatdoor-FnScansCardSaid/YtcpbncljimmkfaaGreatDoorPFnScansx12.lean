-- written by a program of this session: the kit's print, with outer functions of the session's own (wip/ext)
import Derived.Test.YtcpbncljimmkfaaGreatDoorPFnScansx0
import Derived.Test.YtcpbncljimmkfaaGreatDoorPFnScansx2
import Derived.Test.YtcpbncljimmkfaaGreatDoorPFnScansx5
import Derived.Test.YtcpbncljimmkfaaGreatDoorPFnScansx9
namespace Go.Proofs.YtcpbncljimmkfaaGreatDoor.PFnScans
open Go.RowKit Go.Proofs.YtcpbncljimmkfaaGreatDoorW.PrintWords Go.Proofs.YtcpbncljimmkfaaGreatDoorW.PrintLast Go.Proofs.YtcpbncljimmkfaaGreatDoorW.PrintMore
attribute [local go_sem] max2_int min2_int max_two min_two max_three min_three max_four min_four   -- for this text's walks alone
set_option linter.unusedVariables false
set_option linter.unusedSimpArgs false
theorem mo12_ {p : Prop} (h : p := by repeat' first | (with_reducible first | apply ih0 | apply ih0 | apply ih1 | apply ih1 | apply spec_l1Cur_sheet.mono | apply spec_l1Cur_sheet.mono | apply spec_l1Cur_spoilt.mono | apply spec_l1Cur_spoilt.mono | apply spec_scMake.mono | apply spec_scMake.mono | exact LeO.refl _ | exact LeO.none _ | refine LeO.ite ?_ ?_ | refine LeO.bind ?_ (fun _ => ?_)) | exact LeO.none _ | refine LeO.ite ?_ ?_ | refine LeO.bind ?_ (fun _ => ?_)) : p := h

/-! ### spec_l1Cur_spoilt: function 63 -/
mutual
def spec_l1Cur_spoilt.l0 : Nat → ByteArray → ByteArray → Int → List Int → Int → Int → Option (ByteArray × Int × Int)
 | 0, _, _, _, _, _, _ => none
 | k + 1, x1, x2, x7, bx, cr, ct => if x7 > 0 then (spec_l1Cur_spoilt.j1 k x1 x2 x7 (decide ((x1.size : Int) > 0)) bx cr ct) else (spec_l1Cur_spoilt.j1 k x1 x2 x7 false bx cr ct)
def spec_l1Cur_spoilt.j1 : Nat → ByteArray → ByteArray → Int → Bool → List Int → Int → Int → Option (ByteArray × Int × Int)
 | 0, _, _, _, _, _, _, _ => none
 | k + 1, x1, x2, x7, x19, bx, cr, ct => if x19 = true then ((spec_l1Cur_pick.f bx cr ct (x1.size : Int)).bind fun b8 => ((spec_l1Cur_pick.f bx b8.2.1 b8.2.2 (x2.size : Int)).bind fun mq => (if 0 ≤ mq.1 then (if mq.1 < (x2.size : Int) then ((some (([bt x2 mq.1] : List Int) : List Int)).bind fun cJ => ((spec_l1Cur_pick.f bx mq.2.1 mq.2.2 3).bind fun dq => (if dq.1 = 0 then (if 0 ≤ b8.1 then (if b8.1 ≤ (x1.size : Int) then (if (x1.extract 0 (b8.1 : Int).toNat).size + (strOfNums cJ).size ≤ 9223372036854775807 then (if ((x1.extract 0 (b8.1 : Int).toNat) ++ (strOfNums cJ)).size + (x1.extract (b8.1 : Int).toNat x1.size).size ≤ 9223372036854775807 then (spec_l1Cur_spoilt.l0 k (((x1.extract 0 (b8.1 : Int).toNat) ++ (strOfNums cJ)) ++ (x1.extract (b8.1 : Int).toNat x1.size)) x2 (wrap64 (x7 - 1)) bx dq.2.1 dq.2.2) else (none)) else (none)) else (none)) else (none)) else (if dq.1 = 1 then (if 0 ≤ b8.1 then (if b8.1 ≤ (x1.size : Int) then (if (x1.extract 0 (b8.1 : Int).toNat).size + (strOfNums cJ).size ≤ 9223372036854775807 then (if 0 ≤ (wrap64 (b8.1 + 1)) then (if (wrap64 (b8.1 + 1)) ≤ (x1.size : Int) then (if ((x1.extract 0 (b8.1 : Int).toNat) ++ (strOfNums cJ)).size + (x1.extract ((wrap64 (b8.1 + 1)) : Int).toNat x1.size).size ≤ 9223372036854775807 then (spec_l1Cur_spoilt.l0 k (((x1.extract 0 (b8.1 : Int).toNat) ++ (strOfNums cJ)) ++ (x1.extract ((wrap64 (b8.1 + 1)) : Int).toNat x1.size)) x2 (wrap64 (x7 - 1)) bx dq.2.1 dq.2.2) else (none)) else (none)) else (none)) else (none)) else (none)) else (none)) else (if 0 ≤ b8.1 then (if b8.1 ≤ (x1.size : Int) then (if 0 ≤ (wrap64 (b8.1 + 1)) then (if (wrap64 (b8.1 + 1)) ≤ (x1.size : Int) then (if (x1.extract 0 (b8.1 : Int).toNat).size + (x1.extract ((wrap64 (b8.1 + 1)) : Int).toNat x1.size).size ≤ 9223372036854775807 then (spec_l1Cur_spoilt.l0 k ((x1.extract 0 (b8.1 : Int).toNat) ++ (x1.extract ((wrap64 (b8.1 + 1)) : Int).toNat x1.size)) x2 (wrap64 (x7 - 1)) bx dq.2.1 dq.2.2) else (none)) else (none)) else (none)) else (none)) else (none)))))) else (none)) else (none)))) else (some (x1, cr, ct))
end
def spec_l1Cur_spoilt.f (k : Nat) (s0_0 : List Int) (s0_1 : Int) (s0_2 : Int) (a1 : ByteArray) (a2 : ByteArray) : Option (ByteArray × Int × Int) := (spec_l1Cur_pick.f s0_0 s0_1 s0_2 2).bind fun iM => (spec_l1Cur_spoilt.l0 k a1 a2 (wrap64 (1 + iM.1)) s0_0 iM.2.1 iM.2.2)
theorem spec_l1Cur_spoilt.mono_l : ∀ k, (∀ y0 y1 y2 y3 y4 y5, LeO (spec_l1Cur_spoilt.l0 k y0 y1 y2 y3 y4 y5) (spec_l1Cur_spoilt.l0 (k + 1) y0 y1 y2 y3 y4 y5)) ∧ (∀ y0 y1 y2 y3 y4 y5 y6, LeO (spec_l1Cur_spoilt.j1 k y0 y1 y2 y3 y4 y5 y6) (spec_l1Cur_spoilt.j1 (k + 1) y0 y1 y2 y3 y4 y5 y6))
 | 0 => ⟨fun _ _ _ _ _ _ r h => by simp [spec_l1Cur_spoilt.l0] at h, fun _ _ _ _ _ _ _ r h => by simp [spec_l1Cur_spoilt.j1] at h⟩
 | k + 1 => by
  obtain ⟨ih0, ih1⟩ := spec_l1Cur_spoilt.mono_l k
  refine ⟨?_, ?_⟩
  ·intro y0 y1 y2 y3 y4 y5
   unfold spec_l1Cur_spoilt.l0
   exact mo12_
  intro y0 y1 y2 y3 y4 y5 y6
  unfold spec_l1Cur_spoilt.j1
  exact mo12_
theorem spec_l1Cur_spoilt.mono : ∀ a0 a1 a2 a3 a4 k, LeO (spec_l1Cur_spoilt.f k a0 a1 a2 a3 a4) (spec_l1Cur_spoilt.f (k + 1) a0 a1 a2 a3 a4) := by
 intro a0 a1 a2 a3 a4 k
 obtain ⟨ih0, ih1⟩ := spec_l1Cur_spoilt.mono_l k
 unfold spec_l1Cur_spoilt.f
 exact mo12_
set_option maxHeartbeats 8000000 in
set_option maxRecDepth 100000 in
theorem spec_l1Cur_spoilt.calls (k : Nat) (g : Nat) (s0_0 : List Int) (s0_1 : Int) (s0_2 : Int) (a1 : ByteArray) (a2 : ByteArray) (r1 : ByteArray) (r2 : Int) (r3 : Int) (w0 w : World) (hI : IsS49 w0 w g s0_0 s0_1 s0_2) (hB : Below w0.heap.size w0 w) (h : spec_l1Cur_spoilt.f k s0_0 s0_1 s0_2 a1 a2 = some (r1, r2, r3)) :
  Calls Tryz.prog 63 #[.pointer (some ⟨g, 0, none⟩), .string a1, .string a2] w fun e w' => e = .returned (.string r1) ∧ IsS49 w0 w' g s0_0 r2 r3 ∧ Below w0.heap.size w0 w' ∧ KeepBut w w' g none := by
 have HI0 := Aside0.mk hI
 have HK := Aside0.mk (KeepBut.refl w g none)
 have HL := Aside0.mk hB.size
 clear hI
 have HW0 := Aside0.mk hB.size
 have HB := Aside0.mk hB
 clear hB
 have H : ((spec_l1Cur_pick.f s0_0 s0_1 s0_2 2).bind fun iM => (spec_l1Cur_spoilt.l0 k a1 a2 (wrap64 (1 + iM.1)) s0_0 iM.2.1 iM.2.2)) = some (r1, r2, r3) := h
 clear h
 obtain ⟨⟨um, un, uo⟩, A4, H⟩ := bd_ H
 (try dsimp only at H)
 have H' := Aside0.mk H
 clear H
 go_enter Tryz.func63, Tryz.ntmps63
 go_wp2_with (go_at_call 52; (with_reducible refine (spec_l1Cur_pick.calls g s0_0 s0_1 s0_2 2 um un uo w0 _ ?_ ?_ A4.out).mono ?_); exact (Z4 HI0); exact Z6; rintro e w5 ⟨rfl, hi, hb, hk⟩; refine k3_ (KeepBut.trans (Z5) hk (.inl rfl)) (hb) (hi) ?_; clear HK HB HI0; intro HK HB HI0; (try clear hb hk hi))
 repeat (go_quiet (fail); try go_wp2_with (fail))
 go_loopg [1, 7] k (fun kq v1 v7 w' => ∃ (aD : ByteArray) (cl : Int) (aX : Int) (aY : Int), v1 = .string aD ∧ v7 = .int .i64 cl ∧ Aside0 (spec_l1Cur_spoilt.l0 kq aD a2 cl s0_0 aX aY = some (r1, r2, r3)) ∧ Aside0 (kq ≤ k) ∧ Aside0 (IsS49 w0 w' g s0_0 aX aY) ∧ Aside0 (KeepBut w w' g none) ∧ Aside0 (Below w0.heap.size w0 w'))
 case atStart => exact ⟨(a1), (wrap64 (1 + um)), (un), (uo), (Z11), (Z11), H', ⟨Nat.le_refl _⟩, ⟨Z4 HI0⟩, ⟨Z5⟩, ⟨Z6⟩⟩
 case round =>
  clear H'
  obtain ⟨aD, cl, aX, aY, rfl, rfl, HA, HK1, HI0, HK, HB⟩ := hrel
  cases gk with
  | zero => exact absurd HA.out (by simp [spec_l1Cur_spoilt.l0])
  | succ k1 =>
   have H := HA.out
   clear HA
   simp only [spec_l1Cur_spoilt.l0] at H
   have HC6 := Aside0.mk H
   clear H
   go_upto_region 2 with (fail)
   repeat (go_quiet (fail); go_upto_region 2 with (fail))
   go_cut [19] (fun zZ wc => ∃ (kq : Nat) (pM : Bool), zZ = .bool pM ∧ Aside0 (spec_l1Cur_spoilt.j1 kq aD a2 cl pM s0_0 aX aY = some (r1, r2, r3)) ∧ Aside0 (kq ≤ k1) ∧ Aside0 (IsS49 w0 wc g s0_0 aX aY) ∧ Aside0 (KeepBut w wc g none) ∧ Aside0 (Below w0.heap.size w0 wc))
   case first =>
    have H := HC6.out
    clear HC6
    by_cases c7 : cl > 0
    ·rw [if_pos c7] at H
     have cd : decide (0 < cl) = true := decide_eq_true c7
     clear c7
     (first | rw [cd] | (simp only [i64_w, i32_w]; rw [cd]) | skip)
     have H' := Aside0.mk H
     clear H
     go_wp2
     repeat (go_quiet (fail); try go_wp2)
     go_meet
     case rel => exact ⟨_, (decide ((aD.size : Int) > 0)), (Z11), H', ⟨Z60 HK1⟩, ⟨Z4 HI0⟩, ⟨Z5⟩, ⟨Z6⟩⟩
    rw [if_neg c7] at H
    have cd : decide (0 < cl) = false := decide_eq_false c7
    clear c7
    (first | rw [cd] | (simp only [i64_w, i32_w]; rw [cd]) | skip)
    have H' := Aside0.mk H
    clear H
    go_wp2
    repeat (go_quiet (fail); try go_wp2)
    go_meet
    case rel => exact ⟨_, (false), (Z11), H', ⟨Z60 HK1⟩, ⟨Z4 HI0⟩, ⟨Z5⟩, ⟨Z6⟩⟩
   case rest =>
    clear HC6
    obtain ⟨kq, pM, rfl, HA, oK, HI0, HK, HB⟩ := hcut
    cases kq with
    | zero => exact absurd HA.out (by simp [spec_l1Cur_spoilt.j1])
    | succ oO =>
     have H := HA.out
     clear HA
     simp only [spec_l1Cur_spoilt.j1] at H
     by_cases c8 : pM = true
     ·subst c8
      rw [if_pos rfl] at H
      obtain ⟨⟨aU, eS, eT⟩, A9, H⟩ := bd_ H
      (try dsimp only at H)
      obtain ⟨⟨aV, db, dc⟩, oV, H⟩ := bd_ H
      (try dsimp only at H)
      by_cases c11 : 0 ≤ aV
      case neg => rw [if_neg c11] at H; exact absurd H (by simp)
      rw [if_pos c11] at H
      have eM : decide (0 ≤ aV) = true := decide_eq_true c11
      clear c11
      by_cases c12 : aV < (a2.size : Int)
      case neg => rw [if_neg c12] at H; exact absurd H (by simp)
      rw [if_pos c12] at H
      have dp : decide (aV < (a2.size : Int)) = true := decide_eq_true c12
      clear c12
      obtain ⟨cJ, ms⟩ : ∃ y_ : List Int, y_ = (([bt a2 aV] : List Int)) := ⟨_, rfl⟩
      replace H : ((spec_l1Cur_pick.f s0_0 db dc 3).bind fun dq => (if dq.1 = 0 then (if 0 ≤ aU then (if aU ≤ (aD.size : Int) then (if (aD.extract 0 (aU : Int).toNat).size + (strOfNums cJ).size ≤ 9223372036854775807 then (if ((aD.extract 0 (aU : Int).toNat) ++ (strOfNums cJ)).size + (aD.extract (aU : Int).toNat aD.size).size ≤ 9223372036854775807 then (spec_l1Cur_spoilt.l0 oO (((aD.extract 0 (aU : Int).toNat) ++ (strOfNums cJ)) ++ (aD.extract (aU : Int).toNat aD.size)) a2 (wrap64 (cl - 1)) s0_0 dq.2.1 dq.2.2) else (none)) else (none)) else (none)) else (none)) else (if dq.1 = 1 then (if 0 ≤ aU then (if aU ≤ (aD.size : Int) then (if (aD.extract 0 (aU : Int).toNat).size + (strOfNums cJ).size ≤ 9223372036854775807 then (if 0 ≤ (wrap64 (aU + 1)) then (if (wrap64 (aU + 1)) ≤ (aD.size : Int) then (if ((aD.extract 0 (aU : Int).toNat) ++ (strOfNums cJ)).size + (aD.extract ((wrap64 (aU + 1)) : Int).toNat aD.size).size ≤ 9223372036854775807 then (spec_l1Cur_spoilt.l0 oO (((aD.extract 0 (aU : Int).toNat) ++ (strOfNums cJ)) ++ (aD.extract ((wrap64 (aU + 1)) : Int).toNat aD.size)) a2 (wrap64 (cl - 1)) s0_0 dq.2.1 dq.2.2) else (none)) else (none)) else (none)) else (none)) else (none)) else (none)) else (if 0 ≤ aU then (if aU ≤ (aD.size : Int) then (if 0 ≤ (wrap64 (aU + 1)) then (if (wrap64 (aU + 1)) ≤ (aD.size : Int) then (if (aD.extract 0 (aU : Int).toNat).size + (aD.extract ((wrap64 (aU + 1)) : Int).toNat aD.size).size ≤ 9223372036854775807 then (spec_l1Cur_spoilt.l0 oO ((aD.extract 0 (aU : Int).toNat) ++ (aD.extract ((wrap64 (aU + 1)) : Int).toNat aD.size)) a2 (wrap64 (cl - 1)) s0_0 dq.2.1 dq.2.2) else (none)) else (none)) else (none)) else (none)) else (none))))) = some (r1, r2, r3) := by first | (rw [ms]; with_reducible exact H) | (have H2_ := (Option.bind_some _ _).symm.trans H; rw [ms]; with_reducible exact H2_) | (have H2_ := (Option.bind_some _ _).symm.trans H; with_reducible exact H2_) | with_reducible exact H | (rw [ms]; exact H) | exact H
      have dd := Aside0.mk ms
      clear ms
      obtain ⟨⟨es, gh, gi⟩, lu, H⟩ := bd_ H
      (try dsimp only at H)
      by_cases c15 : es = 0
      ·rw [if_pos c15] at H
       have fQ : (es == 0) = true := beq_iff_eq.mpr c15
       have iK : (es != 0) = false := bne_eq_false_iff_eq.mpr c15
       clear c15
       by_cases c16 : 0 ≤ aU
       case neg => rw [if_neg c16] at H; exact absurd H (by simp)
       rw [if_pos c16] at H
       have e6 := eq_true c16
       have pJ : decide (0 ≤ aU) = true := decide_eq_true c16
       clear c16
       by_cases c17 : aU ≤ (aD.size : Int)
       case neg => rw [if_neg c17] at H; exact absurd H (by simp)
       rw [if_pos c17] at H
       have gf := eq_true c17
       have pN : decide (aU ≤ (aD.size : Int)) = true := decide_eq_true c17
       clear c17
       by_cases c18 : (aD.extract 0 (aU : Int).toNat).size + (strOfNums cJ).size ≤ 9223372036854775807
       case neg => rw [if_neg c18] at H; exact absurd H (by simp)
       rw [if_pos c18] at H
       have iL := eq_true c18
       have rT : decide ((aD.extract 0 (aU : Int).toNat).size + (strOfNums cJ).size ≤ 9223372036854775807) = true := decide_eq_true c18
       try have c18b2 : (9223372036854775807 < (aD.extract 0 (aU : Int).toNat).size + (strOfNums cJ).size) = False := eq_false (Nat.not_lt.2 c18)
       have iN := eq_true (of_decide_eq_true (Z8) : 0 ≤ aU)
       have g4 := eq_true (of_decide_eq_true (Z8) : aU ≤ (aD.size : Int))
       by_cases c21 : ((aD.extract 0 (aU : Int).toNat) ++ (strOfNums cJ)).size + (aD.extract (aU : Int).toNat aD.size).size ≤ 9223372036854775807
       case neg => rw [if_neg c21] at H; exact absurd H (by simp)
       rw [if_pos c21] at H
       have mg := eq_true c21
       have c21b1 : decide (((aD.extract 0 (aU : Int).toNat) ++ (strOfNums cJ)).size + (aD.extract (aU : Int).toNat aD.size).size ≤ 9223372036854775807) = true := decide_eq_true c21
       try have c21b2 : (9223372036854775807 < ((aD.extract 0 (aU : Int).toNat) ++ (strOfNums cJ)).size + (aD.extract (aU : Int).toNat aD.size).size) = False := eq_false (Nat.not_lt.2 c21)
       have H' := Aside0.mk H
       clear H
       go_wp2_with (first | (go_at_call 52; (with_reducible refine (spec_l1Cur_pick.calls g s0_0 aX aY (aD.size : Int) aU eS eT w0 _ ?_ ?_ A9.out).mono ?_); exact (Z4 HI0); exact Z6; rintro e xX ⟨rfl, hi, hb, hk⟩; refine k3_ (KeepBut.trans (Z5) hk (.inl rfl)) (hb) (hi) ?_; clear HK HB HI0; intro HK HB HI0; (try clear hb hk hi)) | (go_at_call 52; (with_reducible refine (spec_l1Cur_pick.calls g s0_0 eS eT (a2.size : Int) aV db dc w0 _ ?_ ?_ oV.out).mono ?_); exact (Z4 HI0); exact Z6; rintro e mm ⟨rfl, hi, hb, hk⟩; refine k3_ (KeepBut.trans (Z5) hk (.inl rfl)) (hb) (hi) ?_; clear HK HB HI0; intro HK HB HI0; (try clear hb hk hi); have fS : 0 ≤ (aV : Int) := of_decide_eq_true (Z8); have fT : aV < (a2.size : Int) := of_decide_eq_true (Z8); have hx13 := bt_at a2 aV; replace fS := eq_true fS; replace fT := eq_true fT) | ((with_reducible refine gate_dst (N := 32) rfl ?_); (try (refine gate_guard (by rfl) ?_; dsimp only)); refine Kd.R_lit (Kd.int .u8) _ 5 ?hg (N := 32) ?hd (xs := ([bt a2 aV] : List Int)) (inner := [.int .u8 (bt a2 aV)]) (ok := fun _ => True) (okp := fun _ => True) ?hr ?hp (fun _ hk => hk) trivial (Below.refl _ _) (Nat.le_refl _) (by simp) ?_; (case hd => rfl); (case hg => rfl); (case hr => exact Z41); (case hp => exact (Reps.one (show Kd.M (Kd.int .u8) _ _ _ (bt a2 aV) [.int .u8 (bt a2 aV)] from rfl) (Reps.none _ _))); intro mt mn ho25 hb hg_ hnew_; clear hg_ hnew_; (first | rw [← dd.out] at ho25 | (simp only [Int.reduceToNat] at ho25; rw [← dd.out] at ho25)); refine k4_ (Kd.R_lower ho25 (keep_size (w := w) (g := g) (row := none) (Z5))) (IsS49.below (Z4 HI0) hb) (KeepBut.trans (Z5) (KeepBut.of_below hb g none) (.inl rfl)) (below_step (Z6) hb) ?_; clear HI0 HK HB; intro bh HI0 HK HB; clear hb ho25; have hcv26 := own_string (P := Tryz.prog) Tryz.underlying22 Tryz.underlying5 Tryz.underlying9 (Kd.own_of_R bh.out)) | (go_at_call 52; (with_reducible refine (spec_l1Cur_pick.calls g s0_0 db dc 3 es gh gi w0 _ ?_ ?_ lu.out).mono ?_); exact (Z4 HI0); exact Z6; rintro e zQ ⟨rfl, hi, hb, hk⟩; refine k4_ (Kd.R_mono (Kd.R_keep (IsS49.apart (show IsS49 w0 _ g s0_0 db dc from Z4 HI0) (Z3 bh) (by decide)) hk (fun _ h => h.2)) (fun _ h => h.1)) (KeepBut.trans (Z5) hk (.inl rfl)) (hb) (hi) ?_; clear bh HK HB HI0; intro bh HK HB HI0; (try clear hb hk hi)))
       repeat (go_quiet (fail); try go_wp2_with (fail))
       go_roundg oO
       case measure => have := HK1.out; have := oK.out; omega
       case rel => exact ⟨(((aD.extract 0 (aU : Int).toNat) ++ (strOfNums cJ)) ++ (aD.extract (aU : Int).toNat aD.size)), (wrap64 (cl - 1)), (gh), (gi), (Z11), (Z11), H', ⟨by have := HK1.out; have := oK.out; omega⟩, ⟨Z4 HI0⟩, ⟨Z5⟩, ⟨Z6⟩⟩
      rw [if_neg c15] at H
      have fQ : (es == 0) = false := beq_eq_false_iff_ne.mpr c15
      have iK : (es != 0) = true := bne_iff_ne.mpr c15
      by_cases c28 : es = 1
      ·rw [if_pos c28] at H
       have la : (es == 1) = true := beq_iff_eq.mpr c28
       have rU : (es != 1) = false := bne_eq_false_iff_eq.mpr c28
       clear c28
       by_cases c29 : 0 ≤ aU
       case neg => rw [if_neg c29] at H; exact absurd H (by simp)
       rw [if_pos c29] at H
       have mu := eq_true c29
       have c29b1 : decide (0 ≤ aU) = true := decide_eq_true c29
       clear c29
       by_cases c30 : aU ≤ (aD.size : Int)
       case neg => rw [if_neg c30] at H; exact absurd H (by simp)
       rw [if_pos c30] at H
       have pO := eq_true c30
       have c30b1 : decide (aU ≤ (aD.size : Int)) = true := decide_eq_true c30
       clear c30
       by_cases c31 : (aD.extract 0 (aU : Int).toNat).size + (strOfNums cJ).size ≤ 9223372036854775807
       case neg => rw [if_neg c31] at H; exact absurd H (by simp)
       rw [if_pos c31] at H
       have lb := eq_true c31
       have c31b1 : decide ((aD.extract 0 (aU : Int).toNat).size + (strOfNums cJ).size ≤ 9223372036854775807) = true := decide_eq_true c31
       try have c31b2 : (9223372036854775807 < (aD.extract 0 (aU : Int).toNat).size + (strOfNums cJ).size) = False := eq_false (Nat.not_lt.2 c31)
       obtain ⟨gO, hji32⟩ : ∃ j_ : Int, (wrap64 (aU + 1)) = j_ := ⟨_, rfl⟩
       replace H : (if 0 ≤ (gO) then (if (gO) ≤ (aD.size : Int) then (if ((aD.extract 0 (aU : Int).toNat) ++ (strOfNums cJ)).size + (aD.extract ((gO) : Int).toNat aD.size).size ≤ 9223372036854775807 then (spec_l1Cur_spoilt.l0 oO (((aD.extract 0 (aU : Int).toNat) ++ (strOfNums cJ)) ++ (aD.extract ((gO) : Int).toNat aD.size)) a2 (wrap64 (cl - 1)) s0_0 gh gi) else (none)) else (none)) else (none)) = some (r1, r2, r3) := by first | (rw [hji32] at H; exact H) | (simp only [hji32] at H ⊢; exact H)
       (try rw [hji32] at A9)
       (try rw [hji32] at oV)
       (try rw [hji32] at lu)
       have hji32w : (IntKind.i64.wrap (aU + 1)) = gO := (i64_w _).trans hji32
       by_cases c33 : 0 ≤ (gO)
       case neg => rw [if_neg c33] at H; exact absurd H (by simp)
       rw [if_pos c33] at H
       have iO := eq_true c33
       have vQ : decide (0 ≤ (gO)) = true := decide_eq_true c33
       clear c33
       by_cases c34 : (gO) ≤ (aD.size : Int)
       case neg => rw [if_neg c34] at H; exact absurd H (by simp)
       rw [if_pos c34] at H
       have vR := eq_true c34
       have c34b1 : decide ((gO) ≤ (aD.size : Int)) = true := decide_eq_true c34
       clear c34
       by_cases c35 : ((aD.extract 0 (aU : Int).toNat) ++ (strOfNums cJ)).size + (aD.extract ((gO) : Int).toNat aD.size).size ≤ 9223372036854775807
       case neg => rw [if_neg c35] at H; exact absurd H (by simp)
       rw [if_pos c35] at H
       have c35b0 := eq_true c35
       have c35b1 : decide (((aD.extract 0 (aU : Int).toNat) ++ (strOfNums cJ)).size + (aD.extract ((gO) : Int).toNat aD.size).size ≤ 9223372036854775807) = true := decide_eq_true c35
       try have c35b2 : (9223372036854775807 < ((aD.extract 0 (aU : Int).toNat) ++ (strOfNums cJ)).size + (aD.extract ((gO) : Int).toNat aD.size).size) = False := eq_false (Nat.not_lt.2 c35)
       have H' := Aside0.mk H
       clear H
       go_wp2_with (first | (go_at_call 52; (with_reducible refine (spec_l1Cur_pick.calls g s0_0 aX aY (aD.size : Int) aU eS eT w0 _ ?_ ?_ A9.out).mono ?_); exact (Z4 HI0); exact Z6; rintro e qA ⟨rfl, hi, hb, hk⟩; refine k3_ (KeepBut.trans (Z5) hk (.inl rfl)) (hb) (hi) ?_; clear HK HB HI0; intro HK HB HI0; (try clear hb hk hi)) | (go_at_call 52; (with_reducible refine (spec_l1Cur_pick.calls g s0_0 eS eT (a2.size : Int) aV db dc w0 _ ?_ ?_ oV.out).mono ?_); exact (Z4 HI0); exact Z6; rintro e vS ⟨rfl, hi, hb, hk⟩; refine k3_ (KeepBut.trans (Z5) hk (.inl rfl)) (hb) (hi) ?_; clear HK HB HI0; intro HK HB HI0; (try clear hb hk hi); have fS : 0 ≤ (aV : Int) := of_decide_eq_true (Z8); have fT : aV < (a2.size : Int) := of_decide_eq_true (Z8); have hx13 := bt_at a2 aV; replace fS := eq_true fS; replace fT := eq_true fT) | ((with_reducible refine gate_dst (N := 32) rfl ?_); (try (refine gate_guard (by rfl) ?_; dsimp only)); refine Kd.R_lit (Kd.int .u8) _ 5 ?hg (N := 32) ?hd (xs := ([bt a2 aV] : List Int)) (inner := [.int .u8 (bt a2 aV)]) (ok := fun _ => True) (okp := fun _ => True) ?hr ?hp (fun _ hk => hk) trivial (Below.refl _ _) (Nat.le_refl _) (by simp) ?_; (case hd => rfl); (case hg => rfl); (case hr => exact Z41); (case hp => exact (Reps.one (show Kd.M (Kd.int .u8) _ _ _ (bt a2 aV) [.int .u8 (bt a2 aV)] from rfl) (Reps.none _ _))); intro mt ru ho39 hb hg_ hnew_; clear hg_ hnew_; (first | rw [← dd.out] at ho39 | (simp only [Int.reduceToNat] at ho39; rw [← dd.out] at ho39)); refine k4_ (Kd.R_lower ho39 (keep_size (w := w) (g := g) (row := none) (Z5))) (IsS49.below (Z4 HI0) hb) (KeepBut.trans (Z5) (KeepBut.of_below hb g none) (.inl rfl)) (below_step (Z6) hb) ?_; clear HI0 HK HB; intro bh HI0 HK HB; clear hb ho39; have hcv40 := own_string (P := Tryz.prog) Tryz.underlying22 Tryz.underlying5 Tryz.underlying9 (Kd.own_of_R bh.out)) | (go_at_call 52; (with_reducible refine (spec_l1Cur_pick.calls g s0_0 db dc 3 es gh gi w0 _ ?_ ?_ lu.out).mono ?_); exact (Z4 HI0); exact Z6; rintro e z6 ⟨rfl, hi, hb, hk⟩; refine k4_ (Kd.R_mono (Kd.R_keep (IsS49.apart (show IsS49 w0 _ g s0_0 db dc from Z4 HI0) (Z3 bh) (by decide)) hk (fun _ h => h.2)) (fun _ h => h.1)) (KeepBut.trans (Z5) hk (.inl rfl)) (hb) (hi) ?_; clear bh HK HB HI0; intro bh HK HB HI0; (try clear hb hk hi)))
       repeat (go_quiet (fail); try go_wp2_with (fail))
       go_roundg oO
       case measure => have := HK1.out; have := oK.out; omega
       case rel => exact ⟨(((aD.extract 0 (aU : Int).toNat) ++ (strOfNums cJ)) ++ (aD.extract ((gO) : Int).toNat aD.size)), (wrap64 (cl - 1)), (gh), (gi), (by first | rfl | (simp; done) | (simp only [← hji32] <;> (first | rfl | simp)) | (simp [*]; done)), (Z11), H', ⟨by have := HK1.out; have := oK.out; omega⟩, ⟨Z4 HI0⟩, ⟨Z5⟩, ⟨Z6⟩⟩
      rw [if_neg c28] at H
      have la : (es == 1) = false := beq_eq_false_iff_ne.mpr c28
      have rU : (es != 1) = true := bne_iff_ne.mpr c28
      by_cases c42 : 0 ≤ aU
      case neg => rw [if_neg c42] at H; exact absurd H (by simp)
      rw [if_pos c42] at H
      have mv := eq_true c42
      have pP : decide (0 ≤ aU) = true := decide_eq_true c42
      clear c42
      by_cases c43 : aU ≤ (aD.size : Int)
      case neg => rw [if_neg c43] at H; exact absurd H (by simp)
      rw [if_pos c43] at H
      have c43b0 := eq_true c43
      have c43b1 : decide (aU ≤ (aD.size : Int)) = true := decide_eq_true c43
      clear c43
      obtain ⟨gP, hji44⟩ : ∃ j_ : Int, (wrap64 (aU + 1)) = j_ := ⟨_, rfl⟩
      replace H : (if 0 ≤ (gP) then (if (gP) ≤ (aD.size : Int) then (if (aD.extract 0 (aU : Int).toNat).size + (aD.extract ((gP) : Int).toNat aD.size).size ≤ 9223372036854775807 then (spec_l1Cur_spoilt.l0 oO ((aD.extract 0 (aU : Int).toNat) ++ (aD.extract ((gP) : Int).toNat aD.size)) a2 (wrap64 (cl - 1)) s0_0 gh gi) else (none)) else (none)) else (none)) = some (r1, r2, r3) := by first | (rw [hji44] at H; exact H) | (simp only [hji44] at H ⊢; exact H)
      (try rw [hji44] at A9)
      (try rw [hji44] at oV)
      (try rw [hji44] at lu)
      have hji44w : (IntKind.i64.wrap (aU + 1)) = gP := (i64_w _).trans hji44
      by_cases c45 : 0 ≤ (gP)
      case neg => rw [if_neg c45] at H; exact absurd H (by simp)
      rw [if_pos c45] at H
      have c45b0 := eq_true c45
      have c45b1 : decide (0 ≤ (gP)) = true := decide_eq_true c45
      clear c45
      by_cases c46 : (gP) ≤ (aD.size : Int)
      case neg => rw [if_neg c46] at H; exact absurd H (by simp)
      rw [if_pos c46] at H
      have c46b0 := eq_true c46
      have c46b1 : decide ((gP) ≤ (aD.size : Int)) = true := decide_eq_true c46
      clear c46
      by_cases c47 : (aD.extract 0 (aU : Int).toNat).size + (aD.extract ((gP) : Int).toNat aD.size).size ≤ 9223372036854775807
      case neg => rw [if_neg c47] at H; exact absurd H (by simp)
      rw [if_pos c47] at H
      have c47b0 := eq_true c47
      have c47b1 : decide ((aD.extract 0 (aU : Int).toNat).size + (aD.extract ((gP) : Int).toNat aD.size).size ≤ 9223372036854775807) = true := decide_eq_true c47
      try have c47b2 : (9223372036854775807 < (aD.extract 0 (aU : Int).toNat).size + (aD.extract ((gP) : Int).toNat aD.size).size) = False := eq_false (Nat.not_lt.2 c47)
      have H' := Aside0.mk H
      clear H
      go_wp2_with (first | (go_at_call 52; (with_reducible refine (spec_l1Cur_pick.calls g s0_0 aX aY (aD.size : Int) aU eS eT w0 _ ?_ ?_ A9.out).mono ?_); exact (Z4 HI0); exact Z6; rintro e z7 ⟨rfl, hi, hb, hk⟩; refine k3_ (KeepBut.trans (Z5) hk (.inl rfl)) (hb) (hi) ?_; clear HK HB HI0; intro HK HB HI0; (try clear hb hk hi)) | (go_at_call 52; (with_reducible refine (spec_l1Cur_pick.calls g s0_0 eS eT (a2.size : Int) aV db dc w0 _ ?_ ?_ oV.out).mono ?_); exact (Z4 HI0); exact Z6; rintro e zR ⟨rfl, hi, hb, hk⟩; refine k3_ (KeepBut.trans (Z5) hk (.inl rfl)) (hb) (hi) ?_; clear HK HB HI0; intro HK HB HI0; (try clear hb hk hi); have fS : 0 ≤ (aV : Int) := of_decide_eq_true (Z8); have fT : aV < (a2.size : Int) := of_decide_eq_true (Z8); have hx13 := bt_at a2 aV; replace fS := eq_true fS; replace fT := eq_true fT) | ((with_reducible refine gate_dst (N := 32) rfl ?_); (try (refine gate_guard (by rfl) ?_; dsimp only)); refine Kd.R_lit (Kd.int .u8) _ 5 ?hg (N := 32) ?hd (xs := ([bt a2 aV] : List Int)) (inner := [.int .u8 (bt a2 aV)]) (ok := fun _ => True) (okp := fun _ => True) ?hr ?hp (fun _ hk => hk) trivial (Below.refl _ _) (Nat.le_refl _) (by simp) ?_; (case hd => rfl); (case hg => rfl); (case hr => exact Z41); (case hp => exact (Reps.one (show Kd.M (Kd.int .u8) _ _ _ (bt a2 aV) [.int .u8 (bt a2 aV)] from rfl) (Reps.none _ _))); intro mt rV ho51 hb hg_ hnew_; clear hg_ hnew_; (first | rw [← dd.out] at ho51 | (simp only [Int.reduceToNat] at ho51; rw [← dd.out] at ho51)); refine k4_ (Kd.R_lower ho51 (keep_size (w := w) (g := g) (row := none) (Z5))) (IsS49.below (Z4 HI0) hb) (KeepBut.trans (Z5) (KeepBut.of_below hb g none) (.inl rfl)) (below_step (Z6) hb) ?_; clear HI0 HK HB; intro bh HI0 HK HB; clear hb ho51; have hcv52 := own_string (P := Tryz.prog) Tryz.underlying22 Tryz.underlying5 Tryz.underlying9 (Kd.own_of_R bh.out)) | (go_at_call 52; (with_reducible refine (spec_l1Cur_pick.calls g s0_0 db dc 3 es gh gi w0 _ ?_ ?_ lu.out).mono ?_); exact (Z4 HI0); exact Z6; rintro e rW ⟨rfl, hi, hb, hk⟩; refine k4_ (Kd.R_mono (Kd.R_keep (IsS49.apart (show IsS49 w0 _ g s0_0 db dc from Z4 HI0) (Z3 bh) (by decide)) hk (fun _ h => h.2)) (fun _ h => h.1)) (KeepBut.trans (Z5) hk (.inl rfl)) (hb) (hi) ?_; clear bh HK HB HI0; intro bh HK HB HI0; (try clear hb hk hi)))
      repeat (go_quiet (fail); try go_wp2_with (fail))
      go_roundg oO
      case measure => have := HK1.out; have := oK.out; omega
      case rel => exact ⟨((aD.extract 0 (aU : Int).toNat) ++ (aD.extract ((gP) : Int).toNat aD.size)), (wrap64 (cl - 1)), (gh), (gi), (by first | rfl | (simp; done) | (simp only [← hji44] <;> (first | rfl | simp)) | (simp [*]; done)), (Z11), H', ⟨by have := HK1.out; have := oK.out; omega⟩, ⟨Z4 HI0⟩, ⟨Z5⟩, ⟨Z6⟩⟩
     replace c8 := Bool.eq_false_iff.mpr c8
     subst c8
     rw [if_neg (show ¬ (false = true) by decide)] at H
     simp only [Option.some.injEq, Prod.mk.injEq] at H
     obtain ⟨rfl, rfl, rfl⟩ := H
     go_wp2
     repeat (go_quiet (fail); try go_wp2)
     go_ret
     exact ⟨Z9, Z4 HI0, Z6, Z5⟩

/-! ### spec_l1Cur_scan: function 40 -/
mutual
def spec_l1Cur_scan.j0 : Nat → Int → Int → List Int → Int → Int → Option (List ByteArray × Int × Int)
 | 0, _, _, _, _, _ => none
 | k + 1, x3, x4, bx, cr, ct => (spec_l1Cur_sheet.f k bx cr ct).bind fun rX => ((spec_scMake.f k rX.1 x3 x4).bind fun uq => ((spec_l1Cur_pick.f bx rX.2.1 rX.2.2 4).bind fun rY => (spec_l1Cur_scan.l0 k x3 x4 uq rY.1 bx rY.2.1 rY.2.2)))
def spec_l1Cur_scan.l0 : Nat → Int → Int → List ByteArray → Int → List Int → Int → Int → Option (List ByteArray × Int × Int)
 | 0, _, _, _, _, _, _, _ => none
 | k + 1, x3, x4, x5, x6, bx, cr, ct => if x6 > 0 then ((spec_l1Cur_pick.f bx cr ct x4).bind fun g5 => (if 0 ≤ g5.1 then (if g5.1 < (x5.length : Int) then ((spec_l1Cur_spoilt.f k bx g5.2.1 g5.2.2 (rdOf ByteArray.empty x5 g5.1) (⟨#[46, 111, 63]⟩ : ByteArray)).bind fun mw => ((some (x5.set (g5.1 : Int).toNat mw.1 : List ByteArray)).bind fun eU => (if ((rdOf ByteArray.empty eU g5.1).size : Int) = x3 then (spec_l1Cur_scan.l0 k x3 x4 eU (wrap64 (x6 - 1)) bx mw.2.1 mw.2.2) else ((spec_scMake.f k ([] : List (S55)) x3 1).bind fun e9 => (if 0 < (e9.length : Int) then (spec_l1Cur_scan.l0 k x3 x4 (eU.set (g5.1 : Int).toNat (rdOf ByteArray.empty e9 0)) (wrap64 (x6 - 1)) bx mw.2.1 mw.2.2) else (none)))))) else (none)) else (none))) else ((spec_l1Cur_pick.f bx cr ct 30).bind fun dr => (if dr.1 = 0 then ((spec_l1Cur_pick.f bx dr.2.1 dr.2.2 x4).bind fun iP => (if 0 ≤ iP.1 then (if iP.1 < (x5.length : Int) then (if (rdOf ByteArray.empty x5 iP.1).size + 1 ≤ 9223372036854775807 then (some ((x5.set (iP.1 : Int).toNat ((rdOf ByteArray.empty x5 iP.1) ++ (⟨#[46]⟩ : ByteArray))), iP.2.1, iP.2.2)) else (none)) else (none)) else (none))) else (if dr.1 = 1 then (if 0 < (x5.length : Int) then ((spec_l1Cur_spoilt.f k bx dr.2.1 dr.2.2 (rdOf ByteArray.empty x5 0) (⟨#[120, 79, 32]⟩ : ByteArray)).bind fun rZ => (some ((x5.set (0 : Int).toNat rZ.1), rZ.2.1, rZ.2.2))) else (none)) else (if dr.1 = 2 then (some (([] : List ByteArray), dr.2.1, dr.2.2)) else (if dr.1 = 3 then ((spec_l1Cur_pick.f bx dr.2.1 dr.2.2 2).bind fun r0 => ((spec_scMake.f k ([] : List (S55)) 3 (wrap64 (60 + r0.1))).bind fun xY => (some (xY, r0.2.1, r0.2.2)))) else (if dr.1 = 4 then ((spec_l1Cur_pick.f bx dr.2.1 dr.2.2 2).bind fun r6 => ((spec_scMake.f k ([] : List (S55)) (wrap64 (20 + r6.1)) 2).bind fun xZ => (some (xZ, r6.2.1, r6.2.2)))) else (some (x5, dr.2.1, dr.2.2))))))))
end
def spec_l1Cur_scan.f (k : Nat) (s0_0 : List Int) (s0_1 : Int) (s0_2 : Int) : Option (List ByteArray × Int × Int) := (spec_l1Cur_pick.f s0_0 s0_1 s0_2 8).bind fun iQ => ((spec_l1Cur_pick.f s0_0 iQ.2.1 iQ.2.2 10).bind fun iR => ((spec_l1Cur_one.f s0_0 iR.2.1 iR.2.2 20).bind fun fa => (if fa.1 = true then (spec_l1Cur_scan.j0 k 20 60 s0_0 fa.2.1 fa.2.2) else (spec_l1Cur_scan.j0 k (wrap64 (1 + iQ.1)) (wrap64 (1 + iR.1)) s0_0 fa.2.1 fa.2.2))))
theorem spec_l1Cur_scan.mono_l : ∀ k, (∀ y0 y1 y2 y3 y4, LeO (spec_l1Cur_scan.j0 k y0 y1 y2 y3 y4) (spec_l1Cur_scan.j0 (k + 1) y0 y1 y2 y3 y4)) ∧ (∀ y0 y1 y2 y3 y4 y5 y6, LeO (spec_l1Cur_scan.l0 k y0 y1 y2 y3 y4 y5 y6) (spec_l1Cur_scan.l0 (k + 1) y0 y1 y2 y3 y4 y5 y6))
 | 0 => ⟨fun _ _ _ _ _ r h => by simp [spec_l1Cur_scan.j0] at h, fun _ _ _ _ _ _ _ r h => by simp [spec_l1Cur_scan.l0] at h⟩
 | k + 1 => by
  obtain ⟨ih0, ih1⟩ := spec_l1Cur_scan.mono_l k
  refine ⟨?_, ?_⟩
  ·intro y0 y1 y2 y3 y4
   unfold spec_l1Cur_scan.j0
   exact mo12_
  intro y0 y1 y2 y3 y4 y5 y6
  unfold spec_l1Cur_scan.l0
  exact mo12_
theorem spec_l1Cur_scan.mono : ∀ a0 a1 a2 k, LeO (spec_l1Cur_scan.f k a0 a1 a2) (spec_l1Cur_scan.f (k + 1) a0 a1 a2) := by
 intro a0 a1 a2 k
 obtain ⟨ih0, ih1⟩ := spec_l1Cur_scan.mono_l k
 unfold spec_l1Cur_scan.f
 exact mo12_
set_option maxHeartbeats 8000000 in
set_option maxRecDepth 100000 in
theorem spec_l1Cur_scan.calls (k : Nat) (g : Nat) (s0_0 : List Int) (s0_1 : Int) (s0_2 : Int) (r1 : List ByteArray) (r2 : Int) (r3 : Int) (w0 w : World) (hI : IsS49 w0 w g s0_0 s0_1 s0_2) (hB : Below w0.heap.size w0 w) (h : spec_l1Cur_scan.f k s0_0 s0_1 s0_2 = some (r1, r2, r3)) :
  Calls Tryz.prog 40 #[.pointer (some ⟨g, 0, none⟩)] w fun e w' => ∃ v0_ : Value, e = .returned (v0_) ∧ Kd.R Kd.string 9 w' w.heap.size (fun _ => True) v0_ r1 ∧ IsS49 w0 w' g s0_0 r2 r3 ∧ Below w0.heap.size w0 w' ∧ KeepBut w w' g none := by
 have HI0 := Aside0.mk hI
 have HK := Aside0.mk (KeepBut.refl w g none)
 have HL := Aside0.mk hB.size
 clear hI
 have HW0 := Aside0.mk hB.size
 have HB := Aside0.mk hB
 clear hB
 have H : ((spec_l1Cur_pick.f s0_0 s0_1 s0_2 8).bind fun iQ => ((spec_l1Cur_pick.f s0_0 iQ.2.1 iQ.2.2 10).bind fun iR => ((spec_l1Cur_one.f s0_0 iR.2.1 iR.2.2 20).bind fun fa => (if fa.1 = true then (spec_l1Cur_scan.j0 k 20 60 s0_0 fa.2.1 fa.2.2) else (spec_l1Cur_scan.j0 k (wrap64 (1 + iQ.1)) (wrap64 (1 + iR.1)) s0_0 fa.2.1 fa.2.2))))) = some (r1, r2, r3) := h
 clear h
 obtain ⟨⟨z8, z9, Aa⟩, A2, H⟩ := bd_ H
 (try dsimp only at H)
 obtain ⟨⟨Ab, Ac, Ad⟩, A3, H⟩ := bd_ H
 (try dsimp only at H)
 obtain ⟨⟨Ae, ur, us⟩, A4, H⟩ := bd_ H
 (try dsimp only at H)
 have HC5 := Aside0.mk H
 clear H
 go_enter Tryz.func40, Tryz.ntmps40
 go_upto_if 15 with (first | ((with_reducible refine gate_callee (f := 52) rfl ?_); refine gl_ 9 Tryz.func52 #[.pointer (some ⟨g, 0, none⟩), .int .i64 8] ?_; (with_reducible refine (spec_l1Cur_pick.calls g s0_0 s0_1 s0_2 8 z8 z9 Aa w0 _ ?_ ?_ A2.out).mono ?_); exact (Z4 HI0); exact Z6; rintro e w6 ⟨rfl, hi, hb, hk⟩; refine ⟨_, rfl, ?_⟩; refine k3_ (KeepBut.trans (Z5) hk (.inl rfl)) (hb) (hi) ?_; clear HK HB HI0; intro HK HB HI0; (try clear hb hk hi)) | ((with_reducible refine gate_callee (f := 52) rfl ?_); refine gl_ 12 Tryz.func52 #[.pointer (some ⟨g, 0, none⟩), .int .i64 10] ?_; (with_reducible refine (spec_l1Cur_pick.calls g s0_0 z9 Aa 10 Ab Ac Ad w0 _ ?_ ?_ A3.out).mono ?_); exact (Z4 HI0); exact Z6; rintro e w7 ⟨rfl, hi, hb, hk⟩; refine ⟨_, rfl, ?_⟩; refine k3_ (KeepBut.trans (Z5) hk (.inl rfl)) (hb) (hi) ?_; clear HK HB HI0; intro HK HB HI0; (try clear hb hk hi)) | ((with_reducible refine gate_callee (f := 42) rfl ?_); refine gl_ 15 Tryz.func42 #[.pointer (some ⟨g, 0, none⟩), .int .i64 20] ?_; (with_reducible refine (spec_l1Cur_one.calls g s0_0 Ac Ad 20 Ae ur us w0 _ ?_ ?_ A4.out).mono ?_); exact (Z4 HI0); exact Z6; rintro e w8 ⟨rfl, hi, hb, hk⟩; refine ⟨_, rfl, ?_⟩; refine k3_ (KeepBut.trans (Z5) hk (.inl rfl)) (hb) (hi) ?_; clear HK HB HI0; intro HK HB HI0; (try clear hb hk hi)))
 (try simp only [Act.put, List.setIfInBounds_toArray, List.set_cons_zero, List.set_cons_succ])
 go_cut [3, 4] (fun v3 v4 wc => ∃ (kq : Nat) (eV : Int) (fV : Int), v3 = .int .i64 eV ∧ v4 = .int .i64 fV ∧ Aside0 (spec_l1Cur_scan.j0 kq eV fV s0_0 ur us = some (r1, r2, r3)) ∧ Aside0 (kq ≤ k) ∧ Aside0 (IsS49 w0 wc g s0_0 ur us) ∧ Aside0 (KeepBut w wc g none) ∧ Aside0 (Below w0.heap.size w0 wc))
 case first =>
  have H := HC5.out
  clear HC5
  by_cases c9 : Ae = true
  ·subst c9
   rw [if_pos rfl] at H
   have H' := Aside0.mk H
   clear H
   go_wp2
   go_meet
   case rel => exact ⟨_, (20), (60), (Z11), (Z11), H', ⟨Z69⟩, ⟨Z4 HI0⟩, ⟨Z5⟩, ⟨Z6⟩⟩
  replace c9 := Bool.eq_false_iff.mpr c9
  subst c9
  rw [if_neg (show ¬ (false = true) by decide)] at H
  have H' := Aside0.mk H
  clear H
  go_wp2
  go_meet
  case rel => exact ⟨_, (wrap64 (1 + z8)), (wrap64 (1 + Ab)), (Z11), (Z11), H', ⟨Z69⟩, ⟨Z4 HI0⟩, ⟨Z5⟩, ⟨Z6⟩⟩
 case rest =>
  clear HC5
  obtain ⟨kq, eV, fV, rfl, rfl, HA, ud, HI0, HK, HB⟩ := hcut
  cases kq with
  | zero => exact absurd HA.out (by simp [spec_l1Cur_scan.j0])
  | succ vT =>
   have H := HA.out
   clear HA
   simp only [spec_l1Cur_scan.j0] at H
   obtain ⟨⟨ya, ut, uu⟩, oV, H⟩ := bd_ H
   (try dsimp only at H)
   obtain ⟨uq, A11, H⟩ := bd_ H
   (try dsimp only at H)
   obtain ⟨⟨Ag, Ah, Ai⟩, vU, H⟩ := bd_ H
   (try dsimp only at H)
   have H' := Aside0.mk H
   clear H
   go_wp2_with (first | ((with_reducible refine gate_callee (f := 51) rfl ?_); refine gl_ 17 Tryz.func51 #[.pointer (some ⟨g, 0, none⟩)] ?_; (with_reducible refine (spec_l1Cur_sheet.calls vT g s0_0 ur us ya ut uu w0 _ ?_ ?_ oV.out).mono ?_); exact (Z4 HI0); exact Z6; rintro e pQ ⟨v470, rfl, ho0, hi, hb, hk⟩; refine ⟨_, rfl, ?_⟩; refine k4_ (Kd.R_lower ho0 (keep_size (w := w) (g := g) (row := none) (Z5))) (KeepBut.trans (Z5) hk (.inl rfl)) (hb) (hi) ?_; clear HK HB HI0; intro gj HK HB HI0; (try clear hb hk hi ho0); obtain ⟨Aj, Ak, yb⟩ := Kd.R_slice gj.out; subst yb) | ((with_reducible refine gate_callee (f := 34) rfl ?_); refine gl_ 20 Tryz.func34 #[.slice Aj ya.length Ak, .int .i64 eV, .int .i64 fV] ?_; (with_reducible refine (spec_scMake.calls vT _ _ ya eV fV uq _ ?_ ?_ A11.out).mono ?_); exact (Z1 gj); exact (Kd.R_reads' gj.out).2.1; rintro e il ⟨v475, rfl, ho0, hb⟩; refine ⟨_, rfl, ?_⟩; refine k5_ (Ya_ gj) (Kd.R_lower ho0 (keep_size (w := w) (g := g) (row := none) (Z5))) (IsS49.below (Z4 HI0) hb) (KeepBut.trans (Z5) (KeepBut.of_below hb g none) (.inl rfl)) (below_step (Z6) hb) ?_; clear gj HI0 HK HB; intro gj pR HI0 HK HB; (try clear hb ho0)) | ((with_reducible refine gate_callee (f := 52) rfl ?_); refine gl_ 22 Tryz.func52 #[.pointer (some ⟨g, 0, none⟩), .int .i64 4] ?_; (with_reducible refine (spec_l1Cur_pick.calls g s0_0 ut uu 4 Ag Ah Ai w0 _ ?_ ?_ vU.out).mono ?_); exact (Z4 HI0); exact Z6; rintro e mx ⟨rfl, hi, hb, hk⟩; refine ⟨_, rfl, ?_⟩; refine k5_ (Kd.R_mono (Kd.R_keep (IsS49.apart (show IsS49 w0 _ g s0_0 ut uu from Z4 HI0) (Z3 gj) (by decide)) hk (fun _ h => h.2)) (fun _ h => h.1)) (Kd.R_mono (Kd.R_keep (IsS49.apart (show IsS49 w0 _ g s0_0 ut uu from Z4 HI0) (Z3 pR) (by decide)) hk (fun _ h => h.2)) (fun _ h => h.1)) (KeepBut.trans (Z5) hk (.inl rfl)) (hb) (hi) ?_; clear gj pR HK HB HI0; intro gj pR HK HB HI0; (try clear hb hk hi)))
   (try simp only [Act.put, List.setIfInBounds_toArray, List.set_cons_zero, List.set_cons_succ])
   go_loopg [6] vT (fun kq v6 w' => ∃ (aA : List ByteArray) (da : Int) (bG : Int) (bH : Int), v6 = .int .i64 da ∧ Aside0 (spec_l1Cur_scan.l0 kq eV fV aA da s0_0 bG bH = some (r1, r2, r3)) ∧ Aside0 (kq ≤ vT) ∧ Aside0 (Kd.R Kd.string 9 w' w.heap.size (fun _ => True) v475 aA) ∧ Aside0 (IsS49 w0 w' g s0_0 bG bH) ∧ Aside0 (KeepBut w w' g none) ∧ Aside0 (Below w0.heap.size w0 w'))
   case atStart => exact ⟨(uq), (Ag), (Ah), (Ai), (Z11), H', ⟨Nat.le_refl _⟩, ⟨Z3 pR⟩, ⟨Z4 HI0⟩, ⟨Z5⟩, ⟨Z6⟩⟩
   case round =>
    clear H'
    obtain ⟨aA, da, bG, bH, rfl, HA, HK2, ai, HI0, HK, HB⟩ := hrel
    cases gk with
    | zero => exact absurd HA.out (by simp [spec_l1Cur_scan.l0])
    | succ k2 =>
     have H := HA.out
     clear HA
     simp only [spec_l1Cur_scan.l0] at H
     by_cases c17 : da > 0
     ·rw [if_pos c17] at H
      have gf : decide (0 < da) = true := decide_eq_true c17
      clear c17
      obtain ⟨⟨bz, qB, qC⟩, Cm, H⟩ := bd_ H
      (try dsimp only at H)
      by_cases c19 : 0 ≤ bz
      case neg => rw [if_neg c19] at H; exact absurd H (by simp)
      rw [if_pos c19] at H
      have iN : decide (0 ≤ bz) = true := decide_eq_true c19
      clear c19
      by_cases c20 : bz < (aA.length : Int)
      case neg => rw [if_neg c20] at H; exact absurd H (by simp)
      rw [if_pos c20] at H
      have g4 : decide (bz < (aA.length : Int)) = true := decide_eq_true c20
      clear c20
      obtain ⟨⟨oW, oX, oY⟩, yc, H⟩ := bd_ H
      (try dsimp only at H)
      obtain ⟨eU, mz⟩ : ∃ y_ : List ByteArray, y_ = (aA.set (bz : Int).toNat oW) := ⟨_, rfl⟩
      replace H : (if ((rdOf ByteArray.empty eU bz).size : Int) = eV then (spec_l1Cur_scan.l0 k2 eV fV eU (wrap64 (da - 1)) s0_0 oX oY) else ((spec_scMake.f k2 ([] : List (S55)) eV 1).bind fun e9 => (if 0 < (e9.length : Int) then (spec_l1Cur_scan.l0 k2 eV fV (eU.set (bz : Int).toNat (rdOf ByteArray.empty e9 0)) (wrap64 (da - 1)) s0_0 oX oY) else (none)))) = some (r1, r2, r3) := by first | (rw [mz]; with_reducible exact H) | (have H2_ := (Option.bind_some _ _).symm.trans H; rw [mz]; with_reducible exact H2_) | (have H2_ := (Option.bind_some _ _).symm.trans H; with_reducible exact H2_) | with_reducible exact H | (rw [mz]; exact H) | exact H
      have ry := Aside0.mk mz
      clear mz
      by_cases c23 : ((rdOf ByteArray.empty eU bz).size : Int) = eV
      ·rw [if_pos c23] at H
       have c23b0 : (((rdOf ByteArray.empty eU bz).size : Int) == eV) = true := beq_iff_eq.mpr c23
       have c23b1 : (((rdOf ByteArray.empty eU bz).size : Int) != eV) = false := bne_eq_false_iff_eq.mpr c23
       clear c23
       have H' := Aside0.mk H
       clear H
       go_wp2_with (first | ((with_reducible refine gate_callee (f := 52) rfl ?_); refine gl_ 29 Tryz.func52 #[.pointer (some ⟨g, 0, none⟩), .int .i64 fV] ?_; (with_reducible refine (spec_l1Cur_pick.calls g s0_0 bG bH fV bz qB qC w0 _ ?_ ?_ Cm.out).mono ?_); exact (Z4 HI0); exact Z6; rintro e mn ⟨rfl, hi, hb, hk⟩; refine ⟨_, rfl, ?_⟩; refine k4_ (Kd.R_mono (Kd.R_keep (IsS49.apart (show IsS49 w0 _ g s0_0 bG bH from Z4 HI0) (Z3 ai) (by decide)) hk (fun _ h => h.2)) (fun _ h => h.1)) (KeepBut.trans (Z5) hk (.inl rfl)) (hb) (hi) ?_; clear ai HK HB HI0; intro ai HK HB HI0; (try clear hb hk hi); obtain ⟨Ao25, co25, eo25⟩ := Kd.R_slice ai.out; subst eo25; have oZ : 0 ≤ (bz : Int) := of_decide_eq_true (Z8); have o0 : bz < (aA.length : Int) := of_decide_eq_true (Z8); obtain ⟨ad483, e483, lv⟩ := Kd.at_string (Kd.R_reads' ai.out).2.2 bz oZ o0; cases e483; replace oZ := eq_true oZ; replace o0 := eq_true o0) | ((with_reducible refine gate_callee (f := 63) rfl ?_); refine gl_ 37 Tryz.func63 #[.pointer (some ⟨g, 0, none⟩), .string (rdOf ByteArray.empty aA bz), .string (⟨#[46, 111, 63]⟩ : ByteArray)] ?_; (with_reducible refine (spec_l1Cur_spoilt.calls k2 g s0_0 qB qC (rdOf ByteArray.empty aA bz) (⟨#[46, 111, 63]⟩ : ByteArray) oW oX oY w0 _ ?_ ?_ yc.out).mono ?_); exact (Z4 HI0); exact Z6; rintro e zP ⟨rfl, hi, hb, hk⟩; refine ⟨_, rfl, ?_⟩; refine k4_ (Kd.R_mono (Kd.R_keep (IsS49.apart (show IsS49 w0 _ g s0_0 qB qC from Z4 HI0) (Z3 ai) (by decide)) hk (fun _ h => h.2)) (fun _ h => h.1)) (KeepBut.trans (Z5) hk (.inl rfl)) (hb) (hi) ?_; clear ai HK HB HI0; intro ai HK HB HI0; (try clear hb hk hi); have yd : 0 ≤ (bz : Int) := of_decide_eq_true (Z8); have r8 : (bz : Int) < ((aA.length : Int) : Int) := of_decide_eq_true (Z8); obtain ⟨go22, o1, iT, r9, gl22, cl22, HG22⟩ := Kd.R_form ai.out (by omega); (first | cases iT | (injection iT with ea_ en_ ec_; (first | subst ea_ | (injection ea_ with ea_; subst ea_)); subst ec_; clear en_)); have GB22 := Aside0.mk r9; have GG22 := Aside0.mk HG22; clear r9 gl22 HG22; (first | simp only [add_plain] at lv | skip); obtain ⟨hx22_0, hf22_0⟩ := Kd.R_celln (⟨#[]⟩ : ByteArray) ai.out (bz : Int) yd r8; replace yd := eq_true yd; replace r8 := eq_true r8; obtain ⟨hy27_, hz27_⟩ := Kd.R_celln (⟨#[]⟩ : ByteArray) ai.out (bz : Int) (of_decide_eq_true (Z8)) (of_decide_eq_true (Z8)); have HP27 := Kd.R_putg ai.out (bz : Int) oW) | ((with_reducible refine gate_store (t := 9) (p := 38) rfl ?_); refine store_event (t := 9) (p := 38) (v := ?vo_w28) (w1 := (zP.setCell ⟨go22, (bz : Int).toNat, none⟩ (.string oW))) ?hg ?ho ?hn ?hr ?_; (case ho => rfl); (case hg => rfl); (case hn => rfl); (case hr => exact Z41); intro vV hw; have hg : zP.grownBy vV (some go22) := (by rw [hw]; exact HP27.2); have hp_ : Kd.R Kd.string 9 vV w.heap.size (fun _ => True) (.slice (some ⟨go22, 0, none⟩) aA.length co25) eU := (by rw [hw, ry.out]; exact HP27.1); clear HP27; refine k4_ (hp_) (IsS49.grown (Z4 HI0) hg (IsS49.own_ne HI0.out ai.out (by decide))) ((Z117 : Below w0.heap.size w0 vV)) (KeepBut.trans (Z5) (KeepBut.of_grown hg g) (Kd.R_base2 ai.out)) ?_; clear ai HI0 HB HK; intro ai HI0 HB HK; clear hg hw hp_; have o2 : 0 ≤ (bz : Int) := of_decide_eq_true (Z8); have o3 : bz < (eU.length : Int) := (Z102); have ql488 : ((bz : Int) < ((aA.length : Int) : Int)) = True := eq_true (of_decide_eq_true (Z8)); obtain ⟨sa, e488, et⟩ := Kd.at_string (Kd.R_reads' ai.out).2.2 bz o2 o3; obtain rfl : (⟨go22, 0, none⟩ : Addr) = sa := (by injection e488); (first | simp only [add_plain] at et | simp only [add_at] at et | simp only [Addr.add, Nat.zero_add] at et | skip); replace o2 := eq_true o2; replace o3 := eq_true o3))
       go_roundg k2
       case measure => have := ud.out; have := HK2.out; omega
       case rel => exact ⟨(eU), (wrap64 (da - 1)), (oX), (oY), (Z11), H', ⟨by have := ud.out; have := HK2.out; omega⟩, ⟨Z3 ai⟩, ⟨Z4 HI0⟩, ⟨Z5⟩, ⟨Z6⟩⟩
      rw [if_neg c23] at H
      have c23b0 : (((rdOf ByteArray.empty eU bz).size : Int) == eV) = false := beq_eq_false_iff_ne.mpr c23
      have c23b1 : (((rdOf ByteArray.empty eU bz).size : Int) != eV) = true := bne_iff_ne.mpr c23
      obtain ⟨e9, A29, H⟩ := bd_ H
      (try dsimp only at H)
      by_cases c30 : 0 < (e9.length : Int)
      case neg => rw [if_neg c30] at H; exact absurd H (by simp)
      rw [if_pos c30] at H
      have pO : decide (0 < (e9.length : Int)) = true := decide_eq_true c30
      have c30b1 : decide (0 < e9.length) = true := decide_eq_true (by omega)
      clear c30
      obtain ⟨ye, mA⟩ : ∃ y_ : List ByteArray, y_ = (eU.set (bz : Int).toNat (rdOf ByteArray.empty e9 0)) := ⟨_, rfl⟩
      replace H : (spec_l1Cur_scan.l0 k2 eV fV ye (wrap64 (da - 1)) s0_0 oX oY) = some (r1, r2, r3) := by first | (rw [mA]; with_reducible exact H) | (have H2_ := (Option.bind_some _ _).symm.trans H; rw [mA]; with_reducible exact H2_) | (have H2_ := (Option.bind_some _ _).symm.trans H; with_reducible exact H2_) | with_reducible exact H | (rw [mA]; exact H) | exact H
      have Ny493 := Aside0.mk mA
      clear mA
      have H' := Aside0.mk H
      clear H
      go_wp2_with (first | ((with_reducible refine gate_callee (f := 52) rfl ?_); refine gl_ 29 Tryz.func52 #[.pointer (some ⟨g, 0, none⟩), .int .i64 fV] ?_; (with_reducible refine (spec_l1Cur_pick.calls g s0_0 bG bH fV bz qB qC w0 _ ?_ ?_ Cm.out).mono ?_); exact (Z4 HI0); exact Z6; rintro e yf ⟨rfl, hi, hb, hk⟩; refine ⟨_, rfl, ?_⟩; refine k4_ (Kd.R_mono (Kd.R_keep (IsS49.apart (show IsS49 w0 _ g s0_0 bG bH from Z4 HI0) (Z3 ai) (by decide)) hk (fun _ h => h.2)) (fun _ h => h.1)) (KeepBut.trans (Z5) hk (.inl rfl)) (hb) (hi) ?_; clear ai HK HB HI0; intro ai HK HB HI0; (try clear hb hk hi); obtain ⟨Ao33, uv, eo33⟩ := Kd.R_slice ai.out; subst eo33; have oZ : 0 ≤ (bz : Int) := of_decide_eq_true (Z8); have o0 : bz < (aA.length : Int) := of_decide_eq_true (Z8); obtain ⟨ad483, e483, lv⟩ := Kd.at_string (Kd.R_reads' ai.out).2.2 bz oZ o0; cases e483; replace oZ := eq_true oZ; replace o0 := eq_true o0) | ((with_reducible refine gate_callee (f := 63) rfl ?_); refine gl_ 37 Tryz.func63 #[.pointer (some ⟨g, 0, none⟩), .string (rdOf ByteArray.empty aA bz), .string (⟨#[46, 111, 63]⟩ : ByteArray)] ?_; (with_reducible refine (spec_l1Cur_spoilt.calls k2 g s0_0 qB qC (rdOf ByteArray.empty aA bz) (⟨#[46, 111, 63]⟩ : ByteArray) oW oX oY w0 _ ?_ ?_ yc.out).mono ?_); exact (Z4 HI0); exact Z6; rintro e ub ⟨rfl, hi, hb, hk⟩; refine ⟨_, rfl, ?_⟩; refine k4_ (Kd.R_mono (Kd.R_keep (IsS49.apart (show IsS49 w0 _ g s0_0 qB qC from Z4 HI0) (Z3 ai) (by decide)) hk (fun _ h => h.2)) (fun _ h => h.1)) (KeepBut.trans (Z5) hk (.inl rfl)) (hb) (hi) ?_; clear ai HK HB HI0; intro ai HK HB HI0; (try clear hb hk hi); have yd : 0 ≤ (bz : Int) := of_decide_eq_true (Z8); have r8 : (bz : Int) < ((aA.length : Int) : Int) := of_decide_eq_true (Z8); obtain ⟨go22, o1, iT, r9, gl22, cl22, HG22⟩ := Kd.R_form ai.out (by omega); (first | cases iT | (injection iT with ea_ en_ ec_; (first | subst ea_ | (injection ea_ with ea_; subst ea_)); subst ec_; clear en_)); have GB22 := Aside0.mk r9; have GG22 := Aside0.mk HG22; clear r9 gl22 HG22; (first | simp only [add_plain] at lv | skip); obtain ⟨hx22_0, hf22_0⟩ := Kd.R_celln (⟨#[]⟩ : ByteArray) ai.out (bz : Int) yd r8; replace yd := eq_true yd; replace r8 := eq_true r8; obtain ⟨hy35_, hz35_⟩ := Kd.R_celln (⟨#[]⟩ : ByteArray) ai.out (bz : Int) (of_decide_eq_true (Z8)) (of_decide_eq_true (Z8)); have HP35 := Kd.R_putg ai.out (bz : Int) oW) | ((with_reducible refine gate_store (t := 9) (p := 38) rfl ?_); refine store_event (t := 9) (p := 38) (v := ?vo_w36) (w1 := (ub.setCell ⟨go22, (bz : Int).toNat, none⟩ (.string oW))) ?hg ?ho ?hn ?hr ?_; (case ho => rfl); (case hg => rfl); (case hn => rfl); (case hr => exact Z41); intro qA hw; have hg : ub.grownBy qA (some go22) := (by rw [hw]; exact HP35.2); have hp_ : Kd.R Kd.string 9 qA w.heap.size (fun _ => True) (.slice (some ⟨go22, 0, none⟩) aA.length uv) eU := (by rw [hw, ry.out]; exact HP35.1); clear HP35; refine k4_ (hp_) (IsS49.grown (Z4 HI0) hg (IsS49.own_ne HI0.out ai.out (by decide))) ((Z117 : Below w0.heap.size w0 qA)) (KeepBut.trans (Z5) (KeepBut.of_grown hg g) (Kd.R_base2 ai.out)) ?_; clear ai HI0 HB HK; intro ai HI0 HB HK; clear hg hw hp_; have o2 : 0 ≤ (bz : Int) := of_decide_eq_true (Z8); have o3 : bz < (eU.length : Int) := (Z102); have ql488 : ((bz : Int) < ((aA.length : Int) : Int)) = True := eq_true (of_decide_eq_true (Z8)); obtain ⟨sa, e488, et⟩ := Kd.at_string (Kd.R_reads' ai.out).2.2 bz o2 o3; obtain rfl : (⟨go22, 0, none⟩ : Addr) = sa := (by injection e488); (first | simp only [add_plain] at et | simp only [add_at] at et | simp only [Addr.add, Nat.zero_add] at et | skip); replace o2 := eq_true o2; replace o3 := eq_true o3) | ((with_reducible refine gate_callee (f := 34) rfl ?_); refine gl_ 49 Tryz.func34 #[.slice none 0 0, .int .i64 eV, .int .i64 1] ?_; (refine (spec_scMake.calls k2 _ _ ([] : List (S55)) eV 1 e9 _ ?side1 ?side2 A29.out).mono ?_); (case side1 => exact Kd.C_nil _ _); (case side2 => exact Nat.le_refl _); rintro e vS ⟨v490, rfl, ho0, hb⟩; refine ⟨_, rfl, ?_⟩; refine k5_ (Yb_ ai) (Kd.R_lower (Kd.R_new' ho0 (Yd_ ai)) (keep_size (w := w) (g := g) (row := none) (Z5))) (IsS49.below (Z4 HI0) hb) (KeepBut.trans (Z5) (KeepBut.of_below hb g none) (.inl rfl)) (below_step (Z6) hb) ?_; clear ai HI0 HK HB; intro ai mB HI0 HK HB; (try clear hb ho0); obtain ⟨Ao38, Am, eo38⟩ := Kd.R_slice mB.out; subst eo38; have yg : 0 ≤ (0 : Int) := (by omega); have yh : 0 < (e9.length : Int) := of_decide_eq_true (Z8); obtain ⟨vW, e492, pS⟩ := Kd.at_string (Kd.R_reads' mB.out).2.2 0 yg yh; cases e492; have qi492 : (0 < e9.length) = True := eq_true (by omega); (try rw [show ((0 : Int)).toNat = 0 from rfl] at pS); (try rw [Addr.add_zero'] at pS); replace yg := eq_true yg; replace yh := eq_true yh; have Cv : 0 ≤ (bz : Int) := of_decide_eq_true (Z8); have Cw : (bz : Int) < ((aA.length : Int) : Int) := of_decide_eq_true (Z8); obtain ⟨hx31_0, hf31_0⟩ := Kd.R_celln (⟨#[]⟩ : ByteArray) ai.out (bz : Int) Cv Cw; replace Cv := eq_true Cv; replace Cw := eq_true Cw; have n_ := Aside0.mk (Kd.R_mono (ok' := (fun k_ => some k_ ≠ (.slice (some vW) e9.length Am : Value).ownBlock)) ai.out (fun k_ hk => hk.2)); clear ai; have ai := n_; clear n_; obtain ⟨hy39_, hz39_⟩ := Kd.R_celln (⟨#[]⟩ : ByteArray) ai.out (bz : Int) (of_decide_eq_true (Z8)) (of_decide_eq_true (Z8)); have HP39 := Kd.R_putg ai.out (bz : Int) (rdOf ByteArray.empty e9 0)) | ((with_reducible refine gate_store (t := 9) (p := 52) rfl ?_); refine store_event (t := 9) (p := 52) (v := ?vo_w40) (w1 := (vS.setCell ⟨go22, (bz : Int).toNat, none⟩ (.string (rdOf ByteArray.empty e9 0)))) ?hg ?ho ?hn ?hr ?_; (case ho => rfl); (case hg => rfl); (case hn => rfl); (case hr => exact Z41); intro Ao hw; have hg : vS.grownBy Ao (some go22) := (by rw [hw]; exact HP39.2); have hp_ : Kd.R Kd.string 9 Ao w.heap.size (fun k_ => some k_ ≠ (.slice (some vW) e9.length Am : Value).ownBlock) (.slice (some ⟨go22, 0, none⟩) aA.length uv) ye := (by rw [hw, Ny493.out]; exact HP39.1); clear HP39; refine k5_ (hp_) (IsS49.grown (Z4 HI0) hg (IsS49.own_ne HI0.out ai.out (by decide))) (Kd.R_after (v := (.slice (some ⟨go22, 0, none⟩) aA.length uv)) (v1 := (.slice (some ⟨go22, 0, none⟩) aA.length uv)) (ok := (fun _ => True)) (Z3 mB) hg (.inl rfl)) ((Z117 : Below w0.heap.size w0 Ao)) (KeepBut.trans (Z5) (KeepBut.of_grown hg g) (Kd.R_base2 ai.out)) ?_; clear ai HI0 mB HB HK; intro ai HI0 mB HB HK; clear hg hw hp_))
      go_roundg k2
      case measure => have := ud.out; have := HK2.out; omega
      case rel => exact ⟨(ye), (wrap64 (da - 1)), (oX), (oY), (Z11), H', ⟨by have := ud.out; have := HK2.out; omega⟩, ⟨Z25 ai⟩, ⟨Z4 HI0⟩, ⟨Z5⟩, ⟨Z6⟩⟩
     rw [if_neg c17] at H
     have gf : decide (0 < da) = false := decide_eq_false c17
     clear c17
     obtain ⟨⟨cz, gl, gm⟩, qD, H⟩ := bd_ H
     (try dsimp only at H)
     by_cases c42 : cz = 0
     ·rw [if_pos c42] at H
      have mv : (cz == 0) = true := beq_iff_eq.mpr c42
      have pP : (cz != 0) = false := bne_eq_false_iff_eq.mpr c42
      clear c42
      obtain ⟨⟨d9, Ap, Aq⟩, A43, H⟩ := bd_ H
      (try dsimp only at H)
      by_cases c44 : 0 ≤ d9
      case neg => rw [if_neg c44] at H; exact absurd H (by simp)
      rw [if_pos c44] at H
      have c44b0 : decide (0 ≤ d9) = true := decide_eq_true c44
      clear c44
      by_cases c45 : d9 < (aA.length : Int)
      case neg => rw [if_neg c45] at H; exact absurd H (by simp)
      rw [if_pos c45] at H
      have c45b0 : decide (d9 < (aA.length : Int)) = true := decide_eq_true c45
      clear c45
      by_cases c46 : (rdOf ByteArray.empty aA d9).size + 1 ≤ 9223372036854775807
      case neg => rw [if_neg c46] at H; exact absurd H (by simp)
      rw [if_pos c46] at H
      have c46b0 := eq_true c46
      have c46b1 : decide ((rdOf ByteArray.empty aA d9).size + 1 ≤ 9223372036854775807) = true := decide_eq_true c46
      try have c46b2 : (9223372036854775807 < (rdOf ByteArray.empty aA d9).size + 1) = False := eq_false (Nat.not_lt.2 c46)
      obtain ⟨As, mC⟩ : ∃ y_ : List ByteArray, y_ = (aA.set (d9 : Int).toNat ((rdOf ByteArray.empty aA d9) ++ (⟨#[46]⟩ : ByteArray))) := ⟨_, rfl⟩
      replace H : (some (As, Ap, Aq)) = some (r1, r2, r3) := by first | (rw [mC]; with_reducible exact H) | (have H2_ := (Option.bind_some _ _).symm.trans H; rw [mC]; with_reducible exact H2_) | (have H2_ := (Option.bind_some _ _).symm.trans H; with_reducible exact H2_) | with_reducible exact H | (rw [mC]; exact H) | exact H
      have Ny501 := Aside0.mk mC
      clear mC
      simp only [Option.some.injEq, Prod.mk.injEq] at H
      obtain ⟨rfl, rfl, rfl⟩ := H
      go_wp2_with (first | ((with_reducible refine gate_callee (f := 52) rfl ?_); refine gl_ 54 Tryz.func52 #[.pointer (some ⟨g, 0, none⟩), .int .i64 30] ?_; (with_reducible refine (spec_l1Cur_pick.calls g s0_0 bG bH 30 cz gl gm w0 _ ?_ ?_ qD.out).mono ?_); exact (Z4 HI0); exact Z6; rintro e z7 ⟨rfl, hi, hb, hk⟩; refine ⟨_, rfl, ?_⟩; refine k4_ (Kd.R_mono (Kd.R_keep (IsS49.apart (show IsS49 w0 _ g s0_0 bG bH from Z4 HI0) (Z3 ai) (by decide)) hk (fun _ h => h.2)) (fun _ h => h.1)) (KeepBut.trans (Z5) hk (.inl rfl)) (hb) (hi) ?_; clear ai HK HB HI0; intro ai HK HB HI0; (try clear hb hk hi)) | ((with_reducible refine gate_callee (f := 52) rfl ?_); refine gl_ 60 Tryz.func52 #[.pointer (some ⟨g, 0, none⟩), .int .i64 fV] ?_; (with_reducible refine (spec_l1Cur_pick.calls g s0_0 gl gm fV d9 Ap Aq w0 _ ?_ ?_ A43.out).mono ?_); exact (Z4 HI0); exact Z6; rintro e zR ⟨rfl, hi, hb, hk⟩; refine ⟨_, rfl, ?_⟩; refine k4_ (Kd.R_mono (Kd.R_keep (IsS49.apart (show IsS49 w0 _ g s0_0 gl gm from Z4 HI0) (Z3 ai) (by decide)) hk (fun _ h => h.2)) (fun _ h => h.1)) (KeepBut.trans (Z5) hk (.inl rfl)) (hb) (hi) ?_; clear ai HK HB HI0; intro ai HK HB HI0; (try clear hb hk hi); obtain ⟨Ao50, co50, eo50⟩ := Kd.R_slice ai.out; subst eo50; have yi : 0 ≤ (d9 : Int) := of_decide_eq_true (Z8); have yj : d9 < (aA.length : Int) := of_decide_eq_true (Z8); obtain ⟨ad500, e500, hx500_0⟩ := Kd.at_string (Kd.R_reads' ai.out).2.2 d9 yi yj; cases e500; replace yi := eq_true yi; replace yj := eq_true yj; have Cx : 0 ≤ (d9 : Int) := of_decide_eq_true (Z8); have yk : (d9 : Int) < ((aA.length : Int) : Int) := of_decide_eq_true (Z8); obtain ⟨go47, co47, At, Au, gl47, cl47, HG47⟩ := Kd.R_form ai.out (by omega); (first | cases At | (injection At with ea_ en_ ec_; (first | subst ea_ | (injection ea_ with ea_; subst ea_)); subst ec_; clear en_)); have GB47 := Aside0.mk Au; have GG47 := Aside0.mk HG47; clear Au gl47 HG47; (first | simp only [add_plain] at hx500_0 | skip); obtain ⟨hx47_0, hf47_0⟩ := Kd.R_celln (⟨#[]⟩ : ByteArray) ai.out (d9 : Int) Cx yk; replace Cx := eq_true Cx; replace yk := eq_true yk; obtain ⟨hy51_, hz51_⟩ := Kd.R_celln (⟨#[]⟩ : ByteArray) ai.out (d9 : Int) (of_decide_eq_true (Z8)) (of_decide_eq_true (Z8)); have HP51 := Kd.R_putg ai.out (d9 : Int) ((rdOf ByteArray.empty aA d9) ++ (⟨#[46]⟩ : ByteArray))) | ((with_reducible refine gate_store (t := 9) (p := 64) rfl ?_); refine store_event (t := 9) (p := 64) (v := ?vo_w52) (w1 := (zR.setCell ⟨go47, (d9 : Int).toNat, none⟩ (.string ((rdOf ByteArray.empty aA d9) ++ (⟨#[46]⟩ : ByteArray))))) ?hg ?ho ?hn ?hr ?_; (case ho => rfl); (case hg => rfl); (case hn => rfl); (case hr => exact Z41); intro uw hw; have hg : zR.grownBy uw (some go47) := (by rw [hw]; exact HP51.2); have hp_ : Kd.R Kd.string 9 uw w.heap.size (fun _ => True) (.slice (some ⟨go47, 0, none⟩) aA.length co50) As := (by rw [hw, Ny501.out]; exact HP51.1); clear HP51; refine k4_ (hp_) (IsS49.grown (Z4 HI0) hg (IsS49.own_ne HI0.out ai.out (by decide))) ((by rw [hw]; exact below_set (HB.out) (Nat.le_trans HL.out GB47.out) : Below w0.heap.size w0 uw)) (KeepBut.trans (Z5) (KeepBut.of_grown hg g) (Kd.R_base2 ai.out)) ?_; clear ai HI0 HB HK; intro ai HI0 HB HK; clear hg hw hp_))
      go_ret
      exact ⟨_, Z9, Z3 ai, Z4 HI0, Z6, Z5⟩
     rw [if_neg c42] at H
     have mv : (cz == 0) = false := beq_eq_false_iff_ne.mpr c42
     have pP : (cz != 0) = true := bne_iff_ne.mpr c42
     by_cases c53 : cz = 1
     ·rw [if_pos c53] at H
      have pT : (cz == 1) = true := beq_iff_eq.mpr c53
      have pU : (cz != 1) = false := bne_eq_false_iff_eq.mpr c53
      clear c53
      by_cases c54 : 0 < (aA.length : Int)
      case neg => rw [if_neg c54] at H; exact absurd H (by simp)
      rw [if_pos c54] at H
      have c54b0 : decide (0 < (aA.length : Int)) = true := decide_eq_true c54
      have c54b1 : decide (0 < aA.length) = true := decide_eq_true (by omega)
      clear c54
      obtain ⟨⟨ux, Av, Aw⟩, A55, H⟩ := bd_ H
      (try dsimp only at H)
      obtain ⟨Ay, mD⟩ : ∃ y_ : List ByteArray, y_ = (aA.set (0 : Int).toNat ux) := ⟨_, rfl⟩
      replace H : (some (Ay, Av, Aw)) = some (r1, r2, r3) := by first | (rw [mD]; with_reducible exact H) | (have H2_ := (Option.bind_some _ _).symm.trans H; rw [mD]; with_reducible exact H2_) | (have H2_ := (Option.bind_some _ _).symm.trans H; with_reducible exact H2_) | with_reducible exact H | (rw [mD]; exact H) | exact H
      have Ny506 := Aside0.mk mD
      clear mD
      simp only [Option.some.injEq, Prod.mk.injEq] at H
      obtain ⟨rfl, rfl, rfl⟩ := H
      go_wp2_with (first | ((with_reducible refine gate_callee (f := 52) rfl ?_); refine gl_ 54 Tryz.func52 #[.pointer (some ⟨g, 0, none⟩), .int .i64 30] ?_; (with_reducible refine (spec_l1Cur_pick.calls g s0_0 bG bH 30 cz gl gm w0 _ ?_ ?_ qD.out).mono ?_); exact (Z4 HI0); exact Z6; rintro e w57 ⟨rfl, hi, hb, hk⟩; refine ⟨_, rfl, ?_⟩; refine k4_ (Kd.R_mono (Kd.R_keep (IsS49.apart (show IsS49 w0 _ g s0_0 bG bH from Z4 HI0) (Z3 ai) (by decide)) hk (fun _ h => h.2)) (fun _ h => h.1)) (KeepBut.trans (Z5) hk (.inl rfl)) (hb) (hi) ?_; clear ai HK HB HI0; intro ai HK HB HI0; (try clear hb hk hi); obtain ⟨Ao58, co58, eo58⟩ := Kd.R_slice ai.out; subst eo58; have yl : 0 ≤ (0 : Int) := (by omega); have ym : 0 < (aA.length : Int) := of_decide_eq_true (Z8); obtain ⟨ad502, e502, lw⟩ := Kd.at_string (Kd.R_reads' ai.out).2.2 0 yl ym; cases e502; have qi502 : (0 < aA.length) = True := eq_true (by omega); (try rw [show ((0 : Int)).toNat = 0 from rfl] at lw); (try rw [Addr.add_zero'] at lw); replace yl := eq_true yl; replace ym := eq_true ym) | ((with_reducible refine gate_callee (f := 63) rfl ?_); refine gl_ 72 Tryz.func63 #[.pointer (some ⟨g, 0, none⟩), .string (rdOf ByteArray.empty aA 0), .string (⟨#[120, 79, 32]⟩ : ByteArray)] ?_; (with_reducible refine (spec_l1Cur_spoilt.calls k2 g s0_0 gl gm (rdOf ByteArray.empty aA 0) (⟨#[120, 79, 32]⟩ : ByteArray) ux Av Aw w0 _ ?_ ?_ A55.out).mono ?_); exact (Z4 HI0); exact Z6; rintro e C3 ⟨rfl, hi, hb, hk⟩; refine ⟨_, rfl, ?_⟩; refine k4_ (Kd.R_mono (Kd.R_keep (IsS49.apart (show IsS49 w0 _ g s0_0 gl gm from Z4 HI0) (Z3 ai) (by decide)) hk (fun _ h => h.2)) (fun _ h => h.1)) (KeepBut.trans (Z5) hk (.inl rfl)) (hb) (hi) ?_; clear ai HK HB HI0; intro ai HK HB HI0; (try clear hb hk hi); have Cy : 0 ≤ (0 : Int) := (by omega); have Cz : (0 : Int) < ((aA.length : Int) : Int) := of_decide_eq_true (Z8); have qi56 : (0 < aA.length) = True := eq_true (by omega); obtain ⟨go56, co56, Az, AA, gl56, cl56, HG56⟩ := Kd.R_form ai.out (by omega); (first | cases Az | (injection Az with ea_ en_ ec_; (first | subst ea_ | (injection ea_ with ea_; subst ea_)); subst ec_; clear en_)); have GB56 := Aside0.mk AA; have GG56 := Aside0.mk HG56; clear AA gl56 HG56; (first | simp only [add_plain] at lw | skip); obtain ⟨sc, hf56_0⟩ := Kd.R_celln (⟨#[]⟩ : ByteArray) ai.out (0 : Int) Cy Cz; (try rw [show ((0 : Int)).toNat = 0 from rfl] at sc); (try simp only [Nat.reduceMul, Nat.zero_mul, Nat.zero_add, Nat.reduceAdd] at sc); (try rw [show ((0 : Int)).toNat = 0 from rfl] at hf56_0); (try simp only [Nat.reduceMul, Nat.zero_mul, Nat.zero_add, Nat.reduceAdd] at hf56_0); replace Cy := eq_true Cy; replace Cz := eq_true Cz; obtain ⟨hy60_, hz60_⟩ := Kd.R_celln (⟨#[]⟩ : ByteArray) ai.out (0 : Int) (by omega) (of_decide_eq_true (Z8)); (try simp only [Int.reduceToNat, Int.toNat_zero, Int.toNat_ofNat, Nat.reduceMul, Nat.zero_mul, Nat.zero_add] at hy60_ hz60_); (try rw [show ((0 : Int)).toNat = 0 from rfl] at hy60_); (try rw [show ((0 : Int)).toNat = 0 from rfl] at hz60_); have HP60 := Kd.R_putg ai.out (0 : Int) ux) | ((with_reducible refine gate_store (t := 9) (p := 73) rfl ?_); refine store_event (t := 9) (p := 73) (v := ?vo_w61) (w1 := (C3.setCell ⟨go56, (0 : Int).toNat, none⟩ (.string ux))) ?hg ?ho ?hn ?hr ?_; (case ho => rfl); (case hg => rfl); (case hn => rfl); (case hr => exact Z41); intro CA hw; have hg : C3.grownBy CA (some go56) := (by rw [hw]; exact HP60.2); have hp_ : Kd.R Kd.string 9 CA w.heap.size (fun _ => True) (.slice (some ⟨go56, 0, none⟩) aA.length co58) Ay := (by rw [hw, Ny506.out]; exact HP60.1); clear HP60; refine k4_ (hp_) (IsS49.grown (Z4 HI0) hg (IsS49.own_ne HI0.out ai.out (by decide))) ((by rw [hw]; exact below_set (HB.out) (Nat.le_trans HL.out GB56.out) : Below w0.heap.size w0 CA)) (KeepBut.trans (Z5) (KeepBut.of_grown hg g) (Kd.R_base2 ai.out)) ?_; clear ai HI0 HB HK; intro ai HI0 HB HK; clear hg hw hp_))
      go_ret
      exact ⟨_, Z9, Z3 ai, Z4 HI0, Z6, Z5⟩
     rw [if_neg c53] at H
     have pT : (cz == 1) = false := beq_eq_false_iff_ne.mpr c53
     have pU : (cz != 1) = true := bne_iff_ne.mpr c53
     by_cases c62 : cz = 2
     ·rw [if_pos c62] at H
      have c62b0 : (cz == 2) = true := beq_iff_eq.mpr c62
      have c62b1 : (cz != 2) = false := bne_eq_false_iff_eq.mpr c62
      clear c62
      simp only [Option.some.injEq, Prod.mk.injEq] at H
      obtain ⟨rfl, rfl, rfl⟩ := H
      go_wp2_with ((with_reducible refine gate_callee (f := 52) rfl ?_); refine gl_ 54 Tryz.func52 #[.pointer (some ⟨g, 0, none⟩), .int .i64 30] ?_; (with_reducible refine (spec_l1Cur_pick.calls g s0_0 bG bH 30 cz gl gm w0 _ ?_ ?_ qD.out).mono ?_); exact (Z4 HI0); exact Z6; rintro e CB ⟨rfl, hi, hb, hk⟩; refine ⟨_, rfl, ?_⟩; refine k4_ (Kd.R_mono (Kd.R_keep (IsS49.apart (show IsS49 w0 _ g s0_0 bG bH from Z4 HI0) (Z3 ai) (by decide)) hk (fun _ h => h.2)) (fun _ h => h.1)) (KeepBut.trans (Z5) hk (.inl rfl)) (hb) (hi) ?_; clear ai HK HB HI0; intro ai HK HB HI0; (try clear hb hk hi))
      go_ret
      exact ⟨_, Z9, Z15, Z4 HI0, Z6, Z5⟩
     rw [if_neg c62] at H
     have c62b0 : (cz == 2) = false := beq_eq_false_iff_ne.mpr c62
     have c62b1 : (cz != 2) = true := bne_iff_ne.mpr c62
     by_cases c64 : cz = 3
     ·rw [if_pos c64] at H
      have g6 : (cz == 3) = true := beq_iff_eq.mpr c64
      have pV : (cz != 3) = false := bne_eq_false_iff_eq.mpr c64
      clear c64
      obtain ⟨⟨yn, t508, t509⟩, AB, H⟩ := bd_ H
      (try dsimp only at H)
      obtain ⟨xY, A66, H⟩ := bd_ H
      (try dsimp only at H)
      simp only [Option.some.injEq, Prod.mk.injEq] at H
      obtain ⟨rfl, rfl, rfl⟩ := H
      go_wp2_with (first | ((with_reducible refine gate_callee (f := 52) rfl ?_); refine gl_ 54 Tryz.func52 #[.pointer (some ⟨g, 0, none⟩), .int .i64 30] ?_; (with_reducible refine (spec_l1Cur_pick.calls g s0_0 bG bH 30 cz gl gm w0 _ ?_ ?_ qD.out).mono ?_); exact (Z4 HI0); exact Z6; rintro e w67 ⟨rfl, hi, hb, hk⟩; refine ⟨_, rfl, ?_⟩; refine k4_ (Kd.R_mono (Kd.R_keep (IsS49.apart (show IsS49 w0 _ g s0_0 bG bH from Z4 HI0) (Z3 ai) (by decide)) hk (fun _ h => h.2)) (fun _ h => h.1)) (KeepBut.trans (Z5) hk (.inl rfl)) (hb) (hi) ?_; clear ai HK HB HI0; intro ai HK HB HI0; (try clear hb hk hi)) | ((with_reducible refine gate_callee (f := 52) rfl ?_); refine gl_ 79 Tryz.func52 #[.pointer (some ⟨g, 0, none⟩), .int .i64 2] ?_; (with_reducible refine (spec_l1Cur_pick.calls g s0_0 gl gm 2 yn t508 t509 w0 _ ?_ ?_ AB.out).mono ?_); exact (Z4 HI0); exact Z6; rintro e w68 ⟨rfl, hi, hb, hk⟩; refine ⟨_, rfl, ?_⟩; refine k4_ (Kd.R_mono (Kd.R_keep (IsS49.apart (show IsS49 w0 _ g s0_0 gl gm from Z4 HI0) (Z3 ai) (by decide)) hk (fun _ h => h.2)) (fun _ h => h.1)) (KeepBut.trans (Z5) hk (.inl rfl)) (hb) (hi) ?_; clear ai HK HB HI0; intro ai HK HB HI0; (try clear hb hk hi)) | ((with_reducible refine gate_callee (f := 34) rfl ?_); refine gl_ 81 Tryz.func34 #[.slice none 0 0, .int .i64 3, .int .i64 (wrap64 (60 + yn))] ?_; (refine (spec_scMake.calls k2 _ _ ([] : List (S55)) 3 (wrap64 (60 + yn)) xY _ ?side1 ?side2 A66.out).mono ?_); (case side1 => exact Kd.C_nil _ _); (case side2 => exact Nat.le_refl _); rintro e w69 ⟨v511, rfl, ho0, hb⟩; refine ⟨_, rfl, ?_⟩; refine k5_ (Yb_ ai) (Kd.R_lower (Kd.R_new' ho0 (Yd_ ai)) (keep_size (w := w) (g := g) (row := none) (Z5))) (IsS49.below (Z4 HI0) hb) (KeepBut.trans (Z5) (KeepBut.of_below hb g none) (.inl rfl)) (below_step (Z6) hb) ?_; clear ai HI0 HK HB; intro ai HO512 HI0 HK HB; (try clear hb ho0)))
      go_ret
      exact ⟨_, Z9, Z25 HO512, Z4 HI0, Z6, Z5⟩
     rw [if_neg c64] at H
     have g6 : (cz == 3) = false := beq_eq_false_iff_ne.mpr c64
     have pV : (cz != 3) = true := bne_iff_ne.mpr c64
     by_cases c70 : cz = 4
     ·rw [if_pos c70] at H
      have c70b0 : (cz == 4) = true := beq_iff_eq.mpr c70
      have c70b1 : (cz != 4) = false := bne_eq_false_iff_eq.mpr c70
      clear c70
      obtain ⟨⟨yo, t514, t515⟩, A71, H⟩ := bd_ H
      (try dsimp only at H)
      obtain ⟨xZ, sf, H⟩ := bd_ H
      (try dsimp only at H)
      simp only [Option.some.injEq, Prod.mk.injEq] at H
      obtain ⟨rfl, rfl, rfl⟩ := H
      go_wp2_with (first | ((with_reducible refine gate_callee (f := 52) rfl ?_); refine gl_ 54 Tryz.func52 #[.pointer (some ⟨g, 0, none⟩), .int .i64 30] ?_; (with_reducible refine (spec_l1Cur_pick.calls g s0_0 bG bH 30 cz gl gm w0 _ ?_ ?_ qD.out).mono ?_); exact (Z4 HI0); exact Z6; rintro e w73 ⟨rfl, hi, hb, hk⟩; refine ⟨_, rfl, ?_⟩; refine k4_ (Kd.R_mono (Kd.R_keep (IsS49.apart (show IsS49 w0 _ g s0_0 bG bH from Z4 HI0) (Z3 ai) (by decide)) hk (fun _ h => h.2)) (fun _ h => h.1)) (KeepBut.trans (Z5) hk (.inl rfl)) (hb) (hi) ?_; clear ai HK HB HI0; intro ai HK HB HI0; (try clear hb hk hi)) | ((with_reducible refine gate_callee (f := 52) rfl ?_); refine gl_ 85 Tryz.func52 #[.pointer (some ⟨g, 0, none⟩), .int .i64 2] ?_; (with_reducible refine (spec_l1Cur_pick.calls g s0_0 gl gm 2 yo t514 t515 w0 _ ?_ ?_ A71.out).mono ?_); exact (Z4 HI0); exact Z6; rintro e w74 ⟨rfl, hi, hb, hk⟩; refine ⟨_, rfl, ?_⟩; refine k4_ (Kd.R_mono (Kd.R_keep (IsS49.apart (show IsS49 w0 _ g s0_0 gl gm from Z4 HI0) (Z3 ai) (by decide)) hk (fun _ h => h.2)) (fun _ h => h.1)) (KeepBut.trans (Z5) hk (.inl rfl)) (hb) (hi) ?_; clear ai HK HB HI0; intro ai HK HB HI0; (try clear hb hk hi)) | ((with_reducible refine gate_callee (f := 34) rfl ?_); refine gl_ 87 Tryz.func34 #[.slice none 0 0, .int .i64 (wrap64 (20 + yo)), .int .i64 2] ?_; (refine (spec_scMake.calls k2 _ _ ([] : List (S55)) (wrap64 (20 + yo)) 2 xZ _ ?side1 ?side2 sf.out).mono ?_); (case side1 => exact Kd.C_nil _ _); (case side2 => exact Nat.le_refl _); rintro e w75 ⟨v517, rfl, ho0, hb⟩; refine ⟨_, rfl, ?_⟩; refine k5_ (Yb_ ai) (Kd.R_lower (Kd.R_new' ho0 (Yd_ ai)) (keep_size (w := w) (g := g) (row := none) (Z5))) (IsS49.below (Z4 HI0) hb) (KeepBut.trans (Z5) (KeepBut.of_below hb g none) (.inl rfl)) (below_step (Z6) hb) ?_; clear ai HI0 HK HB; intro ai HO518 HI0 HK HB; (try clear hb ho0)))
      go_ret
      exact ⟨_, Z9, Z25 HO518, Z4 HI0, Z6, Z5⟩
     rw [if_neg c70] at H
     have c70b0 : (cz == 4) = false := beq_eq_false_iff_ne.mpr c70
     have c70b1 : (cz != 4) = true := bne_iff_ne.mpr c70
     simp only [Option.some.injEq, Prod.mk.injEq] at H
     obtain ⟨rfl, rfl, rfl⟩ := H
     go_wp2_with ((with_reducible refine gate_callee (f := 52) rfl ?_); refine gl_ 54 Tryz.func52 #[.pointer (some ⟨g, 0, none⟩), .int .i64 30] ?_; (with_reducible refine (spec_l1Cur_pick.calls g s0_0 bG bH 30 cz gl gm w0 _ ?_ ?_ qD.out).mono ?_); exact (Z4 HI0); exact Z6; rintro e w76 ⟨rfl, hi, hb, hk⟩; refine ⟨_, rfl, ?_⟩; refine k4_ (Kd.R_mono (Kd.R_keep (IsS49.apart (show IsS49 w0 _ g s0_0 bG bH from Z4 HI0) (Z3 ai) (by decide)) hk (fun _ h => h.2)) (fun _ h => h.1)) (KeepBut.trans (Z5) hk (.inl rfl)) (hb) (hi) ?_; clear ai HK HB HI0; intro ai HK HB HI0; (try clear hb hk hi))
     go_ret
     exact ⟨_, Z9, Z3 ai, Z4 HI0, Z6, Z5⟩

end Go.Proofs.YtcpbncljimmkfaaGreatDoor.PFnScans
