-- written by a program of this session: the kit's print, with outer functions of the session's own (wip/ext)
import Derived.Test.YtmnnmddfmmaohaaPFnStainsx0
import Derived.Test.YtmnnmddfmmaohaaPFnStainsx1
import Derived.Test.YtmnnmddfmmaohaaPFnStainsx7
import Derived.Test.YtmnnmddfmmaohaaPFnStainsx11
namespace Go.Proofs.Ytmnnmddfmmaohaa.PFnStains
open Go.RowKit Go.Proofs.YtmnnmddfmmaohaaW.PrintWords Go.Proofs.YtmnnmddfmmaohaaW.PrintLast Go.Proofs.YtmnnmddfmmaohaaW.PrintMore
attribute [local go_sem] max2_int min2_int max_two min_two max_three min_three max_four min_four   -- for this text's walks alone
set_option linter.unusedVariables false
set_option linter.unusedSimpArgs false
theorem mo12_ {p : Prop} (h : p := by repeat' first | (with_reducible first | apply ih0 | apply ih0 | apply ih1 | apply ih1 | apply impl_IsScan.mono | apply impl_IsScan.mono | apply impl_countChar.mono | apply impl_countChar.mono | apply impl_drawnW.mono | apply impl_drawnW.mono | apply impl_sameSize.mono | apply impl_sameSize.mono | apply impl_scanFaults.mono | apply impl_scanFaults.mono | exact LeO.refl _ | exact LeO.none _ | refine LeO.ite ?_ ?_ | refine LeO.bind ?_ (fun _ => ?_)) | exact LeO.none _ | refine LeO.ite ?_ ?_ | refine LeO.bind ?_ (fun _ => ?_)) : p := h

/-! ### impl_MeetScans: function 11 -/
def impl_MeetScans.f (k : Nat) (l0 : List ByteArray) (l1 : List ByteArray) : Option (List ByteArray × Bool) := (impl_sameSize.f k l0 l1).bind fun t473 => (if t473 = true then ((impl_scanFaults.f k l0 l1).bind fun t474 => (if t474 > 0 then (some (([] : List ByteArray), false)) else (if 0 < (l0.length : Int) then ((impl_drawnW.f k (l0.length : Int) ((rdOf ByteArray.empty l0 0).size : Int) (fun a0_ a1_ => impl_MeetScans_1.f a0_ a1_ l0 l1)).bind fun t476 => (some (t476, true))) else (none)))) else (some (([] : List ByteArray), false)))
theorem impl_MeetScans.mono : ∀ a0 a1 k, LeO (impl_MeetScans.f k a0 a1) (impl_MeetScans.f (k + 1) a0 a1) := by
 intro a0 a1 k
 unfold impl_MeetScans.f
 exact mo12_
def impl_MeetScans.T3 : Bool × List (List Nat × List Nat) := (true, [([], []), ([0], [0]), ([], []), ([2], [2]), ([3], [3]), ([4], [4]), ([], []), ([1, 5, 6], [1, 5, 6]), ([7, 7, 0, 1, 2, 3, 4, 5, 6, 7], [7]), ([8, 0, 1, 2, 3, 4, 5, 6, 7, 8], [])])
def impl_MeetScans.B3 : List Nat := [0, 1, 0, 4, 12, 28, 0, 127, 255, 511]
theorem impl_MeetScans.tab3 : rtab .any (opsOf Try.f11 3) = impl_MeetScans.T3 := by kernel_rfl
theorem impl_MeetScans.bits3 : waitsOk impl_MeetScans.T3.2 impl_MeetScans.B3 = true := by kernel_rfl
set_option maxHeartbeats 8000000 in
set_option maxRecDepth 100000 in
theorem impl_MeetScans.calls (k : Nat) (A0 : Option Addr) (c0 : Nat) (l0 : List ByteArray) (A1 : Option Addr) (c1 : Nat) (l1 : List ByteArray) (r1 : List ByteArray) (r2 : Bool) (w : World) (hr0 : Kd.C Kd.string w A0 l0.length l0) (hc0 : l0.length ≤ c0) (hr1 : Kd.C Kd.string w A1 l1.length l1) (hc1 : l1.length ≤ c1) (h : impl_MeetScans.f k l0 l1 = some (r1, r2)) :
  Calls Try.prog 11 #[.slice A0 l0.length c0, .slice A1 l1.length c1] w fun e w' => ∃ v0_ : Value, e = .returned (.tuple #[v0_, .bool r2]) ∧ Kd.R Kd.string 9 w' w.heap.size (fun _ => True) v0_ r1 ∧ Below w.heap.size w w' := by
 have hu24 := Try.underlying24
 have HR0 := Aside0.mk hr0
 have HC0 := Aside0.mk hc0
 clear hr0 hc0
 have HR1 := Aside0.mk hr1
 have HC1 := Aside0.mk hc1
 clear hr1 hc1
 have HB := Aside0.mk (Below.refl w.heap.size w)
 have H : ((impl_sameSize.f k l0 l1).bind fun t473 => (if t473 = true then ((impl_scanFaults.f k l0 l1).bind fun t474 => (if t474 > 0 then (some (([] : List ByteArray), false)) else (if 0 < (l0.length : Int) then ((impl_drawnW.f k (l0.length : Int) ((rdOf ByteArray.empty l0 0).size : Int) (fun a0_ a1_ => impl_MeetScans_1.f a0_ a1_ l0 l1)).bind fun t476 => (some (t476, true))) else (none)))) else (some (([] : List ByteArray), false)))) = some (r1, r2) := h
 clear h
 replace H := Option.bind_eq_some_iff.mp H
 obtain ⟨t473, A30, H⟩ := H
 (try dsimp only at H)
 have A3 := Aside0.mk A30
 clear A30
 by_cases c4 : t473 = true
 ·subst c4
  rw [if_pos rfl] at H
  replace H := Option.bind_eq_some_iff.mp H
  obtain ⟨t474, A50, H⟩ := H
  (try dsimp only at H)
  have A5 := Aside0.mk A50
  clear A50
  by_cases c6 : t474 > 0
  ·rw [if_pos c6] at H
   have c6b0 : decide (0 < t474) = true := decide_eq_true c6
   clear c6
   simp only [Option.some.injEq, Prod.mk.injEq] at H
   obtain ⟨rfl, rfl⟩ := H
   go_enter Try.func11, Try.ntmps11
   go_wp2_with (first | ((with_reducible refine gate_dst (N := 2) rfl ?_); refine bv_ 2 24 #[.slice A0 l0.length c0] ?_; intro gb471 hg w7 hbox hb; refine k4_ (below_step (Z2) hb) (hbox) ((Z34 : w.heap.size ≤ gb471)) ((Z34 : w.heap.size ≤ gb471)) ?_; clear HB; intro HB BK471 GW471 GE471; clear hb hbox hg) | ((with_reducible refine gate_dst (N := 3) rfl ?_); refine bv_ 3 24 #[.slice A1 l1.length c1] ?_; intro gb472 hg w8 hbox hb; refine k7_ (blk_below (g := gb471) (o := .cells #[.slice A0 l0.length c0] 24 (0, 0)) (Z4 BK471.out) hb) (below_step (Z42) hb) (hbox) ((Z94 : w.heap.size ≤ gb472)) ((Z94 : w.heap.size ≤ gb472)) ((Z87 : gb471 ≠ gb472)) ((Z88 : gb472 ≠ gb471)) ?_; clear BK471 HB; intro BK471 HB BK472 GW472 GE472 NB471_472 NB472_471; clear hb hbox hg; have hnb9 := NB471_472.out; have hnc9 := NB472_471.out; obtain ⟨hcz10_0, hfz10_0⟩ := bx1_ (w := w8) BK471.out; obtain ⟨hcz11_0, hfz11_0⟩ := bx1_ (w := w8) BK472.out) | ((with_reducible refine gate_callee (f := 54) rfl ?_); refine gl_ 8 Try.func54 #[.slice A0 l0.length c0, .slice A1 l1.length c1] ?_; (with_reducible refine (impl_sameSize.calls k _ _ l0 _ _ l1 true _ ?_ ?_ ?_ ?_ A3.out).mono ?_); exact Z13 HR0.out; exact HC0.out; exact Z13 HR1.out; exact HC1.out; rintro e w' ⟨rfl, ⟨nd, rfl⟩⟩; refine ⟨_, rfl, ?_⟩) | (go_at_call 55; (with_reducible refine (impl_scanFaults.calls k _ _ l0 _ _ l1 t474 _ ?_ ?_ ?_ ?_ A5.out).mono ?_); exact Z69 HR0.out; exact HC0.out; exact Z69 HR1.out; exact HC1.out; rintro e w' ⟨rfl, ⟨nd, rfl⟩⟩))
   go_ret2
   exact ⟨_, Z11, Z21, Z33⟩
  rw [if_neg c6] at H
  have c6b0 : decide (0 < t474) = false := decide_eq_false c6
  clear c6
  by_cases c12 : 0 < (l0.length : Int)
  ·rw [if_pos c12] at H
   have c12b0 : decide (0 < (l0.length : Int)) = true := decide_eq_true c12
   have c12b1 : decide (0 < l0.length) = true := decide_eq_true (by omega)
   clear c12
   replace H := Option.bind_eq_some_iff.mp H
   obtain ⟨t476, A130, H⟩ := H
   replace H : (some (t476, true)) = some (r1, r2) := H
   have A13 := Aside0.mk A130
   clear A130
   simp only [Option.some.injEq, Prod.mk.injEq] at H
   obtain ⟨rfl, rfl⟩ := H
   go_enter Try.func11, Try.ntmps11
   try go_wp2_with (first | ((with_reducible refine gate_dst (N := 2) rfl ?_); refine bv_ 2 24 #[.slice A0 l0.length c0] ?_; intro gb471 hg w14 hbox hb; refine k4_ (below_step (Z2) hb) (hbox) ((Z34 : w.heap.size ≤ gb471)) ((Z34 : w.heap.size ≤ gb471)) ?_; clear HB; intro HB BK471 GW471 GE471; clear hb hbox hg) | ((with_reducible refine gate_dst (N := 3) rfl ?_); refine bv_ 3 24 #[.slice A1 l1.length c1] ?_; intro gb472 hg w15 hbox hb; refine k7_ (blk_below (g := gb471) (o := .cells #[.slice A0 l0.length c0] 24 (0, 0)) (Z4 BK471.out) hb) (below_step (Z42) hb) (hbox) ((Z94 : w.heap.size ≤ gb472)) ((Z94 : w.heap.size ≤ gb472)) ((Z87 : gb471 ≠ gb472)) ((Z88 : gb472 ≠ gb471)) ?_; clear BK471 HB; intro BK471 HB BK472 GW472 GE472 NB471_472 NB472_471; clear hb hbox hg; have hnb16 := NB471_472.out; have hnc16 := NB472_471.out; obtain ⟨hcz17_0, hfz17_0⟩ := bx1_ (w := w15) BK471.out; obtain ⟨hcz18_0, hfz18_0⟩ := bx1_ (w := w15) BK472.out) | ((with_reducible refine gate_callee (f := 54) rfl ?_); refine gl_ 8 Try.func54 #[.slice A0 l0.length c0, .slice A1 l1.length c1] ?_; (with_reducible refine (impl_sameSize.calls k _ _ l0 _ _ l1 true _ ?_ ?_ ?_ ?_ A3.out).mono ?_); exact Z13 HR0.out; exact HC0.out; exact Z13 HR1.out; exact HC1.out; rintro e w' ⟨rfl, ⟨nd, rfl⟩⟩; refine ⟨_, rfl, ?_⟩) | (go_at_call 55; (with_reducible refine (impl_scanFaults.calls k _ _ l0 _ _ l1 t474 _ ?_ ?_ ?_ ?_ A5.out).mono ?_); exact Z69 HR0.out; exact HC0.out; exact Z69 HR1.out; exact HC1.out; rintro e w' ⟨rfl, ⟨nd, rfl⟩⟩))
   (try (rw [drewN_self w15]; generalize hq_ : World.drewN w15 _ = w15; have n0_ : Aside0 (w15.heap[gb471]? = some (.cells #[.slice A0 l0.length c0] 24 (0, 0))) := ⟨by rw [← hq_]; exact Z4 BK471.out⟩; have n1_ : Aside0 (w15.heap[gb472]? = some (.cells #[.slice A1 l1.length c1] 24 (0, 0))) := ⟨by rw [← hq_]; exact Z4 BK472.out⟩; have n2_ : Aside0 (Below w.heap.size w w15) := ⟨by rw [← hq_]; exact Z33⟩; clear BK471 BK472 HB hq_; have BK471 := n0_; have BK472 := n1_; have HB := n2_; clear n0_ n1_ n2_))
   refine k3_ (blk_drew BK471.out) (blk_drew BK472.out) (below_drew1 HB.out) ?_
   clear BK471 BK472 HB
   intro BK471 BK472 HB
   have p475 : 0 ≤ (0 : Int) := (by omega)
   have q475 : 0 < (l0.length : Int) := of_decide_eq_true (Z8)
   obtain ⟨ad475, e475, hx475_0⟩ := Kd.at_string HR0.out 0 p475 q475
   have hw475_0 := hx475_0
   (try rw [show ((0 : Int)).toNat = 0 from rfl] at hw475_0)
   (try rw [show 0 * 1 = 0 from rfl] at hw475_0)
   (try rw [Addr.add_zero'] at hw475_0)
   cases e475
   have qi475 : (0 < l0.length) = True := eq_true (by omega)
   (try rw [show ((0 : Int)).toNat = 0 from rfl] at hx475_0)
   (try rw [Addr.add_zero'] at hx475_0)
   replace hx475_0 := (HB.out.cell (World.block_lt_of_cell? w _ hx475_0)).trans hx475_0
   replace p475 := eq_true p475
   replace q475 := eq_true q475
   refine start_ (n := 10) (S := fun w' => w'.cell? ⟨gb471, 0, none⟩ = some (.slice (some ad475) l0.length c0) ∧ w'.cell? ad475 = some (.string (rdOf ByteArray.empty l0 0))) (ds := []) (M_ 0 10) (by kernel_rfl) rfl rfl ⟨(blk_cell BK471.out 0).trans rfl, ((HB.out.cell (World.block_lt_of_cell? w _ hw475_0)).trans hw475_0)⟩ (fun hHeld => ?_); refine with_tabW impl_MeetScans.tab3 impl_MeetScans.bits3 (fun HT_ HW_ => ?_)
   generalize w15.drew = w19 at BK471 BK472 HB hx475_0 hHeld ⊢
   refine pu_ 6 22 (N_ 10 64) ?_
   refine tk2_ 0 16 (N_ 10 65) hHeld ?_
   refine pu_ 1 17 (N_ 10 67) ?_
   refine tk2_ 2 18 (N_ 10 71) hHeld ?_
   refine pu_ 3 19 (N_ 10 79) ?_
   refine tk2_ 4 20 (N_ 10 95) hHeld ?_
   refine pu_ 5 21 (M_ 7 3) ?_
   refine one_ (i := 7) (N := some 23) (M_ 8 2) rfl rfl (one_of HT_.out (by kernel_rfl)) (by decide) (fun K hK => ?_)
   refine goes_ Try.func48 (by kernel_rfl) rfl #[.int .i64 (l0.length : Int), .int .i64 ((rdOf ByteArray.empty l0 0).size : Int), .func (.func 56) #[] #[.pointer (some ⟨gb471, 0, none⟩), .pointer (some ⟨gb472, 0, none⟩)]] (by rfl) rfl rfl (Z18) ?_
   with_reducible refine (impl_drawnW.calls k (l0.length : Int) ((rdOf ByteArray.empty l0 0).size : Int) 56 Try.f56 #[.pointer (some ⟨gb471, 0, none⟩), .pointer (some ⟨gb472, 0, none⟩)] Try.func56 (by kernel_rfl) rfl (fun a0_ a1_ => impl_MeetScans_1.f a0_ a1_ l0 l1) t476 _ ?side1 A13.out).mono ?_
   (case side1 => intro a0_ a1_ r_ W_ hW_ h_; (try simp only [List.append_toArray, List.cons_append, List.nil_append]); exact (impl_MeetScans_1.calls a0_ a1_ gb471 _ _ l0 gb472 _ _ l1 r_ W_ (Kd.C_below (Z13 HR0.out) hW_) HC0.out (Kd.C_below (Z13 HR1.out) hW_) HC1.out (blk_below (g := gb471) (o := .cells #[.slice (some ad475) l0.length c0] 24 (0, 0)) (Z4 BK471.out) hW_) (blk_below (g := gb472) (o := .cells #[.slice A1 l1.length c1] 24 (0, 0)) (Z4 BK472.out) hW_) NB471_472.out NB472_471.out h_).mono (fun e_ w_ h2_ => ⟨h2_.1, h2_.2.below⟩))
   rintro e w20 ⟨v477, rfl, ho0, hb⟩
   refine ⟨_, rfl, ?_⟩
   refine k4_ (Kd.R_lower ho0 (below_size (Z33))) (blk_below (g := gb471) (o := .cells #[.slice (some ad475) l0.length c0] 24 (0, 0)) (Z4 BK471.out) hb) (blk_below (g := gb472) (o := .cells #[.slice A1 l1.length c1] 24 (0, 0)) (Z4 BK472.out) hb) (below_step (Z33) hb) ?_
   clear BK471 BK472 HB
   intro HO478 BK471 BK472 HB
   (try clear hb)
   (try clear hb2)
   (try clear hk)
   (try clear hi)
   (try clear ho0)
   refine hK.out _ _ ⟨(blk_cell BK471.out 0).trans rfl, ((HB.out.cell (World.block_lt_of_cell? w _ hw475_0)).trans hw475_0)⟩ (fun hHeld => ?_)
   clear hK K
   refine norm_ (a' := ?_) ?_ ?_
   rotate_left
   ·show Act.put _ (some 23) _ = _
    simp only [Act.put, List.setIfInBounds_toArray, List.set_cons_zero, List.set_cons_succ, i64_w, i32_w]
    rfl
   refine pu_ 8 4 (M_ 9 1) ?_
   refine pu_ 9 5 (M_ 10 0) ?_
   refine done_ (done_of HT_.out (by kernel_rfl)) ?_
   try go_wp2
   go_ret2
   exact ⟨_, Z11, Z1 HO478.out, Z33⟩
  rw [if_neg c12] at H
  exact absurd H (by simp)
 replace c4 := Bool.eq_false_iff.mpr c4
 subst c4
 rw [if_neg (show ¬ (false = true) by decide)] at H
 simp only [Option.some.injEq, Prod.mk.injEq] at H
 obtain ⟨rfl, rfl⟩ := H
 go_enter Try.func11, Try.ntmps11
 go_wp2_with (first | ((with_reducible refine gate_dst (N := 2) rfl ?_); refine bv_ 2 24 #[.slice A0 l0.length c0] ?_; intro gb471 hg w21 hbox hb; refine k4_ (below_step (Z2) hb) (hbox) ((Z34 : w.heap.size ≤ gb471)) ((Z34 : w.heap.size ≤ gb471)) ?_; clear HB; intro HB BK471 GW471 GE471; clear hb hbox hg) | ((with_reducible refine gate_dst (N := 3) rfl ?_); refine bv_ 3 24 #[.slice A1 l1.length c1] ?_; intro gb472 hg w22 hbox hb; refine k7_ (blk_below (g := gb471) (o := .cells #[.slice A0 l0.length c0] 24 (0, 0)) (Z4 BK471.out) hb) (below_step (Z42) hb) (hbox) ((Z94 : w.heap.size ≤ gb472)) ((Z94 : w.heap.size ≤ gb472)) ((Z87 : gb471 ≠ gb472)) ((Z88 : gb472 ≠ gb471)) ?_; clear BK471 HB; intro BK471 HB BK472 GW472 GE472 NB471_472 NB472_471; clear hb hbox hg; have hnb23 := NB471_472.out; have hnc23 := NB472_471.out; obtain ⟨hcz24_0, hfz24_0⟩ := bx1_ (w := w22) BK471.out; obtain ⟨hcz25_0, hfz25_0⟩ := bx1_ (w := w22) BK472.out) | ((with_reducible refine gate_callee (f := 54) rfl ?_); refine gl_ 8 Try.func54 #[.slice A0 l0.length c0, .slice A1 l1.length c1] ?_; (with_reducible refine (impl_sameSize.calls k _ _ l0 _ _ l1 false _ ?_ ?_ ?_ ?_ A3.out).mono ?_); exact Z13 HR0.out; exact HC0.out; exact Z13 HR1.out; exact HC1.out; rintro e w' ⟨rfl, ⟨nd, rfl⟩⟩; refine ⟨_, rfl, ?_⟩))
 go_ret2
 exact ⟨_, Z11, Z21, Z33⟩

/-! ### strings_Count: function 92: by this session -/
def strings_Count.f (a0 : ByteArray) (a1 : ByteArray) : Option (Int) := match a1.data.toList with
 | [c] => some ((Go.Lib.countByte a0.data.toList c : Nat) : Int)
 | _ => none
set_option maxHeartbeats 1000000 in
set_option maxRecDepth 100000 in
theorem strings_Count.one (a0 : ByteArray) (c : UInt8) (w : World) :
  Calls Try.prog 92 #[.string a0, .string ⟨#[c]⟩] w fun e w' => e = .returned (.int .i64 (Go.Lib.countByte a0.data.toList c)) ∧ Drawn0 w w' := by
 go_enter Try.func92, Try.ntmps92
 go_wp2
 rw [run_callFunc_extern Try.func115 (by kernel_rfl) (by kernel_rfl) (by kernel_rfl) (e := Extern.BytealgCount.count) (by kernel_rfl), Lib.run_countString]
 simp only [Result.andThen]
 rw [Oper.upon_value]
 go_wp2
 go_ret
 exact ⟨rfl, Drawn0.refl _⟩
theorem strings_Count.calls (a0 : ByteArray) (a1 : ByteArray) (r : Int) (w : World) (h : strings_Count.f a0 a1 = some r) :
  Calls Try.prog 92 #[.string a0, .string a1] w fun e w' => e = .returned (.int .i64 r) ∧ Drawn0 w w' := by
 unfold strings_Count.f at h
 split at h
 ·rename_i c hc
  obtain rfl := Option.some.inj h
  have e : a1 = ⟨#[c]⟩ := by
   obtain ⟨⟨l⟩⟩ := a1
   simp only at hc
   rw [hc]
  subst e
  exact strings_Count.one a0 c w
 cases h

/-! ### impl_countChar: function 57 -/
def impl_countChar.l0 : Nat → ByteArray → Int → List ByteArray → Int → Int → Option (Int)
 | 0, _, _, _, _, _ => none
 | k + 1, x1, x5, x8, x9, x10 => if x10 < x9 then (if 0 ≤ x10 then (if x10 < (x8.length : Int) then ((strings_Count.f (rdOf ByteArray.empty x8 x10) x1).bind fun t480 => (impl_countChar.l0 k x1 (wrap64 (x5 + t480)) x8 x9 (wrap64 (x10 + 1)))) else (none)) else (none)) else (some x5)
def impl_countChar.f (k : Nat) (l0 : List ByteArray) (a1 : ByteArray) : Option (Int) := impl_countChar.l0 k a1 0 l0 (l0.length : Int) 0
theorem impl_countChar.mono_l : ∀ k, (∀ y0 y1 y2 y3 y4, LeO (impl_countChar.l0 k y0 y1 y2 y3 y4) (impl_countChar.l0 (k + 1) y0 y1 y2 y3 y4))
 | 0 => fun _ _ _ _ _ r h => by simp [impl_countChar.l0] at h
 | k + 1 => by
  have ih0 := impl_countChar.mono_l k
  ·intro y0 y1 y2 y3 y4
   unfold impl_countChar.l0
   exact mo12_
theorem impl_countChar.mono : ∀ a0 a1 k, LeO (impl_countChar.f k a0 a1) (impl_countChar.f (k + 1) a0 a1) := by
 intro a0 a1 k
 have ih0 := impl_countChar.mono_l k
 unfold impl_countChar.f
 exact mo12_
set_option maxHeartbeats 8000000 in
set_option maxRecDepth 100000 in
theorem impl_countChar.calls (k : Nat) (A0 : Option Addr) (c0 : Nat) (l0 : List ByteArray) (a1 : ByteArray) (r : Int) (w : World) (hr0 : Kd.C Kd.string w A0 l0.length l0) (hc0 : l0.length ≤ c0) (h : impl_countChar.f k l0 a1 = some r) :
  Calls Try.prog 57 #[.slice A0 l0.length c0, .string a1] w fun e w' => e = .returned (.int .i64 r) ∧ Drawn0 w w' := by
 have HR0 := Aside0.mk hr0
 have HC0 := Aside0.mk hc0
 clear hr0 hc0
 have H : (impl_countChar.l0 k a1 0 l0 (l0.length : Int) 0) = some r := h
 clear h
 have H' := Aside0.mk H
 clear H
 go_enter Try.func57, Try.ntmps57
 go_wp2
 go_loopg [5, 10] k (fun kq v5 v10 w' => ∃ (x5_1 : Int) (x10_1 : Int), v5 = .int .i64 x5_1 ∧ v10 = .int .i64 x10_1 ∧ Aside0 (impl_countChar.l0 kq a1 x5_1 l0 (l0.length : Int) x10_1 = some r) ∧ Aside0 (kq ≤ k) ∧ Drawn0 w w')
 case atStart => exact ⟨(0), (0), (Z10), (Z10), H', ⟨Nat.le_refl _⟩, Z17⟩
 case round =>
  clear H'
  (try clear p2)
  obtain ⟨x5_1, x10_1, rfl, rfl, HA, HK1, ⟨m1, rfl⟩⟩ := hrel
  cases gk with
  | zero => exact absurd HA.out (by simp [impl_countChar.l0])
  | succ k1 =>
   have H := HA.out
   clear HA
   simp only [impl_countChar.l0] at H
   by_cases c3 : x10_1 < (l0.length : Int)
   ·rw [if_pos c3] at H
    have c3b0 : decide (x10_1 < (l0.length : Int)) = true := decide_eq_true c3
    clear c3
    by_cases c4 : 0 ≤ x10_1
    ·rw [if_pos c4] at H
     have c4b0 : decide (0 ≤ x10_1) = true := decide_eq_true c4
     clear c4
     by_cases c5 : x10_1 < (l0.length : Int)
     ·rw [if_pos c5] at H
      have c5b0 : decide (x10_1 < (l0.length : Int)) = true := decide_eq_true c5
      clear c5
      replace H := Option.bind_eq_some_iff.mp H
      obtain ⟨t480, A60, H⟩ := H
      (try dsimp only at H)
      have A6 := Aside0.mk A60
      clear A60
      have H' := Aside0.mk H
      clear H
      have p479 : 0 ≤ (x10_1 : Int) := of_decide_eq_true (Z8)
      have q479 : x10_1 < (l0.length : Int) := of_decide_eq_true (Z8)
      obtain ⟨ad479, e479, hx479_0⟩ := Kd.at_string HR0.out x10_1 p479 q479
      cases e479
      replace p479 := eq_true p479
      replace q479 := eq_true q479
      go_wp2_with (first | ((with_reducible refine gate_callee (f := 92) rfl ?_); refine gl_ 17 Try.func92 #[.string (rdOf ByteArray.empty l0 x10_1), .string a1] ?_; (with_reducible refine (strings_Count.calls (rdOf ByteArray.empty l0 x10_1) a1 t480 _ A6.out).mono ?_); rintro e w' ⟨rfl, ⟨nd, rfl⟩⟩; refine ⟨_, rfl, ?_⟩))
      go_roundg k1
      case measure => have := HK1.out; omega
      case rel => exact ⟨(wrap64 (x5_1 + t480)), (wrap64 (x10_1 + 1)), (Z10), (Z10), H', ⟨Z100⟩, Z17⟩
     rw [if_neg c5] at H
     exact absurd H (by simp)
    rw [if_neg c4] at H
    exact absurd H (by simp)
   rw [if_neg c3] at H
   have c3b0 : decide (x10_1 < (l0.length : Int)) = false := decide_eq_false c3
   clear c3
   obtain rfl := Option.some.inj H
   go_wp2
   go_ret
   exact ⟨Z10, Z17⟩

/-! ### impl_CountStains: function 12 -/
def impl_CountStains.f (k : Nat) (l0 : List ByteArray) : Option (Int × Bool) := (impl_IsScan.f k l0).bind fun t481 => (if t481 = true then ((impl_countChar.f k l0 (⟨#[63]⟩ : ByteArray)).bind fun t482 => (some (t482, true))) else (some (0, false)))
theorem impl_CountStains.mono : ∀ a0 k, LeO (impl_CountStains.f k a0) (impl_CountStains.f (k + 1) a0) := by
 intro a0 k
 unfold impl_CountStains.f
 exact mo12_
set_option maxHeartbeats 8000000 in
set_option maxRecDepth 100000 in
theorem impl_CountStains.calls (k : Nat) (A0 : Option Addr) (c0 : Nat) (l0 : List ByteArray) (r1 : Int) (r2 : Bool) (w : World) (hr0 : Kd.C Kd.string w A0 l0.length l0) (hc0 : l0.length ≤ c0) (h : impl_CountStains.f k l0 = some (r1, r2)) :
  Calls Try.prog 12 #[.slice A0 l0.length c0] w fun e w' => e = .returned (.tuple #[.int .i64 r1, .bool r2]) ∧ Drawn0 w w' := by
 have HR0 := Aside0.mk hr0
 have HC0 := Aside0.mk hc0
 clear hr0 hc0
 have H : ((impl_IsScan.f k l0).bind fun t481 => (if t481 = true then ((impl_countChar.f k l0 (⟨#[63]⟩ : ByteArray)).bind fun t482 => (some (t482, true))) else (some (0, false)))) = some (r1, r2) := h
 clear h
 replace H := Option.bind_eq_some_iff.mp H
 obtain ⟨t481, A20, H⟩ := H
 (try dsimp only at H)
 have A2 := Aside0.mk A20
 clear A20
 by_cases c3 : t481 = true
 ·subst c3
  rw [if_pos rfl] at H
  replace H := Option.bind_eq_some_iff.mp H
  obtain ⟨t482, A40, H⟩ := H
  replace H : (some (t482, true)) = some (r1, r2) := H
  have A4 := Aside0.mk A40
  clear A40
  simp only [Option.some.injEq, Prod.mk.injEq] at H
  obtain ⟨rfl, rfl⟩ := H
  go_enter Try.func12, Try.ntmps12
  go_wp2_with (first | ((with_reducible refine gate_callee (f := 47) rfl ?_); refine gl_ 5 Try.func47 #[.slice A0 l0.length c0] ?_; (with_reducible refine (impl_IsScan.calls k _ _ l0 true _ ?_ ?_ A2.out).mono ?_); exact Z9 HR0.out; exact HC0.out; rintro e w' ⟨rfl, ⟨nd, rfl⟩⟩; refine ⟨_, rfl, ?_⟩) | ((with_reducible refine gate_callee (f := 57) rfl ?_); refine gl_ 8 Try.func57 #[.slice A0 l0.length c0, .string (⟨#[63]⟩ : ByteArray)] ?_; (with_reducible refine (impl_countChar.calls k _ _ l0 (⟨#[63]⟩ : ByteArray) t482 _ ?_ ?_ A4.out).mono ?_); exact Z9 HR0.out; exact HC0.out; rintro e w' ⟨rfl, ⟨nd, rfl⟩⟩; refine ⟨_, rfl, ?_⟩))
  go_ret2
  exact ⟨Z10, Z17⟩
 replace c3 := Bool.eq_false_iff.mpr c3
 subst c3
 rw [if_neg (show ¬ (false = true) by decide)] at H
 simp only [Option.some.injEq, Prod.mk.injEq] at H
 obtain ⟨rfl, rfl⟩ := H
 go_enter Try.func12, Try.ntmps12
 go_wp2_with (first | ((with_reducible refine gate_callee (f := 47) rfl ?_); refine gl_ 5 Try.func47 #[.slice A0 l0.length c0] ?_; (with_reducible refine (impl_IsScan.calls k _ _ l0 false _ ?_ ?_ A2.out).mono ?_); exact Z9 HR0.out; exact HC0.out; rintro e w' ⟨rfl, ⟨nd, rfl⟩⟩; refine ⟨_, rfl, ?_⟩))
 go_ret2
 exact ⟨Z10, Z17⟩

/-! ### spec_scFloor: function 96 -/
def spec_scFloor.f (a0 : Int) : Option (Int) := if (Int.tmod a0 10) < 0 then (some (wrap64 ((wrap64 (Int.tdiv a0 10)) - 1))) else (some (wrap64 (Int.tdiv a0 10)))
set_option maxHeartbeats 8000000 in
set_option maxRecDepth 100000 in
theorem spec_scFloor.calls (a0 : Int) (r : Int) (w : World) (h : spec_scFloor.f a0 = some r) :
  Calls Try.prog 96 #[.int .i64 a0] w fun e w' => e = .returned (.int .i64 r) ∧ Drawn0 w w' := by
 have H : (if (Int.tmod a0 10) < 0 then (some (wrap64 ((wrap64 (Int.tdiv a0 10)) - 1))) else (some (wrap64 (Int.tdiv a0 10)))) = some r := h
 clear h
 by_cases c2 : (Int.tmod a0 10) < 0
 ·rw [if_pos c2] at H
  have c2b0 : decide ((Int.tmod a0 10) < 0) = true := decide_eq_true c2
  clear c2
  obtain rfl := Option.some.inj H
  go_enter Try.func96, Try.ntmps96
  go_wp2
  go_ret
  exact ⟨Z10, Z17⟩
 rw [if_neg c2] at H
 have c2b0 : decide ((Int.tmod a0 10) < 0) = false := decide_eq_false c2
 clear c2
 obtain rfl := Option.some.inj H
 go_enter Try.func96, Try.ntmps96
 go_wp2
 go_ret
 exact ⟨Z10, Z17⟩

/-! ### spec_scSkew: function 64 -/
mutual
def spec_scSkew.l0 : Nat → List ByteArray → Int → List ByteArray → List ByteArray → Int → Int → Option (List ByteArray)
 | 0, _, _, _, _, _, _ => none
 | k + 1, x0, x1, x5, x11, x12, x13 => if x13 < x12 then (if 0 ≤ x13 then (if x13 < (x11.length : Int) then (spec_scSkew.l1 k x0 x1 x5 x13 (rdOf ByteArray.empty x11 x13) (⟨#[]⟩ : ByteArray) 0 x11 x12 x13) else (none)) else (none)) else (some x5)
def spec_scSkew.l1 : Nat → List ByteArray → Int → List ByteArray → Int → ByteArray → ByteArray → Int → List ByteArray → Int → Int → Option (List ByteArray)
 | 0, _, _, _, _, _, _, _, _, _, _ => none
 | k + 1, x0, x1, x5, x6, x7, x8, x9, x11, x12, x13 => if x9 < (x7.size : Int) then ((spec_scFloor.f (wrap64 (x9 * x1))).bind fun t487 => ((spec_l1In.f (wrap64 (x6 + t487)) 0 (wrap64 ((x0.length : Int) - 1))).bind fun t488 => (if t488 = true then (if 0 ≤ (wrap64 (x6 + t487)) then (if (wrap64 (x6 + t487)) < (x0.length : Int) then (if 0 ≤ x9 then (if x9 ≤ (wrap64 (x9 + 1)) then (if (wrap64 (x9 + 1)) ≤ ((rdOf ByteArray.empty x0 (wrap64 (x6 + t487))).size : Int) then (if x8.size + ((rdOf ByteArray.empty x0 (wrap64 (x6 + t487))).extract (x9 : Int).toNat ((wrap64 (x9 + 1)) : Int).toNat).size ≤ 9223372036854775807 then (spec_scSkew.l1 k x0 x1 x5 x6 x7 (x8 ++ ((rdOf ByteArray.empty x0 (wrap64 (x6 + t487))).extract (x9 : Int).toNat ((wrap64 (x9 + 1)) : Int).toNat)) (wrap64 (x9 + 1)) x11 x12 x13) else (none)) else (none)) else (none)) else (none)) else (none)) else (none)) else (if x8.size + 1 ≤ 9223372036854775807 then (spec_scSkew.l1 k x0 x1 x5 x6 x7 (x8 ++ (⟨#[63]⟩ : ByteArray)) (wrap64 (x9 + 1)) x11 x12 x13) else (none))))) else (if x5.length < 8796093022208 then (spec_scSkew.l0 k x0 x1 (x5 ++ [x8]) x11 x12 (wrap64 (x13 + 1))) else (none))
end
def spec_scSkew.f (k : Nat) (l0 : List ByteArray) (a1 : Int) : Option (List ByteArray) := spec_scSkew.l0 k l0 a1 ([] : List ByteArray) l0 (l0.length : Int) 0
theorem spec_scSkew.mono_l : ∀ k, (∀ y0 y1 y2 y3 y4 y5, LeO (spec_scSkew.l0 k y0 y1 y2 y3 y4 y5) (spec_scSkew.l0 (k + 1) y0 y1 y2 y3 y4 y5)) ∧ (∀ y0 y1 y2 y3 y4 y5 y6 y7 y8 y9, LeO (spec_scSkew.l1 k y0 y1 y2 y3 y4 y5 y6 y7 y8 y9) (spec_scSkew.l1 (k + 1) y0 y1 y2 y3 y4 y5 y6 y7 y8 y9))
 | 0 => ⟨fun _ _ _ _ _ _ r h => by simp [spec_scSkew.l0] at h, fun _ _ _ _ _ _ _ _ _ _ r h => by simp [spec_scSkew.l1] at h⟩
 | k + 1 => by
  obtain ⟨ih0, ih1⟩ := spec_scSkew.mono_l k
  refine ⟨?_, ?_⟩
  ·intro y0 y1 y2 y3 y4 y5
   unfold spec_scSkew.l0
   exact mo12_
  intro y0 y1 y2 y3 y4 y5 y6 y7 y8 y9
  unfold spec_scSkew.l1
  exact mo12_
theorem spec_scSkew.mono : ∀ a0 a1 k, LeO (spec_scSkew.f k a0 a1) (spec_scSkew.f (k + 1) a0 a1) := by
 intro a0 a1 k
 obtain ⟨ih0, ih1⟩ := spec_scSkew.mono_l k
 unfold spec_scSkew.f
 exact mo12_
set_option maxHeartbeats 8000000 in
set_option maxRecDepth 100000 in
theorem spec_scSkew.calls (k : Nat) (A0 : Option Addr) (c0 : Nat) (l0 : List ByteArray) (a1 : Int) (r : List ByteArray) (w : World) (hr0 : Kd.C Kd.string w A0 l0.length l0) (hc0 : l0.length ≤ c0) (h : spec_scSkew.f k l0 a1 = some r) :
  Calls Try.prog 64 #[.slice A0 l0.length c0, .int .i64 a1] w fun e w' => ∃ v0_ : Value, e = .returned (v0_) ∧ Kd.R Kd.string 9 w' w.heap.size (fun _ => True) v0_ r ∧ Below w.heap.size w w' := by
 have HR0 := Aside0.mk hr0
 have HC0 := Aside0.mk hc0
 clear hr0 hc0
 have HB := Aside0.mk (Below.refl w.heap.size w)
 have H : (spec_scSkew.l0 k l0 a1 ([] : List ByteArray) l0 (l0.length : Int) 0) = some r := h
 clear h
 have H' := Aside0.mk H
 clear H
 go_enter Try.func64, Try.ntmps64
 go_wp2
 go_loopg [5, 13] k (fun kq v5 v13 w' => ∃ (x5_1 : List ByteArray) (x13_1 : Int), v13 = .int .i64 x13_1 ∧ Aside0 (spec_scSkew.l0 kq l0 a1 x5_1 l0 (l0.length : Int) x13_1 = some r) ∧ Aside0 (kq ≤ k) ∧ Aside0 (Kd.R Kd.string 9 w' w.heap.size (fun _ => True) v5 x5_1) ∧ Aside0 (Below w.heap.size w w'))
 case atStart => exact ⟨(([] : List ByteArray)), (0), (Z10), H', ⟨Nat.le_refl _⟩, ⟨Z21⟩, ⟨Z2⟩⟩
 case round =>
  clear H'
  (try clear p2)
  obtain ⟨x5_1, x13_1, rfl, HA, HK1, HO_5, HB⟩ := hrel
  cases gk with
  | zero => exact absurd HA.out (by simp [spec_scSkew.l0])
  | succ k1 =>
   have H := HA.out
   clear HA
   simp only [spec_scSkew.l0] at H
   by_cases c3 : x13_1 < (l0.length : Int)
   ·rw [if_pos c3] at H
    have c3b0 : decide (x13_1 < (l0.length : Int)) = true := decide_eq_true c3
    clear c3
    by_cases c4 : 0 ≤ x13_1
    ·rw [if_pos c4] at H
     have c4b0 : decide (0 ≤ x13_1) = true := decide_eq_true c4
     clear c4
     by_cases c5 : x13_1 < (l0.length : Int)
     ·rw [if_pos c5] at H
      have c5b0 : decide (x13_1 < (l0.length : Int)) = true := decide_eq_true c5
      clear c5
      have H' := Aside0.mk H
      clear H
      have p483 : 0 ≤ (x13_1 : Int) := of_decide_eq_true (Z8)
      have q483 : x13_1 < (l0.length : Int) := of_decide_eq_true (Z8)
      obtain ⟨ad483, e483, hx483_0⟩ := Kd.at_string HR0.out x13_1 p483 q483
      cases e483
      replace hx483_0 := (HB.out.cell (World.block_lt_of_cell? w _ hx483_0)).trans hx483_0
      replace p483 := eq_true p483
      replace q483 := eq_true q483
      go_wp2
      go_loopg [8, 9] k1 (fun kq v8 v9 w' => ∃ (x8_2 : ByteArray) (x9_2 : Int), v8 = .string x8_2 ∧ v9 = .int .i64 x9_2 ∧ Aside0 (spec_scSkew.l1 kq l0 a1 x5_1 x13_1 (rdOf ByteArray.empty l0 x13_1) x8_2 x9_2 l0 (l0.length : Int) x13_1 = some r) ∧ Aside0 (kq ≤ k1) ∧ Aside0 (Kd.R Kd.string 9 w' w.heap.size (fun _ => True) u5 x5_1) ∧ Aside0 (Below w.heap.size w w'))
      case atStart => exact ⟨((⟨#[]⟩ : ByteArray)), (0), (Z10), (Z10), H', ⟨Nat.le_refl _⟩, ⟨Z1 HO_5.out⟩, ⟨Z2⟩⟩
      case round =>
       clear H'
       (try clear c3); (try clear c3b0); (try clear c4); (try clear c4b0); (try clear p4); (try clear q4); (try clear hx4); (try clear c5); (try clear c5b0); (try clear hx483_0); (try clear p483); (try clear q483)
       obtain ⟨x8_2, x9_2, rfl, rfl, HA, HK2, HO_5, HB⟩ := hrel
       cases gk with
       | zero => exact absurd HA.out (by simp [spec_scSkew.l1])
       | succ k2 =>
        have H := HA.out
        clear HA
        simp only [spec_scSkew.l1] at H
        by_cases c6 : x9_2 < ((rdOf ByteArray.empty l0 x13_1).size : Int)
        ·rw [if_pos c6] at H
         have c6b0 : decide (x9_2 < ((rdOf ByteArray.empty l0 x13_1).size : Int)) = true := decide_eq_true c6
         clear c6
         replace H := Option.bind_eq_some_iff.mp H
         obtain ⟨t487, A70, H⟩ := H
         (try dsimp only at H)
         have A7 := Aside0.mk A70
         clear A70
         replace H := Option.bind_eq_some_iff.mp H
         obtain ⟨t488, A80, H⟩ := H
         (try dsimp only at H)
         have A8 := Aside0.mk A80
         clear A80
         by_cases c9 : t488 = true
         ·subst c9
          rw [if_pos rfl] at H
          obtain ⟨ji10, hji10⟩ : ∃ j_ : Int, (wrap64 (x13_1 + t487)) = j_ := ⟨_, rfl⟩
          replace H : (if 0 ≤ (ji10) then (if (ji10) < (l0.length : Int) then (if 0 ≤ x9_2 then (if x9_2 ≤ (wrap64 (x9_2 + 1)) then (if (wrap64 (x9_2 + 1)) ≤ ((rdOf ByteArray.empty l0 (ji10)).size : Int) then (if x8_2.size + ((rdOf ByteArray.empty l0 (ji10)).extract (x9_2 : Int).toNat ((wrap64 (x9_2 + 1)) : Int).toNat).size ≤ 9223372036854775807 then (spec_scSkew.l1 k2 l0 a1 x5_1 x13_1 (rdOf ByteArray.empty l0 x13_1) (x8_2 ++ ((rdOf ByteArray.empty l0 (ji10)).extract (x9_2 : Int).toNat ((wrap64 (x9_2 + 1)) : Int).toNat)) (wrap64 (x9_2 + 1)) l0 (l0.length : Int) x13_1) else (none)) else (none)) else (none)) else (none)) else (none)) else (none)) = some r := by first | (rw [hji10] at H; exact H) | (simp only [hji10] at H ⊢; exact H)
          (try rw [hji10] at A7)
          (try rw [hji10] at A8)
          have hji10w : (IntKind.i64.wrap (x13_1 + t487)) = ji10 := (i64_w _).trans hji10
          by_cases c11 : 0 ≤ (ji10)
          ·rw [if_pos c11] at H
           have c11b0 : decide (0 ≤ (ji10)) = true := decide_eq_true c11
           clear c11
           by_cases c12 : (ji10) < (l0.length : Int)
           ·rw [if_pos c12] at H
            have c12b0 : decide ((ji10) < (l0.length : Int)) = true := decide_eq_true c12
            clear c12
            by_cases c13 : 0 ≤ x9_2
            ·rw [if_pos c13] at H
             have c13b0 := eq_true c13
             have c13b1 : decide (0 ≤ x9_2) = true := decide_eq_true c13
             clear c13
             by_cases c14 : x9_2 ≤ (wrap64 (x9_2 + 1))
             ·rw [if_pos c14] at H
              have c14b0 := eq_true c14
              have c14b1 : decide (x9_2 ≤ (wrap64 (x9_2 + 1))) = true := decide_eq_true c14
              by_cases c15 : (wrap64 (x9_2 + 1)) ≤ ((rdOf ByteArray.empty l0 (ji10)).size : Int)
              ·rw [if_pos c15] at H
               have c15b0 := eq_true c15
               have c15b1 : decide ((wrap64 (x9_2 + 1)) ≤ ((rdOf ByteArray.empty l0 (ji10)).size : Int)) = true := decide_eq_true c15
               by_cases c16 : x8_2.size + ((rdOf ByteArray.empty l0 (ji10)).extract (x9_2 : Int).toNat ((wrap64 (x9_2 + 1)) : Int).toNat).size ≤ 9223372036854775807
               ·rw [if_pos c16] at H
                have c16b0 := eq_true c16
                have c16b1 : decide (x8_2.size + ((rdOf ByteArray.empty l0 (ji10)).extract (x9_2 : Int).toNat ((wrap64 (x9_2 + 1)) : Int).toNat).size ≤ 9223372036854775807) = true := decide_eq_true c16
                try have c16b2 : (9223372036854775807 < x8_2.size + ((rdOf ByteArray.empty l0 (ji10)).extract (x9_2 : Int).toNat ((wrap64 (x9_2 + 1)) : Int).toNat).size) = False := eq_false (Nat.not_lt.2 c16)
                have H' := Aside0.mk H
                clear H
                go_wp2_with (first | ((with_reducible refine gate_callee (f := 96) rfl ?_); refine gl_ 28 Try.func96 #[.int .i64 (wrap64 (x9_2 * a1))] ?_; (with_reducible refine (spec_scFloor.calls (wrap64 (x9_2 * a1)) t487 _ A7.out).mono ?_); rintro e w' ⟨rfl, ⟨nd, rfl⟩⟩; refine ⟨_, rfl, ?_⟩) | ((with_reducible refine gate_callee (f := 52) rfl ?_); refine goesL_ (some 34) rfl rfl Try.func52 (by kernel_rfl) rfl #[.int .i64 ji10, .int .i64 0, .int .i64 (wrap64 ((l0.length : Int) - 1))] rfl (by (try simp only [List.map_toArray, List.map_cons, List.map_nil]); first | done | (simp only [hji10]; rfl) | rfl | (simp only [List.length_drop, List.length_take]; rfl)) ?_; (with_reducible refine (spec_l1In.calls ji10 0 (wrap64 ((l0.length : Int) - 1)) true _ A8.out).mono ?_); rintro e w' ⟨rfl, ⟨nd, rfl⟩⟩; refine ⟨_, rfl, ?_⟩; have p489 : 0 ≤ ((ji10) : Int) := of_decide_eq_true (Z8); have q489 : (ji10) < (l0.length : Int) := of_decide_eq_true (Z8); obtain ⟨ad489, e489, hx489_0⟩ := Kd.at_string HR0.out (ji10) p489 q489; obtain rfl : ad483 = ad489 := (by injection e489); replace hx489_0 := (HB.out.cell (World.block_lt_of_cell? w _ hx489_0)).trans hx489_0; replace p489 := eq_true p489; replace q489 := eq_true q489))
                go_roundg k2
                case measure => have := HK1.out; have := HK2.out; omega
                case rel => exact ⟨(x8_2 ++ ((rdOf ByteArray.empty l0 (ji10)).extract (x9_2 : Int).toNat ((wrap64 (x9_2 + 1)) : Int).toNat)), (wrap64 (x9_2 + 1)), (by first | rfl | (simp; done) | (simp only [← hji10] <;> (first | rfl | simp)) | (simp [*]; done)), (Z10), H', ⟨Z47⟩, ⟨Z1 HO_5.out⟩, ⟨Z2⟩⟩
               rw [if_neg c16] at H
               exact absurd H (by simp)
              rw [if_neg c15] at H
              exact absurd H (by simp)
             rw [if_neg c14] at H
             exact absurd H (by simp)
            rw [if_neg c13] at H
            exact absurd H (by simp)
           rw [if_neg c12] at H
           exact absurd H (by simp)
          rw [if_neg c11] at H
          exact absurd H (by simp)
         replace c9 := Bool.eq_false_iff.mpr c9
         subst c9
         rw [if_neg (show ¬ (false = true) by decide)] at H
         by_cases c17 : x8_2.size + 1 ≤ 9223372036854775807
         ·rw [if_pos c17] at H
          have c17b0 := eq_true c17
          have c17b1 : decide (x8_2.size + 1 ≤ 9223372036854775807) = true := decide_eq_true c17
          try have c17b2 : (9223372036854775807 < x8_2.size + 1) = False := eq_false (Nat.not_lt.2 c17)
          have H' := Aside0.mk H
          clear H
          go_wp2_with (first | ((with_reducible refine gate_callee (f := 96) rfl ?_); refine gl_ 28 Try.func96 #[.int .i64 (wrap64 (x9_2 * a1))] ?_; (with_reducible refine (spec_scFloor.calls (wrap64 (x9_2 * a1)) t487 _ A7.out).mono ?_); rintro e w' ⟨rfl, ⟨nd, rfl⟩⟩; refine ⟨_, rfl, ?_⟩) | ((with_reducible refine gate_callee (f := 52) rfl ?_); refine gl_ 34 Try.func52 #[.int .i64 (wrap64 (x13_1 + t487)), .int .i64 0, .int .i64 (wrap64 ((l0.length : Int) - 1))] ?_; (with_reducible refine (spec_l1In.calls (wrap64 (x13_1 + t487)) 0 (wrap64 ((l0.length : Int) - 1)) false _ A8.out).mono ?_); rintro e w' ⟨rfl, ⟨nd, rfl⟩⟩; refine ⟨_, rfl, ?_⟩))
          go_roundg k2
          case measure => have := HK1.out; have := HK2.out; omega
          case rel => exact ⟨(x8_2 ++ (⟨#[63]⟩ : ByteArray)), (wrap64 (x9_2 + 1)), (Z10), (Z10), H', ⟨Z47⟩, ⟨Z1 HO_5.out⟩, ⟨Z2⟩⟩
         rw [if_neg c17] at H
         exact absurd H (by simp)
        rw [if_neg c6] at H
        have c6b0 : decide (x9_2 < ((rdOf ByteArray.empty l0 x13_1).size : Int)) = false := decide_eq_false c6
        clear c6
        by_cases c18 : x5_1.length < 8796093022208
        ·rw [if_pos c18] at H
         have LMc18 := Aside0.mk c18
         clear c18
         obtain ⟨y484, hy484⟩ : ∃ y_ : List ByteArray, y_ = (x5_1 ++ [x8_2]) := ⟨_, rfl⟩
         replace H : (spec_scSkew.l0 k2 l0 a1 y484 l0 (l0.length : Int) (wrap64 (x13_1 + 1))) = some r := by first | (rw [hy484]; with_reducible exact H) | (have H2_ := (Option.bind_some _ _).symm.trans H; rw [hy484]; with_reducible exact H2_) | (have H2_ := (Option.bind_some _ _).symm.trans H; with_reducible exact H2_) | with_reducible exact H | (rw [hy484]; exact H) | exact H
         have Ny484 := Aside0.mk hy484
         clear hy484
         have H' := Aside0.mk H
         clear H
         go_wp2_with (first | ((with_reducible refine gate_builtin (b := .append) (xs := #[.tmp 47, .tmp 49]) rfl ?_); at_builtin; refine Kd.R_append Kd.string (w0 := w) w.heap.size rfl (.tmp 47) (.tmp 49) 24 9 (.string ⟨#[]⟩) 16 rfl Try.underlying24 info9 rfl (by decide) (by omega) u5 x5_1 x8_2 [.string x8_2] (fun _ => True) (fun _ => False) rfl rfl ?aP (fun _ hk => hk.elim) ?aF ?aO ?aB ?aS ?aL ?_; (case aP => exact rfl); (case aB => exact Z2); (case aF => exact (fun _ _ => trivial)); (case aO => exact Z1 HO_5.out); (case aS => exact (below_size (Z2))); (case aL => have := LMc18.out; omega); intro v485 w19 ho hb hg hat; rw [← Ny484.out] at ho; refine k2_ (hb) (ho) ?_; clear HB HO_5; intro HB HO486; clear ho hb hg hat))
         go_roundg k2
         case measure => have := HK1.out; have := HK2.out; omega
         case rel => exact ⟨(y484), (wrap64 (x13_1 + 1)), (Z10), H', ⟨Z47⟩, ⟨Z1 HO486.out⟩, ⟨Z2⟩⟩
        rw [if_neg c18] at H
        exact absurd H (by simp)
     rw [if_neg c5] at H
     exact absurd H (by simp)
    rw [if_neg c4] at H
    exact absurd H (by simp)
   rw [if_neg c3] at H
   have c3b0 : decide (x13_1 < (l0.length : Int)) = false := decide_eq_false c3
   clear c3
   obtain rfl := Option.some.inj H
   go_wp2
   go_ret
   exact ⟨_, Z11, Z1 HO_5.out, Z2⟩

end Go.Proofs.Ytmnnmddfmmaohaa.PFnStains
