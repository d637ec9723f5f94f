-- written by a program of this session: the kit's print, with outer functions of the session's own (wip/ext)
import Derived.Test.YthjannkegjflbaaPFnExactShortestOrderx0
import Derived.Test.YthjannkegjflbaaPFnExactShortestOrderx3
namespace Go.Proofs.Ythjannkegjflbaa.PFnExactShortestOrder
open Go.RowKit Go.Proofs.YthjannkegjflbaaW.PrintWords Go.Proofs.YthjannkegjflbaaW.PrintLast Go.Proofs.YthjannkegjflbaaW.PrintMore
attribute [local go_sem] max2_int min2_int max_two min_two max_three min_three max_four min_four   -- for this text's walks alone
set_option linter.unusedVariables false
set_option linter.unusedSimpArgs false

/-! ### impl_headWay: function 27 -/
def impl_headWay.f (a0_0 : Int) (a0_1 : Int) (a1_0 : Int) (a1_1 : Int) (a2 : Int) : Option (Int) := (impl_distance.f a0_1 a1_1).bind fun t138 => ((impl_distance.f a0_0 a1_0).bind fun t139 => (some (wrap64 (t138 + (wrap64 (a2 * t139))))))
def impl_headWay.T1 : Bool × List (List Nat × List Nat) := (true, [([], []), ([0], [0]), ([], []), ([2], [2]), ([1, 3], [1, 3]), ([], []), ([], []), ([6], [6]), ([], []), ([8], [8]), ([7, 9, 4], [7, 9]), ([5, 10], [5, 10]), ([4, 11], [4, 11]), ([12, 10, 0, 1, 2, 3, 4, 5, 6, 7, 8, 9, 10, 11, 12], [12])])
def impl_headWay.B1 : List Nat := [0, 1, 0, 4, 15, 0, 0, 64, 0, 256, 991, 2047, 4095, 8191]
theorem impl_headWay.tab1 : rtab .any (opsOf Try.f27 1) = impl_headWay.T1 := by kernel_rfl
theorem impl_headWay.bits1 : waitsOk impl_headWay.T1.2 impl_headWay.B1 = true := by kernel_rfl
set_option maxHeartbeats 8000000 in
set_option maxRecDepth 100000 in
theorem impl_headWay.calls (a0_0 : Int) (a0_1 : Int) (a1_0 : Int) (a1_1 : Int) (a2 : Int) (r : Int) (w : World) (h : impl_headWay.f a0_0 a0_1 a1_0 a1_1 a2 = some r) :
  Calls Try.prog 27 #[.agg #[.int .i64 a0_0, .int .i64 a0_1], .agg #[.int .i64 a1_0, .int .i64 a1_1], .int .i64 a2] w fun e w' => e = .returned (.int .i64 r) ∧ Below w.heap.size w w' := by
 have hu39 := Try.underlying39
 have HB := Aside0.mk (Below.refl w.heap.size w)
 have H : ((impl_distance.f a0_1 a1_1).bind fun t138 => ((impl_distance.f a0_0 a1_0).bind fun t139 => (some (wrap64 (t138 + (wrap64 (a2 * t139))))))) = some r := h
 clear h
 replace H := Option.bind_eq_some_iff.mp H
 obtain ⟨t138, A40, H⟩ := H
 (try dsimp only at H)
 have A4 := Aside0.mk A40
 clear A40
 replace H := Option.bind_eq_some_iff.mp H
 obtain ⟨t139, A50, H⟩ := H
 (try dsimp only at H)
 have A5 := Aside0.mk A50
 clear A50
 obtain rfl := Option.some.inj H
 go_enter Try.func27, Try.ntmps27
 try go_wp2_with (first | ((with_reducible refine gate_dst (N := 3) rfl ?_); refine box_event ?hg (N := 3) ?hd (cs := #[.int .i64 a0_0, .int .i64 a0_1]) (t := 39) ?hr ?_; (case hd => rfl); (case hg => rfl); (case hr => first | (go_simp; done) | (go_simp; rfl)); intro gb136 hg w6 hbox hb; have n0_ := Aside0.mk (below_step (by repeat (first | (with_reducible first | exact HB.out | apply below_alloc | apply pw_below_drewN | apply below_drew1) | exact HB.out)) hb); have n1_ := Aside0.mk (hbox); have n2_ := Aside0.mk ((by rw [hg]; exact (below_size (by repeat (first | (with_reducible first | exact HB.out | apply below_alloc | apply pw_below_drewN | apply below_drew1) | exact HB.out))) : w.heap.size ≤ gb136)); have n3_ := Aside0.mk ((by rw [hg]; exact (below_size (by repeat (first | (with_reducible first | exact HB.out | apply below_alloc | apply pw_below_drewN | apply below_drew1) | exact HB.out))) : w.heap.size ≤ gb136)); clear HB; have HB := n0_; have BK136 := n1_; have GW136 := n2_; have GE136 := n3_; clear n0_ n1_ n2_ n3_; clear hb hbox hg) | ((with_reducible refine gate_dst (N := 4) rfl ?_); refine box_event ?hg (N := 4) ?hd (cs := #[.int .i64 a1_0, .int .i64 a1_1]) (t := 39) ?hr ?_; (case hd => rfl); (case hg => rfl); (case hr => first | (go_simp; done) | (go_simp; rfl)); intro gb137 hg w7 hbox hb; have n0_ := Aside0.mk (blk_below (g := gb136) (o := .cells #[.int .i64 a0_0, .int .i64 a0_1] 39 (0, 0)) (by (with_reducible repeat (first | refine blk_drewN ?_ _ | refine blk_drew ?_ | refine blk_alloc ?_ _)); exact BK136.out) hb); have n1_ := Aside0.mk (below_step (by repeat (first | (with_reducible first | exact HB.out | apply below_alloc | apply pw_below_drewN | apply below_drew1 | refine below_set ?_ GE136.out) | exact HB.out)) hb); have n2_ := Aside0.mk (hbox); have n3_ := Aside0.mk ((by rw [hg]; exact (below_size (by repeat (first | (with_reducible first | exact HB.out | apply below_alloc | apply pw_below_drewN | apply below_drew1 | refine below_set ?_ GE136.out) | exact HB.out))) : w.heap.size ≤ gb137)); have n4_ := Aside0.mk ((by rw [hg]; exact (below_size (by repeat (first | (with_reducible first | exact HB.out | apply below_alloc | apply pw_below_drewN | apply below_drew1 | refine below_set ?_ GE136.out) | exact HB.out))) : w.heap.size ≤ gb137)); have n5_ := Aside0.mk ((by rw [hg]; exact Nat.ne_of_lt (blk_lt (g := gb136) (o := .cells #[.int .i64 a0_0, .int .i64 a0_1] 39 (0, 0)) (by (with_reducible repeat (first | refine blk_drewN ?_ _ | refine blk_drew ?_ | refine blk_alloc ?_ _)); exact BK136.out)) : gb136 ≠ gb137)); have n6_ := Aside0.mk ((by rw [hg]; exact Nat.ne_of_gt (blk_lt (g := gb136) (o := .cells #[.int .i64 a0_0, .int .i64 a0_1] 39 (0, 0)) (by (with_reducible repeat (first | refine blk_drewN ?_ _ | refine blk_drew ?_ | refine blk_alloc ?_ _)); exact BK136.out)) : gb137 ≠ gb136)); clear BK136; clear HB; have BK136 := n0_; have HB := n1_; have BK137 := n2_; have GW137 := n3_; have GE137 := n4_; have NB136_137 := n5_; have NB137_136 := n6_; clear n0_ n1_ n2_ n3_ n4_ n5_ n6_; clear hb hbox hg))
 have n0_ := Aside0.mk (blk_drew BK136.out)
 have n1_ := Aside0.mk (blk_drew BK137.out)
 have n2_ := Aside0.mk (below_drew1 HB.out)
 clear BK136
 clear BK137
 clear HB
 have BK136 := n0_
 have BK137 := n1_
 have HB := n2_
 clear n0_ n1_ n2_
 refine start_ (n := 14) (S := fun w' => w'.cell? ⟨gb136, 0, none⟩ = some (.int .i64 a0_0) ∧ w'.cell? ⟨gb136, 1, none⟩ = some (.int .i64 a0_1) ∧ w'.cell? ⟨gb137, 0, none⟩ = some (.int .i64 a1_0) ∧ w'.cell? ⟨gb137, 1, none⟩ = some (.int .i64 a1_1)) (ds := []) #[false, false, false, false, false, false, false, false, false, false, false, false, false, false] (by kernel_rfl) rfl rfl ⟨(blk_cell BK136.out 0).trans rfl, (blk_cell BK136.out 1).trans rfl, (blk_cell BK137.out 0).trans rfl, (blk_cell BK137.out 1).trans rfl⟩ (fun hHeld => ?_); refine with_tabW impl_headWay.tab1 impl_headWay.bits1 (fun HT_ HW_ => ?_)
 generalize w7.drew = w8 at BK136 BK137 HB hHeld ⊢
 refine pure_ (i := 0) (N := some 7) (v := ?_) (a' := ?_) #[true, false, false, false, false, false, false, false, false, false, false, false, false, false] rfl rfl (any_of HT_.out (by kernel_rfl)) (fun _ _ _ h => h) (Or.inl ⟨by rfl, ?_⟩) ?_ ?_
 rotate_left
 ·intro w'
  go_simp
  with_reducible rfl
 rotate_left
 ·simp only [Act.put, List.setIfInBounds_toArray, List.set_cons_zero, List.set_cons_succ, i64_w, i32_w]
  rfl
 refine pure_ (i := 2) (N := some 9) (v := ?_) (a' := ?_) #[true, false, true, false, false, false, false, false, false, false, false, false, false, false] rfl rfl (any_of HT_.out (by kernel_rfl)) (fun _ _ _ h => h) (Or.inl ⟨by rfl, ?_⟩) ?_ ?_
 rotate_left
 ·intro w'
  go_simp
  with_reducible rfl
 rotate_left
 ·simp only [Act.put, List.setIfInBounds_toArray, List.set_cons_zero, List.set_cons_succ, i64_w, i32_w]
  rfl
 refine pure_ (i := 5) (N := some 12) (v := ?_) (a' := ?_) #[true, false, true, false, false, true, false, false, false, false, false, false, false, false] rfl rfl (any_of HT_.out (by kernel_rfl)) (fun _ _ _ h => h) (Or.inl ⟨by rfl, ?_⟩) ?_ ?_
 rotate_left
 ·intro w'
  go_simp
  with_reducible rfl
 rotate_left
 ·simp only [Act.put, List.setIfInBounds_toArray, List.set_cons_zero, List.set_cons_succ, i64_w, i32_w]
  rfl
 refine pure_ (i := 6) (N := some 13) (v := ?_) (a' := ?_) #[true, false, true, false, false, true, true, false, false, false, false, false, false, false] rfl rfl (any_of HT_.out (by kernel_rfl)) (fun _ _ _ h => h) (Or.inl ⟨by rfl, ?_⟩) ?_ ?_
 rotate_left
 ·intro w'
  go_simp
  with_reducible rfl
 rotate_left
 ·simp only [Act.put, List.setIfInBounds_toArray, List.set_cons_zero, List.set_cons_succ, i64_w, i32_w]
  rfl
 refine pure_ (i := 8) (N := some 15) (v := ?_) (a' := ?_) #[true, false, true, false, false, true, true, false, true, false, false, false, false, false] rfl rfl (any_of HT_.out (by kernel_rfl)) (fun _ _ _ h => h) (Or.inl ⟨by rfl, ?_⟩) ?_ ?_
 rotate_left
 ·intro w'
  go_simp
  with_reducible rfl
 rotate_left
 ·simp only [Act.put, List.setIfInBounds_toArray, List.set_cons_zero, List.set_cons_succ, i64_w, i32_w]
  rfl
 refine take_ (i := 1) (N := some 8) (v := ?_) (a' := ?_) #[true, true, true, false, false, true, true, false, true, false, false, false, false, false] rfl rfl (take_ofW HT_.out HW_.out (by kernel_rfl)) (fun _ _ _ h => h) (Or.inl ⟨by rfl, ?_⟩) hHeld ?_ ?_
 rotate_left
 ·rintro w' ⟨s0, s1, s2, s3⟩
  go_simp
  with_reducible rfl
 rotate_left
 ·simp only [Act.put, List.setIfInBounds_toArray, List.set_cons_zero, List.set_cons_succ, i64_w, i32_w]
  rfl
 refine take_ (i := 3) (N := some 10) (v := ?_) (a' := ?_) #[true, true, true, true, false, true, true, false, true, false, false, false, false, false] rfl rfl (take_ofW HT_.out HW_.out (by kernel_rfl)) (fun _ _ _ h => h) (Or.inl ⟨by rfl, ?_⟩) hHeld ?_ ?_
 rotate_left
 ·rintro w' ⟨s0, s1, s2, s3⟩
  go_simp
  with_reducible rfl
 rotate_left
 ·simp only [Act.put, List.setIfInBounds_toArray, List.set_cons_zero, List.set_cons_succ, i64_w, i32_w]
  rfl
 refine take_ (i := 7) (N := some 14) (v := ?_) (a' := ?_) #[true, true, true, true, false, true, true, true, true, false, false, false, false, false] rfl rfl (take_ofW HT_.out HW_.out (by kernel_rfl)) (fun _ _ _ h => h) (Or.inl ⟨by rfl, ?_⟩) hHeld ?_ ?_
 rotate_left
 ·rintro w' ⟨s0, s1, s2, s3⟩
  go_simp
  with_reducible rfl
 rotate_left
 ·simp only [Act.put, List.setIfInBounds_toArray, List.set_cons_zero, List.set_cons_succ, i64_w, i32_w]
  rfl
 refine take_ (i := 9) (N := some 16) (v := ?_) (a' := ?_) #[true, true, true, true, false, true, true, true, true, true, false, false, false, false] rfl rfl (take_ofW HT_.out HW_.out (by kernel_rfl)) (fun _ _ _ h => h) (Or.inl ⟨by rfl, ?_⟩) hHeld ?_ ?_
 rotate_left
 ·rintro w' ⟨s0, s1, s2, s3⟩
  go_simp
  with_reducible rfl
 rotate_left
 ·simp only [Act.put, List.setIfInBounds_toArray, List.set_cons_zero, List.set_cons_succ, i64_w, i32_w]
  rfl
 refine one_ (i := 4) (N := some 11) #[true, true, true, true, true, true, true, true, true, true, false, false, false, false] rfl rfl (one_of HT_.out (by kernel_rfl)) (by decide) (fun K hK => ?_)
 refine goes_ Try.func31 (by kernel_rfl) rfl #[.int .i64 a0_1, .int .i64 a1_1] (by rfl) rfl rfl (by (try simp only [List.map_toArray, List.map_cons, List.map_nil]); first | done | rfl | (simp only [List.length_drop, List.length_take]; rfl)) ?_
 with_reducible refine (impl_distance.calls a0_1 a1_1 t138 _ A4.out).mono ?_
 rintro e w9 ⟨rfl, hb⟩
 refine ⟨_, rfl, ?_⟩
 have n0_ := Aside0.mk (blk_below (g := gb136) (o := .cells #[.int .i64 a0_0, .int .i64 a0_1] 39 (0, 0)) (by (with_reducible repeat (first | refine blk_drewN ?_ _ | refine blk_drew ?_ | refine blk_alloc ?_ _)); exact BK136.out) hb)
 have n1_ := Aside0.mk (blk_below (g := gb137) (o := .cells #[.int .i64 a1_0, .int .i64 a1_1] 39 (0, 0)) (by (with_reducible repeat (first | refine blk_drewN ?_ _ | refine blk_drew ?_ | refine blk_alloc ?_ _)); exact BK137.out) hb)
 have n2_ := Aside0.mk (below_step (by repeat (first | (with_reducible first | exact HB.out | apply below_alloc | apply pw_below_drewN | apply below_drew1 | refine below_set ?_ GE136.out | refine below_set ?_ GE137.out) | exact HB.out)) hb)
 clear BK136
 clear BK137
 clear HB
 have BK136 := n0_
 have BK137 := n1_
 have HB := n2_
 clear n0_ n1_ n2_
 (try clear hb)
 (try clear hb2)
 (try clear hk)
 (try clear hi)
 refine hK.out _ _ ⟨(blk_cell BK136.out 0).trans rfl, (blk_cell BK136.out 1).trans rfl, (blk_cell BK137.out 0).trans rfl, (blk_cell BK137.out 1).trans rfl⟩ (fun hHeld => ?_)
 clear hK K
 refine norm_ (a' := ?_) ?_ ?_
 rotate_left
 ·show Act.put _ (some 11) _ = _
  simp only [Act.put, List.setIfInBounds_toArray, List.set_cons_zero, List.set_cons_succ, i64_w, i32_w]
  rfl
 refine one_ (i := 10) (N := some 17) #[true, true, true, true, true, true, true, true, true, true, true, false, false, false] rfl rfl (one_of HT_.out (by kernel_rfl)) (by decide) (fun K hK => ?_)
 refine goes_ Try.func31 (by kernel_rfl) rfl #[.int .i64 a0_0, .int .i64 a1_0] (by rfl) rfl rfl (by (try simp only [List.map_toArray, List.map_cons, List.map_nil]); first | done | rfl | (simp only [List.length_drop, List.length_take]; rfl)) ?_
 with_reducible refine (impl_distance.calls a0_0 a1_0 t139 _ A5.out).mono ?_
 rintro e w10 ⟨rfl, hb⟩
 refine ⟨_, rfl, ?_⟩
 have n0_ := Aside0.mk (blk_below (g := gb136) (o := .cells #[.int .i64 a0_0, .int .i64 a0_1] 39 (0, 0)) (by (with_reducible repeat (first | refine blk_drewN ?_ _ | refine blk_drew ?_ | refine blk_alloc ?_ _)); exact BK136.out) hb)
 have n1_ := Aside0.mk (blk_below (g := gb137) (o := .cells #[.int .i64 a1_0, .int .i64 a1_1] 39 (0, 0)) (by (with_reducible repeat (first | refine blk_drewN ?_ _ | refine blk_drew ?_ | refine blk_alloc ?_ _)); exact BK137.out) hb)
 have n2_ := Aside0.mk (below_step (by repeat (first | (with_reducible first | exact HB.out | apply below_alloc | apply pw_below_drewN | apply below_drew1 | refine below_set ?_ GE136.out | refine below_set ?_ GE137.out) | exact HB.out)) hb)
 clear BK136
 clear BK137
 clear HB
 have BK136 := n0_
 have BK137 := n1_
 have HB := n2_
 clear n0_ n1_ n2_
 refine hK.out _ _ ⟨(blk_cell BK136.out 0).trans rfl, (blk_cell BK136.out 1).trans rfl, (blk_cell BK137.out 0).trans rfl, (blk_cell BK137.out 1).trans rfl⟩ (fun hHeld => ?_)
 clear hK K
 refine norm_ (a' := ?_) ?_ ?_
 rotate_left
 ·show Act.put _ (some 17) _ = _
  simp only [Act.put, List.setIfInBounds_toArray, List.set_cons_zero, List.set_cons_succ, i64_w, i32_w]
  rfl
 refine pure_ (i := 11) (N := some 18) (v := ?_) (a' := ?_) #[true, true, true, true, true, true, true, true, true, true, true, true, false, false] rfl rfl (any_of HT_.out (by kernel_rfl)) (fun _ _ _ h => h) (Or.inl ⟨by rfl, ?_⟩) ?_ ?_
 rotate_left
 ·intro w'
  go_simp
  with_reducible rfl
 rotate_left
 ·simp only [Act.put, List.setIfInBounds_toArray, List.set_cons_zero, List.set_cons_succ, i64_w, i32_w]
  rfl
 refine pure_ (i := 12) (N := some 19) (v := ?_) (a' := ?_) #[true, true, true, true, true, true, true, true, true, true, true, true, true, false] rfl rfl (any_of HT_.out (by kernel_rfl)) (fun _ _ _ h => h) (Or.inl ⟨by rfl, ?_⟩) ?_ ?_
 rotate_left
 ·intro w'
  go_simp
  with_reducible rfl
 rotate_left
 ·simp only [Act.put, List.setIfInBounds_toArray, List.set_cons_zero, List.set_cons_succ, i64_w, i32_w]
  rfl
 refine pure_ (i := 13) (N := some 6) (v := ?_) (a' := ?_) #[true, true, true, true, true, true, true, true, true, true, true, true, true, true] rfl rfl (any_of HT_.out (by kernel_rfl)) (fun _ _ _ h => h) (Or.inl ⟨by rfl, ?_⟩) ?_ ?_
 rotate_left
 ·intro w'
  go_simp
  with_reducible rfl
 rotate_left
 ·simp only [Act.put, List.setIfInBounds_toArray, List.set_cons_zero, List.set_cons_succ, i64_w, i32_w]
  rfl
 refine done_ (done_of HT_.out (by kernel_rfl)) ?_
 try go_wp2
 go_ret
 exact ⟨by first | rfl | (simp [errW_none, errW_some] <;> rfl) | (simp [*, errW_none, errW_some] <;> rfl), by repeat (first | (with_reducible first | exact HB.out | apply below_alloc | apply pw_below_drewN | apply below_drew1 | refine below_set ?_ GE136.out | refine below_set ?_ GE137.out) | exact HB.out)⟩

/-! ### impl_tryOrders: function 17: by this session -/
/-- A state at block g of W: a row of the call's own that reads f0, and a number. -/
def IsShort (w0 W : World) (g : Nat) (f0 : List Int) (f1 : Int) : Prop := ∃ (A : Option Addr) (c : Nat), W.heap[g]? = some (.cells #[.slice A f0.length c, .int .i64 f1] 44 (0, 0)) ∧ w0.heap.size ≤ g ∧ Kd.R (Kd.int .i64) 3 W w0.heap.size (fun _ => True) (.slice A f0.length c) f0
/-- The row in the state isn't the one that lies in a block. -/
def FarSh (W : World) (g : Nat) (row : Option Nat) : Prop := ∀ (v z : Value), W.heap[g]? = some (.cells #[v, z] 44 (0, 0)) → ∀ b, v.ownBlock = some b → row ≠ some b
section
variable {w0 W : World} {g : Nat} {f0 : List Int} {f1 : Int}
theorem IsShort.move {W1 : World} (h : IsShort w0 W g f0 f1) (hb : W1.heap[g]? = W.heap[g]?) {q : Nat} (hk : KeepBut W W1 q none) (hq : ∀ (v z : Value), W.heap[g]? = some (.cells #[v, z] 44 (0, 0)) → ∀ b, v.ownBlock = some b → b ≠ q) : IsShort w0 W1 g f0 f1 := by
 obtain ⟨A, c, h1, h2, h3⟩ := h
 exact ⟨A, c, hb.trans h1, h2, Kd.R_mono (Kd.R_keep (Kd.R_tight rfl h3) hk (fun k hk_ e => hq _ _ h1 k hk_.symm e)) (fun _ _ => trivial)⟩
theorem IsShort.lt (h : IsShort w0 W g f0 f1) : g < W.heap.size := by
 obtain ⟨A, c, h1, _⟩ := h
 exact blk_lt h1
theorem IsShort.ge (h : IsShort w0 W g f0 f1) : w0.heap.size ≤ g := by
 obtain ⟨A, c, _, h2, _⟩ := h
 exact h2
theorem IsShort.row (h : IsShort w0 W g f0 f1) {v z : Value} (h' : W.heap[g]? = some (.cells #[v, z] 44 (0, 0))) : Kd.R (Kd.int .i64) 3 W w0.heap.size (fun _ => True) v f0 := by
 obtain ⟨A, c, h1, h2, h3⟩ := h
 rw [h1] at h'
 injection h' with h'
 injection h' with h' _ _
 simp only [Array.mk.injEq, List.cons.injEq] at h'
 obtain ⟨rfl, _⟩ := h'
 exact h3
theorem IsShort.self (h : IsShort w0 W g f0 f1) : ∀ (v z : Value), W.heap[g]? = some (.cells #[v, z] 44 (0, 0)) → ∀ b, v.ownBlock = some b → b ≠ g := by
 intro v z h' b e e2
 subst e2
 exact Kd.R_ne (h.row h') h' (by decide) e.symm
theorem IsShort.below {W1 : World} (h : IsShort w0 W g f0 f1) (hw : Below W.heap.size W W1) : IsShort w0 W1 g f0 f1 := h.move (hw.block g h.lt) (KeepBut.of_below hw g none) h.self
theorem IsShort.alloc (h : IsShort w0 W g f0 f1) (o : Obj) : IsShort w0 (W.alloc o) g f0 f1 := h.below (below_alloc (Below.refl _ _) o)
theorem IsShort.drewN (h : IsShort w0 W g f0 f1) (m : Nat) : IsShort w0 (W.drewN m) g f0 f1 := h.move rfl (keep_drewN (KeepBut.refl _ g none) m) h.self
theorem IsShort.drew (h : IsShort w0 W g f0 f1) : IsShort w0 W.drew g f0 f1 := h.move rfl (keep_drew (KeepBut.refl _ g none)) h.self
theorem IsShort.at_ {w' : World} {m : Nat} (hq : W.drewN m = w') (h : IsShort w0 W g f0 f1) : IsShort w0 w' g f0 f1 := by subst hq; exact IsShort.drewN h m
theorem IsShort.grown {W1 : World} {row : Option Nat} (h : IsShort w0 W g f0 f1) (hw : W.grownBy W1 row) (hne : some g ≠ row) (hf : FarSh W g row) : IsShort w0 W1 g f0 f1 := by
 have hb := hw.block g h.lt hne
 cases row with
 | none => exact h.move hb ⟨hw.size, fun i hi _ _ => hw.block i hi (by simp)⟩ h.self
 | some b => exact h.move hb (q := b) ⟨hw.size, fun i hi hq _ => hw.block i hi (by simpa using hq)⟩ (fun v z h1 k e e2 => hf v z h1 k e (congrArg some e2.symm))
theorem IsShort.apart {α : Type} {d : Kd α} {e : Nat} {base : Nat} {ok : Nat → Prop} {v : Value} {xs : List α} (h : IsShort w0 W g f0 f1) (ho : d.R e W base ok v xs) (ht : ∀ q, q ∈ e :: d.E → q ≠ 44) : d.R e W base (fun k => ok k ∧ k ≠ g) v xs := by
 obtain ⟨A, c, hb, _⟩ := h
 exact Kd.R_types ho hb ht
theorem IsShort.own_ne {α : Type} {d : Kd α} {e : Nat} {base : Nat} {ok : Nat → Prop} {v : Value} {xs : List α} (h : IsShort w0 W g f0 f1) (ho : d.R e W base ok v xs) (ht : e ≠ 44) : some g ≠ v.ownBlock := by
 obtain ⟨A, c, hb, _⟩ := h
 exact Kd.R_ne ho hb ht
theorem IsShort.farN {W1 : World} {α : Type} {d : Kd α} {e : Nat} {ok : Nat → Prop} {v : Value} {xs : List α} (h : IsShort w0 W g f0 f1) (ho : d.R e W1 W.heap.size ok v xs) (hb : Below W.heap.size W W1) : FarSh W1 g v.ownBlock := by
 intro u z h1 b e e2
 rw [hb.block g h.lt] at h1
 have := Kd.R_lt (h.row h1) b e
 have := Kd.R_base ho b e2
 omega
theorem IsShort.farA {W1 : World} {b : Nat} (h : IsShort w0 W g f0 f1) (hg : b = W.heap.size) (hb : Below W.heap.size W W1) : FarSh W1 g (some b) := by
 intro v z h1 k e e2
 rw [hb.block g h.lt] at h1
 have := Kd.R_lt (h.row h1) k e
 have := Option.some.inj e2
 omega
theorem FarSh.drewN {row : Option Nat} (h : FarSh W g row) (m : Nat) : FarSh (W.drewN m) g row := h
theorem FarSh.drew {row : Option Nat} (h : FarSh W g row) : FarSh W.drew g row := h
theorem FarSh.below {W1 : World} {row : Option Nat} (hlt : g < W.heap.size) (h : FarSh W g row) (hb : Below W.heap.size W W1) : FarSh W1 g row := by
 intro v z h1
 rw [hb.block g hlt] at h1
 exact h v z h1
theorem FarSh.alloc {row : Option Nat} (hlt : g < W.heap.size) (h : FarSh W g row) (o : Obj) : FarSh (W.alloc o) g row := FarSh.below hlt h (below_alloc (Below.refl _ _) o)
theorem FarSh.far {row : Option Nat} {p : Addr} (hne : g ≠ p.block) (h : FarSh W g row) (u : Value) : FarSh (W.setCell p u) g row := by
 intro v z h1
 rw [Below.heap_setCell W p u g hne] at h1
 exact h v z h1
theorem IsShort.far {p : Addr} (h : IsShort w0 W g f0 f1) (hne : g ≠ p.block) (hf : FarSh W g (some p.block)) (u : Value) : IsShort w0 (W.setCell p u) g f0 f1 :=
 h.move (Below.heap_setCell W p u g hne) (q := p.block) ⟨by simp [World.setCell], fun i _ hq _ => Below.heap_setCell W p u i hq⟩ (fun v z h1 k e e2 => hf v z h1 k e (congrArg some e2.symm))
theorem cellShort_0 {v z : Value} (h : W.heap[g]? = some (.cells #[v, z] 44 (0, 0))) : W.cell? ⟨g, 0, none⟩ = some v := (blk_cell h 0).trans rfl
theorem cellShort_1 {v z : Value} (h : W.heap[g]? = some (.cells #[v, z] 44 (0, 0))) : W.cell? ⟨g, 1, none⟩ = some z := (blk_cell h 1).trans rfl
theorem IsShort.store {base : Nat} {ok : Nat → Prop} {A1 : Option Addr} {c1 : Nat} {l1 : List Int} (h : IsShort w0 W g f0 f1) (ho : Kd.R (Kd.int .i64) 3 W base ok (.slice A1 l1.length c1) l1) (hle : w0.heap.size ≤ base) (x : Int) : IsShort w0 ((W.setCell ⟨g, 0, none⟩ (.slice A1 l1.length c1)).setCell ⟨g, 1, none⟩ (.int .i64 x)) g l1 x := by
 have hr := Kd.R_mono (Kd.R_lower (h.apart ho (by decide)) hle) (ok' := fun k => k ≠ g) (fun _ hk => hk.2)
 obtain ⟨A0, c0, h1, h2, _⟩ := h
 exact ⟨A1, c1, blk_put (blk_put h1 0 _ rfl) 1 _ rfl, h2, Kd.R_mono (Kd.R_keep hr (KeepBut.set_ (KeepBut.set_ (KeepBut.refl _ g none) 0 _) 1 _) (fun _ hk => hk)) (fun _ _ => trivial)⟩
end
mutual
def impl_tryOrders.l0 : Nat → List (S39) → List Int → Int → Int → Int → Int → List Int → Int → Option (List Int × Int)
 | 0, _, _, _, _, _, _, _, _ => none
 | k + 1, x0, x1, x2, x3, x40, x41, x5000, x5001 => if x41 < x40 then ((slices_Contains_int_int.f k x1 x41).bind fun t157 => (if t157 = true then (impl_tryOrders.l0 k x0 x1 x2 x3 x40 (wrap64 (x41 + 1)) x5000 x5001) else (if 0 ≤ (wrap64 ((x1.length : Int) - 1)) then (if (wrap64 ((x1.length : Int) - 1)) < (x1.length : Int) then (if 0 ≤ (rd x1 (wrap64 ((x1.length : Int) - 1))) then (if (rd x1 (wrap64 ((x1.length : Int) - 1))) < (x0.length : Int) then (if 0 ≤ x41 then (if x41 < (x0.length : Int) then ((impl_headWay.f ((rd_T39 x0 (rd x1 (wrap64 ((x1.length : Int) - 1)))).f0) ((rd_T39 x0 (rd x1 (wrap64 ((x1.length : Int) - 1)))).f1) ((rd_T39 x0 x41).f0) ((rd_T39 x0 x41).f1) x3).bind fun t161 => ((slices_Clone_int.f x1).bind fun t162 => (if t162.length < 17592186044416 then ((impl_tryOrders.f k x0 (t162 ++ [x41]) (wrap64 (x2 + t161)) x3 x5000 x5001).bind fun bt168 => (impl_tryOrders.l0 k x0 x1 x2 x3 x40 (wrap64 (x41 + 1)) bt168.1 bt168.2)) else (none)))) else (none)) else (none)) else (none)) else (none)) else (none)) else (none)))) else (some (x5000, x5001))
def impl_tryOrders.f : Nat → List (S39) → List Int → Int → Int → List Int → Int → Option (List Int × Int)
 | 0, _, _, _, _, _, _ => none
 | k + 1, l0, l1, a2, a3, s4_0, s4_1 => if (l1.length : Int) = (l0.length : Int) then (if s4_1 < 0 then ((slices_Clone_int.f l1).bind fun t151 => (some (t151, a2))) else (if a2 < s4_1 then ((slices_Clone_int.f l1).bind fun t154 => (some (t154, a2))) else (some (s4_0, s4_1)))) else (impl_tryOrders.l0 k l0 l1 a2 a3 (l0.length : Int) 0 s4_0 s4_1)
end
theorem impl_tryOrders.mono_l : ∀ k, (∀ y0 y1 y2 y3 y4 y5, LeO (impl_tryOrders.f k y0 y1 y2 y3 y4 y5) (impl_tryOrders.f (k + 1) y0 y1 y2 y3 y4 y5)) ∧ (∀ y0 y1 y2 y3 y4 y5 y6 y7, LeO (impl_tryOrders.l0 k y0 y1 y2 y3 y4 y5 y6 y7) (impl_tryOrders.l0 (k + 1) y0 y1 y2 y3 y4 y5 y6 y7))
 | 0 => ⟨fun _ _ _ _ _ _ r h => by simp [impl_tryOrders.f] at h, fun _ _ _ _ _ _ _ _ r h => by simp [impl_tryOrders.l0] at h⟩
 | k + 1 => by
  obtain ⟨ih0, ih1⟩ := impl_tryOrders.mono_l k
  refine ⟨?_, ?_⟩
  ·intro y0 y1 y2 y3 y4 y5
   unfold impl_tryOrders.f
   repeat' first
   | (with_reducible exact ih0 _ _ _ _ _ _)
   | (with_reducible exact ih1 _ _ _ _ _ _ _ _)
   | (with_reducible exact slices_Contains_int_int.mono _ _ _)
   | (with_reducible exact LeO.refl _)
   | (with_reducible exact LeO.none _)
   | (with_reducible refine LeO.ite ?_ ?_)
   | (with_reducible refine LeO.bind ?_ (fun _ => ?_))
   | exact ih0 _ _ _ _ _ _
   | exact ih1 _ _ _ _ _ _ _ _
   | exact slices_Contains_int_int.mono _ _ _
   | exact LeO.none _
   | refine LeO.ite ?_ ?_
   | refine LeO.bind ?_ (fun _ => ?_)
  ·intro y0 y1 y2 y3 y4 y5 y6 y7
   unfold impl_tryOrders.l0
   repeat' first
   | (with_reducible exact ih0 _ _ _ _ _ _)
   | (with_reducible exact ih1 _ _ _ _ _ _ _ _)
   | (with_reducible exact slices_Contains_int_int.mono _ _ _)
   | (with_reducible exact LeO.refl _)
   | (with_reducible exact LeO.none _)
   | (with_reducible refine LeO.ite ?_ ?_)
   | (with_reducible refine LeO.bind ?_ (fun _ => ?_))
   | exact ih0 _ _ _ _ _ _
   | exact ih1 _ _ _ _ _ _ _ _
   | exact slices_Contains_int_int.mono _ _ _
   | exact LeO.none _
   | refine LeO.ite ?_ ?_
   | refine LeO.bind ?_ (fun _ => ?_)
theorem impl_tryOrders.mono : ∀ a0 a1 a2 a3 a4 a5 k, LeO (impl_tryOrders.f k a0 a1 a2 a3 a4 a5) (impl_tryOrders.f (k + 1) a0 a1 a2 a3 a4 a5) := by
 intro a0 a1 a2 a3 a4 a5 k
 obtain ⟨ih0, ih1⟩ := impl_tryOrders.mono_l k
 exact ih0 a0 a1 a2 a3 a4 a5
def impl_tryOrders.T7 : Bool × List (List Nat × List Nat) := (true, [([], []), ([], []), ([], []), ([2], [2]), ([3], [3]), ([1, 4], [1, 4]), ([5], [5]), ([0, 6], [0, 6]), ([7], [7]), ([], []), ([], []), ([9, 10], [9, 10]), ([11], [11]), ([], []), ([8, 12, 13], [8, 12, 13]), ([14, 14, 0, 1, 2, 3, 4, 5, 6, 7, 8, 9, 10, 11, 12, 13, 14], [14])])
def impl_tryOrders.B7 : List Nat := [0, 0, 0, 4, 12, 30, 62, 127, 255, 0, 0, 1536, 3584, 0, 16383, 32767]
theorem impl_tryOrders.tab7 : rtab .any (opsOf Try.f17 7) = impl_tryOrders.T7 := by kernel_rfl
theorem impl_tryOrders.bits7 : waitsOk impl_tryOrders.T7.2 impl_tryOrders.B7 = true := by kernel_rfl
set_option maxHeartbeats 8000000 in
set_option maxRecDepth 100000 in
theorem impl_tryOrders.calls (k : Nat) : ∀ (A0 : Option Addr) (c0 : Nat) (l0 : List (S39)) (A1 : Option Addr) (c1 : Nat) (l1 : List Int) (a2 : Int) (a3 : Int) (g : Nat) (s4_0 : List Int) (s4_1 : Int) (r1 : List Int) (r2 : Int) (w0 w : World) (hI : IsShort w0 w g s4_0 s4_1) (hB : Below w0.heap.size w0 w) (hr0 : ∀ W_, KeepBut w W_ g none → Kd.C k39 W_ A0 l0.length l0) (hc0 : l0.length ≤ c0) (hr1 : Kd.C (Kd.int .i64) w A1 l1.length l1) (hc1 : l1.length ≤ c1) (hf1 : ∀ ad, A1 = some ad → 0 < l1.length → ad.block ≠ g) (h : impl_tryOrders.f k l0 l1 a2 a3 s4_0 s4_1 = some (r1, r2)),
  Calls Try.prog 17 #[.slice A0 l0.length c0, .slice A1 l1.length c1, .int .i64 a2, .int .i64 a3, .pointer (some ⟨g, 0, none⟩)] w fun e w' => e = .returned (.tuple #[]) ∧ IsShort w0 w' g r1 r2 ∧ Below w0.heap.size w0 w' ∧ KeepBut w w' g none := by
 induction k using Nat.strongRecOn with
 | _ k ih =>
 intro A0 c0 l0 A1 c1 l1 a2 a3 g s4_0 s4_1 r1 r2 w0 w hI hB hr0 hc0 hr1 hc1 hf1 h
 cases k with
 | zero => exact absurd h (by simp [impl_tryOrders.f])
 | succ k =>
 simp only [impl_tryOrders.f] at h
 have hu39 := Try.underlying39
 have HR0 := Aside0.mk hr0
 have HC0 := Aside0.mk hc0
 clear hr0 hc0
 have HR1 := Aside0.mk hr1
 have HC1 := Aside0.mk hc1
 clear hr1 hc1
 have HI4 := Aside0.mk hI
 have HK := Aside0.mk (KeepBut.refl w g none)
 have HL := Aside0.mk hB.size
 clear hI
 have HW0 := Aside0.mk hB.size
 have HB := Aside0.mk hB
 clear hB
 have H : (if (l1.length : Int) = (l0.length : Int) then (if s4_1 < 0 then ((slices_Clone_int.f l1).bind fun t151 => (some (t151, a2))) else (if a2 < s4_1 then ((slices_Clone_int.f l1).bind fun t154 => (some (t154, a2))) else (some (s4_0, s4_1)))) else (impl_tryOrders.l0 k l0 l1 a2 a3 (l0.length : Int) 0 s4_0 s4_1)) = some (r1, r2) := h
 clear h
 by_cases c6 : (l1.length : Int) = (l0.length : Int)
 ·rw [if_pos c6] at H
  have c6b0 : ((l1.length : Int) == (l0.length : Int)) = true := beq_iff_eq.mpr c6
  have c6b1 : ((l1.length : Int) != (l0.length : Int)) = false := bne_eq_false_iff_eq.mpr c6
  have c6b2 : (l1.length == l0.length) = true := by first | simpa using c6 | (simp at c6 ⊢; omega)
  clear c6
  by_cases c7 : s4_1 < 0
  ·rw [if_pos c7] at H
   have c7b0 : decide (s4_1 < 0) = true := decide_eq_true c7
   clear c7
   replace H := Option.bind_eq_some_iff.mp H
   obtain ⟨t151, A80, H⟩ := H
   replace H : (some (t151, a2)) = some (r1, r2) := H
   have A8 := Aside0.mk A80
   clear A80
   simp only [Option.some.injEq, Prod.mk.injEq] at H
   obtain ⟨rfl, rfl⟩ := H
   obtain ⟨Az_, cz_, HGz9, hgz9, _⟩ := HI4.out
   have hcz9_0 := cellShort_0 HGz9
   have hcz9_1 := cellShort_1 HGz9
   have hfz9_0 := blk_frozen HGz9 0
   have hfz9_1 := blk_frozen HGz9 1
   clear HGz9 hgz9
   go_enter Try.func17, Try.ntmps17
   go_wp2_with (first | ((with_reducible refine gate_callee (f := 25) rfl ?_); refine goesL_ (some 33) rfl rfl Try.func25 (by kernel_rfl) rfl #[.slice A1 l1.length c1] rfl (by (try simp only [List.map_toArray, List.map_cons, List.map_nil]); first | done | rfl | (simp only [List.length_drop, List.length_take]; rfl)) ?_; (with_reducible refine (slices_Clone_int.calls _ _ l1 t151 _ ?side1 ?side2 A8.out).mono ?_); (case side1 => exact Kd.C_keep 0 HR1.out (by repeat (first | (with_reducible first | exact HK.out | apply KeepBut.set_ | apply keep_drewN | apply keep_drew | apply keep_alloc) | exact HK.out)) hf1); (case side2 => exact HC1.out); rintro e w10 ⟨v152, rfl, ho0, hb⟩; refine ⟨_, rfl, ?_⟩; have n0_ := Aside0.mk (Kd.R_lower ho0 (keep_size (w := w) (g := g) (row := none) (by repeat (first | (with_reducible first | exact HK.out | apply KeepBut.set_ | apply keep_drewN | apply keep_drew | apply keep_alloc) | exact HK.out)))); have n1_ := Aside0.mk (IsShort.below (by repeat (first | (with_reducible first | exact HI4.out | apply IsShort.alloc | apply IsShort.drewN | apply IsShort.drew | apply IsShort.set_0 | apply IsShort.set_1) | exact HI4.out)) hb); have n2_ := Aside0.mk (KeepBut.trans (by repeat (first | (with_reducible first | exact HK.out | apply KeepBut.set_ | apply keep_drewN | apply keep_drew | apply keep_alloc) | exact HK.out)) (KeepBut.of_below hb g none) (.inl rfl)); have n3_ := Aside0.mk (below_step (by repeat (first | (with_reducible first | exact HB.out | apply below_alloc | apply pw_below_drewN | apply below_drew1 | refine below_set ?_ (IsShort.ge HI4.out)) | exact HB.out)) hb); clear HI4; clear HK; clear HB; have HO153 := n0_; have HI4 := n1_; have HK := n2_; have HB := n3_; clear n0_ n1_ n2_ n3_; (try clear hb); (try clear hb2); (try clear hk); (try clear hi); (try clear ho0); obtain ⟨Az_, cz_, HGz11, hgz11, _⟩ := HI4.out; have hcz11_0 := cellShort_0 HGz11; have hcz11_1 := cellShort_1 HGz11; have hfz11_0 := blk_frozen HGz11 0; have hfz11_1 := blk_frozen HGz11 1; clear HGz11 hgz11; obtain ⟨AoS, coS, eoS⟩ := Kd.R_slice HO153.out; subst eoS))
   first | go_end0 | ((try simp only [Exit.inBlock, Exit.then]); refine bodyPost_ret (results_none rfl _ _ _) rfl ?_)
   exact ⟨by first | rfl | (simp [errW_none, errW_some] <;> rfl) | (simp [*, errW_none, errW_some] <;> rfl), IsShort.store HI4.out HO153.out HL.out a2, by repeat (first | (with_reducible first | exact HB.out | apply below_alloc | apply pw_below_drewN | apply below_drew1 | refine below_set ?_ (IsShort.ge HI4.out)) | exact HB.out), by repeat (first | (with_reducible first | exact HK.out | apply KeepBut.set_ | apply keep_drewN | apply keep_drew | apply keep_alloc) | exact HK.out)⟩
  ·rw [if_neg c7] at H
   have c7b0 : decide (s4_1 < 0) = false := decide_eq_false c7
   clear c7
   by_cases c12 : a2 < s4_1
   ·rw [if_pos c12] at H
    have c12b0 : decide (a2 < s4_1) = true := decide_eq_true c12
    clear c12
    replace H := Option.bind_eq_some_iff.mp H
    obtain ⟨t154, A130, H⟩ := H
    replace H : (some (t154, a2)) = some (r1, r2) := H
    have A13 := Aside0.mk A130
    clear A130
    simp only [Option.some.injEq, Prod.mk.injEq] at H
    obtain ⟨rfl, rfl⟩ := H
    obtain ⟨Az_, cz_, HGz14, hgz14, _⟩ := HI4.out
    have hcz14_0 := cellShort_0 HGz14
    have hcz14_1 := cellShort_1 HGz14
    have hfz14_0 := blk_frozen HGz14 0
    have hfz14_1 := blk_frozen HGz14 1
    clear HGz14 hgz14
    go_enter Try.func17, Try.ntmps17
    go_wp2_with (first | ((with_reducible refine gate_callee (f := 25) rfl ?_); refine goesL_ (some 33) rfl rfl Try.func25 (by kernel_rfl) rfl #[.slice A1 l1.length c1] rfl (by (try simp only [List.map_toArray, List.map_cons, List.map_nil]); first | done | rfl | (simp only [List.length_drop, List.length_take]; rfl)) ?_; (with_reducible refine (slices_Clone_int.calls _ _ l1 t154 _ ?side1 ?side2 A13.out).mono ?_); (case side1 => exact Kd.C_keep 0 HR1.out (by repeat (first | (with_reducible first | exact HK.out | apply KeepBut.set_ | apply keep_drewN | apply keep_drew | apply keep_alloc) | exact HK.out)) hf1); (case side2 => exact HC1.out); rintro e w15 ⟨v155, rfl, ho0, hb⟩; refine ⟨_, rfl, ?_⟩; have n0_ := Aside0.mk (Kd.R_lower ho0 (keep_size (w := w) (g := g) (row := none) (by repeat (first | (with_reducible first | exact HK.out | apply KeepBut.set_ | apply keep_drewN | apply keep_drew | apply keep_alloc) | exact HK.out)))); have n1_ := Aside0.mk (IsShort.below (by repeat (first | (with_reducible first | exact HI4.out | apply IsShort.alloc | apply IsShort.drewN | apply IsShort.drew | apply IsShort.set_0 | apply IsShort.set_1) | exact HI4.out)) hb); have n2_ := Aside0.mk (KeepBut.trans (by repeat (first | (with_reducible first | exact HK.out | apply KeepBut.set_ | apply keep_drewN | apply keep_drew | apply keep_alloc) | exact HK.out)) (KeepBut.of_below hb g none) (.inl rfl)); have n3_ := Aside0.mk (below_step (by repeat (first | (with_reducible first | exact HB.out | apply below_alloc | apply pw_below_drewN | apply below_drew1 | refine below_set ?_ (IsShort.ge HI4.out)) | exact HB.out)) hb); clear HI4; clear HK; clear HB; have HO156 := n0_; have HI4 := n1_; have HK := n2_; have HB := n3_; clear n0_ n1_ n2_ n3_; (try clear hb); (try clear hb2); (try clear hk); (try clear hi); (try clear ho0); obtain ⟨Az_, cz_, HGz16, hgz16, _⟩ := HI4.out; have hcz16_0 := cellShort_0 HGz16; have hcz16_1 := cellShort_1 HGz16; have hfz16_0 := blk_frozen HGz16 0; have hfz16_1 := blk_frozen HGz16 1; clear HGz16 hgz16; obtain ⟨AoS, coS, eoS⟩ := Kd.R_slice HO156.out; subst eoS))
    first | go_end0 | ((try simp only [Exit.inBlock, Exit.then]); refine bodyPost_ret (results_none rfl _ _ _) rfl ?_)
    exact ⟨by first | rfl | (simp [errW_none, errW_some] <;> rfl) | (simp [*, errW_none, errW_some] <;> rfl), IsShort.store HI4.out HO156.out HL.out a2, by repeat (first | (with_reducible first | exact HB.out | apply below_alloc | apply pw_below_drewN | apply below_drew1 | refine below_set ?_ (IsShort.ge HI4.out)) | exact HB.out), by repeat (first | (with_reducible first | exact HK.out | apply KeepBut.set_ | apply keep_drewN | apply keep_drew | apply keep_alloc) | exact HK.out)⟩
   ·rw [if_neg c12] at H
    have c12b0 : decide (a2 < s4_1) = false := decide_eq_false c12
    clear c12
    simp only [Option.some.injEq, Prod.mk.injEq] at H
    obtain ⟨rfl, rfl⟩ := H
    obtain ⟨Az_, cz_, HGz17, hgz17, _⟩ := HI4.out
    have hcz17_0 := cellShort_0 HGz17
    have hcz17_1 := cellShort_1 HGz17
    have hfz17_0 := blk_frozen HGz17 0
    have hfz17_1 := blk_frozen HGz17 1
    clear HGz17 hgz17
    go_enter Try.func17, Try.ntmps17
    go_wp2
    first | go_end0 | ((try simp only [Exit.inBlock, Exit.then]); refine bodyPost_ret (results_none rfl _ _ _) rfl ?_)
    exact ⟨by first | rfl | (simp [errW_none, errW_some] <;> rfl) | (simp [*, errW_none, errW_some] <;> rfl), by repeat (first | (with_reducible first | exact HI4.out | apply IsShort.alloc | apply IsShort.drewN | apply IsShort.drew | apply IsShort.set_0 | apply IsShort.set_1) | exact HI4.out), by repeat (first | (with_reducible first | exact HB.out | apply below_alloc | apply pw_below_drewN | apply below_drew1 | refine below_set ?_ (IsShort.ge HI4.out)) | exact HB.out), by repeat (first | (with_reducible first | exact HK.out | apply KeepBut.set_ | apply keep_drewN | apply keep_drew | apply keep_alloc) | exact HK.out)⟩
 ·rw [if_neg c6] at H
  have c6b0 : ((l1.length : Int) == (l0.length : Int)) = false := beq_eq_false_iff_ne.mpr c6
  have c6b1 : ((l1.length : Int) != (l0.length : Int)) = true := bne_iff_ne.mpr c6
  have c6b2 : (l1.length == l0.length) = false := by first | simpa using c6 | (simp at c6 ⊢; omega)
  have H' := Aside0.mk H
  clear H
  go_enter Try.func17, Try.ntmps17
  go_wp2
  go_loopg [41] k (fun kq v41 w' => ∃ (x41_1 : Int) (x5000_1 : List Int) (x5001_1 : Int), v41 = .int .i64 x41_1 ∧ Aside0 (impl_tryOrders.l0 kq l0 l1 a2 a3 (l0.length : Int) x41_1 x5000_1 x5001_1 = some (r1, r2)) ∧ Aside0 (kq ≤ k) ∧ Aside0 (IsShort w0 w' g x5000_1 x5001_1) ∧ Aside0 (KeepBut w w' g none) ∧ Aside0 (Below w0.heap.size w0 w'))
  case atStart => exact ⟨(0), (s4_0), (s4_1), (by first | rfl | (simp; done) | (simp [*]; done)), H', ⟨Nat.le_refl _⟩, ⟨by repeat (first | (with_reducible first | exact HI4.out | apply IsShort.alloc | apply IsShort.drewN | apply IsShort.drew | apply IsShort.set_0 | apply IsShort.set_1) | exact HI4.out)⟩, ⟨by repeat (first | (with_reducible first | exact HK.out | apply KeepBut.set_ | apply keep_drewN | apply keep_drew | apply keep_alloc) | exact HK.out)⟩, ⟨by repeat (first | (with_reducible first | exact HB.out | apply below_alloc | apply pw_below_drewN | apply below_drew1 | refine below_set ?_ (IsShort.ge HI4.out)) | exact HB.out)⟩⟩
  case round =>
   clear H'
   (try clear c1); (try clear c2); (try clear p2); (try clear c6); (try clear c6b0); (try clear c6b1); (try clear c6b2); (try clear c7); (try clear c7b0); (try clear c12); (try clear c12b0); (try clear c17); (try clear hcz11_0); (try clear hcz11_1); (try clear hcz14_0); (try clear hcz14_1); (try clear hcz16_0); (try clear hcz16_1); (try clear hcz17_0); (try clear hcz17_1); (try clear hcz9_0); (try clear hcz9_1); (try clear hfz11_0); (try clear hfz11_1); (try clear hfz14_0); (try clear hfz14_1); (try clear hfz16_0); (try clear hfz16_1); (try clear hfz17_0); (try clear hfz17_1); (try clear hfz9_0); (try clear hfz9_1)
   obtain ⟨x41_1, x5000_1, x5001_1, rfl, HA, HK1, HI4, HK, HB⟩ := hrel
   cases gk with
   | zero => exact absurd HA.out (by simp [impl_tryOrders.l0])
   | succ k1 =>
    have H := HA.out
    clear HA
    simp only [impl_tryOrders.l0] at H
    by_cases c18 : x41_1 < (l0.length : Int)
    ·rw [if_pos c18] at H
     have c18b0 : decide (x41_1 < (l0.length : Int)) = true := decide_eq_true c18
     clear c18
     replace H := Option.bind_eq_some_iff.mp H
     obtain ⟨t157, A190, H⟩ := H
     (try dsimp only at H)
     have A19 := Aside0.mk A190
     clear A190
     by_cases c20 : t157 = true
     ·subst c20
      have H1 : (impl_tryOrders.l0 k1 l0 l1 a2 a3 (l0.length : Int) (wrap64 (x41_1 + 1)) x5000_1 x5001_1) = some (r1, r2) := by rw [if_pos rfl] at H; exact H
      clear H
      have H := H1
      clear H1
      have H' := Aside0.mk H
      clear H
      go_wp2_with (first | ((with_reducible refine gate_callee (f := 26) rfl ?_); refine goesL_ (some 46) rfl rfl Try.func26 (by kernel_rfl) rfl #[.slice A1 l1.length c1, .int .i64 x41_1] rfl (by (try simp only [List.map_toArray, List.map_cons, List.map_nil]); first | done | rfl | (simp only [List.length_drop, List.length_take]; rfl)) ?_; (with_reducible refine (slices_Contains_int_int.calls k1 _ _ l1 x41_1 true _ ?side1 ?side2 A19.out).mono ?_); (case side1 => exact Kd.C_keep 0 HR1.out (by repeat (first | (with_reducible first | exact HK.out | apply KeepBut.set_ | apply keep_drewN | apply keep_drew | apply keep_alloc) | exact HK.out)) hf1); (case side2 => exact HC1.out); rintro e w' ⟨rfl, ⟨nd, rfl⟩⟩; refine ⟨_, rfl, ?_⟩))
      go_roundg k1
      case measure => have := HK1.out; omega
      case rel => exact ⟨(wrap64 (x41_1 + 1)), (x5000_1), (x5001_1), (by first | rfl | (simp; done) | (simp [*]; done)), H', ⟨by have := HK1.out; omega⟩, ⟨by repeat (first | (with_reducible first | exact HI4.out | apply IsShort.alloc | apply IsShort.drewN | apply IsShort.drew | apply IsShort.set_0 | apply IsShort.set_1) | exact HI4.out)⟩, ⟨by repeat (first | (with_reducible first | exact HK.out | apply KeepBut.set_ | apply keep_drewN | apply keep_drew | apply keep_alloc) | exact HK.out)⟩, ⟨by repeat (first | (with_reducible first | exact HB.out | apply below_alloc | apply pw_below_drewN | apply below_drew1 | refine below_set ?_ (IsShort.ge HI4.out)) | exact HB.out)⟩⟩
     ·replace c20 := Bool.eq_false_iff.mpr c20
      subst c20
      have H1 : (if 0 ≤ (wrap64 ((l1.length : Int) - 1)) then (if (wrap64 ((l1.length : Int) - 1)) < (l1.length : Int) then (if 0 ≤ (rd l1 (wrap64 ((l1.length : Int) - 1))) then (if (rd l1 (wrap64 ((l1.length : Int) - 1))) < (l0.length : Int) then (if 0 ≤ x41_1 then (if x41_1 < (l0.length : Int) then ((impl_headWay.f ((rd_T39 l0 (rd l1 (wrap64 ((l1.length : Int) - 1)))).f0) ((rd_T39 l0 (rd l1 (wrap64 ((l1.length : Int) - 1)))).f1) ((rd_T39 l0 x41_1).f0) ((rd_T39 l0 x41_1).f1) a3).bind fun t161 => ((slices_Clone_int.f l1).bind fun t162 => (if t162.length < 17592186044416 then ((impl_tryOrders.f k1 l0 (t162 ++ [x41_1]) (wrap64 (a2 + t161)) a3 x5000_1 x5001_1).bind fun bt168 => (impl_tryOrders.l0 k1 l0 l1 a2 a3 (l0.length : Int) (wrap64 (x41_1 + 1)) bt168.1 bt168.2)) else (none)))) else (none)) else (none)) else (none)) else (none)) else (none)) else (none)) = some (r1, r2) := by rw [if_neg (show ¬ (false = true) by decide)] at H; exact H
      clear H
      have H := H1
      clear H1
      obtain ⟨ji21, hji21⟩ : ∃ j_ : Int, (wrap64 ((l1.length : Int) - 1)) = j_ := ⟨_, rfl⟩
      replace H : (if 0 ≤ (ji21) then (if (ji21) < (l1.length : Int) then (if 0 ≤ (rd l1 (ji21)) then (if (rd l1 (ji21)) < (l0.length : Int) then (if 0 ≤ x41_1 then (if x41_1 < (l0.length : Int) then ((impl_headWay.f ((rd_T39 l0 (rd l1 (ji21))).f0) ((rd_T39 l0 (rd l1 (ji21))).f1) ((rd_T39 l0 x41_1).f0) ((rd_T39 l0 x41_1).f1) a3).bind fun t161 => ((slices_Clone_int.f l1).bind fun t162 => (if t162.length < 17592186044416 then ((impl_tryOrders.f k1 l0 (t162 ++ [x41_1]) (wrap64 (a2 + t161)) a3 x5000_1 x5001_1).bind fun bt168 => (impl_tryOrders.l0 k1 l0 l1 a2 a3 (l0.length : Int) (wrap64 (x41_1 + 1)) bt168.1 bt168.2)) else (none)))) else (none)) else (none)) else (none)) else (none)) else (none)) else (none)) = some (r1, r2) := by first | (rw [hji21] at H; exact H) | (simp only [hji21] at H ⊢; exact H)
      (try rw [hji21] at A19)
      have hji21w : (IntKind.i64.wrap ((l1.length : Int) - 1)) = ji21 := (i64_w _).trans hji21
      by_cases c22 : 0 ≤ (ji21)
      ·rw [if_pos c22] at H
       have c22b0 : decide (0 ≤ (ji21)) = true := decide_eq_true c22
       clear c22
       by_cases c23 : (ji21) < (l1.length : Int)
       ·rw [if_pos c23] at H
        have c23b0 : decide ((ji21) < (l1.length : Int)) = true := decide_eq_true c23
        clear c23
        by_cases c24 : 0 ≤ (rd l1 (ji21))
        ·rw [if_pos c24] at H
         have c24b0 : decide (0 ≤ (rd l1 (ji21))) = true := decide_eq_true c24
         clear c24
         by_cases c25 : (rd l1 (ji21)) < (l0.length : Int)
         ·rw [if_pos c25] at H
          have c25b0 : decide ((rd l1 (ji21)) < (l0.length : Int)) = true := decide_eq_true c25
          clear c25
          by_cases c26 : 0 ≤ x41_1
          ·rw [if_pos c26] at H
           have c26b0 : decide (0 ≤ x41_1) = true := decide_eq_true c26
           clear c26
           by_cases c27 : x41_1 < (l0.length : Int)
           ·rw [if_pos c27] at H
            have c27b0 : decide (x41_1 < (l0.length : Int)) = true := decide_eq_true c27
            clear c27
            replace H := Option.bind_eq_some_iff.mp H
            obtain ⟨t161, A280, H⟩ := H
            (try dsimp only at H)
            have A28 := Aside0.mk A280
            clear A280
            replace H := Option.bind_eq_some_iff.mp H
            obtain ⟨t162, A290, H⟩ := H
            (try dsimp only at H)
            have A29 := Aside0.mk A290
            clear A290
            by_cases c30 : t162.length < 17592186044416
            ·rw [if_pos c30] at H
             have LMc30 := Aside0.mk c30
             clear c30
             obtain ⟨y165, hy165⟩ : ∃ y_ : List Int, y_ = (t162 ++ [x41_1]) := ⟨_, rfl⟩
             replace H : ((impl_tryOrders.f k1 l0 y165 (wrap64 (a2 + t161)) a3 x5000_1 x5001_1).bind fun bt168 => (impl_tryOrders.l0 k1 l0 l1 a2 a3 (l0.length : Int) (wrap64 (x41_1 + 1)) bt168.1 bt168.2)) = some (r1, r2) := by first | (rw [hy165]; with_reducible exact H) | (have H2_ := (Option.bind_some _ _).symm.trans H; rw [hy165]; with_reducible exact H2_) | (have H2_ := (Option.bind_some _ _).symm.trans H; with_reducible exact H2_) | with_reducible exact H | (rw [hy165]; exact H) | exact H
             have Ny165 := Aside0.mk hy165
             clear hy165
             replace H := Option.bind_eq_some_iff.mp H
             obtain ⟨⟨t168, t169⟩, A310, H⟩ := H
             (try dsimp only at H)
             have A31 := Aside0.mk A310
             clear A310
             have H' := Aside0.mk H
             clear H
             try go_wp2_with (first | ((with_reducible refine gate_callee (f := 26) rfl ?_); refine goesL_ (some 46) rfl rfl Try.func26 (by kernel_rfl) rfl #[.slice A1 l1.length c1, .int .i64 x41_1] rfl (by (try simp only [List.map_toArray, List.map_cons, List.map_nil]); first | done | rfl | (simp only [List.length_drop, List.length_take]; rfl)) ?_; (with_reducible refine (slices_Contains_int_int.calls k1 _ _ l1 x41_1 false _ ?side1 ?side2 A19.out).mono ?_); (case side1 => exact Kd.C_keep 0 HR1.out (by repeat (first | (with_reducible first | exact HK.out | apply KeepBut.set_ | apply keep_drewN | apply keep_drew | apply keep_alloc) | exact HK.out)) hf1); (case side2 => exact HC1.out); rintro e w' ⟨rfl, ⟨nd, rfl⟩⟩; refine ⟨_, rfl, ?_⟩))
             (try (rw [drewN_self wr]; generalize hq_ : World.drewN wr _ = wr; have n0_ : Aside0 (IsShort w0 wr g x5000_1 x5001_1) := ⟨by rw [← hq_]; exact (by repeat (first | (with_reducible first | exact HI4.out | apply IsShort.alloc | apply IsShort.drewN | apply IsShort.drew | apply IsShort.set_0 | apply IsShort.set_1) | exact HI4.out))⟩; have n1_ : Aside0 (KeepBut w wr g none) := ⟨by rw [← hq_]; exact (by repeat (first | (with_reducible first | exact HK.out | apply KeepBut.set_ | apply keep_drewN | apply keep_drew | apply keep_alloc) | exact HK.out))⟩; have n2_ : Aside0 (Below w0.heap.size w0 wr) := ⟨by rw [← hq_]; exact (by repeat (first | (with_reducible first | exact HB.out | apply below_alloc | apply pw_below_drewN | apply below_drew1 | refine below_set ?_ (IsShort.ge HI4.out)) | exact HB.out))⟩; clear HI4 HK HB hq_; have HI4 := n0_; have HK := n1_; have HB := n2_; clear n0_ n1_ n2_))
             have n0_ := Aside0.mk (IsShort.drew HI4.out)
             have n1_ := Aside0.mk (keep_drew HK.out)
             have n2_ := Aside0.mk (below_drew1 HB.out)
             clear HI4
             clear HK
             clear HB
             have HI4 := n0_
             have HK := n1_
             have HB := n2_
             clear n0_ n1_ n2_
             have p158 : 0 ≤ ((ji21) : Int) := of_decide_eq_true (by first | (with_reducible assumption) | assumption)
             have q158 : (ji21) < (l1.length : Int) := of_decide_eq_true (by first | (with_reducible assumption) | assumption)
             obtain ⟨ad158, e158, hx158_0⟩ := Kd.at_int HR1.out (ji21) p158 q158
             have hw158_0 := hx158_0
             cases e158
             have hne158_0 := (show ((ad158.add ((ji21)).toNat) : Addr).block ≠ g from by first | (rw [add_block]; exact hf1 ad158 rfl (by omega)) | (show (Addr.add _ _).block ≠ _; rw [add_block]; exact hf1 ad158 rfl (by omega)) | exact hf1 ad158 rfl (by omega))
             replace hx158_0 := keep_cell HK.out hx158_0 (by first | (rw [add_block]; exact hf1 _ rfl (by omega)) | exact hf1 _ rfl (by omega) | exact hf1 ad158 rfl (by omega))
             replace p158 := eq_true p158
             replace q158 := eq_true q158
             have p159 : 0 ≤ ((rd l1 (ji21)) : Int) := of_decide_eq_true (by first | (with_reducible assumption) | assumption)
             have q159 : (rd l1 (ji21)) < (l0.length : Int) := of_decide_eq_true (by first | (with_reducible assumption) | assumption)
             obtain ⟨ad159, e159, hx159_0, hx159_1⟩ := at_T39 (Kd.C_foot_now HR0.out HK.out) (rd l1 (ji21)) p159 q159
             have hw159_1 := hx159_1
             have hw159_0 := hx159_0
             cases e159
             have hne159_1 := (show (⟨(ad159.add (((rd l1 (ji21))).toNat * 2)).block, (ad159.add (((rd l1 (ji21))).toNat * 2)).off + 1, none⟩ : Addr).block ≠ g from by first | (rw [add_block]; exact Kd.foot_ne HR0.out (by omega) (by decide)) | (show (Addr.add _ _).block ≠ _; rw [add_block]; exact Kd.foot_ne HR0.out (by omega) (by decide)) | exact Kd.foot_ne HR0.out (by omega) (by decide) | (dsimp only; exact Kd.foot_ne HR0.out (by omega) (by decide)))
             have hlt159_1 := (Kd.foot_lt HR0.out (by omega) (by decide))
             have hne159_0 := (show ((ad159.add (((rd l1 (ji21))).toNat * 2)) : Addr).block ≠ g from by first | (rw [add_block]; exact Kd.foot_ne HR0.out (by omega) (by decide)) | (show (Addr.add _ _).block ≠ _; rw [add_block]; exact Kd.foot_ne HR0.out (by omega) (by decide)) | exact Kd.foot_ne HR0.out (by omega) (by decide) | (dsimp only; exact Kd.foot_ne HR0.out (by omega) (by decide)))
             have hlt159_0 := (Kd.foot_lt HR0.out (by omega) (by decide))
             replace p159 := eq_true p159
             replace q159 := eq_true q159
             have p160 : 0 ≤ (x41_1 : Int) := of_decide_eq_true (by first | (with_reducible assumption) | assumption)
             have q160 : x41_1 < (l0.length : Int) := of_decide_eq_true (by first | (with_reducible assumption) | assumption)
             obtain ⟨ad160, e160, hx160_0, hx160_1⟩ := at_T39 (Kd.C_foot_now HR0.out HK.out) x41_1 p160 q160
             have hw160_1 := hx160_1
             have hw160_0 := hx160_0
             obtain rfl : ad159 = ad160 := (by injection e160)
             have hne160_1 := (show (⟨(ad159.add ((x41_1).toNat * 2)).block, (ad159.add ((x41_1).toNat * 2)).off + 1, none⟩ : Addr).block ≠ g from by first | (rw [add_block]; exact Kd.foot_ne HR0.out (by omega) (by decide)) | (show (Addr.add _ _).block ≠ _; rw [add_block]; exact Kd.foot_ne HR0.out (by omega) (by decide)) | exact Kd.foot_ne HR0.out (by omega) (by decide) | (dsimp only; exact Kd.foot_ne HR0.out (by omega) (by decide)))
             have hlt160_1 := (Kd.foot_lt HR0.out (by omega) (by decide))
             have hne160_0 := (show ((ad159.add ((x41_1).toNat * 2)) : Addr).block ≠ g from by first | (rw [add_block]; exact Kd.foot_ne HR0.out (by omega) (by decide)) | (show (Addr.add _ _).block ≠ _; rw [add_block]; exact Kd.foot_ne HR0.out (by omega) (by decide)) | exact Kd.foot_ne HR0.out (by omega) (by decide) | (dsimp only; exact Kd.foot_ne HR0.out (by omega) (by decide)))
             have hlt160_0 := (Kd.foot_lt HR0.out (by omega) (by decide))
             replace p160 := eq_true p160
             replace q160 := eq_true q160
             refine start_ (n := 16) (S := fun w' => w'.cell? (ad158.add ((ji21)).toNat) = some (.int .i64 (rd l1 (ji21))) ∧ w'.cell? (ad159.add (((rd l1 (ji21))).toNat * 2)) = some (.int .i64 ((rd_T39 l0 (rd l1 (ji21))).f0)) ∧ w'.cell? ⟨(ad159.add (((rd l1 (ji21))).toNat * 2)).block, (ad159.add (((rd l1 (ji21))).toNat * 2)).off + 1, none⟩ = some (.int .i64 ((rd_T39 l0 (rd l1 (ji21))).f1)) ∧ w'.cell? (ad159.add ((x41_1).toNat * 2)) = some (.int .i64 ((rd_T39 l0 x41_1).f0)) ∧ w'.cell? ⟨(ad159.add ((x41_1).toNat * 2)).block, (ad159.add ((x41_1).toNat * 2)).off + 1, none⟩ = some (.int .i64 ((rd_T39 l0 x41_1).f1))) (ds := []) #[false, false, false, false, false, false, false, false, false, false, false, false, false, false, false, false] (by kernel_rfl) rfl rfl ⟨(keep_cell HK.out hw158_0 hne158_0), hx159_0, hx159_1, hx160_0, hx160_1⟩ (fun hHeld => ?_); refine with_tabW impl_tryOrders.tab7 impl_tryOrders.bits7 (fun HT_ HW_ => ?_)
             generalize wr.drew = w32 at HI4 HK HB hx158_0 hx159_0 hx159_1 hx160_0 hx160_1 hHeld ⊢
             refine pure_ (i := 0) (N := some 47) (v := ?_) (a' := ?_) #[true, false, false, false, false, false, false, false, false, false, false, false, false, false, false, false] rfl rfl (any_of HT_.out (by kernel_rfl)) (fun _ _ _ h => h) (Or.inl ⟨by rfl, ?_⟩) ?_ ?_
             rotate_left
             ·intro w'
              go_simp
              with_reducible rfl
             rotate_left
             ·simp only [Act.put, List.setIfInBounds_toArray, List.set_cons_zero, List.set_cons_succ, i64_w, i32_w]
              rfl
             refine pure_ (i := 1) (N := some 48) (v := ?_) (a' := ?_) #[true, true, false, false, false, false, false, false, false, false, false, false, false, false, false, false] rfl rfl (any_of HT_.out (by kernel_rfl)) (fun _ _ _ h => h) (Or.inl ⟨by rfl, ?_⟩) ?_ ?_
             rotate_left
             ·intro w'
              go_simp
              with_reducible rfl
             rotate_left
             ·simp only [Act.put, List.setIfInBounds_toArray, List.set_cons_zero, List.set_cons_succ, i64_w, i32_w]
              rfl
             refine pure_ (i := 2) (N := some 49) (v := ?_) (a' := ?_) #[true, true, true, false, false, false, false, false, false, false, false, false, false, false, false, false] rfl rfl (any_of HT_.out (by kernel_rfl)) (fun _ _ _ h => h) (Or.inl ⟨by rfl, ?_⟩) ?_ ?_
             rotate_left
             ·intro w'
              go_simp
              with_reducible rfl
             rotate_left
             ·simp only [Act.put, List.setIfInBounds_toArray, List.set_cons_zero, List.set_cons_succ, i64_w, i32_w]
              rfl
             refine pure_ (i := 3) (N := some 50) (v := ?_) (a' := ?_) #[true, true, true, true, false, false, false, false, false, false, false, false, false, false, false, false] rfl rfl (any_of HT_.out (by kernel_rfl)) (fun _ _ _ h => h) (Or.inl ⟨by rfl, ?_⟩) ?_ ?_
             rotate_left
             ·intro w'
              go_simp
              with_reducible rfl
             rotate_left
             ·simp only [Act.put, List.setIfInBounds_toArray, List.set_cons_zero, List.set_cons_succ, i64_w, i32_w]
              rfl
             refine pure_ (i := 4) (N := some 51) (v := ?_) (a' := ?_) #[true, true, true, true, true, false, false, false, false, false, false, false, false, false, false, false] rfl rfl (any_of HT_.out (by kernel_rfl)) (fun _ _ _ h => h) (Or.inl ⟨by rfl, ?_⟩) ?_ ?_
             rotate_left
             ·intro w'
              go_simp
              with_reducible rfl
             rotate_left
             ·simp only [Act.put, List.setIfInBounds_toArray, List.set_cons_zero, List.set_cons_succ, i64_w, i32_w]
              rfl
             refine pure_ (i := 5) (N := some 52) (v := ?_) (a' := ?_) #[true, true, true, true, true, true, false, false, false, false, false, false, false, false, false, false] rfl rfl (any_of HT_.out (by kernel_rfl)) (fun _ _ _ h => h) (Or.inl ⟨by rfl, ?_⟩) ?_ ?_
             rotate_left
             ·intro w'
              go_simp
              with_reducible rfl
             rotate_left
             ·simp only [Act.put, List.setIfInBounds_toArray, List.set_cons_zero, List.set_cons_succ, i64_w, i32_w]
              rfl
             refine pure_ (i := 9) (N := some 56) (v := ?_) (a' := ?_) #[true, true, true, true, true, true, false, false, false, true, false, false, false, false, false, false] rfl rfl (any_of HT_.out (by kernel_rfl)) (fun _ _ _ h => h) (Or.inl ⟨by rfl, ?_⟩) ?_ ?_
             rotate_left
             ·intro w'
              go_simp
              with_reducible rfl
             rotate_left
             ·simp only [Act.put, List.setIfInBounds_toArray, List.set_cons_zero, List.set_cons_succ, i64_w, i32_w]
              rfl
             refine pure_ (i := 10) (N := some 57) (v := ?_) (a' := ?_) #[true, true, true, true, true, true, false, false, false, true, true, false, false, false, false, false] rfl rfl (any_of HT_.out (by kernel_rfl)) (fun _ _ _ h => h) (Or.inl ⟨by rfl, ?_⟩) ?_ ?_
             rotate_left
             ·intro w'
              go_simp
              with_reducible rfl
             rotate_left
             ·simp only [Act.put, List.setIfInBounds_toArray, List.set_cons_zero, List.set_cons_succ, i64_w, i32_w]
              rfl
             refine pure_ (i := 11) (N := some 58) (v := ?_) (a' := ?_) #[true, true, true, true, true, true, false, false, false, true, true, true, false, false, false, false] rfl rfl (any_of HT_.out (by kernel_rfl)) (fun _ _ _ h => h) (Or.inl ⟨by rfl, ?_⟩) ?_ ?_
             rotate_left
             ·intro w'
              go_simp
              with_reducible rfl
             rotate_left
             ·simp only [Act.put, List.setIfInBounds_toArray, List.set_cons_zero, List.set_cons_succ, i64_w, i32_w]
              rfl
             refine pure_ (i := 13) (N := some 60) (v := ?_) (a' := ?_) #[true, true, true, true, true, true, false, false, false, true, true, true, false, true, false, false] rfl rfl (any_of HT_.out (by kernel_rfl)) (fun _ _ _ h => h) (Or.inl ⟨by rfl, ?_⟩) ?_ ?_
             rotate_left
             ·intro w'
              go_simp
              with_reducible rfl
             rotate_left
             ·simp only [Act.put, List.setIfInBounds_toArray, List.set_cons_zero, List.set_cons_succ, i64_w, i32_w]
              rfl
             refine take_ (i := 6) (N := some 53) (v := ?_) (a' := ?_) #[true, true, true, true, true, true, true, false, false, true, true, true, false, true, false, false] rfl rfl (take_ofW HT_.out HW_.out (by kernel_rfl)) (fun _ _ _ h => h) (Or.inl ⟨by rfl, ?_⟩) hHeld ?_ ?_
             rotate_left
             ·rintro w' ⟨s0, s1, s2, s3, s4⟩
              go_simp
              with_reducible rfl
             rotate_left
             ·simp only [Act.put, List.setIfInBounds_toArray, List.set_cons_zero, List.set_cons_succ, i64_w, i32_w]
              rfl
             refine pure_ (i := 7) (N := some 54) (v := ?_) (a' := ?_) #[true, true, true, true, true, true, true, true, false, true, true, true, false, true, false, false] rfl rfl (any_of HT_.out (by kernel_rfl)) (fun _ _ _ h => h) (Or.inl ⟨by rfl, ?_⟩) ?_ ?_
             rotate_left
             ·intro w'
              go_simp
              with_reducible rfl
             rotate_left
             ·simp only [Act.put, List.setIfInBounds_toArray, List.set_cons_zero, List.set_cons_succ, i64_w, i32_w]
              rfl
             refine take_ (i := 8) (N := some 55) (v := ?_) (a' := ?_) #[true, true, true, true, true, true, true, true, true, true, true, true, false, true, false, false] rfl rfl (take_ofW HT_.out HW_.out (by kernel_rfl)) (fun _ _ _ h => h) (Or.inl ⟨by rfl, ?_⟩) hHeld ?_ ?_
             rotate_left
             ·rintro w' ⟨s0, s1, s2, s3, s4⟩
              go_simp
              with_reducible rfl
             rotate_left
             ·simp only [Act.put, List.setIfInBounds_toArray, List.set_cons_zero, List.set_cons_succ, i64_w, i32_w]
              rfl
             refine take_ (i := 12) (N := some 59) (v := ?_) (a' := ?_) #[true, true, true, true, true, true, true, true, true, true, true, true, true, true, false, false] rfl rfl (take_ofW HT_.out HW_.out (by kernel_rfl)) (fun _ _ _ h => h) (Or.inl ⟨by rfl, ?_⟩) hHeld ?_ ?_
             rotate_left
             ·rintro w' ⟨s0, s1, s2, s3, s4⟩
              go_simp
              with_reducible rfl
             rotate_left
             ·simp only [Act.put, List.setIfInBounds_toArray, List.set_cons_zero, List.set_cons_succ, i64_w, i32_w]
              rfl
             refine one_ (i := 14) (N := some 61) #[true, true, true, true, true, true, true, true, true, true, true, true, true, true, true, false] rfl rfl (one_of HT_.out (by kernel_rfl)) (by decide) (fun K hK => ?_)
             refine goes_ Try.func27 (by kernel_rfl) rfl #[.agg #[.int .i64 ((rd_T39 l0 (rd l1 (ji21))).f0), .int .i64 ((rd_T39 l0 (rd l1 (ji21))).f1)], .agg #[.int .i64 ((rd_T39 l0 x41_1).f0), .int .i64 ((rd_T39 l0 x41_1).f1)], .int .i64 a3] (by rfl) rfl rfl (by (try simp only [List.map_toArray, List.map_cons, List.map_nil]); first | done | (simp only [hji21]; rfl) | rfl | (simp only [List.length_drop, List.length_take]; rfl)) ?_
             with_reducible refine (impl_headWay.calls ((rd_T39 l0 (rd l1 (ji21))).f0) ((rd_T39 l0 (rd l1 (ji21))).f1) ((rd_T39 l0 x41_1).f0) ((rd_T39 l0 x41_1).f1) a3 t161 _ A28.out).mono ?_
             rintro e w33 ⟨rfl, hb⟩
             have HS1_ := (hb.cell (World.block_lt_of_cell? _ _ (hHeld.2.1))).trans (hHeld.2.1)
             have HS2_ := (hb.cell (World.block_lt_of_cell? _ _ (hHeld.2.2.1))).trans (hHeld.2.2.1)
             have HS3_ := (hb.cell (World.block_lt_of_cell? _ _ (hHeld.2.2.2.1))).trans (hHeld.2.2.2.1)
             have HS4_ := (hb.cell (World.block_lt_of_cell? _ _ (hHeld.2.2.2.2))).trans (hHeld.2.2.2.2)
             refine ⟨_, rfl, ?_⟩
             have n0_ := Aside0.mk (IsShort.below (by repeat (first | (with_reducible first | exact HI4.out | apply IsShort.alloc | apply IsShort.drewN | apply IsShort.drew | apply IsShort.set_0 | apply IsShort.set_1) | exact HI4.out)) hb)
             have n1_ := Aside0.mk (KeepBut.trans (by repeat (first | (with_reducible first | exact HK.out | apply KeepBut.set_ | apply keep_drewN | apply keep_drew | apply keep_alloc) | exact HK.out)) (KeepBut.of_below hb g none) (.inl rfl))
             have n2_ := Aside0.mk (below_step (by repeat (first | (with_reducible first | exact HB.out | apply below_alloc | apply pw_below_drewN | apply below_drew1 | refine below_set ?_ (IsShort.ge HI4.out)) | exact HB.out)) hb)
             clear HI4
             clear HK
             clear HB
             have HI4 := n0_
             have HK := n1_
             have HB := n2_
             clear n0_ n1_ n2_
             (try clear hb)
             (try clear hb2)
             (try clear hk)
             (try clear hi)
             refine hK.out _ _ ⟨(keep_cell HK.out hw158_0 hne158_0), HS1_, HS2_, HS3_, HS4_⟩ (fun hHeld => ?_)
             clear hK K
             refine norm_ (a' := ?_) ?_ ?_
             rotate_left
             ·show Act.put _ (some 61) _ = _
              simp only [Act.put, List.setIfInBounds_toArray, List.set_cons_zero, List.set_cons_succ, i64_w, i32_w]
              rfl
             refine pure_ (i := 15) (N := some 11) (v := ?_) (a' := ?_) #[true, true, true, true, true, true, true, true, true, true, true, true, true, true, true, true] rfl rfl (any_of HT_.out (by kernel_rfl)) (fun _ _ _ h => h) (Or.inl ⟨by rfl, ?_⟩) ?_ ?_
             rotate_left
             ·intro w'
              go_simp
              with_reducible rfl
             rotate_left
             ·simp only [Act.put, List.setIfInBounds_toArray, List.set_cons_zero, List.set_cons_succ, i64_w, i32_w]
              rfl
             refine done_ (done_of HT_.out (by kernel_rfl)) ?_
             try go_wp2_with (first | ((with_reducible refine gate_callee (f := 25) rfl ?_); refine goesL_ (some 64) rfl rfl Try.func25 (by kernel_rfl) rfl #[.slice (some ad158) l1.length c1] rfl (by (try simp only [List.map_toArray, List.map_cons, List.map_nil]); first | done | rfl | (simp only [List.length_drop, List.length_take]; rfl)) ?_; (with_reducible refine (slices_Clone_int.calls _ _ l1 t162 _ ?side1 ?side2 A29.out).mono ?_); (case side1 => exact Kd.C_keep 0 HR1.out (by repeat (first | (with_reducible first | exact HK.out | apply KeepBut.set_ | apply keep_drewN | apply keep_drew | apply keep_alloc) | exact HK.out)) hf1); (case side2 => exact HC1.out); rintro e w34 ⟨v163, rfl, ho0, hb⟩; refine ⟨_, rfl, ?_⟩; have nf_ := Aside0.mk (IsShort.farN (by repeat (first | (with_reducible first | exact HI4.out | apply IsShort.alloc | apply IsShort.drewN | apply IsShort.drew) | exact HI4.out)) ho0 hb); have n0_ := Aside0.mk (Kd.R_lower ho0 (keep_size (w := w) (g := g) (row := none) (by repeat (first | (with_reducible first | exact HK.out | apply KeepBut.set_ | apply keep_drewN | apply keep_drew | apply keep_alloc) | exact HK.out)))); have n1_ := Aside0.mk (IsShort.below (by repeat (first | (with_reducible first | exact HI4.out | apply IsShort.alloc | apply IsShort.drewN | apply IsShort.drew | apply IsShort.set_0 | apply IsShort.set_1) | exact HI4.out)) hb); have n2_ := Aside0.mk (KeepBut.trans (by repeat (first | (with_reducible first | exact HK.out | apply KeepBut.set_ | apply keep_drewN | apply keep_drew | apply keep_alloc) | exact HK.out)) (KeepBut.of_below hb g none) (.inl rfl)); have n3_ := Aside0.mk (below_step (by repeat (first | (with_reducible first | exact HB.out | apply below_alloc | apply pw_below_drewN | apply below_drew1 | refine below_set ?_ (IsShort.ge HI4.out)) | exact HB.out)) hb); clear HI4; clear HK; clear HB; have HO164 := n0_; have NF := nf_; clear nf_; have HI4 := n1_; have HK := n2_; have HB := n3_; clear n0_ n1_ n2_ n3_; (try clear hb); (try clear hb2); (try clear hk); (try clear hi); (try clear ho0)) | ((with_reducible refine gate_builtin (b := .append) (xs := #[.tmp 64, .tmp 66]) rfl ?_); at_builtin; refine Kd.R_append (Kd.int .i64) w.heap.size rfl (.tmp 64) (.tmp 66) 34 3 (.int .i64 0) 8 rfl Try.underlying34 info3 rfl (by decide) (by omega) v163 t162 x41_1 [.int .i64 x41_1] (fun _ => True) (fun _ => False) rfl rfl ?aP (fun _ hk => hk.elim) ?aF ?aO (Below.refl _ _) ?aS ?aL ?_; (case aP => exact rfl); (case aF => exact (fun _ _ => trivial)); (case aO => exact (by (with_reducible repeat (first | apply Kd.R_alloc | apply Kd.R_drewN | apply Kd.R_drew)); exact HO164.out)); (case aS => exact (keep_size (w := w) (g := g) (row := none) (by repeat (first | (with_reducible first | exact HK.out | apply KeepBut.set_ | apply keep_drewN | apply keep_drew | apply keep_alloc) | exact HK.out)))); (case aL => have := LMc30.out; omega); intro v166 w35 ho hb hg hat; rw [← Ny165.out] at ho; have n0_ := Aside0.mk (IsShort.grown (by repeat (first | (with_reducible first | exact HI4.out | apply IsShort.alloc | apply IsShort.drewN | apply IsShort.drew | apply IsShort.set_0 | apply IsShort.set_1) | exact HI4.out)) hg (IsShort.own_ne HI4.out HO164.out (by decide)) (by repeat (first | exact NF.out | apply FarSh.drewN | apply FarSh.drew | refine FarSh.alloc (IsShort.lt HI4.out) ?_ _))); have n1_ := Aside0.mk (below_weaken (by repeat (first | (with_reducible first | exact HB.out | apply below_alloc | apply pw_below_drewN | apply below_drew1 | refine below_set ?_ (IsShort.ge HI4.out)) | exact HB.out)) HL.out hb); have n2_ := Aside0.mk (KeepBut.trans (by repeat (first | (with_reducible first | exact HK.out | apply KeepBut.set_ | apply keep_drewN | apply keep_drew | apply keep_alloc) | exact HK.out)) (KeepBut.of_grown hg g) (Kd.R_base2 HO164.out)); have n3_ := Aside0.mk (ho); clear HI4; clear HB; clear HK; clear HO164; have HI4 := n0_; have HB := n1_; have HK := n2_; have HO167 := n3_; clear n0_ n1_ n2_ n3_; clear ho hb hg hat; obtain ⟨Ao36, co36, eo36⟩ := Kd.R_slice HO167.out; subst eo36) | ((with_reducible refine gate_callee (f := 17) rfl ?_); refine goesL_ (some 73) rfl rfl Try.func17 (by kernel_rfl) rfl #[.slice (some ad159) l0.length c0, .slice Ao36 y165.length co36, .int .i64 (wrap64 (a2 + t161)), .int .i64 a3, .pointer (some ⟨g, 0, none⟩)] rfl (by (try simp only [List.map_toArray, List.map_cons, List.map_nil]); first | done | rfl | (simp only [List.length_drop, List.length_take]; rfl)) ?_; (with_reducible refine (ih k1 (by have := HK1.out; omega) _ _ l0 _ _ y165 (wrap64 (a2 + t161)) a3 g x5000_1 x5001_1 t168 t169 w0 _ ?side1 ?side2 ?side3 ?side4 ?side5 ?side6 ?side7 A31.out).mono ?_); (case side1 => repeat (first | (with_reducible first | exact HI4.out | apply IsShort.alloc | apply IsShort.drewN | apply IsShort.drew | apply IsShort.set_0 | apply IsShort.set_1) | exact HI4.out)); (case side2 => repeat (first | (with_reducible first | exact HB.out | apply below_alloc | apply pw_below_drewN | apply below_drew1 | refine below_set ?_ (IsShort.ge HI4.out)) | exact HB.out)); (case side3 => exact Kd.C_foot_step HR0.out (by repeat (first | (with_reducible first | exact HK.out | apply KeepBut.set_ | apply keep_drewN | apply keep_drew | apply keep_alloc) | exact HK.out))); (case side4 => exact HC0.out); (case side5 => repeat (first | exact (Kd.R_reads' HO167.out).2.2 | (with_reducible refine Kd.C_alloc ?_ _) | (with_reducible refine Kd.C_drewN ?_ _) | (with_reducible refine Kd.C_drew ?_))); (case side6 => exact (Kd.R_reads' HO167.out).2.1); (case side7 => exact far_slice (IsShort.own_ne HI4.out HO167.out (by decide))); rintro e w37 ⟨rfl, hi, hb, hk⟩; refine ⟨_, rfl, ?_⟩; have n0_ := Aside0.mk (Kd.R_mono (Kd.R_keep (IsShort.apart (show IsShort w0 _ g x5000_1 x5001_1 from by repeat (first | (with_reducible first | exact HI4.out | apply IsShort.alloc | apply IsShort.drewN | apply IsShort.drew | apply IsShort.set_0 | apply IsShort.set_1) | exact HI4.out)) (by (with_reducible repeat (first | apply Kd.R_alloc | apply Kd.R_drewN | apply Kd.R_drew)); exact HO167.out) (by decide)) hk (fun _ h => h.2)) (fun _ h => h.1)); have n1_ := Aside0.mk (KeepBut.trans (by repeat (first | (with_reducible first | exact HK.out | apply KeepBut.set_ | apply keep_drewN | apply keep_drew | apply keep_alloc) | exact HK.out)) hk (.inl rfl)); have n2_ := Aside0.mk (hb); have n3_ := Aside0.mk (hi); clear HO167; clear HK; clear HB; clear HI4; have HO167 := n0_; have HK := n1_; have HB := n2_; have HI4 := n3_; clear n0_ n1_ n2_ n3_; (try clear hb); (try clear hb2); (try clear hk); (try clear hi)))
             go_roundg k1
             case measure => have := HK1.out; omega
             case rel => exact ⟨(wrap64 (x41_1 + 1)), (t168), (t169), (by first | rfl | (simp; done) | (simp [*]; done)), H', ⟨by have := HK1.out; omega⟩, ⟨by repeat (first | (with_reducible first | exact HI4.out | apply IsShort.alloc | apply IsShort.drewN | apply IsShort.drew | apply IsShort.set_0 | apply IsShort.set_1) | exact HI4.out)⟩, ⟨by repeat (first | (with_reducible first | exact HK.out | apply KeepBut.set_ | apply keep_drewN | apply keep_drew | apply keep_alloc) | exact HK.out)⟩, ⟨by repeat (first | (with_reducible first | exact HB.out | apply below_alloc | apply pw_below_drewN | apply below_drew1 | refine below_set ?_ (IsShort.ge HI4.out)) | exact HB.out)⟩⟩
            ·rw [if_neg c30] at H
             exact absurd H (by simp)
           ·rw [if_neg c27] at H
            exact absurd H (by simp)
          ·rw [if_neg c26] at H
           exact absurd H (by simp)
         ·rw [if_neg c25] at H
          exact absurd H (by simp)
        ·rw [if_neg c24] at H
         exact absurd H (by simp)
       ·rw [if_neg c23] at H
        exact absurd H (by simp)
      ·rw [if_neg c22] at H
       exact absurd H (by simp)
    ·rw [if_neg c18] at H
     have c18b0 : decide (x41_1 < (l0.length : Int)) = false := decide_eq_false c18
     clear c18
     simp only [Option.some.injEq, Prod.mk.injEq] at H
     obtain ⟨rfl, rfl⟩ := H
     go_wp2
     first | go_end0 | ((try simp only [Exit.inBlock, Exit.then]); refine bodyPost_ret (results_none rfl _ _ _) rfl ?_)
     exact ⟨by first | rfl | (simp [errW_none, errW_some] <;> rfl) | (simp [*, errW_none, errW_some] <;> rfl), by repeat (first | (with_reducible first | exact HI4.out | apply IsShort.alloc | apply IsShort.drewN | apply IsShort.drew | apply IsShort.set_0 | apply IsShort.set_1) | exact HI4.out), by repeat (first | (with_reducible first | exact HB.out | apply below_alloc | apply pw_below_drewN | apply below_drew1 | refine below_set ?_ (IsShort.ge HI4.out)) | exact HB.out), by repeat (first | (with_reducible first | exact HK.out | apply KeepBut.set_ | apply keep_drewN | apply keep_drew | apply keep_alloc) | exact HK.out)⟩

-- NOT PRINTED: function 7 (impl_ShortestOrder)

end Go.Proofs.Ythjannkegjflbaa.PFnExactShortestOrder
