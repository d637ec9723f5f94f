-- written by a program of this session: the kit's print, with outer functions of the session's own (wip/ext)
import Derived.Test.YtmnnmddfmmaohaaGreatPFnHeadx0
namespace Go.Proofs.YtmnnmddfmmaohaaGreat.PFnHead
open Go.RowKit Go.Proofs.YtmnnmddfmmaohaaGreatW.PrintWords Go.Proofs.YtmnnmddfmmaohaaGreatW.PrintLast Go.Proofs.YtmnnmddfmmaohaaGreatW.PrintMore
attribute [local go_sem] max2_int min2_int max_two min_two max_three min_three max_four min_four   -- for this text's walks alone
set_option linter.unusedVariables false
set_option linter.unusedSimpArgs false
theorem mo2_ {p : Prop} (h : p := by repeat' first | (with_reducible first | apply ih0 | apply ih0 | apply spec_puHole.mono | apply spec_puHole.mono | exact LeO.refl _ | exact LeO.none _ | refine LeO.ite ?_ ?_ | refine LeO.bind ?_ (fun _ => ?_)) | exact LeO.none _ | refine LeO.ite ?_ ?_ | refine LeO.bind ?_ (fun _ => ?_)) : p := h

/-! ### laws_big: function 4 -/
def laws_big.f (l0 : List Int) (l1 : List Int) : Option (Bool) := if (l0.length : Int) > 1048576 then (some true) else (some (decide ((l1.length : Int) > (wrap64 (1048576 - (l0.length : Int))))))
set_option maxHeartbeats 8000000 in
set_option maxRecDepth 100000 in
theorem laws_big.calls (A0 : Option Addr) (c0 : Nat) (l0 : List Int) (A1 : Option Addr) (c1 : Nat) (l1 : List Int) (r : Bool) (w : World) (hr0 : Kd.C (Kd.int .u8) w A0 l0.length l0) (hc0 : l0.length ≤ c0) (hr1 : Kd.C (Kd.int .u8) w A1 l1.length l1) (hc1 : l1.length ≤ c1) (h : laws_big.f l0 l1 = some r) :
  Calls Tryz.prog 4 #[.slice A0 l0.length c0, .slice A1 l1.length c1] w fun e w' => e = .returned (.bool r) ∧ Drawn0 w w' := by
 have HR0 := Aside0.mk hr0
 have HC0 := Aside0.mk hc0
 clear hr0 hc0
 have HR1 := Aside0.mk hr1
 have HC1 := Aside0.mk hc1
 clear hr1 hc1
 have H : (if (l0.length : Int) > 1048576 then (some true) else (some (decide ((l1.length : Int) > (wrap64 (1048576 - (l0.length : Int))))))) = some r := h
 clear h
 by_cases c3 : (l0.length : Int) > 1048576
 ·rw [if_pos c3] at H
  have dj : decide (1048576 < (l0.length : Int)) = true := decide_eq_true c3
  have lC : decide (1048576 < l0.length) = true := decide_eq_true (by omega)
  clear c3
  obtain rfl := Option.some.inj H
  go_enter Tryz.func4, Tryz.ntmps4
  go_wp2
  go_ret
  exact ⟨Z16, Z44⟩
 rw [if_neg c3] at H
 have dj : decide (1048576 < (l0.length : Int)) = false := decide_eq_false c3
 have lC : decide (1048576 < l0.length) = false := decide_eq_false (by omega)
 clear c3
 obtain rfl := Option.some.inj H
 go_enter Tryz.func4, Tryz.ntmps4
 go_wp2
 go_ret
 exact ⟨Z16, Z44⟩

/-- A state of type 45 at block g of W; what its slices lead to came in by w0. -/
def IsS45 (w0 W : World) (g : Nat) (f0 : List Int) (f1 : Int) (f2 : Int) : Prop := ∃ A0 c0, W.heap[g]? = some (.cells #[.slice A0 f0.length c0, .int .i64 f1, .int .u64 f2] 45 (0, 0)) ∧ w0.heap.size ≤ g ∧ Kd.C (Kd.int .u8) w0 A0 f0.length f0
theorem IsS45.grown {w0 W : World} {g : Nat} {f0 : List Int} {f1 : Int} {f2 : Int} {W1 : World} {row : Option Nat} (h : IsS45 w0 W g f0 f1 f2) (hw : W.grownBy W1 row) (hne : some g ≠ row) : IsS45 w0 W1 g f0 f1 f2 := by
 obtain ⟨A0, c0, hb, hg, hr0⟩ := h
 exact ⟨A0, c0, blk_grown hb hw hne, hg, hr0⟩
theorem IsS45.own_neN {w0 W : World} {g : Nat} {f0 : List Int} {f1 : Int} {f2 : Int} {α : Type} {d : Kd α} {e : Nat} {base : Nat} {ok : Nat → Prop} {v : Value} {xs : List α} (h : IsS45 w0 W g f0 f1 f2) (ho : Kd.N d e W base ok v xs) (ht : e ≠ 45) : some g ≠ v.ownBlock := by
 obtain ⟨A0, c0, hb, hg, hr0⟩ := h
 exact Kd.N_ne ho hb ht
theorem IsS45.fresh {w0 W : World} {g : Nat} {f0 : List Int} {f1 : Int} {f2 : Int} (h : IsS45 w0 W g f0 f1 f2) : ∀ k, W.heap.size ≤ k → k ≠ g := by
 obtain ⟨A0, c0, hb, hg, hr0⟩ := h
 exact Kd.freshB hb
theorem IsS45.kept {w0 W : World} {g : Nat} {f0 : List Int} {f1 : Int} {f2 : Int} {W1 : World} {S : Nat → Prop} (h : IsS45 w0 W g f0 f1 f2) (hk : Kept W W1 S) (hne : ¬ S g) : IsS45 w0 W1 g f0 f1 f2 := by
 obtain ⟨A0, c0, hb, hg, hr0⟩ := h
 exact ⟨A0, c0, blk_kept hb hk hne, hg, hr0⟩
theorem IsS45.below {w0 W : World} {g : Nat} {f0 : List Int} {f1 : Int} {f2 : Int} {W1 : World} (h : IsS45 w0 W g f0 f1 f2) (hw : Below W.heap.size W W1) : IsS45 w0 W1 g f0 f1 f2 := h.grown (grown_of_below hw none) (by simp)
theorem IsS45.alloc {w0 W : World} {g : Nat} {f0 : List Int} {f1 : Int} {f2 : Int} (h : IsS45 w0 W g f0 f1 f2) (o : Obj) : IsS45 w0 (W.alloc o) g f0 f1 f2 := h.below (below_alloc (Below.refl _ _) o)
theorem IsS45.drewN {w0 W : World} {g : Nat} {f0 : List Int} {f1 : Int} {f2 : Int} (h : IsS45 w0 W g f0 f1 f2) (m : Nat) : IsS45 w0 (W.drewN m) g f0 f1 f2 := h
theorem IsS45.drew {w0 W : World} {g : Nat} {f0 : List Int} {f1 : Int} {f2 : Int} (h : IsS45 w0 W g f0 f1 f2) : IsS45 w0 W.drew g f0 f1 f2 := h
theorem IsS45.at_ {w0 W : World} {g : Nat} {f0 : List Int} {f1 : Int} {f2 : Int} {w' : World} {m : Nat} (hq : W.drewN m = w') (h : IsS45 w0 W g f0 f1 f2) : IsS45 w0 w' g f0 f1 f2 := by subst hq; exact IsS45.drewN h m
theorem IsS45.apart {w0 W : World} {g : Nat} {f0 : List Int} {f1 : Int} {f2 : Int} {α : Type} {d : Kd α} {e : Nat} {base : Nat} {ok : Nat → Prop} {v : Value} {xs : List α} (h : IsS45 w0 W g f0 f1 f2) (ho : d.R e W base ok v xs) (ht : ∀ q, q ∈ e :: d.E → q ≠ 45) : d.R e W base (fun k => ok k ∧ k ≠ g) v xs := by
 obtain ⟨A0, c0, hb, hg, hr0⟩ := h
 exact Kd.R_types ho hb ht
theorem IsS45.own_ne {w0 W : World} {g : Nat} {f0 : List Int} {f1 : Int} {f2 : Int} {α : Type} {d : Kd α} {e : Nat} {base : Nat} {ok : Nat → Prop} {v : Value} {xs : List α} (h : IsS45 w0 W g f0 f1 f2) (ho : d.R e W base ok v xs) (ht : e ≠ 45) : some g ≠ v.ownBlock := by
 obtain ⟨A0, c0, hb, hg, hr0⟩ := h
 exact Kd.R_ne ho hb ht
theorem IsS45.apartQ {w0 W : World} {g : Nat} {f0 : List Int} {f1 : Int} {f2 : Int} {α : Type} {d : Kd α} {e : Nat} {base : Nat} {ok : Nat → Prop} {v : Value} {xs : List α} (h : IsS45 w0 W g f0 f1 f2) (ho : d.Q e W base ok v xs) (ht : ∀ q, q ∈ e :: d.E → q ≠ 45) : d.Q e W base (fun k => ok k ∧ k ≠ g) v xs := by
 obtain ⟨A0, c0, hb, hg, hr0⟩ := h
 exact Kd.Q_types ho hb ht
theorem IsS45.own_neQ {w0 W : World} {g : Nat} {f0 : List Int} {f1 : Int} {f2 : Int} {α : Type} {d : Kd α} {e : Nat} {base : Nat} {ok : Nat → Prop} {v : Value} {xs : List α} (h : IsS45 w0 W g f0 f1 f2) (ho : d.Q e W base ok v xs) (ht : e ≠ 45) : some g ≠ v.ownBlock := by
 obtain ⟨A0, c0, hb, hg, hr0⟩ := h
 exact Kd.Q_ne ho hb ht
theorem IsS45.apartS {w0 W : World} {g : Nat} {f0 : List Int} {f1 : Int} {f2 : Int} {α : Type} {d : Kd α} {e : Nat} {base : Nat} {ok : Nat → Prop} {v : Value} {xs : List α} (h : IsS45 w0 W g f0 f1 f2) (ho : d.S e W base ok v xs) (ht : ∀ q, q ∈ e :: d.E → q ≠ 45) : d.S e W base (fun k => ok k ∧ k ≠ g) v xs := by
 obtain ⟨A0, c0, hb, hg, hr0⟩ := h
 exact Kd.S_types ho hb ht
theorem IsS45.own_neS {w0 W : World} {g : Nat} {f0 : List Int} {f1 : Int} {f2 : Int} {α : Type} {d : Kd α} {e : Nat} {base : Nat} {ok : Nat → Prop} {v : Value} {xs : List α} (h : IsS45 w0 W g f0 f1 f2) (ho : d.S e W base ok v xs) (ht : e ≠ 45) : some g ≠ v.ownBlock := by
 obtain ⟨A0, c0, hb, hg, hr0⟩ := h
 exact Kd.S_ne ho hb ht
theorem IsS45.lt {w0 W : World} {g : Nat} {f0 : List Int} {f1 : Int} {f2 : Int} (h : IsS45 w0 W g f0 f1 f2) : g < W.heap.size := by
 obtain ⟨A0, c0, hb, hg, hr0⟩ := h
 exact blk_lt hb
theorem IsS45.ge {w0 W : World} {g : Nat} {f0 : List Int} {f1 : Int} {f2 : Int} (h : IsS45 w0 W g f0 f1 f2) : w0.heap.size ≤ g := by
 obtain ⟨A0, c0, hb, hg, hr0⟩ := h
 exact hg
theorem IsS45.ne_blk {w0 W : World} {g : Nat} {f0 : List Int} {f1 : Int} {f2 : Int} {a : Nat} {cs : Array Value} {t : TypeId} {fr : Nat × Nat} (h : IsS45 w0 W g f0 f1 f2) (hb2 : W.heap[a]? = some (.cells cs t fr)) (ht : t ≠ 45) : g ≠ a := by
 obtain ⟨A0, c0, hb, hg, hr0⟩ := h
 rintro rfl
 rw [hb] at hb2
 injection hb2 with hb2
 injection hb2 with _ ht2
 exact ht ht2.symm
theorem IsS45.far {w0 W : World} {g : Nat} {f0 : List Int} {f1 : Int} {f2 : Int} {p : Addr} (h : IsS45 w0 W g f0 f1 f2) (hne : g ≠ p.block) (u : Value) : IsS45 w0 (W.setCell p u) g f0 f1 f2 := by
 obtain ⟨A0, c0, hb, hg, hr0⟩ := h
 exact ⟨A0, c0, blk_far hb hne u, hg, hr0⟩
theorem cellS45_0 {W : World} {g : Nat} {A0 : Option Addr} {c0 : Nat} {f0 : List Int} {f1 : Int} {f2 : Int} (h : W.heap[g]? = some (.cells #[.slice A0 f0.length c0, .int .i64 f1, .int .u64 f2] 45 (0, 0))) : W.cell? ⟨g, 0, none⟩ = some (.slice A0 f0.length c0) := (blk_cell h 0).trans rfl
theorem cellS45_1 {W : World} {g : Nat} {A0 : Option Addr} {c0 : Nat} {f0 : List Int} {f1 : Int} {f2 : Int} (h : W.heap[g]? = some (.cells #[.slice A0 f0.length c0, .int .i64 f1, .int .u64 f2] 45 (0, 0))) : W.cell? ⟨g, 1, none⟩ = some (.int .i64 f1) := (blk_cell h 1).trans rfl
theorem IsS45.set_1 {w0 W : World} {g : Nat} {f0 : List Int} {f1 : Int} {f2 : Int} (h : IsS45 w0 W g f0 f1 f2) (x : Int) : IsS45 w0 (W.setCell ⟨g, 1, none⟩ (.int .i64 x)) g f0 x f2 := by
 obtain ⟨A0, c0, hb, hg, hr0⟩ := h
 exact ⟨A0, c0, by simpa using blk_set hb 1 (.int .i64 x), hg, hr0⟩
theorem cellS45_2 {W : World} {g : Nat} {A0 : Option Addr} {c0 : Nat} {f0 : List Int} {f1 : Int} {f2 : Int} (h : W.heap[g]? = some (.cells #[.slice A0 f0.length c0, .int .i64 f1, .int .u64 f2] 45 (0, 0))) : W.cell? ⟨g, 2, none⟩ = some (.int .u64 f2) := (blk_cell h 2).trans rfl
theorem IsS45.set_2 {w0 W : World} {g : Nat} {f0 : List Int} {f1 : Int} {f2 : Int} (h : IsS45 w0 W g f0 f1 f2) (x : Int) : IsS45 w0 (W.setCell ⟨g, 2, none⟩ (.int .u64 x)) g f0 f1 x := by
 obtain ⟨A0, c0, hb, hg, hr0⟩ := h
 exact ⟨A0, c0, by simpa using blk_set hb 2 (.int .u64 x), hg, hr0⟩
theorem IsS45.new (w0 W : World) (A0 : Option Addr) (c0 : Nat) (f0 : List Int) (f1 : Int) (f2 : Int) (hB : Below w0.heap.size w0 W) (hr0 : Kd.C (Kd.int .u8) w0 A0 f0.length f0) : IsS45 w0 (W.alloc (.cells #[.slice A0 f0.length c0, .int .i64 f1, .int .u64 f2] 45)) W.heap.size f0 f1 f2 := ⟨A0, c0, by simpa using heap_alloc_new W _, hB.size, hr0⟩

/-! ### spec_l1Cur_next: function 43 -/
def spec_l1Cur_next.f (s0_0 : List Int) (s0_1 : Int) (s0_2 : Int) : Option (Int × Int × Int) := if s0_1 < (s0_0.length : Int) then (if 0 ≤ s0_1 then (if (wrap64 (s0_1 + 1)) ≤ (s0_0.length : Int) then (some (wrap64 (rd s0_0 s0_1), wrap64 (s0_1 + 1), IntKind.u64.wrap ((IntKind.u64.wrap ((IntKind.u64.wrap (s0_2 * 6364136223846793005)) + (IntKind.u64.wrap (wrap64 (rd s0_0 s0_1))))) + 1442695040888963407))) else (some (wrap64 (Go.bits .and .u64 ((IntKind.u64.wrap ((IntKind.u64.wrap ((IntKind.u64.wrap (s0_2 * 6364136223846793005)) + (IntKind.u64.wrap (wrap64 (rd s0_0 s0_1))))) + 1442695040888963407)) / 1099511627776) 255), wrap64 (s0_1 + 1), IntKind.u64.wrap ((IntKind.u64.wrap ((IntKind.u64.wrap (s0_2 * 6364136223846793005)) + (IntKind.u64.wrap (wrap64 (rd s0_0 s0_1))))) + 1442695040888963407)))) else (none)) else (if (wrap64 (s0_1 + 1)) ≤ (s0_0.length : Int) then (some (0, wrap64 (s0_1 + 1), IntKind.u64.wrap ((IntKind.u64.wrap (IntKind.u64.wrap (s0_2 * 6364136223846793005))) + 1442695040888963407))) else (some (wrap64 (Go.bits .and .u64 ((IntKind.u64.wrap ((IntKind.u64.wrap (IntKind.u64.wrap (s0_2 * 6364136223846793005))) + 1442695040888963407)) / 1099511627776) 255), wrap64 (s0_1 + 1), IntKind.u64.wrap ((IntKind.u64.wrap (IntKind.u64.wrap (s0_2 * 6364136223846793005))) + 1442695040888963407))))
set_option maxHeartbeats 8000000 in
set_option maxRecDepth 100000 in
theorem spec_l1Cur_next.calls (g : Nat) (s0_0 : List Int) (s0_1 : Int) (s0_2 : Int) (r1 : Int) (r2 : Int) (r3 : Int) (w0 w : World) (hI : IsS45 w0 w g s0_0 s0_1 s0_2) (hB : Below w0.heap.size w0 w) (h : spec_l1Cur_next.f s0_0 s0_1 s0_2 = some (r1, r2, r3)) :
  Calls Tryz.prog 43 #[.pointer (some ⟨g, 0, none⟩)] w fun e w' => e = .returned (.int .i64 r1) ∧ IsS45 w0 w' g s0_0 r2 r3 ∧ Below w0.heap.size w0 w' ∧ KeepBut w w' g none := by
 have HI0 := Aside0.mk hI
 have HK := Aside0.mk (KeepBut.refl w g none)
 have HL := Aside0.mk hB.size
 clear hI
 have HW0 := Aside0.mk hB.size
 have HB := Aside0.mk hB
 clear hB
 have H : (if s0_1 < (s0_0.length : Int) then (if 0 ≤ s0_1 then (if (wrap64 (s0_1 + 1)) ≤ (s0_0.length : Int) then (some (wrap64 (rd s0_0 s0_1), wrap64 (s0_1 + 1), IntKind.u64.wrap ((IntKind.u64.wrap ((IntKind.u64.wrap (s0_2 * 6364136223846793005)) + (IntKind.u64.wrap (wrap64 (rd s0_0 s0_1))))) + 1442695040888963407))) else (some (wrap64 (Go.bits .and .u64 ((IntKind.u64.wrap ((IntKind.u64.wrap ((IntKind.u64.wrap (s0_2 * 6364136223846793005)) + (IntKind.u64.wrap (wrap64 (rd s0_0 s0_1))))) + 1442695040888963407)) / 1099511627776) 255), wrap64 (s0_1 + 1), IntKind.u64.wrap ((IntKind.u64.wrap ((IntKind.u64.wrap (s0_2 * 6364136223846793005)) + (IntKind.u64.wrap (wrap64 (rd s0_0 s0_1))))) + 1442695040888963407)))) else (none)) else (if (wrap64 (s0_1 + 1)) ≤ (s0_0.length : Int) then (some (0, wrap64 (s0_1 + 1), IntKind.u64.wrap ((IntKind.u64.wrap (IntKind.u64.wrap (s0_2 * 6364136223846793005))) + 1442695040888963407))) else (some (wrap64 (Go.bits .and .u64 ((IntKind.u64.wrap ((IntKind.u64.wrap (IntKind.u64.wrap (s0_2 * 6364136223846793005))) + 1442695040888963407)) / 1099511627776) 255), wrap64 (s0_1 + 1), IntKind.u64.wrap ((IntKind.u64.wrap (IntKind.u64.wrap (s0_2 * 6364136223846793005))) + 1442695040888963407))))) = some (r1, r2, r3) := h
 clear h
 by_cases c2 : s0_1 < (s0_0.length : Int)
 ·rw [if_pos c2] at H
  have fi : decide (s0_1 < (s0_0.length : Int)) = true := decide_eq_true c2
  clear c2
  by_cases c3 : 0 ≤ s0_1
  ·rw [if_pos c3] at H
   have dj : decide (0 ≤ s0_1) = true := decide_eq_true c3
   clear c3
   by_cases c4 : (wrap64 (s0_1 + 1)) ≤ (s0_0.length : Int)
   ·rw [if_pos c4] at H
    have fj : decide ((wrap64 (s0_1 + 1)) ≤ (s0_0.length : Int)) = true := decide_eq_true c4
    clear c4
    simp only [Option.some.injEq, Prod.mk.injEq] at H
    obtain ⟨rfl, rfl, rfl⟩ := H
    obtain ⟨ASz5_0, cSz5_0, HGz5, hgz5, HSz5_0⟩ := HI0.out
    have hcz5_0 := cellS45_0 HGz5
    have hcz5_1 := cellS45_1 HGz5
    have hcz5_2 := cellS45_2 HGz5
    have hfz5_1 := blk_frozen HGz5 1
    have hfz5_2 := blk_frozen HGz5 2
    clear HGz5 hgz5
    have qh : 0 ≤ (s0_1 : Int) := of_decide_eq_true (Z4)
    have qi : s0_1 < (s0_0.length : Int) := of_decide_eq_true (Z4)
    obtain ⟨ad101, e101, hP⟩ := Kd.at_int HSz5_0 s0_1 qh qi
    cases e101
    replace hP := pw_cell_below HB.out hP
    replace qh := eq_true qh
    replace qi := eq_true qi
    go_enter Tryz.func43, Tryz.ntmps43
    go_wp2
    repeat (go_quiet (fail); try go_wp2)
    go_ret
    exact ⟨Z12, Z3 HI0, Z8, Z7⟩
   rw [if_neg c4] at H
   have fj : decide ((wrap64 (s0_1 + 1)) ≤ (s0_0.length : Int)) = false := decide_eq_false c4
   clear c4
   simp only [Option.some.injEq, Prod.mk.injEq] at H
   obtain ⟨rfl, rfl, rfl⟩ := H
   obtain ⟨ASz6_0, cSz6_0, HGz6, hgz6, HSz6_0⟩ := HI0.out
   have me := cellS45_0 HGz6
   have mf := cellS45_1 HGz6
   have qj := cellS45_2 HGz6
   have mg := blk_frozen HGz6 1
   have qk := blk_frozen HGz6 2
   clear HGz6 hgz6
   have qh : 0 ≤ (s0_1 : Int) := of_decide_eq_true (Z4)
   have qi : s0_1 < (s0_0.length : Int) := of_decide_eq_true (Z4)
   obtain ⟨ad101, e101, hP⟩ := Kd.at_int HSz6_0 s0_1 qh qi
   cases e101
   replace hP := pw_cell_below HB.out hP
   replace qh := eq_true qh
   replace qi := eq_true qi
   go_enter Tryz.func43, Tryz.ntmps43
   go_wp2
   repeat (go_quiet (fail); try go_wp2)
   go_ret
   exact ⟨Z12, Z3 HI0, Z8, Z7⟩
  rw [if_neg c3] at H
  exact absurd H (by simp)
 rw [if_neg c2] at H
 have fi : decide (s0_1 < (s0_0.length : Int)) = false := decide_eq_false c2
 clear c2
 by_cases c7 : (wrap64 (s0_1 + 1)) ≤ (s0_0.length : Int)
 ·rw [if_pos c7] at H
  have gX : decide ((wrap64 (s0_1 + 1)) ≤ (s0_0.length : Int)) = true := decide_eq_true c7
  clear c7
  simp only [Option.some.injEq, Prod.mk.injEq] at H
  obtain ⟨rfl, rfl, rfl⟩ := H
  obtain ⟨ASz8_0, cSz8_0, HGz8, hgz8, HSz8_0⟩ := HI0.out
  have jt := cellS45_0 HGz8
  have ju := cellS45_1 HGz8
  have ql := cellS45_2 HGz8
  have jv := blk_frozen HGz8 1
  have qm := blk_frozen HGz8 2
  clear HGz8 hgz8
  go_enter Tryz.func43, Tryz.ntmps43
  go_wp2
  repeat (go_quiet (fail); try go_wp2)
  go_ret
  exact ⟨Z12, Z3 HI0, Z8, Z7⟩
 rw [if_neg c7] at H
 have gX : decide ((wrap64 (s0_1 + 1)) ≤ (s0_0.length : Int)) = false := decide_eq_false c7
 clear c7
 simp only [Option.some.injEq, Prod.mk.injEq] at H
 obtain ⟨rfl, rfl, rfl⟩ := H
 obtain ⟨ASz9_0, cSz9_0, HGz9, hgz9, HSz9_0⟩ := HI0.out
 have ml := cellS45_0 HGz9
 have mm := cellS45_1 HGz9
 have hcz9_2 := cellS45_2 HGz9
 have mn := blk_frozen HGz9 1
 have hfz9_2 := blk_frozen HGz9 2
 clear HGz9 hgz9
 go_enter Tryz.func43, Tryz.ntmps43
 go_wp2
 repeat (go_quiet (fail); try go_wp2)
 go_ret
 exact ⟨Z12, Z3 HI0, Z8, Z7⟩

/-! ### spec_l1Cur_pick: function 22 -/
def spec_l1Cur_pick.f (s0_0 : List Int) (s0_1 : Int) (s0_2 : Int) (a1 : Int) : Option (Int × Int × Int) := if a1 ≤ 1 then (some (0, s0_1, s0_2)) else ((spec_l1Cur_next.f s0_0 s0_1 s0_2).bind fun fa => (if a1 > 200 then ((spec_l1Cur_next.f s0_0 fa.2.1 fa.2.2).bind fun jS => (if a1 = 0 then (none) else (some (Int.tmod (wrap64 ((wrap64 (fa.1 * 256)) + jS.1)) a1, jS.2.1, jS.2.2)))) else (if a1 = 0 then (none) else (some (Int.tmod fa.1 a1, fa.2.1, fa.2.2)))))
set_option maxHeartbeats 8000000 in
set_option maxRecDepth 100000 in
theorem spec_l1Cur_pick.calls (g : Nat) (s0_0 : List Int) (s0_1 : Int) (s0_2 : Int) (a1 : Int) (r1 : Int) (r2 : Int) (r3 : Int) (w0 w : World) (hI : IsS45 w0 w g s0_0 s0_1 s0_2) (hB : Below w0.heap.size w0 w) (h : spec_l1Cur_pick.f s0_0 s0_1 s0_2 a1 = some (r1, r2, r3)) :
  Calls Tryz.prog 22 #[.pointer (some ⟨g, 0, none⟩), .int .i64 a1] w fun e w' => e = .returned (.int .i64 r1) ∧ IsS45 w0 w' g s0_0 r2 r3 ∧ Below w0.heap.size w0 w' ∧ KeepBut w w' g none := by
 have HI0 := Aside0.mk hI
 have HK := Aside0.mk (KeepBut.refl w g none)
 have HL := Aside0.mk hB.size
 clear hI
 have HW0 := Aside0.mk hB.size
 have HB := Aside0.mk hB
 clear hB
 have H : (if a1 ≤ 1 then (some (0, s0_1, s0_2)) else ((spec_l1Cur_next.f s0_0 s0_1 s0_2).bind fun fa => (if a1 > 200 then ((spec_l1Cur_next.f s0_0 fa.2.1 fa.2.2).bind fun jS => (if a1 = 0 then (none) else (some (Int.tmod (wrap64 ((wrap64 (fa.1 * 256)) + jS.1)) a1, jS.2.1, jS.2.2)))) else (if a1 = 0 then (none) else (some (Int.tmod fa.1 a1, fa.2.1, fa.2.2)))))) = some (r1, r2, r3) := h
 clear h
 by_cases c3 : a1 ≤ 1
 ·rw [if_pos c3] at H
  have dj : decide (a1 ≤ 1) = true := decide_eq_true c3
  clear c3
  simp only [Option.some.injEq, Prod.mk.injEq] at H
  obtain ⟨rfl, rfl, rfl⟩ := H
  go_enter Tryz.func22, Tryz.ntmps22
  go_wp2
  go_ret
  exact ⟨Z12, Z3 HI0, Z8, Z7⟩
 rw [if_neg c3] at H
 have dj : decide (a1 ≤ 1) = false := decide_eq_false c3
 clear c3
 replace H := Option.bind_eq_some_iff.mp H
 obtain ⟨⟨BT, zv, zw⟩, fW, H⟩ := H
 (try dsimp only at H)
 have A4 := Aside0.mk fW
 clear fW
 by_cases c5 : a1 > 200
 ·rw [if_pos c5] at H
  have fX : decide (200 < a1) = true := decide_eq_true c5
  clear c5
  replace H := Option.bind_eq_some_iff.mp H
  obtain ⟨⟨t105, t106, t107⟩, fV, H⟩ := H
  (try dsimp only at H)
  have A6 := Aside0.mk fV
  clear fV
  by_cases c7 : a1 = 0
  ·rw [if_pos c7] at H
   exact absurd H (by simp)
  rw [if_neg c7] at H
  have gX : (a1 == 0) = false := beq_eq_false_iff_ne.mpr c7
  have c7b1 : (a1 != 0) = true := bne_iff_ne.mpr c7
  simp only [Option.some.injEq, Prod.mk.injEq] at H
  obtain ⟨rfl, rfl, rfl⟩ := H
  go_enter Tryz.func22, Tryz.ntmps22
  go_wp2_with (first | ((with_reducible refine gate_callee (f := 43) rfl ?_); refine gl_ 9 Tryz.func43 #[.pointer (some ⟨g, 0, none⟩)] ?_; (with_reducible refine (spec_l1Cur_next.calls g s0_0 s0_1 s0_2 BT zv zw w0 _ ?_ ?_ A4.out).mono ?_); exact (Z3 HI0); exact Z8; rintro e w8 ⟨rfl, hi, hb, hk⟩; refine ⟨_, rfl, ?_⟩; refine k3_ (KeepBut.trans (Z7) hk (.inl rfl)) (hb) (hi) ?_; clear HK HB HI0; intro HK HB HI0; (try clear hb hk hi)) | ((with_reducible refine gate_callee (f := 43) rfl ?_); refine gl_ 15 Tryz.func43 #[.pointer (some ⟨g, 0, none⟩)] ?_; (with_reducible refine (spec_l1Cur_next.calls g s0_0 zv zw t105 t106 t107 w0 _ ?_ ?_ A6.out).mono ?_); exact (Z3 HI0); exact Z8; rintro e w9 ⟨rfl, hi, hb, hk⟩; refine ⟨_, rfl, ?_⟩; refine k3_ (KeepBut.trans (Z7) hk (.inl rfl)) (hb) (hi) ?_; clear HK HB HI0; intro HK HB HI0; (try clear hb hk hi)))
  go_ret
  exact ⟨Z12, Z3 HI0, Z8, Z7⟩
 rw [if_neg c5] at H
 have fX : decide (200 < a1) = false := decide_eq_false c5
 clear c5
 by_cases c10 : a1 = 0
 ·rw [if_pos c10] at H
  exact absurd H (by simp)
 rw [if_neg c10] at H
 have cg : (a1 == 0) = false := beq_eq_false_iff_ne.mpr c10
 have qS : (a1 != 0) = true := bne_iff_ne.mpr c10
 simp only [Option.some.injEq, Prod.mk.injEq] at H
 obtain ⟨rfl, rfl, rfl⟩ := H
 go_enter Tryz.func22, Tryz.ntmps22
 go_wp2_with ((with_reducible refine gate_callee (f := 43) rfl ?_); refine gl_ 9 Tryz.func43 #[.pointer (some ⟨g, 0, none⟩)] ?_; (with_reducible refine (spec_l1Cur_next.calls g s0_0 s0_1 s0_2 BT zv zw w0 _ ?_ ?_ A4.out).mono ?_); exact (Z3 HI0); exact Z8; rintro e lA ⟨rfl, hi, hb, hk⟩; refine ⟨_, rfl, ?_⟩; refine k3_ (KeepBut.trans (Z7) hk (.inl rfl)) (hb) (hi) ?_; clear HK HB HI0; intro HK HB HI0; (try clear hb hk hi))
 go_ret
 exact ⟨Z12, Z3 HI0, Z8, Z7⟩

/-! ### spec_puHole: function 56 -/
def spec_puHole.l0 : Nat → List (S30) → Int → Int → Int → Int → Option ((List (S30)))
 | 0, _, _, _, _, _ => none
 | k + 1, x3, x4, mN, x109001, jh => if x4 ≤ (wrap64 (jh - 4)) then (if x3.length < 8796093022208 then (spec_puHole.l0 k (x3 ++ [(⟨mN, x4⟩ : S30)]) (wrap64 (x4 + 4)) mN x109001 jh) else (none)) else (if (x3.length : Int) > 0 then (if 0 ≤ (wrap64 ((x3.length : Int) - 1)) then (if (wrap64 ((x3.length : Int) - 1)) < (x3.length : Int) then (if ((rd_T30 x3 (wrap64 ((x3.length : Int) - 1))).f1) < (wrap64 (jh - 4)) then (if x3.length < 8796093022208 then (some (x3 ++ [(⟨mN, wrap64 (jh - 4)⟩ : S30)])) else (none)) else (some x3)) else (none)) else (none)) else (some x3))
def spec_puHole.f (k : Nat) (a0_0 : Int) (a0_1 : Int) (a0_2 : Int) : Option ((List (S30))) := spec_puHole.l0 k ([] : List (S30)) a0_1 a0_0 a0_1 a0_2
theorem spec_puHole.mono_l : ∀ k, (∀ y0 y1 y2 y3 y4, LeO (spec_puHole.l0 k y0 y1 y2 y3 y4) (spec_puHole.l0 (k + 1) y0 y1 y2 y3 y4))
 | 0 => fun _ _ _ _ _ r h => by simp [spec_puHole.l0] at h
 | k + 1 => by
  have ih0 := spec_puHole.mono_l k
  ·intro y0 y1 y2 y3 y4
   unfold spec_puHole.l0
   exact mo2_
theorem spec_puHole.mono : ∀ a0 a1 a2 k, LeO (spec_puHole.f k a0 a1 a2) (spec_puHole.f (k + 1) a0 a1 a2) := by
 intro a0 a1 a2 k
 have ih0 := spec_puHole.mono_l k
 unfold spec_puHole.f
 exact mo2_
set_option maxHeartbeats 8000000 in
set_option maxRecDepth 100000 in
theorem spec_puHole.calls (k : Nat) (a0_0 : Int) (a0_1 : Int) (a0_2 : Int) (r : List (S30)) (w : World) (h : spec_puHole.f k a0_0 a0_1 a0_2 = some r) :
  Calls Tryz.prog 56 #[.agg #[.int .i64 a0_0, .int .i64 a0_1, .int .i64 a0_2]] w fun e w' => ∃ v0_ : Value, e = .returned (v0_) ∧ Kd.R k30 30 w' w.heap.size (fun _ => True) v0_ r ∧ Below w.heap.size w w' := by
 have hu76 := Tryz.underlying76
 have hu30 := Tryz.underlying30
 have HB := Aside0.mk (Below.refl w.heap.size w)
 have H : (spec_puHole.l0 k ([] : List (S30)) a0_1 a0_0 a0_1 a0_2) = some r := h
 clear h
 have H' := Aside0.mk H
 clear H
 go_enter Tryz.func56, Tryz.ntmps56
 go_wp2_with ((with_reducible refine gate_dst (N := 1) rfl ?_); refine bv_ 1 76 #[.int .i64 a0_0, .int .i64 a0_1, .int .i64 a0_2] ?_; intro es hg w2 hbox hb; refine k4_ (below_step (Z2) hb) (hbox) ((Z38 : w.heap.size ≤ es)) ((Z38 : w.heap.size ≤ es)) ?_; clear HB; intro HB bC xI sG; clear hb hbox hg; obtain ⟨qn, qo, qp, qq, qr, qt⟩ := bx3_ (w := w2) bC.out)
 repeat (go_quiet (fail); try go_wp2_with (fail))
 go_loopg [3, 4] k (fun kq v3 v4 w' => ∃ (az : List (S30)) (aw : Int), v4 = .int .i64 aw ∧ Aside0 (spec_puHole.l0 kq az aw a0_0 a0_1 a0_2 = some r) ∧ Aside0 (kq ≤ k) ∧ Aside0 (Kd.R k30 30 w' w.heap.size (fun _ => True) v3 az) ∧ Aside0 (w'.heap[es]? = some (.cells #[.int .i64 a0_0, .int .i64 a0_1, .int .i64 a0_2] 76 (0, 0))) ∧ Aside0 (Below w.heap.size w w'))
 case atStart => exact ⟨(([] : List (S30))), (a0_1), (Z16), H', ⟨Nat.le_refl _⟩, ⟨Z37⟩, ⟨Z6 bC⟩, ⟨Z33⟩⟩
 case round =>
  clear H'
  (try clear p2); (try clear qn); (try clear qo); (try clear qp); (try clear qq); (try clear qr); (try clear qt)
  obtain ⟨az, aw, rfl, HA, HK1, am, bC, HB⟩ := hrel
  cases gk with
  | zero => exact absurd HA.out (by simp [spec_puHole.l0])
  | succ k1 =>
   have H := HA.out
   clear HA
   simp only [spec_puHole.l0] at H
   by_cases c4 : aw ≤ (wrap64 (a0_2 - 4))
   ·rw [if_pos c4] at H
    have fj : decide (aw ≤ (wrap64 (a0_2 - 4))) = true := decide_eq_true c4
    clear c4
    by_cases c5 : az.length < 8796093022208
    ·rw [if_pos c5] at H
     have zx := Aside0.mk c5
     clear c5
     obtain ⟨BU, oo⟩ : ∃ y_ : List (S30), y_ = (az ++ [(⟨a0_0, aw⟩ : S30)]) := ⟨_, rfl⟩
     replace H : (spec_puHole.l0 k1 BU (wrap64 (aw + 4)) a0_0 a0_1 a0_2) = some r := by first | (rw [oo]; with_reducible exact H) | (have H2_ := (Option.bind_some _ _).symm.trans H; rw [oo]; with_reducible exact H2_) | (have H2_ := (Option.bind_some _ _).symm.trans H; with_reducible exact H2_) | with_reducible exact H | (rw [oo]; exact H) | exact H
     have uk := Aside0.mk oo
     clear oo
     have H' := Aside0.mk H
     clear H
     obtain ⟨me, mf, qj, px, mg, qk⟩ := bx3_ (w := wr) bC.out
     go_wp2_with ((with_reducible refine gate_builtin (b := .append) (xs := #[.tmp 15, .tmp 20]) rfl ?_); at_builtin; refine Kd.R_append k30 (w0 := w) w.heap.size rfl (.tmp 15) (.tmp 20) 24 30 (.agg #[(.int .i64 0), (.int .i64 0)]) 16 rfl Tryz.underlying24 info30 rfl (by decide) (by omega) u3 az (⟨a0_0, aw⟩ : S30) [.int .i64 a0_0, .int .i64 aw] (fun _ => True) (fun _ => False) rfl rfl ?aP (fun _ hk => hk.elim) ?aF ?aO ?aB ?aS ?aL ?_; (case aP => exact k30_mkM _ _ _ (⟨a0_0, aw⟩ : S30)); (case aB => exact Z33); (case aF => exact (fun _ _ => trivial)); (case aO => exact (Z1 am)); (case aS => exact (below_size (Z33))); (case aL => exact Z76 zx); intro BV w7 ho hb hg hat; rw [← uk.out] at ho; refine k3_ (blk_grown (g := es) (o := .cells #[.int .i64 a0_0, .int .i64 a0_1, .int .i64 a0_2] 76 (0, 0)) (Z6 bC) hg (Kd.R_ne am.out bC.out (by decide))) (hb) (ho) ?_; clear bC HB am; intro bC HB ul; clear ho hb hg hat)
     repeat (go_quiet (fail); try go_wp2_with (fail))
     go_roundg k1
     case measure => have := HK1.out; omega
     case rel => exact ⟨(BU), (wrap64 (aw + 4)), (Z16), H', ⟨Z76 HK1⟩, ⟨Z1 ul⟩, ⟨Z6 bC⟩, ⟨Z33⟩⟩
    rw [if_neg c5] at H
    exact absurd H (by simp)
   rw [if_neg c4] at H
   have fj : decide (aw ≤ (wrap64 (a0_2 - 4))) = false := decide_eq_false c4
   clear c4
   by_cases c8 : (az.length : Int) > 0
   ·rw [if_pos c8] at H
    have g7 : decide (0 < (az.length : Int)) = true := decide_eq_true c8
    have yQ : decide (0 < az.length) = true := decide_eq_true (by omega)
    clear c8
    obtain ⟨cW, hji9⟩ : ∃ j_ : Int, (wrap64 ((az.length : Int) - 1)) = j_ := ⟨_, rfl⟩
    replace H : (if 0 ≤ (cW) then (if (cW) < (az.length : Int) then (if ((rd_T30 az (cW)).f1) < (wrap64 (a0_2 - 4)) then (if az.length < 8796093022208 then (some (az ++ [(⟨a0_0, wrap64 (a0_2 - 4)⟩ : S30)])) else (none)) else (some az)) else (none)) else (none)) = some r := by first | (rw [hji9] at H; exact H) | (simp only [hji9] at H ⊢; exact H)
    have hji9w : (IntKind.i64.wrap ((az.length : Int) - 1)) = cW := (i64_w _).trans hji9
    by_cases c10 : 0 ≤ (cW)
    ·rw [if_pos c10] at H
     have cg : decide (0 ≤ (cW)) = true := decide_eq_true c10
     clear c10
     by_cases c11 : (cW) < (az.length : Int)
     ·rw [if_pos c11] at H
      have jD : decide ((cW) < (az.length : Int)) = true := decide_eq_true c11
      clear c11
      by_cases c12 : ((rd_T30 az (cW)).f1) < (wrap64 (a0_2 - 4))
      ·rw [if_pos c12] at H
       have iE : decide (((rd_T30 az (cW)).f1) < (wrap64 (a0_2 - 4))) = true := decide_eq_true c12
       clear c12
       by_cases c13 : az.length < 8796093022208
       ·rw [if_pos c13] at H
        have um := Aside0.mk c13
        clear c13
        obtain ⟨y113, oq⟩ : ∃ y_ : List (S30), y_ = (az ++ [(⟨a0_0, wrap64 (a0_2 - 4)⟩ : S30)]) := ⟨_, rfl⟩
        replace H : (some y113) = some r := by first | (rw [oq]; with_reducible exact H) | (have H2_ := (Option.bind_some _ _).symm.trans H; rw [oq]; with_reducible exact H2_) | (have H2_ := (Option.bind_some _ _).symm.trans H; with_reducible exact H2_) | with_reducible exact H | (rw [oq]; exact H) | exact H
        have un := Aside0.mk oq
        clear oq
        obtain rfl := Option.some.inj H
        obtain ⟨rg, rh, hcz14_2, ri, rj, hfz14_2⟩ := bx3_ (w := wr) bC.out
        obtain ⟨nG, jG, lD⟩ := Kd.R_slice am.out
        subst lD
        have qu : 0 ≤ ((cW) : Int) := of_decide_eq_true (Z4)
        have qv : (cW) < (az.length : Int) := of_decide_eq_true (Z4)
        obtain ⟨rk, e112, hx112_0, hx112_1⟩ := at_T30 (Kd.R_reads' am.out).2.2 (cW) qu qv
        cases e112
        replace qu := eq_true qu
        replace qv := eq_true qv
        go_wp2_with (fail)
        repeat (go_quiet (fail); try go_wp2_with ((with_reducible refine gate_builtin (b := .append) (xs := #[.tmp 38, .tmp 45]) rfl ?_); at_builtin; refine Kd.R_append k30 (w0 := w) w.heap.size rfl (.tmp 38) (.tmp 45) 24 30 (.agg #[(.int .i64 0), (.int .i64 0)]) 16 rfl Tryz.underlying24 info30 rfl (by decide) (by omega) (.slice (some rk) az.length jG) az (⟨a0_0, wrap64 (a0_2 - 4)⟩ : S30) [.int .i64 a0_0, .int .i64 (wrap64 (a0_2 - 4))] (fun _ => True) (fun _ => False) rfl rfl ?aP (fun _ hk => hk.elim) ?aF ?aO ?aB ?aS ?aL ?_; (case aP => exact k30_mkM _ _ _ (⟨a0_0, wrap64 (a0_2 - 4)⟩ : S30)); (case aB => exact Z33); (case aF => exact (fun _ _ => trivial)); (case aO => exact (Z1 am)); (case aS => exact (below_size (Z33))); (case aL => exact Z76 um); intro BW pw ho hb hg hat; rw [← un.out] at ho; refine k3_ (blk_grown (g := es) (o := .cells #[.int .i64 a0_0, .int .i64 a0_1, .int .i64 a0_2] 76 (0, 0)) (Z6 bC) hg (Kd.R_ne am.out bC.out (by decide))) (hb) (ho) ?_; clear bC HB am; intro bC HB uo; clear ho hb hg hat))
        go_ret
        exact ⟨_, Z133, Z1 uo, Z33⟩
       rw [if_neg c13] at H
       exact absurd H (by simp)
      rw [if_neg c12] at H
      have iE : decide (((rd_T30 az (cW)).f1) < (wrap64 (a0_2 - 4))) = false := decide_eq_false c12
      clear c12
      obtain rfl := Option.some.inj H
      obtain ⟨hcz17_0, hcz17_1, hcz17_2, hfz17_0, hfz17_1, hfz17_2⟩ := bx3_ (w := wr) bC.out
      obtain ⟨vS, vT, qw⟩ := Kd.R_slice am.out
      subst qw
      have qu : 0 ≤ ((cW) : Int) := of_decide_eq_true (Z4)
      have qv : (cW) < (az.length : Int) := of_decide_eq_true (Z4)
      obtain ⟨rk, e112, hx112_0, hx112_1⟩ := at_T30 (Kd.R_reads' am.out).2.2 (cW) qu qv
      cases e112
      replace qu := eq_true qu
      replace qv := eq_true qv
      go_wp2
      repeat (go_quiet (fail); try go_wp2)
      go_ret
      exact ⟨_, Z133, Z1 am, Z33⟩
     rw [if_neg c11] at H
     exact absurd H (by simp)
    rw [if_neg c10] at H
    exact absurd H (by simp)
   rw [if_neg c8] at H
   have g7 : decide (0 < (az.length : Int)) = false := decide_eq_false c8
   have yQ : decide (0 < az.length) = false := decide_eq_false (by omega)
   clear c8
   obtain rfl := Option.some.inj H
   obtain ⟨mC, rl, rm, mD, rn, ro⟩ := bx3_ (w := wr) bC.out
   obtain ⟨Ao20, co20, eo20⟩ := Kd.R_slice am.out
   subst eo20
   go_wp2
   repeat (go_quiet (fail); try go_wp2)
   go_ret
   exact ⟨_, Z12, Z1 am, Z33⟩

/-! ### spec_puStrokes: function 39 -/
def spec_puStrokes.l0 : Nat → List (S30) → List (S76) → Int → Int → Option ((List (S30)) × Bool)
 | 0, _, _, _, _ => none
 | k + 1, x4, x8, x9, x10 => if x10 < x9 then (if 0 ≤ x10 then (if x10 < (x8.length : Int) then ((spec_puHole.f k ((rd_T76 x8 x10).f0) ((rd_T76 x8 x10).f1) ((rd_T76 x8 x10).f2)).bind fun gA => (if (gA.length : Int) = 0 then (some (([] : List (S30)), false)) else (if x4.length + gA.length < 8796093022208 then (spec_puStrokes.l0 k (x4 ++ gA) x8 x9 (wrap64 (x10 + 1))) else (none)))) else (none)) else (none)) else (if (x4.length : Int) > 200 then (some (([] : List (S30)), false)) else (some (x4, true)))
def spec_puStrokes.f (k : Nat) (l0 : List (S76)) : Option ((List (S30)) × Bool) := spec_puStrokes.l0 k ([] : List (S30)) l0 (l0.length : Int) 0
theorem spec_puStrokes.mono_l : ∀ k, (∀ y0 y1 y2 y3, LeO (spec_puStrokes.l0 k y0 y1 y2 y3) (spec_puStrokes.l0 (k + 1) y0 y1 y2 y3))
 | 0 => fun _ _ _ _ r h => by simp [spec_puStrokes.l0] at h
 | k + 1 => by
  have ih0 := spec_puStrokes.mono_l k
  ·intro y0 y1 y2 y3
   unfold spec_puStrokes.l0
   exact mo2_
theorem spec_puStrokes.mono : ∀ a0 k, LeO (spec_puStrokes.f k a0) (spec_puStrokes.f (k + 1) a0) := by
 intro a0 k
 have ih0 := spec_puStrokes.mono_l k
 unfold spec_puStrokes.f
 exact mo2_
set_option maxHeartbeats 8000000 in
set_option maxRecDepth 100000 in
theorem spec_puStrokes.calls (k : Nat) (A0 : Option Addr) (c0 : Nat) (l0 : List (S76)) (r1 : List (S30)) (r2 : Bool) (w : World) (hr0 : Kd.C k76 w A0 l0.length l0) (hc0 : l0.length ≤ c0) (h : spec_puStrokes.f k l0 = some (r1, r2)) :
  Calls Tryz.prog 39 #[.slice A0 l0.length c0] w fun e w' => ∃ v0_ : Value, e = .returned (.tuple #[v0_, .bool r2]) ∧ Kd.R k30 30 w' w.heap.size (fun _ => True) v0_ r1 ∧ Below w.heap.size w w' := by
 have hu76 := Tryz.underlying76
 have HR0 := Aside0.mk hr0
 have HC0 := Aside0.mk hc0
 clear hr0 hc0
 have HB := Aside0.mk (Below.refl w.heap.size w)
 have H : (spec_puStrokes.l0 k ([] : List (S30)) l0 (l0.length : Int) 0) = some (r1, r2) := h
 clear h
 have H' := Aside0.mk H
 clear H
 go_enter Tryz.func39, Tryz.ntmps39
 go_wp2
 go_loopg [4, 10] k (fun kq v4 vK w' => ∃ (aw : List (S30)) (ag : Int), vK = .int .i64 ag ∧ Aside0 (spec_puStrokes.l0 kq aw l0 (l0.length : Int) ag = some (r1, r2)) ∧ Aside0 (kq ≤ k) ∧ Aside0 (Kd.R k30 30 w' w.heap.size (fun _ => True) v4 aw) ∧ Aside0 (Below w.heap.size w w'))
 case atStart => exact ⟨(([] : List (S30))), (0), (Z16), H', ⟨Nat.le_refl _⟩, ⟨Z37⟩, ⟨Z2⟩⟩
 case round =>
  clear H'
  obtain ⟨aw, ag, rfl, HA, HK1, aj, HB⟩ := hrel
  cases gk with
  | zero => exact absurd HA.out (by simp [spec_puStrokes.l0])
  | succ k1 =>
   have H := HA.out
   clear HA
   simp only [spec_puStrokes.l0] at H
   by_cases c2 : ag < (l0.length : Int)
   ·rw [if_pos c2] at H
    have fi : decide (ag < (l0.length : Int)) = true := decide_eq_true c2
    clear c2
    by_cases c3 : 0 ≤ ag
    ·rw [if_pos c3] at H
     have dj : decide (0 ≤ ag) = true := decide_eq_true c3
     clear c3
     by_cases c4 : ag < (l0.length : Int)
     ·rw [if_pos c4] at H
      have fj : decide (ag < (l0.length : Int)) = true := decide_eq_true c4
      clear c4
      replace H := Option.bind_eq_some_iff.mp H
      obtain ⟨gA, fM, H⟩ := H
      (try dsimp only at H)
      have A5 := Aside0.mk fM
      clear fM
      by_cases c6 : (gA.length : Int) = 0
      ·rw [if_pos c6] at H
       have iq : ((gA.length : Int) == 0) = true := beq_iff_eq.mpr c6
       have vU : ((gA.length : Int) != 0) = false := bne_eq_false_iff_eq.mpr c6
       clear c6
       simp only [Option.some.injEq, Prod.mk.injEq] at H
       obtain ⟨rfl, rfl⟩ := H
       have qx : 0 ≤ (ag : Int) := of_decide_eq_true (Z4)
       have qy : ag < (l0.length : Int) := of_decide_eq_true (Z4)
       obtain ⟨ad116, e116, fB, fC, fD⟩ := at_T76 HR0.out ag qx qy
       cases e116
       replace fB := (HB.out.cell (World.block_lt_of_cell? w _ fB)).trans fB
       replace fC := (HB.out.cell (World.block_lt_of_cell? w _ fC)).trans fC
       replace fD := (HB.out.cell (World.block_lt_of_cell? w _ fD)).trans fD
       replace qx := eq_true qx
       replace qy := eq_true qy
       go_wp2_with (first | ((with_reducible refine gate_dst (N := 6) rfl ?_); refine bv_ 6 76 #[.int .i64 0, .int .i64 0, .int .i64 0] ?_; intro fU hg w7 hbox hb; refine k5_ (Ya_ aj) (below_step (Z2) hb) (hbox) ((Z38 : w.heap.size ≤ fU)) ((Z38 : w.heap.size ≤ fU)) ?_; clear aj HB; intro aj HB eB GW117 wG; clear hb hbox hg; obtain ⟨jt, ju, ql, mh, jv, qm⟩ := bx3_ (w := w7) eB.out) | ((with_reducible refine gate_callee (f := 56) rfl ?_); refine gl_ 15 Tryz.func56 #[.agg #[.int .i64 ((rd_T76 l0 ag).f0), .int .i64 ((rd_T76 l0 ag).f1), .int .i64 ((rd_T76 l0 ag).f2)]] ?_; (with_reducible refine (spec_puHole.calls k1 ((rd_T76 l0 ag).f0) ((rd_T76 l0 ag).f1) ((rd_T76 l0 ag).f2) gA _ A5.out).mono ?_); rintro e w9 ⟨v119, rfl, ho0, hb⟩; refine ⟨_, rfl, ?_⟩; refine k4_ (Kd.R_elder' (Z51) (Kd.R_base ho0) hb) (Kd.R_lower (Kd.R_new' ho0 (Kd.R_lt (Z51))) (below_size (Z57))) (blk_below (g := fU) (o := .cells #[.int .i64 ((rd_T76 l0 ag).f0), .int .i64 ((rd_T76 l0 ag).f1), .int .i64 ((rd_T76 l0 ag).f2)] 76 (0, 0)) (Z50 eB) hb) (below_step (Z57) hb) ?_; clear aj eB HB; intro aj iP eB HB; (try clear hb ho0); obtain ⟨dy, aC, g4⟩ := Kd.R_slice iP.out; subst g4))
       go_ret2
       exact ⟨_, Z12, Z37, Z57⟩
      rw [if_neg c6] at H
      have iq : ((gA.length : Int) == 0) = false := beq_eq_false_iff_ne.mpr c6
      have vU : ((gA.length : Int) != 0) = true := bne_iff_ne.mpr c6
      have c6b2 : ¬ (gA = []) := fun h_ => c6 (by rw [h_]; rfl)
      by_cases c11 : aw.length + gA.length < 8796093022208
      ·rw [if_pos c11] at H
       have LMc11 := Aside0.mk c11
       clear c11
       obtain ⟨BX, ot⟩ : ∃ y_ : List (S30), y_ = (aw ++ gA) := ⟨_, rfl⟩
       replace H : (spec_puStrokes.l0 k1 BX l0 (l0.length : Int) (wrap64 (ag + 1))) = some (r1, r2) := by first | (rw [ot]; with_reducible exact H) | (have H2_ := (Option.bind_some _ _).symm.trans H; rw [ot]; with_reducible exact H2_) | (have H2_ := (Option.bind_some _ _).symm.trans H; with_reducible exact H2_) | with_reducible exact H | (rw [ot]; exact H) | exact H
       have Ny121 := Aside0.mk ot
       clear ot
       have H' := Aside0.mk H
       clear H
       have qx : 0 ≤ (ag : Int) := of_decide_eq_true (Z4)
       have qy : ag < (l0.length : Int) := of_decide_eq_true (Z4)
       obtain ⟨ad116, e116, fB, fC, fD⟩ := at_T76 HR0.out ag qx qy
       cases e116
       replace fB := (HB.out.cell (World.block_lt_of_cell? w _ fB)).trans fB
       replace fC := (HB.out.cell (World.block_lt_of_cell? w _ fC)).trans fC
       replace fD := (HB.out.cell (World.block_lt_of_cell? w _ fD)).trans fD
       replace qx := eq_true qx
       replace qy := eq_true qy
       go_wp2_with (first | ((with_reducible refine gate_dst (N := 6) rfl ?_); refine bv_ 6 76 #[.int .i64 0, .int .i64 0, .int .i64 0] ?_; intro fU hg vy hbox hb; refine k5_ (Ya_ aj) (below_step (Z2) hb) (hbox) ((Z38 : w.heap.size ≤ fU)) ((Z38 : w.heap.size ≤ fU)) ?_; clear aj HB; intro aj HB eB GW117 wG; clear hb hbox hg; obtain ⟨hcz13_0, hcz13_1, hcz13_2, hfz13_0, hfz13_1, hfz13_2⟩ := bx3_ (w := vy) eB.out) | ((with_reducible refine gate_callee (f := 56) rfl ?_); refine gl_ 15 Tryz.func56 #[.agg #[.int .i64 ((rd_T76 l0 ag).f0), .int .i64 ((rd_T76 l0 ag).f1), .int .i64 ((rd_T76 l0 ag).f2)]] ?_; (with_reducible refine (spec_puHole.calls k1 ((rd_T76 l0 ag).f0) ((rd_T76 l0 ag).f1) ((rd_T76 l0 ag).f2) gA _ A5.out).mono ?_); rintro e vE ⟨v119, rfl, ho0, hb⟩; refine ⟨_, rfl, ?_⟩; refine k4_ (Kd.R_elder' (Z51) (Kd.R_base ho0) hb) (Kd.R_lower (Kd.R_new' ho0 (Kd.R_lt (Z51))) (below_size (Z57))) (blk_below (g := fU) (o := .cells #[.int .i64 ((rd_T76 l0 ag).f0), .int .i64 ((rd_T76 l0 ag).f1), .int .i64 ((rd_T76 l0 ag).f2)] 76 (0, 0)) (Z50 eB) hb) (below_step (Z57) hb) ?_; clear aj eB HB; intro aj iP eB HB; (try clear hb ho0); obtain ⟨nG, jG, lD⟩ := Kd.R_slice iP.out; subst lD) | ((with_reducible refine gate_builtin (b := .append) (xs := #[.tmp 19, .tmp 20]) rfl ?_); at_builtin; refine Kd.R_append_rows k30 (w0 := w) w.heap.size rfl (.tmp 19) (.tmp 20) 24 30 (.agg #[(.int .i64 0), (.int .i64 0)]) 16 rfl Tryz.underlying24 info30 rfl (by decide) (by omega) u4 aw gA _ _ _ (fun k_ => some k_ ≠ (.slice nG gA.length jG : Value).ownBlock) (fun _ => False) rfl rfl ?aO ?aR (fun _ _ h => h) (fun _ h => h.elim) ?aF ?aB ?aS ?aL ?_; (case aR => exact Z5 iP); (case aB => exact Z57); (case aF => exact (fun k_ hk => Kd.fresh' (Yd_ iP) k_ hk)); (case aO => exact (Z26 aj)); (case aS => exact (below_size (Z57))); (case aL => exact Z76 LMc11); intro v122 pw ho hb hg hat; rw [← Ny121.out] at ho; refine k4_ (blk_grown (g := fU) (o := .cells #[.int .i64 ((rd_T76 l0 ag).f0), .int .i64 ((rd_T76 l0 ag).f1), .int .i64 ((rd_T76 l0 ag).f2)] 76 (0, 0)) (Z6 eB) hg (Kd.R_ne aj.out eB.out (by decide))) (Kd.R_after (ok := (fun _ => True)) (Z1 iP) hg hat) (hb) (ho) ?_; clear eB iP HB aj; intro eB iP HB HO123; clear ho hb hg hat))
       go_roundg k1
       case measure => have := HK1.out; omega
       case rel => exact ⟨(BX), (wrap64 (ag + 1)), (Z16), H', ⟨Z76 HK1⟩, ⟨Z35 HO123⟩, ⟨Z57⟩⟩
      rw [if_neg c11] at H
      exact absurd H (by simp)
     rw [if_neg c4] at H
     exact absurd H (by simp)
    rw [if_neg c3] at H
    exact absurd H (by simp)
   rw [if_neg c2] at H
   have fi : decide (ag < (l0.length : Int)) = false := decide_eq_false c2
   clear c2
   by_cases c17 : (aw.length : Int) > 200
   ·rw [if_pos c17] at H
    have lM : decide (200 < (aw.length : Int)) = true := decide_eq_true c17
    have qT : decide (200 < aw.length) = true := decide_eq_true (by omega)
    clear c17
    simp only [Option.some.injEq, Prod.mk.injEq] at H
    obtain ⟨rfl, rfl⟩ := H
    obtain ⟨vS, vT, qw⟩ := Kd.R_slice aj.out
    subst qw
    go_wp2
    go_ret2
    exact ⟨_, Z12, Z37, Z2⟩
   rw [if_neg c17] at H
   have lM : decide (200 < (aw.length : Int)) = false := decide_eq_false c17
   have qT : decide (200 < aw.length) = false := decide_eq_false (by omega)
   clear c17
   simp only [Option.some.injEq, Prod.mk.injEq] at H
   obtain ⟨rfl, rfl⟩ := H
   obtain ⟨tv, lE, tw⟩ := Kd.R_slice aj.out
   subst tw
   go_wp2
   go_ret2
   exact ⟨_, Z12, Z1 aj, Z2⟩

/-! ### spec_l1Cur_one: function 41 -/
def spec_l1Cur_one.f (s0_0 : List Int) (s0_1 : Int) (s0_2 : Int) (a1 : Int) : Option (Bool × Int × Int) := (spec_l1Cur_pick.f s0_0 s0_1 s0_2 a1).bind fun jT => (some ((jT.1 == 0), jT.2.1, jT.2.2))
set_option maxHeartbeats 8000000 in
set_option maxRecDepth 100000 in
theorem spec_l1Cur_one.calls (g : Nat) (s0_0 : List Int) (s0_1 : Int) (s0_2 : Int) (a1 : Int) (r1 : Bool) (r2 : Int) (r3 : Int) (w0 w : World) (hI : IsS45 w0 w g s0_0 s0_1 s0_2) (hB : Below w0.heap.size w0 w) (h : spec_l1Cur_one.f s0_0 s0_1 s0_2 a1 = some (r1, r2, r3)) :
  Calls Tryz.prog 41 #[.pointer (some ⟨g, 0, none⟩), .int .i64 a1] w fun e w' => e = .returned (.bool r1) ∧ IsS45 w0 w' g s0_0 r2 r3 ∧ Below w0.heap.size w0 w' ∧ KeepBut w w' g none := by
 have HI0 := Aside0.mk hI
 have HK := Aside0.mk (KeepBut.refl w g none)
 have HL := Aside0.mk hB.size
 clear hI
 have HW0 := Aside0.mk hB.size
 have HB := Aside0.mk hB
 clear hB
 have H : ((spec_l1Cur_pick.f s0_0 s0_1 s0_2 a1).bind fun jT => (some ((jT.1 == 0), jT.2.1, jT.2.2))) = some (r1, r2, r3) := h
 clear h
 replace H := Option.bind_eq_some_iff.mp H
 obtain ⟨⟨t124, t125, t126⟩, fN, H⟩ := H
 (try dsimp only at H)
 have A3 := Aside0.mk fN
 clear fN
 simp only [Option.some.injEq, Prod.mk.injEq] at H
 obtain ⟨rfl, rfl, rfl⟩ := H
 go_enter Tryz.func41, Tryz.ntmps41
 go_wp2_with ((with_reducible refine gate_callee (f := 22) rfl ?_); refine gl_ 7 Tryz.func22 #[.pointer (some ⟨g, 0, none⟩), .int .i64 a1] ?_; (with_reducible refine (spec_l1Cur_pick.calls g s0_0 s0_1 s0_2 a1 t124 t125 t126 w0 _ ?_ ?_ A3.out).mono ?_); exact (Z3 HI0); exact Z8; rintro e w4 ⟨rfl, hi, hb, hk⟩; refine ⟨_, rfl, ?_⟩; refine k3_ (KeepBut.trans (Z7) hk (.inl rfl)) (hb) (hi) ?_; clear HK HB HI0; intro HK HB HI0; (try clear hb hk hi))
 go_ret
 exact ⟨Z12, Z3 HI0, Z8, Z7⟩

/-! ### spec_shBefore: function 82 -/
def spec_shBefore.f (a0_0 : Int) (a0_1 : Int) (a0_2 : Int) (a1_0 : Int) (a1_1 : Int) (a1_2 : Int) : Option (Bool) := if a0_1 < a1_1 then (some true) else (if a0_1 = a1_1 then (some (decide (a0_0 < a1_0))) else (some false))
set_option maxHeartbeats 8000000 in
set_option maxRecDepth 100000 in
theorem spec_shBefore.calls (a0_0 : Int) (a0_1 : Int) (a0_2 : Int) (a1_0 : Int) (a1_1 : Int) (a1_2 : Int) (r : Bool) (w : World) (h : spec_shBefore.f a0_0 a0_1 a0_2 a1_0 a1_1 a1_2 = some r) :
  Calls Tryz.prog 82 #[.agg #[.int .i64 a0_0, .int .i64 a0_1, .int .i64 a0_2], .agg #[.int .i64 a1_0, .int .i64 a1_1, .int .i64 a1_2]] w fun e w' => e = .returned (.bool r) ∧ Below w.heap.size w w' := by
 have hu76 := Tryz.underlying76
 have HB := Aside0.mk (Below.refl w.heap.size w)
 have H : (if a0_1 < a1_1 then (some true) else (if a0_1 = a1_1 then (some (decide (a0_0 < a1_0))) else (some false))) = some r := h
 clear h
 by_cases c3 : a0_1 < a1_1
 ·rw [if_pos c3] at H
  have dj : decide (a0_1 < a1_1) = true := decide_eq_true c3
  clear c3
  obtain rfl := Option.some.inj H
  go_enter Tryz.func82, Tryz.ntmps82
  go_wp2_with (first | ((with_reducible refine gate_dst (N := 2) rfl ?_); refine bv_ 2 76 #[.int .i64 a0_0, .int .i64 a0_1, .int .i64 a0_2] ?_; intro d8 hg w4 hbox hb; refine k4_ (below_step (Z2) hb) (hbox) ((Z38 : w.heap.size ≤ d8)) ((Z38 : w.heap.size ≤ d8)) ?_; clear HB; intro HB d9 xJ qG; clear hb hbox hg) | ((with_reducible refine gate_dst (N := 3) rfl ?_); refine bv_ 3 76 #[.int .i64 a1_0, .int .i64 a1_1, .int .i64 a1_2] ?_; intro eO hg w5 hbox hb; refine k7_ (Ye_ d9) (below_step (Z52) hb) (hbox) ((Z147 : w.heap.size ≤ eO)) ((Z147 : w.heap.size ≤ eO)) ((Z121 : d8 ≠ eO)) ((Z122 : eO ≠ d8)) ?_; clear d9 HB; intro d9 HB ou xK sF fb fc; clear hb hbox hg; have hnb6 := fb.out; have hnc6 := fc.out; obtain ⟨uq, ur, us, ut, uu, uv⟩ := bx3_ (w := w5) d9.out; obtain ⟨jt, ju, ql, mh, jv, qm⟩ := bx3_ (w := w5) ou.out))
  go_ret
  exact ⟨Z12, Z92⟩
 rw [if_neg c3] at H
 have dj : decide (a0_1 < a1_1) = false := decide_eq_false c3
 clear c3
 by_cases c9 : a0_1 = a1_1
 ·rw [if_pos c9] at H
  have iX : (a0_1 == a1_1) = true := beq_iff_eq.mpr c9
  have pX : (a0_1 != a1_1) = false := bne_eq_false_iff_eq.mpr c9
  clear c9
  obtain rfl := Option.some.inj H
  go_enter Tryz.func82, Tryz.ntmps82
  go_wp2_with (first | ((with_reducible refine gate_dst (N := 2) rfl ?_); refine bv_ 2 76 #[.int .i64 a0_0, .int .i64 a0_1, .int .i64 a0_2] ?_; intro d8 hg ng hbox hb; refine k4_ (below_step (Z2) hb) (hbox) ((Z38 : w.heap.size ≤ d8)) ((Z38 : w.heap.size ≤ d8)) ?_; clear HB; intro HB d9 xJ qG; clear hb hbox hg) | ((with_reducible refine gate_dst (N := 3) rfl ?_); refine bv_ 3 76 #[.int .i64 a1_0, .int .i64 a1_1, .int .i64 a1_2] ?_; intro eO hg lA hbox hb; refine k7_ (Ye_ d9) (below_step (Z52) hb) (hbox) ((Z147 : w.heap.size ≤ eO)) ((Z147 : w.heap.size ≤ eO)) ((Z121 : d8 ≠ eO)) ((Z122 : eO ≠ d8)) ?_; clear d9 HB; intro d9 HB ou xK sF fb fc; clear hb hbox hg; have hnb12 := fb.out; have hnc12 := fc.out; obtain ⟨hcz13_0, hcz13_1, hcz13_2, hfz13_0, hfz13_1, hfz13_2⟩ := bx3_ (w := lA) d9.out; obtain ⟨rg, rh, hcz14_2, ri, rj, hfz14_2⟩ := bx3_ (w := lA) ou.out))
  go_ret
  exact ⟨Z12, Z92⟩
 rw [if_neg c9] at H
 have iX : (a0_1 == a1_1) = false := beq_eq_false_iff_ne.mpr c9
 have pX : (a0_1 != a1_1) = true := bne_iff_ne.mpr c9
 obtain rfl := Option.some.inj H
 go_enter Tryz.func82, Tryz.ntmps82
 go_wp2_with (first | ((with_reducible refine gate_dst (N := 2) rfl ?_); refine bv_ 2 76 #[.int .i64 a0_0, .int .i64 a0_1, .int .i64 a0_2] ?_; intro d8 hg l8 hbox hb; refine k4_ (below_step (Z2) hb) (hbox) ((Z38 : w.heap.size ≤ d8)) ((Z38 : w.heap.size ≤ d8)) ?_; clear HB; intro HB d9 xJ qG; clear hb hbox hg) | ((with_reducible refine gate_dst (N := 3) rfl ?_); refine bv_ 3 76 #[.int .i64 a1_0, .int .i64 a1_1, .int .i64 a1_2] ?_; intro eO hg pw hbox hb; refine k7_ (Ye_ d9) (below_step (Z52) hb) (hbox) ((Z147 : w.heap.size ≤ eO)) ((Z147 : w.heap.size ≤ eO)) ((Z121 : d8 ≠ eO)) ((Z122 : eO ≠ d8)) ?_; clear d9 HB; intro d9 HB ou xK sF fb fc; clear hb hbox hg; have hnb17 := fb.out; have hnc17 := fc.out; obtain ⟨hcz18_0, hcz18_1, hcz18_2, hfz18_0, hfz18_1, hfz18_2⟩ := bx3_ (w := pw) d9.out; obtain ⟨mC, rl, rm, mD, rn, ro⟩ := bx3_ (w := pw) ou.out))
 go_ret
 exact ⟨Z12, Z92⟩

/-! ### spec_l1In: function 30 -/
def spec_l1In.f (a0 : Int) (a1 : Int) (a2 : Int) : Option (Bool) := if a0 ≥ a1 then (some (decide (a0 ≤ a2))) else (some false)
set_option maxHeartbeats 8000000 in
set_option maxRecDepth 100000 in
theorem spec_l1In.calls (a0 : Int) (a1 : Int) (a2 : Int) (r : Bool) (w : World) (h : spec_l1In.f a0 a1 a2 = some r) :
  Calls Tryz.prog 30 #[.int .i64 a0, .int .i64 a1, .int .i64 a2] w fun e w' => e = .returned (.bool r) ∧ Drawn0 w w' := by
 have H : (if a0 ≥ a1 then (some (decide (a0 ≤ a2))) else (some false)) = some r := h
 clear h
 by_cases c4 : a0 ≥ a1
 ·rw [if_pos c4] at H
  have fj : decide (a1 ≤ a0) = true := decide_eq_true c4
  clear c4
  obtain rfl := Option.some.inj H
  go_enter Tryz.func30, Tryz.ntmps30
  go_wp2
  go_ret
  exact ⟨Z16, Z44⟩
 rw [if_neg c4] at H
 have fj : decide (a1 ≤ a0) = false := decide_eq_false c4
 clear c4
 obtain rfl := Option.some.inj H
 go_enter Tryz.func30, Tryz.ntmps30
 go_wp2
 go_ret
 exact ⟨Z16, Z44⟩

/-! ### spec_shHole: function 96 -/
def spec_shHole.f (a0_0 : Int) (a0_1 : Int) (a0_2 : Int) : Option (Bool) := (spec_l1In.f a0_0 0 19).bind fun uw => (if uw = true then ((spec_l1In.f a0_1 0 1999).bind fun ux => (if ux = true then ((spec_l1In.f a0_2 (wrap64 (a0_1 + 1)) 2000).bind fun r0 => (some r0)) else (some false))) else (some false))
set_option maxHeartbeats 8000000 in
set_option maxRecDepth 100000 in
theorem spec_shHole.calls (a0_0 : Int) (a0_1 : Int) (a0_2 : Int) (r : Bool) (w : World) (h : spec_shHole.f a0_0 a0_1 a0_2 = some r) :
  Calls Tryz.prog 96 #[.agg #[.int .i64 a0_0, .int .i64 a0_1, .int .i64 a0_2]] w fun e w' => e = .returned (.bool r) ∧ Below w.heap.size w w' := by
 have hu76 := Tryz.underlying76
 have HB := Aside0.mk (Below.refl w.heap.size w)
 have H : ((spec_l1In.f a0_0 0 19).bind fun uw => (if uw = true then ((spec_l1In.f a0_1 0 1999).bind fun ux => (if ux = true then ((spec_l1In.f a0_2 (wrap64 (a0_1 + 1)) 2000).bind fun r0 => (some r0)) else (some false))) else (some false))) = some r := h
 clear h
 replace H := Option.bind_eq_some_iff.mp H
 obtain ⟨uw, cK, H⟩ := H
 (try dsimp only at H)
 have A2 := Aside0.mk cK
 clear cK
 by_cases c3 : uw = true
 ·subst c3
  rw [if_pos rfl] at H
  replace H := Option.bind_eq_some_iff.mp H
  obtain ⟨ux, fW, H⟩ := H
  (try dsimp only at H)
  have A4 := Aside0.mk fW
  clear fW
  by_cases c5 : ux = true
  ·subst c5
   rw [if_pos rfl] at H
   replace H := Option.bind_eq_some_iff.mp H
   obtain ⟨r0, fV, H⟩ := H
   replace H : (some r0) = some r := H
   have A6 := Aside0.mk fV
   clear fV
   obtain rfl := Option.some.inj H
   go_enter Tryz.func96, Tryz.ntmps96
   go_wp2_with (first | ((with_reducible refine gate_dst (N := 1) rfl ?_); refine bv_ 1 76 #[.int .i64 a0_0, .int .i64 a0_1, .int .i64 a0_2] ?_; intro iQ hg w7 hbox hb; refine k4_ (below_step (Z2) hb) (hbox) ((Z38 : w.heap.size ≤ iQ)) ((Z38 : w.heap.size ≤ iQ)) ?_; clear HB; intro HB ov xL sD; clear hb hbox hg; obtain ⟨jt, ju, ql, mh, jv, qm⟩ := bx3_ (w := w7) ov.out) | ((with_reducible refine gate_callee (f := 30) rfl ?_); refine gl_ 5 Tryz.func30 #[.int .i64 a0_0, .int .i64 0, .int .i64 19] ?_; (with_reducible refine (spec_l1In.calls a0_0 0 19 true _ A2.out).mono ?_); rintro e w' ⟨rfl, ⟨nd, rfl⟩⟩; refine ⟨_, rfl, ?_⟩) | (go_at_call 30; (with_reducible refine (spec_l1In.calls a0_1 0 1999 true _ A4.out).mono ?_); rintro e w' ⟨rfl, ⟨nd, rfl⟩⟩) | (go_at_call 30; (with_reducible refine (spec_l1In.calls a0_2 (wrap64 (a0_1 + 1)) 2000 r0 _ A6.out).mono ?_); rintro e w' ⟨rfl, ⟨nd, rfl⟩⟩))
   go_ret
   exact ⟨Z12, Z108⟩
  replace c5 := Bool.eq_false_iff.mpr c5
  subst c5
  rw [if_neg (show ¬ (false = true) by decide)] at H
  obtain rfl := Option.some.inj H
  go_enter Tryz.func96, Tryz.ntmps96
  go_wp2_with (first | ((with_reducible refine gate_dst (N := 1) rfl ?_); refine bv_ 1 76 #[.int .i64 a0_0, .int .i64 a0_1, .int .i64 a0_2] ?_; intro iQ hg w9 hbox hb; refine k4_ (below_step (Z2) hb) (hbox) ((Z38 : w.heap.size ≤ iQ)) ((Z38 : w.heap.size ≤ iQ)) ?_; clear HB; intro HB ov xL sD; clear hb hbox hg; obtain ⟨mo, mq, hcz10_2, mr, ms, hfz10_2⟩ := bx3_ (w := w9) ov.out) | ((with_reducible refine gate_callee (f := 30) rfl ?_); refine gl_ 5 Tryz.func30 #[.int .i64 a0_0, .int .i64 0, .int .i64 19] ?_; (with_reducible refine (spec_l1In.calls a0_0 0 19 true _ A2.out).mono ?_); rintro e w' ⟨rfl, ⟨nd, rfl⟩⟩; refine ⟨_, rfl, ?_⟩) | (go_at_call 30; (with_reducible refine (spec_l1In.calls a0_1 0 1999 false _ A4.out).mono ?_); rintro e w' ⟨rfl, ⟨nd, rfl⟩⟩))
  go_ret
  exact ⟨Z12, Z108⟩
 replace c3 := Bool.eq_false_iff.mpr c3
 subst c3
 rw [if_neg (show ¬ (false = true) by decide)] at H
 obtain rfl := Option.some.inj H
 go_enter Tryz.func96, Tryz.ntmps96
 go_wp2_with (first | ((with_reducible refine gate_dst (N := 1) rfl ?_); refine bv_ 1 76 #[.int .i64 a0_0, .int .i64 a0_1, .int .i64 a0_2] ?_; intro iQ hg lA hbox hb; refine k4_ (below_step (Z2) hb) (hbox) ((Z38 : w.heap.size ≤ iQ)) ((Z38 : w.heap.size ≤ iQ)) ?_; clear HB; intro HB ov xL sD; clear hb hbox hg; obtain ⟨jb, mE, hcz12_2, jc, mF, hfz12_2⟩ := bx3_ (w := lA) ov.out) | ((with_reducible refine gate_callee (f := 30) rfl ?_); refine gl_ 5 Tryz.func30 #[.int .i64 a0_0, .int .i64 0, .int .i64 19] ?_; (with_reducible refine (spec_l1In.calls a0_0 0 19 false _ A2.out).mono ?_); rintro e w' ⟨rfl, ⟨nd, rfl⟩⟩; refine ⟨_, rfl, ?_⟩))
 go_ret
 exact ⟨Z12, Z108⟩

end Go.Proofs.YtmnnmddfmmaohaaGreat.PFnHead
