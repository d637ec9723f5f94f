-- written by a program of this session: the kit's print, with outer functions of the session's own (wip/ext)
import Derived.Test.YtdipcpcbclobpaaDoorPFnPinsx0
import Derived.Test.YtdipcpcbclobpaaDoorPFnPinsx8
import Derived.Test.YtdipcpcbclobpaaDoorPFnPinsx13
namespace Go.Proofs.YtdipcpcbclobpaaDoor.PFnPins
open Go.RowKit Go.Proofs.YtdipcpcbclobpaaDoorW.PrintWords Go.Proofs.YtdipcpcbclobpaaDoorW.PrintLast Go.Proofs.YtdipcpcbclobpaaDoorW.PrintMore
attribute [local go_sem] max2_int min2_int max_two min_two max_three min_three max_four min_four   -- for this text's walks alone
set_option linter.unusedVariables false
set_option linter.unusedSimpArgs false
theorem mo14_ {p : Prop} (h : p := by repeat' first | (with_reducible first | apply ih0 | apply ih0 | apply impl_ArePins.mono | apply impl_ArePins.mono | apply impl_words.mono | apply impl_words.mono | exact LeO.refl _ | exact LeO.none _ | refine LeO.ite ?_ ?_ | refine LeO.bind ?_ (fun _ => ?_)) | exact LeO.none _ | refine LeO.ite ?_ ?_ | refine LeO.bind ?_ (fun _ => ?_)) : p := h

/-! ### strings_Join: function 63: by this session -/
def strings_Join.f (l0 : List (ByteArray)) (a1 : ByteArray) : Option (ByteArray) := if l0.length ≤ 140737488355328 ∧ (Go.Lib.join (l0.map (·.data.toList)) a1.data.toList).length ≤ 140737488355328 then some ⟨(Go.Lib.join (l0.map (·.data.toList)) a1.data.toList).toArray⟩ else none
theorem strings_Join.extra : Builder.Extra Tryd.prog Tryd.lays156_ren := {
 sizeBuilder := by kernel_rfl
 liesBuilder := by kernel_rfl
 t5 := Tryd.underlying5
 a5 := Tryd.isAgg5
 z5 := Tryd.sizeOf5
 v5 := Tryd.zeroValue5
 infoByte := by kernel_rfl
 cellsByte := by kernel_rfl
 sizeByte := by kernel_rfl
 neB5 := by decide }
theorem strings_Join.calls (A0 : Option Addr) (c0 : Nat) (l0 : List (ByteArray)) (a1 : ByteArray) (r : ByteArray) (w : World) (hr0 : Kd.C Kd.string w A0 l0.length l0) (hc0 : l0.length ≤ c0) (h : strings_Join.f l0 a1 = some r) :
  Calls Tryd.prog 63 #[.slice A0 l0.length c0, .string a1] w fun e w' => e = .returned (.string r) ∧ Below w.heap.size w w' := by
 unfold strings_Join.f at h
 split at h
 ·rename_i hc
  obtain rfl := Option.some.inj h
  by_cases h0 : l0 = []
  ·subst h0
   refine (Any.strings_Join_none Tryd.lays156 strings_Join.extra A0 c0 a1 w).mono ?_
   rintro e w' ⟨rfl, rfl⟩
   exact ⟨rfl, Below.refl _ _⟩
  have hpos : 0 < l0.length := List.length_pos_iff.2 h0
  obtain ⟨ad, rfl, hz⟩ := Kd.at_string hr0 0 (Int.le_refl _) (by omega)
  obtain ⟨bk, o, sp⟩ := ad
  have hz0 : w.cell? ⟨bk, o, sp⟩ = some (.string (rdOf ByteArray.empty l0 0)) := by simpa [Addr.add] using hz
  have hsp : sp = none := by
   cases sp with
   | none => rfl
   | some s =>
    unfold World.cell? at hz0
    split at hz0 <;> simp at hz0
  subst hsp
  have hadd : ∀ j : Nat, (⟨bk, o, none⟩ : Addr).add j = ⟨bk, o + j, none⟩ := fun j => by
   unfold Addr.add
   split
   ·rename_i h0; subst h0; rfl
   rfl
  refine (Any.strings_Join Tryd.lays156 strings_Join.extra bk o c0 l0 a1 w (fun j x hx => ?_) (World.block_lt_of_cell? w _ hz0) hc.1 hc0 hc.2).mono ?_
  ·obtain ⟨hj, hx'⟩ := List.getElem?_eq_some_iff.1 hx
   obtain ⟨ad', e', hcell⟩ := Kd.at_string hr0 (j : Int) (by omega) (by omega)
   obtain rfl := Option.some.inj e'
   have hr : rdOf ByteArray.empty l0 (j : Int) = x := by
    unfold rdOf
    simp [List.getD_eq_getElem?_getD, hx]
   rw [hr, Int.toNat_natCast, hadd] at hcell
   exact hcell
  rintro e w' ⟨rfl, hb⟩
  exact ⟨rfl, hb⟩
 cases h

/-! ### impl_words: function 49 -/
def impl_words.l0 : Nat → List ByteArray → List Int → Int → Int → Option (ByteArray)
 | 0, _, _, _, _ => none
 | k + 1, x3, x7, x8, x9 => if x9 < x8 then (if 0 ≤ x9 then (if x9 < (x7.length : Int) then ((strconv_Itoa.f (rd x7 x9)).bind fun n7 => (if x3.length < 8796093022208 then (impl_words.l0 k (x3 ++ [n7]) x7 x8 (wrap64 (x9 + 1))) else (none))) else (none)) else (none)) else ((strings_Join.f x3 (⟨#[32]⟩ : ByteArray)).bind fun q7 => (some q7))
def impl_words.f (k : Nat) (l0 : List Int) : Option (ByteArray) := impl_words.l0 k (([] : List ByteArray)) l0 (l0.length : Int) 0
theorem impl_words.mono_l : ∀ k, (∀ y0 y1 y2 y3, LeO (impl_words.l0 k y0 y1 y2 y3) (impl_words.l0 (k + 1) y0 y1 y2 y3))
 | 0 => fun _ _ _ _ r h => by simp [impl_words.l0] at h
 | k + 1 => by
  have ih0 := impl_words.mono_l k
  ·intro y0 y1 y2 y3
   unfold impl_words.l0
   exact mo14_
theorem impl_words.mono : ∀ a0 k, LeO (impl_words.f k a0) (impl_words.f (k + 1) a0) := by
 intro a0 k
 have ih0 := impl_words.mono_l k
 unfold impl_words.f
 exact mo14_
set_option maxHeartbeats 8000000 in
set_option maxRecDepth 100000 in
theorem impl_words.calls (k : Nat) (A0 : Option Addr) (c0 : Nat) (l0 : List Int) (r : ByteArray) (w : World) (hr0 : Kd.C (Kd.int .i64) w A0 l0.length l0) (hc0 : l0.length ≤ c0) (h : impl_words.f k l0 = some r) (hT : Go.Lib.TabIs Tryd.prog w "internal/strconv.uint64pow10" .u64 Go.Lib.pow10Tab) :
  Calls Tryd.prog 49 #[.slice A0 l0.length c0] w fun e w' => e = .returned (.string r) ∧ Below w.heap.size w w' := by
 have HT := Aside0.mk hT
 clear hT
 have HR0 := Aside0.mk hr0
 have HC0 := Aside0.mk hc0
 clear hr0 hc0
 have HB := Aside0.mk (Below.refl w.heap.size w)
 have H : (impl_words.l0 k (([] : List ByteArray)) l0 (l0.length : Int) 0) = some r := h
 clear h
 obtain ⟨wB, jW⟩ : ∃ y_ : List ByteArray, y_ = (([] : List ByteArray)) := ⟨_, rfl⟩
 replace H : (impl_words.l0 k wB l0 (l0.length : Int) 0) = some r := by first | (rw [jW]; with_reducible exact H) | (have H2_ := (Option.bind_some _ _).symm.trans H; rw [jW]; with_reducible exact H2_) | (have H2_ := (Option.bind_some _ _).symm.trans H; with_reducible exact H2_) | with_reducible exact H | (rw [jW]; exact H) | exact H
 have sj := Aside0.mk jW
 clear jW
 have H' := Aside0.mk H
 clear H
 go_enter Tryd.func49, Tryd.ntmps49
 go_wp2_with (first | ((with_reducible refine gate_dst (N := 6) rfl ?_); refine Kd.R_lit Kd.string _ 9 ?hg (N := 6) ?hd (xs := ([] : List ByteArray)) (inner := []) (ok := fun _ => True) (okp := fun _ => True) ?hr ?hp (fun _ hk => hk) trivial (Below.refl _ _) (Nat.le_refl _) (by simp) ?_; (case hd => rfl); (case hg => rfl); (case hr => exact Z34); (case hp => exact (Reps.none _ _)); intro v522 w2 ho3 hb hg_ hnew_; clear hg_ hnew_; (first | rw [← sj.out] at ho3 | (simp only [Int.reduceToNat] at ho3; rw [← sj.out] at ho3)); refine k2_ (Kd.R_lower ho3 (below_size (Z1))) (below_step (Z1) hb) ?_; clear HB; intro HO523 HB; clear hb ho3))
 (try simp only [Act.put, List.setIfInBounds_toArray, List.set_cons_zero, List.set_cons_succ])
 go_loopg [3, 9] k (fun kq v3 v9 w' => ∃ (jX : List ByteArray) (bA : Int), v9 = .int .i64 bA ∧ Aside0 (impl_words.l0 kq jX l0 (l0.length : Int) bA = some r) ∧ Aside0 (kq ≤ k) ∧ Aside0 (Kd.R Kd.string 9 w' w.heap.size (fun _ => True) v3 jX) ∧ Aside0 (Below w.heap.size w w'))
 case atStart => exact ⟨(wB), (0), (Z14), H', ⟨Nat.le_refl _⟩, ⟨Z2 HO523⟩, ⟨Z1⟩⟩
 case round =>
  clear H'
  (try clear p2)
  obtain ⟨jX, bA, rfl, HA, HK1, ae, HB⟩ := hrel
  cases gk with
  | zero => exact absurd HA.out (by simp [impl_words.l0])
  | succ k1 =>
   have H := HA.out
   clear HA
   simp only [impl_words.l0] at H
   by_cases c4 : bA < (l0.length : Int)
   ·rw [if_pos c4] at H
    have cy : decide (bA < (l0.length : Int)) = true := decide_eq_true c4
    clear c4
    by_cases c5 : 0 ≤ bA
    ·rw [if_pos c5] at H
     have e3 : decide (0 ≤ bA) = true := decide_eq_true c5
     clear c5
     by_cases c6 : bA < (l0.length : Int)
     ·rw [if_pos c6] at H
      have en : decide (bA < (l0.length : Int)) = true := decide_eq_true c6
      clear c6
      replace H := Option.bind_eq_some_iff.mp H
      obtain ⟨n7, ed, H⟩ := H
      (try dsimp only at H)
      have A7 := Aside0.mk ed
      clear ed
      by_cases c8 : jX.length < 8796093022208
      ·rw [if_pos c8] at H
       have oZ := Aside0.mk c8
       clear c8
       obtain ⟨wC, jY⟩ : ∃ y_ : List ByteArray, y_ = (jX ++ [n7]) := ⟨_, rfl⟩
       replace H : (impl_words.l0 k1 wC l0 (l0.length : Int) (wrap64 (bA + 1))) = some r := by first | (rw [jY]; with_reducible exact H) | (have H2_ := (Option.bind_some _ _).symm.trans H; rw [jY]; with_reducible exact H2_) | (have H2_ := (Option.bind_some _ _).symm.trans H; with_reducible exact H2_) | with_reducible exact H | (rw [jY]; exact H) | exact H
       have Ny526 := Aside0.mk jY
       clear jY
       have H' := Aside0.mk H
       clear H
       have ur : 0 ≤ (bA : Int) := of_decide_eq_true (Z12)
       have us : bA < (l0.length : Int) := of_decide_eq_true (Z12)
       obtain ⟨ad524, e524, jf⟩ := Kd.at_int HR0.out bA ur us
       cases e524
       replace jf := (HB.out.cell (World.block_lt_of_cell? w _ jf)).trans jf
       replace ur := eq_true ur
       replace us := eq_true us
       go_wp2_with (first | ((with_reducible refine gate_callee (f := 62) rfl ?_); refine gl_ 15 Tryd.func62 #[.int .i64 (rd l0 bA)] ?_; (with_reducible refine (strconv_Itoa.calls (rd l0 bA) n7 _ A7.out ?sideT).mono ?_); (case sideT => exact tb_ HT.out (Z1)); rintro e w9 ⟨rfl, hb⟩; refine ⟨_, rfl, ?_⟩; refine k2_ (Ya_ ae) (below_step (Z1) hb) ?_; clear ae HB; intro ae HB; (try clear hb)) | ((with_reducible refine gate_builtin (b := .append) (xs := #[.tmp 13, .tmp 16]) rfl ?_); at_builtin; refine Kd.R_append Kd.string (w0 := w) w.heap.size rfl (.tmp 13) (.tmp 16) 74 9 (.string ⟨#[]⟩) 16 rfl Tryd.underlying74 info9 rfl (by decide) (by omega) u3 jX n7 [.string n7] (fun _ => True) (fun _ => False) rfl rfl ?aP (fun _ hk => hk.elim) ?aF ?aO ?aB ?aS ?aL ?_; (case aP => exact rfl); (case aB => exact Z1); (case aF => exact (fun _ _ => trivial)); (case aO => exact (Z2 ae)); (case aS => exact (below_size (Z1))); (case aL => exact Z82 oZ); intro v527 jE ho hb hg hat; rw [← Ny526.out] at ho; refine k2_ (hb) (ho) ?_; clear HB ae; intro HB HO528; clear ho hb hg hat))
       go_roundg k1
       case measure => have := HK1.out; omega
       case rel => exact ⟨(wC), (wrap64 (bA + 1)), (Z14), H', ⟨Z82 HK1⟩, ⟨Z2 HO528⟩, ⟨Z1⟩⟩
      rw [if_neg c8] at H
      exact absurd H (by simp)
     rw [if_neg c6] at H
     exact absurd H (by simp)
    rw [if_neg c5] at H
    exact absurd H (by simp)
   rw [if_neg c4] at H
   have cy : decide (bA < (l0.length : Int)) = false := decide_eq_false c4
   clear c4
   replace H := Option.bind_eq_some_iff.mp H
   obtain ⟨q7, iF, H⟩ := H
   replace H : (some q7) = some r := H
   have ut := Aside0.mk iF
   clear iF
   obtain rfl := Option.some.inj H
   obtain ⟨gl, gm, pB⟩ := Kd.R_slice ae.out
   subst pB
   go_wp2_with (first | ((with_reducible refine gate_callee (f := 63) rfl ?_); refine gl_ 20 Tryd.func63 #[.slice gl jX.length gm, .string (⟨#[32]⟩ : ByteArray)] ?_; (with_reducible refine (strings_Join.calls _ _ jX (⟨#[32]⟩ : ByteArray) q7 _ ?_ ?_ ut.out).mono ?_); exact (Z4 ae); exact (Kd.R_reads' ae.out).2.1; rintro e fS ⟨rfl, hb⟩; refine ⟨_, rfl, ?_⟩; refine k2_ (Ya_ ae) (below_step (Z1) hb) ?_; clear ae HB; intro ae HB; (try clear hb)))
   go_ret
   exact ⟨Z11, Z1⟩

/-! ### impl_PinsText: function 25: by this session -/
theorem below_trans_ {B : Nat} {w w1 w2 : World} (h : Below B w w1) (g : Below B w1 w2) : Below B w w2 := h.trans g
theorem impl_PinsText.fresh {B b : Nat} {T e : TypeId} {w : World} (h : w.heap[b]? = some (.cells #[.pointer none, .slice none 0 0] T (0, 0))) (hB : B ≤ b) : Go.Lib.IsBuilder T e B b (Go.Lib.byteCells ([] : List UInt8)) w :=
 Or.inl ⟨hB, .slice none 0 0, h, World.ownsRow_nil _ _ _ _, by simp [Value.ownBlock]⟩
theorem IsBuilder_below_ {T e : TypeId} {B b : Nat} {bs : List Value} {W W' : World} (h : Go.Lib.IsBuilder T e B b bs W) (hb : Below W.heap.size W W') : Go.Lib.IsBuilder T e B b bs W' := by
 have key : ∀ p, Go.Lib.BuilderAt T e B b p bs W → Go.Lib.BuilderAt T e B b p bs W' := by
  intro p h
  have hlt := h.lt
  obtain ⟨hB, v, hv, hown, hne⟩ := h
  exact ⟨hB, v, (hb.block b hlt).trans hv, own_move hown (fun k hk => hb.block k (by
   obtain ⟨_, h0 | ⟨g, cap, cur, e1, _, hh, _⟩⟩ := hown
   ·rw [h0.1] at hk; cases hk
   rw [e1] at hk
   obtain rfl := Option.some.inj hk
   exact (Array.getElem?_eq_some_iff.1 hh).1)), hne⟩
 exact h.elim (fun x => .inl (key _ x)) (fun x => .inr (key _ x))
theorem impl_PinsText.write (B b : Nat) (x s : ByteArray) (w : World) (h : Go.Lib.IsBuilder 60 5 B b (Go.Lib.byteCells x.data.toList) w) (hlen : x.size + s.size ≤ 140737488355328) (hB : B ≤ w.heap.size) :
  Calls Tryd.prog 48 #[.pointer (some ⟨b, 0, none⟩), .string s] w fun e w' => e = .returned (.tuple #[.int .i64 s.size, .nilIface]) ∧ Go.Lib.IsBuilder 60 5 B b (Go.Lib.byteCells (x ++ s).data.toList) w' ∧ Below B w w' := by
 have hl : (Go.Lib.byteCells x.data.toList).length = x.size := by unfold Go.Lib.byteCells; rw [List.length_map, Array.length_toList]; rfl
 refine (Any.Builder_WriteString { Tryd.lays156 with } strings_Join.extra B b _ s w h (by rw [hl]; exact hlen) hB).mono ?_
 rintro e w' ⟨rfl, hu, hb⟩
 refine ⟨rfl, Or.inr ?_, hb⟩
 have e1 : Go.Lib.byteCells (x ++ s).data.toList = Go.Lib.byteCells x.data.toList ++ Go.Lib.strCells s := by
  simp [Go.Lib.byteCells, Go.Lib.strCells]
 rw [e1]
 exact hu
theorem impl_PinsText.str (B b : Nat) (x : ByteArray) (w : World) (h : Go.Lib.IsBuilder 60 5 B b (Go.Lib.byteCells x.data.toList) w) (hB : B ≤ w.heap.size) :
  Calls Tryd.prog 50 #[.pointer (some ⟨b, 0, none⟩)] w fun e w' => e = .returned (.string x) ∧ Below B w w' := by
 refine (Any.Builder_String_any { Tryd.lays156 with } strings_Join.extra B b x.data.toList w h hB).mono ?_
 rintro e w' ⟨rfl, hb⟩
 exact ⟨by simp, hb⟩
def impl_PinsText.l0 : Nat → ByteArray → List (S33) → Int → Int → Option (ByteArray × Bool)
 | 0, _, _, _, _ => none
 | k + 1, x4, x10, x11, x12 => if x12 < x11 then (if 0 ≤ x12 then (if x12 < (x10.length : Int) then ((impl_words.f k (([(rd_T33 x10 x12).f2, (rd_T33 x10 x12).f1, (rd_T33 x10 x12).f0] : List Int))).bind fun bS => (if bS.size + 1 ≤ 9223372036854775807 then (if x4.size + (bS ++ (⟨#[10]⟩ : ByteArray)).size ≤ 140737488355328 then (impl_PinsText.l0 k (x4 ++ (bS ++ (⟨#[10]⟩ : ByteArray))) x10 x11 (wrap64 (x12 + 1))) else (none)) else (none))) else (none)) else (none)) else (some (x4, true))
def impl_PinsText.f (k : Nat) (l0 : List (S33)) : Option (ByteArray × Bool) := (impl_ArePins.f k l0).bind fun dk => (if dk = true then (impl_PinsText.l0 k (⟨#[]⟩ : ByteArray) l0 (l0.length : Int) 0) else (some ((⟨#[]⟩ : ByteArray), false)))
theorem impl_PinsText.mono_l : ∀ k, (∀ y0 y1 y2 y3, LeO (impl_PinsText.l0 k y0 y1 y2 y3) (impl_PinsText.l0 (k + 1) y0 y1 y2 y3))
 | 0 => fun _ _ _ _ r h => by simp [impl_PinsText.l0] at h
 | k + 1 => by
  have ih0 := impl_PinsText.mono_l k
  ·intro y0 y1 y2 y3
   unfold impl_PinsText.l0
   exact mo14_
theorem impl_PinsText.mono : ∀ a0 k, LeO (impl_PinsText.f k a0) (impl_PinsText.f (k + 1) a0) := by
 intro a0 k
 have ih0 := impl_PinsText.mono_l k
 unfold impl_PinsText.f
 exact mo14_
set_option maxHeartbeats 8000000 in
set_option maxRecDepth 100000 in
theorem impl_PinsText.calls (k : Nat) (A0 : Option Addr) (c0 : Nat) (l0 : List (S33)) (r1 : ByteArray) (r2 : Bool) (w : World) (hr0 : Kd.C k33 w A0 l0.length l0) (hc0 : l0.length ≤ c0) (h : impl_PinsText.f k l0 = some (r1, r2)) (hT : Go.Lib.TabIs Tryd.prog w "internal/strconv.uint64pow10" .u64 Go.Lib.pow10Tab) :
  Calls Tryd.prog 25 #[.slice A0 l0.length c0] w fun e w' => e = .returned (.tuple #[.string r1, .bool r2]) ∧ Below w.heap.size w w' := by
 have hu33 := Tryd.underlying33
 have HT := Aside0.mk hT
 clear hT
 have HR0 := Aside0.mk hr0
 have HC0 := Aside0.mk hc0
 clear hr0 hc0
 have HB := Aside0.mk (Below.refl w.heap.size w)
 have H : ((impl_ArePins.f k l0).bind fun dk => (if dk = true then (impl_PinsText.l0 k (⟨#[]⟩ : ByteArray) l0 (l0.length : Int) 0) else (some ((⟨#[]⟩ : ByteArray), false)))) = some (r1, r2) := h
 clear h
 replace H := Option.bind_eq_some_iff.mp H
 obtain ⟨dk, cr, H⟩ := H
 (try dsimp only at H)
 have A2 := Aside0.mk cr
 clear cr
 by_cases c3 : dk = true
 ·subst c3
  rw [if_pos rfl] at H
  have H' := Aside0.mk H
  clear H
  go_enter Tryd.func25, Tryd.ntmps25
  go_wp2_with (first | ((with_reducible refine gate_callee (f := 13) rfl ?_); refine gl_ 8 Tryd.func13 #[.slice A0 l0.length c0] ?_; (with_reducible refine (impl_ArePins.calls k _ _ l0 true _ ?_ ?_ A2.out).mono ?_); exact (Z17 HR0); exact HC0.out; rintro e w4 ⟨rfl, hb⟩; refine ⟨_, rfl, ?_⟩; refine k1_ (below_step (Z1) hb) ?_; clear HB; intro HB; (try clear hb)))
  have HU := Aside0.mk (impl_PinsText.fresh (T := 60) (e := 5) (blk_new w4 (.cells #[.pointer none, .slice none 0 0] 60)) (below_size HB.out))
  refine k1_ (below_alloc HB.out (.cells #[.pointer none, .slice none 0 0] 60)) ?_
  clear HB
  intro HB
  generalize w4.heap.size = bu at HU ⊢
  generalize w4.alloc (.cells #[.pointer none, .slice none 0 0] 60) = wu at HU HB ⊢
  go_loopg [12] k (fun kq v6 w' => ∃ (au : ByteArray) (an : Int), v6 = .int .i64 an ∧ Aside0 (impl_PinsText.l0 kq au l0 (l0.length : Int) an = some (r1, r2)) ∧ Aside0 (kq ≤ k) ∧ Aside0 (Below w.heap.size w w') ∧ Aside0 (Go.Lib.IsBuilder 60 5 w.heap.size bu (Go.Lib.byteCells au.data.toList) w'))
  case atStart => exact ⟨((⟨#[]⟩ : ByteArray)), (0), rfl, H', ⟨Nat.le_refl _⟩, ⟨Z1⟩, ⟨HU.out⟩⟩
  case round =>
   clear H'
   (try clear c1); (try clear c2); (try clear p2); (try clear c3)
   clear HU
   obtain ⟨au, an, rfl, HA, HK1, HB, HU⟩ := hrel
   cases gk with
   | zero => exact absurd HA.out (by simp [impl_PinsText.l0])
   | succ k1 =>
    have H := HA.out
    clear HA
    simp only [impl_PinsText.l0] at H
    by_cases c5 : an < (l0.length : Int)
    ·rw [if_pos c5] at H
     have e3 : decide (an < (l0.length : Int)) = true := decide_eq_true c5
     clear c5
     by_cases c6 : 0 ≤ an
     ·rw [if_pos c6] at H
      have en : decide (0 ≤ an) = true := decide_eq_true c6
      clear c6
      by_cases c7 : an < (l0.length : Int)
      ·rw [if_pos c7] at H
       have dz : decide (an < (l0.length : Int)) = true := decide_eq_true c7
       clear c7
       obtain ⟨uu, jZ⟩ : ∃ y_ : List Int, y_ = (([(rd_T33 l0 an).f2, (rd_T33 l0 an).f1, (rd_T33 l0 an).f0] : List Int)) := ⟨_, rfl⟩
       replace H : ((impl_words.f k1 uu).bind fun bS => (if bS.size + 1 ≤ 9223372036854775807 then (if au.size + (bS ++ (⟨#[10]⟩ : ByteArray)).size ≤ 140737488355328 then (impl_PinsText.l0 k1 (au ++ (bS ++ (⟨#[10]⟩ : ByteArray))) l0 (l0.length : Int) (wrap64 (an + 1))) else (none)) else (none))) = some (r1, r2) := by first | (rw [jZ]; with_reducible exact H) | (have H2_ := (Option.bind_some _ _).symm.trans H; rw [jZ]; with_reducible exact H2_) | (have H2_ := (Option.bind_some _ _).symm.trans H; with_reducible exact H2_) | with_reducible exact H | (rw [jZ]; exact H) | exact H
       have sk := Aside0.mk jZ
       clear jZ
       replace H := Option.bind_eq_some_iff.mp H
       obtain ⟨bS, oS, H⟩ := H
       (try dsimp only at H)
       have A8 := Aside0.mk oS
       clear oS
       by_cases c9 : bS.size + 1 ≤ 9223372036854775807
       ·rw [if_pos c9] at H
        have fT := eq_true c9
        have t7 : decide (bS.size + 1 ≤ 9223372036854775807) = true := decide_eq_true c9
        try have t8 : (9223372036854775807 < bS.size + 1) = False := eq_false (Nat.not_lt.2 c9)
        by_cases c10 : au.size + (bS ++ (⟨#[10]⟩ : ByteArray)).size ≤ 140737488355328
        ·rw [if_pos c10] at H
         have LW := Aside0.mk c10
         have fZ := eq_true c10
         have pC : decide (au.size + (bS ++ (⟨#[10]⟩ : ByteArray)).size ≤ 140737488355328) = true := decide_eq_true c10
         try have c10b2 : (140737488355328 < au.size + (bS ++ (⟨#[10]⟩ : ByteArray)).size) = False := eq_false (Nat.not_lt.2 c10)
         have H' := Aside0.mk H
         clear H
         have hP : 0 ≤ (an : Int) := of_decide_eq_true (Z12)
         have hU : an < (l0.length : Int) := of_decide_eq_true (Z12)
         obtain ⟨sl, e543, fi, jg, jh⟩ := at_T33 HR0.out an hP hU
         cases e543
         replace fi := (HB.out.cell (World.block_lt_of_cell? w _ fi)).trans fi
         replace jg := (HB.out.cell (World.block_lt_of_cell? w _ jg)).trans jg
         replace jh := (HB.out.cell (World.block_lt_of_cell? w _ jh)).trans jh
         replace hP := eq_true hP
         replace hU := eq_true hU
         have HV := Aside0.mk (Below.refl wr.heap.size wr)
         go_wp2_with (first | ((with_reducible refine gate_dst (N := 6) rfl ?_); refine bv_ 6 33 #[.int .i64 0, .int .i64 0, .int .i64 0] ?_; intro nr hg eV hbox hb; have GV := Aside0.mk ((by rw [hg]; exact Nat.le_refl _) : wr.heap.size ≤ nr); have nv_ := Aside0.mk (below_step (by repeat (first | (with_reducible first | exact HV.out | apply below_alloc | apply pw_below_drewN | apply below_drew1) | exact HV.out)) hb); clear HV; have HV := nv_; clear nv_; refine k4_ (below_step (Z1) hb) (hbox) ((Z23 : w.heap.size ≤ nr)) ((Z23 : w.heap.size ≤ nr)) ?_; clear HB; intro HB hV GW544 GE544; clear hb hbox hg; obtain ⟨iZ, i1, i2, i3, i4, i5⟩ := bx3_ (w := eV) hV.out) | ((with_reducible refine gate_dst (N := 22) rfl ?_); refine Kd.R_lit (Kd.int .i64) _ 3 ?hg (N := 22) ?hd (xs := ([(rd_T33 l0 an).f2, (rd_T33 l0 an).f1, (rd_T33 l0 an).f0] : List Int)) (inner := [.int .i64 ((rd_T33 l0 an).f2), .int .i64 ((rd_T33 l0 an).f1), .int .i64 ((rd_T33 l0 an).f0)]) (ok := fun _ => True) (okp := fun _ => True) ?hr ?hp (fun _ hk => hk) trivial (Below.refl _ _) (Nat.le_refl _) (by simp) ?_; (case hd => rfl); (case hg => rfl); (case hr => exact Z34); (case hp => exact (Reps.one (show Kd.M (Kd.int .i64) _ _ _ ((rd_T33 l0 an).f2) [.int .i64 ((rd_T33 l0 an).f2)] from rfl) (Reps.one (show Kd.M (Kd.int .i64) _ _ _ ((rd_T33 l0 an).f1) [.int .i64 ((rd_T33 l0 an).f1)] from rfl) (Reps.one (show Kd.M (Kd.int .i64) _ _ _ ((rd_T33 l0 an).f0) [.int .i64 ((rd_T33 l0 an).f0)] from rfl) (Reps.none _ _))))); intro v546 fS ho14 hb hg_ hnew_; clear hg_ hnew_; (first | rw [← sk.out] at ho14 | (simp only [Int.reduceToNat] at ho14; rw [← sk.out] at ho14)); have nv_ := Aside0.mk (below_step (Z90) hb); clear HV; have HV := nv_; clear nv_; refine k3_ (Kd.R_lower ho14 (below_size (Z54))) (blk_below (g := nr) (o := .cells #[.int .i64 ((rd_T33 l0 an).f0), .int .i64 ((rd_T33 l0 an).f1), .int .i64 ((rd_T33 l0 an).f2)] 33 (0, 0)) (Z32 hV) hb) (below_step (Z54) hb) ?_; clear hV HB; intro iM hV HB; clear hb ho14; obtain ⟨ul, um, pr⟩ := Kd.R_slice iM.out; subst pr) | ((with_reducible refine gate_callee (f := 49) rfl ?_); refine gl_ 23 Tryd.func49 #[.slice ul uu.length um] ?_; (with_reducible refine (impl_words.calls k1 _ _ uu bS _ ?side1 ?side2 A8.out ?sideT).mono ?_); (case sideT => exact tb_ HT.out (Z54)); (case side1 => exact Z4 iM); (case side2 => exact (Kd.R_reads' iM.out).2.1); rintro e oD ⟨rfl, hb⟩; refine ⟨_, rfl, ?_⟩; have nv_ := Aside0.mk (below_step (Z90) hb); clear HV; have HV := nv_; clear nv_; refine k3_ (Ya_ iM) (Ye_ hV) (below_step (Z54) hb) ?_; clear iM hV HB; intro iM hV HB; (try clear hb)) | ((with_reducible refine gate_callee (f := 48) rfl ?_); refine goesL_ (some 25) rfl rfl Tryd.func48 (by kernel_rfl) rfl #[.pointer (some ⟨bu, 0, none⟩), .string (bS ++ (⟨#[10]⟩ : ByteArray))] rfl (Z100) ?_; (with_reducible refine (impl_PinsText.write w.heap.size bu au (bS ++ (⟨#[10]⟩ : ByteArray)) _ ?sideU ?sideL ?sideS).mono ?_); (case sideU => exact IsBuilder_below_ HU.out (Z90)); (case sideL => exact LW.out); (case sideS => exact below_size (Z54)); rintro e wx ⟨rfl, hu_, hb⟩; refine ⟨_, rfl, ?_⟩; have n0_ := Aside0.mk (below_trans_ (Z54) hb); clear HB HU; have HB := n0_; have HU := Aside0.mk hu_; clear n0_ hu_ hb))
         go_roundg k1
         case measure => have := HK1.out; omega
         case rel => exact ⟨(au ++ (bS ++ (⟨#[10]⟩ : ByteArray))), (wrap64 (an + 1)), (Z14), H', ⟨Z82 HK1⟩, ⟨(Z1)⟩, ⟨HU.out⟩⟩
        rw [if_neg c10] at H
        exact absurd H (by simp)
       rw [if_neg c9] at H
       exact absurd H (by simp)
      rw [if_neg c7] at H
      exact absurd H (by simp)
     rw [if_neg c6] at H
     exact absurd H (by simp)
    rw [if_neg c5] at H
    have e3 : decide (an < (l0.length : Int)) = false := decide_eq_false c5
    clear c5
    simp only [Option.some.injEq, Prod.mk.injEq] at H
    obtain ⟨rfl, rfl⟩ := H
    go_wp2_with ((with_reducible refine gate_callee (f := 50) rfl ?_); refine goesL_ (some 27) rfl rfl Tryd.func50 (by kernel_rfl) rfl #[.pointer (some ⟨bu, 0, none⟩)] rfl (Z100) ?_; (with_reducible refine (impl_PinsText.str w.heap.size bu au _ ?sideU ?sideS).mono ?_); (case sideU => exact HU.out); (case sideS => exact below_size (Z1)); rintro e wx ⟨rfl, hb⟩; refine ⟨_, rfl, ?_⟩; have n0_ := Aside0.mk (below_trans_ (Z1) hb); clear HB; have HB := n0_; clear n0_ hb)
    go_ret2
    exact ⟨Z11, Z1⟩
 replace c3 := Bool.eq_false_iff.mpr c3
 subst c3
 rw [if_neg (show ¬ (false = true) by decide)] at H
 simp only [Option.some.injEq, Prod.mk.injEq] at H
 obtain ⟨rfl, rfl⟩ := H
 go_enter Tryd.func25, Tryd.ntmps25
 go_wp2_with (first | ((with_reducible refine gate_callee (f := 13) rfl ?_); refine gl_ 8 Tryd.func13 #[.slice A0 l0.length c0] ?_; (with_reducible refine (impl_ArePins.calls k _ _ l0 false _ ?_ ?_ A2.out).mono ?_); exact (Z17 HR0); exact HC0.out; rintro e mh ⟨rfl, hb⟩; refine ⟨_, rfl, ?_⟩; refine k1_ (below_step (Z1) hb) ?_; clear HB; intro HB; (try clear hb)))
 go_ret2
 exact ⟨Z11, Z1⟩

/-! ### spec_l1Num: function 51 -/
def spec_l1Num.f : Nat → Int → Option (ByteArray)
 | 0, _ => none
 | k + 1, a0 => if a0 < 10 then (some (strOfNums (([(wrap64 (48 + a0)) % 256] : List Int)))) else ((spec_l1Num.f k (wrap64 (Int.tdiv a0 10))).bind fun e6 => ((some (([(wrap64 (48 + (Int.tmod a0 10))) % 256] : List Int) : List Int)).bind fun fj => (if e6.size + (strOfNums fj).size ≤ 9223372036854775807 then (some (e6 ++ (strOfNums fj))) else (none))))
theorem spec_l1Num.mono_l : ∀ k, (∀ y0, LeO (spec_l1Num.f k y0) (spec_l1Num.f (k + 1) y0))
 | 0 => fun _ r h => by simp [spec_l1Num.f] at h
 | k + 1 => by
  have ih0 := spec_l1Num.mono_l k
  ·intro y0
   unfold spec_l1Num.f
   exact mo14_
theorem spec_l1Num.mono : ∀ a0 k, LeO (spec_l1Num.f k a0) (spec_l1Num.f (k + 1) a0) := by
 intro a0 k
 have ih0 := spec_l1Num.mono_l k
 exact ih0 a0
def spec_l1Num.T3 : Bool × List (List Nat × List Nat) := (true, [([], []), ([0], [0]), ([1], [1]), ([], []), ([3], [3]), ([4], [4]), ([5], [5]), ([6], [6]), ([7], [7]), ([2, 8], [2, 8]), ([9, 2, 0, 1, 2, 3, 4, 5, 6, 7, 8, 9], [9])])
def spec_l1Num.B3 : List Nat := [0, 1, 3, 0, 8, 24, 56, 120, 248, 511, 1023]
theorem spec_l1Num.tab3 : rtab .any (opsOf Tryd.f51 3) = spec_l1Num.T3 := by kernel_rfl
theorem spec_l1Num.bits3 : waitsOk spec_l1Num.T3.2 spec_l1Num.B3 = true := by kernel_rfl
set_option maxHeartbeats 8000000 in
set_option maxRecDepth 100000 in
theorem spec_l1Num.calls (k : Nat) : ∀ (a0 : Int) (r : ByteArray) (w : World) (h : spec_l1Num.f k a0 = some r),
  Calls Tryd.prog 51 #[.int .i64 a0] w fun e w' => e = .returned (.string r) ∧ Below w.heap.size w w' := by
 induction k using Nat.strongRecOn with
 | _ k ih =>
 intro a0 r w h
 cases k with
 | zero => exact absurd h (by simp [spec_l1Num.f])
 | succ k =>
 simp only [spec_l1Num.f] at h
 have HB := Aside0.mk (Below.refl w.heap.size w)
 have H : (if a0 < 10 then (some (strOfNums (([(wrap64 (48 + a0)) % 256] : List Int)))) else ((spec_l1Num.f k (wrap64 (Int.tdiv a0 10))).bind fun e6 => ((some (([(wrap64 (48 + (Int.tmod a0 10))) % 256] : List Int) : List Int)).bind fun fj => (if e6.size + (strOfNums fj).size ≤ 9223372036854775807 then (some (e6 ++ (strOfNums fj))) else (none))))) = some r := h
 clear h
 by_cases c2 : a0 < 10
 ·rw [if_pos c2] at H
  have eN : decide (a0 < 10) = true := decide_eq_true c2
  clear c2
  obtain ⟨y530, j8⟩ : ∃ y_ : List Int, y_ = (([(wrap64 (48 + a0)) % 256] : List Int)) := ⟨_, rfl⟩
  replace H : (some (strOfNums y530)) = some r := by first | (rw [j8]; with_reducible exact H) | (have H2_ := (Option.bind_some _ _).symm.trans H; rw [j8]; with_reducible exact H2_) | (have H2_ := (Option.bind_some _ _).symm.trans H; with_reducible exact H2_) | with_reducible exact H | (rw [j8]; exact H) | exact H
  have sm := Aside0.mk j8
  clear j8
  obtain rfl := Option.some.inj H
  go_enter Tryd.func51, Tryd.ntmps51
  go_wp2_with (first | ((with_reducible refine gate_dst (N := 8) rfl ?_); refine Kd.R_lit (Kd.int .u8) _ 5 ?hg (N := 8) ?hd (xs := ([(wrap64 (48 + a0)) % 256] : List Int)) (inner := [.int .u8 ((wrap64 (48 + a0)) % 256)]) (ok := fun _ => True) (okp := fun _ => True) ?hr ?hp (fun _ hk => hk) trivial (Below.refl _ _) (Nat.le_refl _) (by simp) ?_; (case hd => rfl); (case hg => rfl); (case hr => exact Z34); (case hp => exact (Reps.one (show Kd.M (Kd.int .u8) _ _ _ ((wrap64 (48 + a0)) % 256) [.int .u8 ((wrap64 (48 + a0)) % 256)] from rfl) (Reps.none _ _))); intro v531 w3 ho4 hb hg_ hnew_; clear hg_ hnew_; (first | rw [← sm.out] at ho4 | (simp only [Int.reduceToNat] at ho4; rw [← sm.out] at ho4)); refine k2_ (Kd.R_lower ho4 (below_size (Z1))) (below_step (Z1) hb) ?_; clear HB; intro HO532 HB; clear hb ho4; have hcv5 := own_string (P := Tryd.prog) Tryd.underlying22 Tryd.underlying5 Tryd.underlying9 (Kd.own_of_R HO532.out)))
  go_ret
  exact ⟨Z11, Z1⟩
 rw [if_neg c2] at H
 have eN : decide (a0 < 10) = false := decide_eq_false c2
 clear c2
 replace H := Option.bind_eq_some_iff.mp H
 obtain ⟨e6, gW, H⟩ := H
 (try dsimp only at H)
 have A6 := Aside0.mk gW
 clear gW
 obtain ⟨fj, j9⟩ : ∃ y_ : List Int, y_ = (([(wrap64 (48 + (Int.tmod a0 10))) % 256] : List Int)) := ⟨_, rfl⟩
 replace H : (if e6.size + (strOfNums fj).size ≤ 9223372036854775807 then (some (e6 ++ (strOfNums fj))) else (none)) = some r := by first | (rw [j9]; with_reducible exact H) | (have H2_ := (Option.bind_some _ _).symm.trans H; rw [j9]; with_reducible exact H2_) | (have H2_ := (Option.bind_some _ _).symm.trans H; with_reducible exact H2_) | with_reducible exact H | (rw [j9]; exact H) | exact H
 have nt := Aside0.mk j9
 clear j9
 by_cases c7 : e6.size + (strOfNums fj).size ≤ 9223372036854775807
 ·rw [if_pos c7] at H
  have dz := eq_true c7
  have oY : decide (e6.size + (strOfNums fj).size ≤ 9223372036854775807) = true := decide_eq_true c7
  try have wa : (9223372036854775807 < e6.size + (strOfNums fj).size) = False := eq_false (Nat.not_lt.2 c7)
  obtain rfl := Option.some.inj H
  go_enter Tryd.func51, Tryd.ntmps51
  try go_wp2
  refine k1_ (below_drew1 HB.out) ?_
  clear HB
  intro HB
  refine start_ (n := 11) (S := fun w' => True) (ds := []) (M_ 0 11) (by kernel_rfl) rfl rfl trivial (fun hHeld => ?_); refine with_tabW spec_l1Num.tab3 spec_l1Num.bits3 (fun HT_ HW_ => ?_)
  generalize w.drew = w8 at HB hHeld ⊢
  refine pu_ 0 10 (M_ 1 10) ?_
  refine pu_ 1 11 (M_ 2 9) ?_
  refine pu_ 3 13 (N_ 11 11) ?_
  refine pu_ 4 14 (N_ 11 27) ?_
  refine pu_ 5 15 (N_ 11 59) ?_
  refine pu_ 6 16 (N_ 11 123) ?_
  refine join_ (σ := Value) 2 (M_ 9 2) (fun s_ => [(12, .string e6), (17, s_), (18, .string (strOfNums fj))]) (fun s_ w' => (Kd.R (Kd.int .u8) 5 w' w.heap.size (fun _ => True) s_ fj) ∧ (Below w.heap.size w w')) ?_ ?_
  rotate_left
  ·intro hCont
   refine two_ (i := 2) (j := 7) (Ni := some 12) (Nj := some 17) (M_ 7 4) (N_ 11 251) rfl rfl rfl rfl (two_of HT_.out (by kernel_rfl)) (by decide) (by decide) (fun K hK => ?_) (fun K hK => ?_)
   ·skip
    refine goes_ Tryd.func51 (by kernel_rfl) rfl #[.int .i64 (wrap64 (Int.tdiv a0 10))] (by rfl) rfl rfl (Z27) ?_
    with_reducible refine (ih k (by omega) (wrap64 (Int.tdiv a0 10)) e6 _ A6.out).mono ?_
    rintro e w9 ⟨rfl, hb⟩
    refine ⟨_, rfl, ?_⟩
    refine k1_ (below_step (Z1) hb) ?_
    clear HB
    intro HB
    (try clear hb)
    (try clear hb2)
    (try clear hk)
    (try clear hi)
    refine hK.out _ _ trivial (fun hHeld => ?_)
    clear hK K
    refine norm_ (a' := ?_) ?_ ?_
    rotate_left
    ·show Act.put _ (some 12) _ = _
     simp only [Act.put, List.setIfInBounds_toArray, List.set_cons_zero, List.set_cons_succ, i64_w, i32_w]
     rfl
    refine one_ (i := 7) (N := some 17) (M_ 8 3) rfl rfl (one_of HT_.out (by kernel_rfl)) (by decide) (fun K hK => ?_)
    refine Kd.R_lit_step (Kd.int .u8) _ 5 ?hg (N := 17) ?hd (xs := ([(wrap64 (48 + (Int.tmod a0 10))) % 256] : List Int)) (inner := [.int .u8 ((wrap64 (48 + (Int.tmod a0 10))) % 256)]) (ok := fun _ => True) (okp := fun _ => True) ?hr ?hp (fun _ hk => hk) trivial (Below.refl _ _) (Nat.le_refl _) (by simp) ?_; (case hd => rfl); (case hg => rfl); (case hr => exact Z34); (case hp => exact (Reps.one (show Kd.M (Kd.int .u8) _ _ _ ((wrap64 (48 + (Int.tmod a0 10))) % 256) [.int .u8 ((wrap64 (48 + (Int.tmod a0 10))) % 256)] from rfl) (Reps.none _ _)))
    intro n8 jE ho11 hb hg_ hnew_
    clear hg_ hnew_
    (first | rw [← nt.out] at ho11 | (simp only [Int.reduceToNat] at ho11; rw [← nt.out] at ho11))
    refine k2_ (Kd.R_lower ho11 (below_size (Z1))) (below_step (Z1) hb) ?_
    clear HB
    intro dp HB
    clear hb ho11
    refine hK.out _ _ trivial (fun hHeld => ?_)
    clear hK K
    refine norm_ (a' := ?_) ?_ ?_
    rotate_left
    ·show Act.put _ (some 17) _ = _
     simp only [Act.put, List.setIfInBounds_toArray, List.set_cons_zero, List.set_cons_succ, i64_w, i32_w]
     rfl
    refine one_ (i := 8) (N := some 18) (M_ 9 2) rfl rfl (one_of HT_.out (by kernel_rfl)) (by decide) (fun K hK => ?_)
    have hcv12 := own_string (P := Tryd.prog) Tryd.underlying22 Tryd.underlying5 Tryd.underlying9 (Kd.own_of_R dp.out)
    refine value_ (w1 := ?_) (v := ?_) (by rfl) rfl ?_ ?_
    rotate_left 2
    ·go_simp
     constructor
     ·rfl
     rfl
    clear hcv12
    refine hK.out _ _ trivial (fun hHeld => ?_)
    clear hK K
    refine norm_ (a' := ?_) ?_ ?_
    rotate_left
    ·show Act.put _ (some 18) _ = _
     simp only [Act.put, List.setIfInBounds_toArray, List.set_cons_zero, List.set_cons_succ, i64_w, i32_w]
     rfl
    exact norm_ (Z33) (hCont (n8) _ ⟨(Z2 dp), (Z1)⟩)
   skip
   refine Kd.R_lit_step (Kd.int .u8) _ 5 ?hg (N := 17) ?hd (xs := ([(wrap64 (48 + (Int.tmod a0 10))) % 256] : List Int)) (inner := [.int .u8 ((wrap64 (48 + (Int.tmod a0 10))) % 256)]) (ok := fun _ => True) (okp := fun _ => True) ?hr ?hp (fun _ hk => hk) trivial (Below.refl _ _) (Nat.le_refl _) (by simp) ?_; (case hd => rfl); (case hg => rfl); (case hr => exact Z34); (case hp => exact (Reps.one (show Kd.M (Kd.int .u8) _ _ _ ((wrap64 (48 + (Int.tmod a0 10))) % 256) [.int .u8 ((wrap64 (48 + (Int.tmod a0 10))) % 256)] from rfl) (Reps.none _ _)))
   intro n8 w9 ho10 hb hg_ hnew_
   clear hg_ hnew_
   (first | rw [← nt.out] at ho10 | (simp only [Int.reduceToNat] at ho10; rw [← nt.out] at ho10))
   refine k2_ (Kd.R_lower ho10 (below_size (Z1))) (below_step (Z1) hb) ?_
   clear HB
   intro dp HB
   clear hb ho10
   refine hK.out _ _ trivial (fun hHeld => ?_)
   clear hK K
   refine norm_ (a' := ?_) ?_ ?_
   rotate_left
   ·show Act.put _ (some 17) _ = _
    simp only [Act.put, List.setIfInBounds_toArray, List.set_cons_zero, List.set_cons_succ, i64_w, i32_w]
    rfl
   refine two_ (i := 2) (j := 8) (Ni := some 12) (Nj := some 18) (M_ 8 3) (N_ 11 507) rfl rfl rfl rfl (two_of HT_.out (by kernel_rfl)) (by decide) (by decide) (fun K hK => ?_) (fun K hK => ?_)
   ·skip
    refine goes_ Tryd.func51 (by kernel_rfl) rfl #[.int .i64 (wrap64 (Int.tdiv a0 10))] (by rfl) rfl rfl (Z27) ?_
    with_reducible refine (ih k (by omega) (wrap64 (Int.tdiv a0 10)) e6 _ A6.out).mono ?_
    rintro e eV ⟨rfl, hb⟩
    refine ⟨_, rfl, ?_⟩
    have n0_ := Aside0.mk (Ya_ dp)
    have n1_ := Aside0.mk (below_step (Z1) hb)
    clear dp
    clear HB
    have dp := n0_
    have HB := n1_
    clear n0_ n1_
    (try clear hb)
    (try clear hb2)
    (try clear hk)
    (try clear hi)
    refine hK.out _ _ trivial (fun hHeld => ?_)
    clear hK K
    refine norm_ (a' := ?_) ?_ ?_
    rotate_left
    ·show Act.put _ (some 12) _ = _
     simp only [Act.put, List.setIfInBounds_toArray, List.set_cons_zero, List.set_cons_succ, i64_w, i32_w]
     rfl
    refine one_ (i := 8) (N := some 18) (M_ 9 2) rfl rfl (one_of HT_.out (by kernel_rfl)) (by decide) (fun K hK => ?_)
    have hcv12 := own_string (P := Tryd.prog) Tryd.underlying22 Tryd.underlying5 Tryd.underlying9 (Kd.own_of_R dp.out)
    refine value_ (w1 := ?_) (v := ?_) (by rfl) rfl ?_ ?_
    rotate_left 2
    ·go_simp
     constructor
     ·rfl
     rfl
    clear hcv12
    refine hK.out _ _ trivial (fun hHeld => ?_)
    clear hK K
    refine norm_ (a' := ?_) ?_ ?_
    rotate_left
    ·show Act.put _ (some 18) _ = _
     simp only [Act.put, List.setIfInBounds_toArray, List.set_cons_zero, List.set_cons_succ, i64_w, i32_w]
     rfl
    exact norm_ (Z33) (hCont (n8) _ ⟨(Z2 dp), (Z1)⟩)
   skip
   have hcv11 := own_string (P := Tryd.prog) Tryd.underlying22 Tryd.underlying5 Tryd.underlying9 (Kd.own_of_R dp.out)
   refine value_ (w1 := ?_) (v := ?_) (by rfl) rfl ?_ ?_
   rotate_left 2
   ·go_simp
    constructor
    ·rfl
    rfl
   clear hcv11
   refine hK.out _ _ trivial (fun hHeld => ?_)
   clear hK K
   refine norm_ (a' := ?_) ?_ ?_
   rotate_left
   ·show Act.put _ (some 18) _ = _
    simp only [Act.put, List.setIfInBounds_toArray, List.set_cons_zero, List.set_cons_succ, i64_w, i32_w]
    rfl
   refine one_ (i := 2) (N := some 12) (M_ 9 2) rfl rfl (one_of HT_.out (by kernel_rfl)) (by decide) (fun K hK => ?_)
   refine goes_ Tryd.func51 (by kernel_rfl) rfl #[.int .i64 (wrap64 (Int.tdiv a0 10))] (by rfl) rfl rfl (Z27) ?_
   with_reducible refine (ih k (by omega) (wrap64 (Int.tdiv a0 10)) e6 _ A6.out).mono ?_
   rintro e oU ⟨rfl, hb⟩
   refine ⟨_, rfl, ?_⟩
   have n0_ := Aside0.mk (Ya_ dp)
   have n1_ := Aside0.mk (below_step (Z1) hb)
   clear dp
   clear HB
   have dp := n0_
   have HB := n1_
   clear n0_ n1_
   (try clear hb)
   (try clear hb2)
   (try clear hk)
   (try clear hi)
   refine hK.out _ _ trivial (fun hHeld => ?_)
   clear hK K
   refine norm_ (a' := ?_) ?_ ?_
   rotate_left
   ·show Act.put _ (some 12) _ = _
    simp only [Act.put, List.setIfInBounds_toArray, List.set_cons_zero, List.set_cons_succ, i64_w, i32_w]
    rfl
   exact norm_ (Z33) (hCont (n8) _ ⟨(Z2 dp), (Z1)⟩)
  rintro n8 fS ⟨h0_, h1_⟩
  have n0_ : Aside0 (Kd.R (Kd.int .u8) 5 fS w.heap.size (fun _ => True) n8 fj) := ⟨h0_⟩
  have n1_ : Aside0 (Below w.heap.size w fS) := ⟨h1_⟩
  clear HB
  clear h0_ h1_
  have dp := n0_
  have HB := n1_
  clear n0_ n1_
  have hHeld := trivial
  refine norm_ (a' := ?_) ?_ ?_
  rotate_left
  ·simp only [putAll, Act.put, List.setIfInBounds_toArray, List.set_cons_zero, List.set_cons_succ]
   rfl
  refine pu_ 9 19 (M_ 10 1) ?_
  refine pu_ 10 2 (M_ 11 0) ?_
  refine done_ (done_of HT_.out (by kernel_rfl)) ?_
  try go_wp2
  go_ret
  exact ⟨Z11, Z1⟩
 rw [if_neg c7] at H
 exact absurd H (by simp)

end Go.Proofs.YtdipcpcbclobpaaDoor.PFnPins
