-- written by a program of this session: the kit's print, with outer functions of the session's own (wip/ext)
import Derived.Test.YtmnnmddfmmaohaaPFnPunchJobsx0
import Derived.Test.YtmnnmddfmmaohaaPFnPunchJobsx9
import Derived.Test.YtmnnmddfmmaohaaPFnPunchJobsx11
import Derived.Test.YtmnnmddfmmaohaaPFnPunchJobsx12
import Derived.Test.YtmnnmddfmmaohaaPFnPunchJobsx14
import Derived.Test.YtmnnmddfmmaohaaPFnPunchJobsx16
import Derived.Test.YtmnnmddfmmaohaaPFnPunchJobsx17
import Derived.Test.YtmnnmddfmmaohaaPFnPunchJobsx18
namespace Go.Proofs.Ytmnnmddfmmaohaa.PFnPunchJobs
open Go.RowKit Go.Proofs.YtmnnmddfmmaohaaW.PrintWords Go.Proofs.YtmnnmddfmmaohaaW.PrintLast Go.Proofs.YtmnnmddfmmaohaaW.PrintMore
attribute [local go_sem] max2_int min2_int max_two min_two max_three min_three max_four min_four   -- for this text's walks alone
set_option linter.unusedVariables false
set_option linter.unusedSimpArgs false
theorem ex_32 {α : Type} {p : α → α → α → α → α → α → α → α → α → α → α → α → α → α → α → α → α → α → α → α → α → α → α → α → α → α → α → α → α → α → α → α → Prop} (a0 a1 a2 a3 a4 a5 a6 a7 a8 a9 a10 a11 a12 a13 a14 a15 a16 a17 a18 a19 a20 a21 a22 a23 a24 a25 a26 a27 a28 a29 a30 a31 : α) (h : p a0 a1 a2 a3 a4 a5 a6 a7 a8 a9 a10 a11 a12 a13 a14 a15 a16 a17 a18 a19 a20 a21 a22 a23 a24 a25 a26 a27 a28 a29 a30 a31) : ∃ a0 a1 a2 a3 a4 a5 a6 a7 a8 a9 a10 a11 a12 a13 a14 a15 a16 a17 a18 a19 a20 a21 a22 a23 a24 a25 a26 a27 a28 a29 a30 a31, p a0 a1 a2 a3 a4 a5 a6 a7 a8 a9 a10 a11 a12 a13 a14 a15 a16 a17 a18 a19 a20 a21 a22 a23 a24 a25 a26 a27 a28 a29 a30 a31 := ⟨a0, a1, a2, a3, a4, a5, a6, a7, a8, a9, a10, a11, a12, a13, a14, a15, a16, a17, a18, a19, a20, a21, a22, a23, a24, a25, a26, a27, a28, a29, a30, a31, h⟩
theorem ex_8 {α : Type} {p : α → α → α → α → α → α → α → α → Prop} (a0 a1 a2 a3 a4 a5 a6 a7 : α) (h : p a0 a1 a2 a3 a4 a5 a6 a7) : ∃ a0 a1 a2 a3 a4 a5 a6 a7, p a0 a1 a2 a3 a4 a5 a6 a7 := ⟨a0, a1, a2, a3, a4, a5, a6, a7, h⟩
theorem Yq_ {X W1 W0 : World} {g : Nat} {o : Obj} (x : Aside0 (W0.heap[g]? = some o)) (hb : Below X.heap.size X W1) (e : X.heap = W0.heap := by rfl) : W1.heap[g]? = some o := blk_below (by rw [e]; exact x.out) hb
set_option maxHeartbeats 100000000 in
set_option maxRecDepth 100000 in
theorem laws_FnPunchJobs.calls (k : Nat) (A0 : Option Addr) (c0 : Nat) (l0 : List Int) (A1 : Option Addr) (c1 : Nat) (l1 : List Int) (r : Bool) (w : World) (hr0 : Kd.C (Kd.int .u8) w A0 l0.length l0) (hc0 : l0.length ≤ c0) (hr1 : Kd.C (Kd.int .u8) w A1 l1.length l1) (hc1 : l1.length ≤ c1) (h : laws_FnPunchJobs.f k l0 l1 = some r) :
  Calls Try.prog 4 #[.slice A0 l0.length c0, .slice A1 l1.length c1] w fun e w' => e = .returned (.bool r) ∧ Below w.heap.size w w' := by
 have hu44 := Try.underlying44
 have HR0 := Aside0.mk hr0
 have HC0 := Aside0.mk hc0
 clear hr0 hc0
 have HR1 := Aside0.mk hr1
 have HC1 := Aside0.mk hc1
 clear hr1 hc1
 have HB := Aside0.mk (Below.refl w.heap.size w)
 have H := h
 unfold laws_FnPunchJobs.f at H
 clear h
 by_cases c3 : (wrap64 ((l0.length : Int) + (l1.length : Int))) > 1048576
 ·rw [if_pos c3] at H
  have f5 : decide (1048576 < (wrap64 ((l0.length : Int) + (l1.length : Int)))) = true := decide_eq_true c3
  clear c3
  obtain rfl := Option.some.inj H
  go_enter Try.func4, Try.ntmps4
  as_aux_lemma =>
   go_wp2
   go_ret
   exact ⟨Z11, Z5⟩
 rw [if_neg c3] at H
 have f5 : decide (1048576 < (wrap64 ((l0.length : Int) + (l1.length : Int)))) = false := decide_eq_false c3
 clear c3
 obtain ⟨⟨bG, dZ, jS⟩, A4, H⟩ := bd_ H
 (try dsimp only at H)
 obtain ⟨⟨bw, dq, yc, l7⟩, A5, H⟩ := bd_ H
 (try dsimp only at H)
 obtain ⟨⟨bF, dL, fQ, rz⟩, A6, H⟩ := bd_ H
 (try dsimp only at H)
 obtain ⟨⟨yd, qz⟩, A7, H⟩ := bd_ H
 (try dsimp only at H)
 obtain ⟨⟨l8, rA⟩, A8, H⟩ := bd_ H
 (try dsimp only at H)
 obtain ⟨⟨bX, eJ, jT⟩, A9, H⟩ := bd_ H
 (try dsimp only at H)
 obtain ⟨⟨bO, eD, ye, oF⟩, Jl, H⟩ := bd_ H
 (try dsimp only at H)
 obtain ⟨⟨bS, el, jB, rB⟩, GK, H⟩ := bd_ H
 (try dsimp only at H)
 obtain ⟨⟨bE, em⟩, GL, H⟩ := bd_ H
 (try dsimp only at H)
 obtain ⟨⟨rC, rD⟩, I1, H⟩ := bd_ H
 (try dsimp only at H)
 obtain ⟨⟨rE, rF⟩, Jm, H⟩ := bd_ H
 (try dsimp only at H)
 obtain ⟨⟨vC, iP⟩, Ff, H⟩ := bd_ H
 (try dsimp only at H)
 obtain ⟨⟨fb, rG⟩, Fp, H⟩ := bd_ H
 (try dsimp only at H)
 obtain ⟨cl, Jn, H⟩ := bd_ H
 (try dsimp only at H)
 obtain ⟨⟨bB, dC, pY⟩, Jo, H⟩ := bd_ H
 (try dsimp only at H)
 obtain ⟨⟨co, e8, rH⟩, A19, H⟩ := bd_ H
 (try dsimp only at H)
 have HC20 := Aside0.mk H
 clear H
 go_enter Try.func4, Try.ntmps4
 go_upto_region 19 with (first | ((with_reducible refine gate_callee (f := 22) rfl ?_); refine gl_ 64 Try.func22 #[.slice A0 l0.length c0] ?_; (with_reducible refine (spec_DrawMakeStrokes.calls k _ _ l0 bG dZ jS _ ?_ ?_ A4.out).mono ?_); exact Z118; exact HC0.out; rintro e DD ⟨v707, rfl, ho0, hb⟩; refine ⟨_, rfl, ?_⟩; refine k2_ (Kd.R_lower ho0 (below_size (Z5))) (below_step (Z5) hb) ?_; clear HB; intro aC HB; (try clear hb ho0)) | ((with_reducible refine gate_dst (N := 5) rfl ?_); (try (refine gate_guard (by rfl) ?_; dsimp only)); refine bv_ 5 44 #[.slice none 0 0, .int .i64 0] ?_; intro bQ hg iU hbox hb; refine k5_ (Ya_ aC) (below_step (Z5) hb) (hbox) ((Z38 : w.heap.size ≤ bQ)) ((Z38 : w.heap.size ≤ bQ)) ?_; clear aC HB; intro aC HB am GW711 mh; clear hb hbox hg; obtain ⟨ca, bV, AG⟩ := Kd.R_slice aC.out; subst AG; obtain ⟨wK, wL, wM, wN⟩ := bx2_ (w := iU) am.out) | ((with_reducible refine gate_callee (f := 23) rfl ?_); refine gl_ 70 Try.func23 #[.agg #[.slice ca bG.length bV, .int .i64 dZ], .int .i64 jS] ?_; (with_reducible refine (impl_MakeStrokes.calls k _ _ bG dZ jS bw dq yc l7 _ ?_ ?_ A5.out).mono ?_); exact (by refine (Kd.R_reads' (e := 90) (base := w.heap.size) (ok := fun k_ => True) (n := bG.length) (c := bV) ?_).2.2; exact Z165); exact (Kd.R_reads' aC.out).2.1; rintro e qN ⟨v713, rfl, ho0, hb⟩; refine ⟨_, rfl, ?_⟩; refine k4_ (Kd.R_elder' (Z165) (Kd.R_base ho0) hb) (Kd.R_lower (Kd.R_new' ho0 (Kd.R_lt (Z165))) (below_size (Z167))) (blk_below (g := bQ) (o := .cells #[.slice ca bG.length bV, .int .i64 dZ] 44 (0, 0)) (by (with_reducible repeat (first | refine blk_drewN ?_ _ | refine blk_drew ?_ | refine blk_alloc ?_ _)); refine blk_put (cs := #[.slice ca bG.length bV, .int .i64 0]) ?_ 1 _ rfl; (with_reducible repeat (first | refine blk_drewN ?_ _ | refine blk_drew ?_ | refine blk_alloc ?_ _)); refine blk_put (cs := #[.slice none 0 0, .int .i64 0]) ?_ 0 _ rfl; (with_reducible repeat (first | refine blk_drewN ?_ _ | refine blk_drew ?_ | refine blk_alloc ?_ _)); exact am.out) hb) (below_step (Z167) hb) ?_; clear aC am HB; intro aC aA am HB; (try clear hb ho0)) | ((with_reducible refine gate_dst (N := 7) rfl ?_); (try (refine gate_guard (by rfl) ?_; dsimp only)); refine bv_ 7 44 #[.slice none 0 0, .int .i64 0] ?_; intro bR hg D3 hbox hb; refine k9_ (Ya_ aC) (Ya_ aA) (Ye_ am) (below_step (Z167) hb) (hbox) ((by rw [hg]; exact (below_size (Z167)) : w.heap.size ≤ bR)) ((by rw [hg]; exact (below_size (Z167)) : w.heap.size ≤ bR)) ((Z82 : bQ ≠ bR)) ((Z83 : bR ≠ bQ)) ?_; clear aC aA am HB; intro aC aA am HB ak GW718 mP cP df; clear hb hbox hg; obtain ⟨bN, bL, rp⟩ := Kd.R_slice aA.out; subst rp; have hnb28 := df.out; have hnc28 := cP.out; obtain ⟨xb, xc, xd, xe⟩ := bx2_ (w := D3) ak.out; obtain ⟨nb, nc, ne, nf⟩ := bx2_ (w := D3) am.out) | ((with_reducible refine gate_callee (f := 24) rfl ?_); refine gl_ 77 Try.func24 #[.agg #[.slice ca bG.length bV, .int .i64 dZ], .int .i64 jS] ?_; (with_reducible refine (spec_MakeStrokes.calls k _ _ bG dZ jS bF dL fQ rz _ ?_ ?_ A6.out).mono ?_); exact (by refine (Kd.R_reads' (e := 90) (base := w.heap.size) (ok := fun k_ => (True ∧ some k_ ≠ (.slice bN bw.length bL : Value).ownBlock)) (n := bG.length) (c := bV) ?_).2.2; exact (Z129 aC)); exact (Kd.R_reads' aC.out).2.1; rintro e GY ⟨v720, rfl, ho0, hb⟩; refine ⟨_, rfl, ?_⟩; refine k6_ (Kd.R_elder' (Z129 aC) (Kd.R_base ho0) hb) (Kd.R_elder' (Z129 aA) (Kd.R_base ho0) hb) (Kd.R_lower (Kd.R_new' (Kd.R_new' ho0 (Kd.R_lt (Z129 aC))) (Kd.R_lt (Z129 aA))) (below_size (Z157))) (blk_below (g := bQ) (o := .cells #[.slice ca bG.length bV, .int .i64 dZ] 44 (0, 0)) (Z12 cP) hb) (blk_below (g := bR) (o := .cells #[.slice bN bw.length bL, .int .i64 dq] 44 (0, 0)) (by (with_reducible repeat (first | refine blk_drewN ?_ _ | refine blk_drew ?_ | refine blk_alloc ?_ _)); refine blk_put (cs := #[.slice bN bw.length bL, .int .i64 0]) ?_ 1 _ rfl; (with_reducible repeat (first | refine blk_drewN ?_ _ | refine blk_drew ?_ | refine blk_alloc ?_ _)); refine blk_put (cs := #[.slice none 0 0, .int .i64 0]) ?_ 0 _ rfl; (with_reducible repeat (first | refine blk_drewN ?_ _ | refine blk_drew ?_ | refine blk_alloc ?_ _)); exact ak.out) hb) (below_step (Z157) hb) ?_; clear aC aA am ak HB; intro aC aA aE am ak HB; (try clear hb ho0)) | ((with_reducible refine gate_dst (N := 10) rfl ?_); (try (refine gate_guard (by rfl) ?_; dsimp only)); refine bv_ 10 44 #[.slice none 0 0, .int .i64 0] ?_; intro bU hg B7 hbox hb; refine k13_ (Ya_ aC) (Ya_ aA) (Ya_ aE) (Ye_ am) (Ye_ ak) (below_step (Z157) hb) (hbox) ((by rw [hg]; exact (below_size (Z157)) : w.heap.size ≤ bU)) ((by rw [hg]; exact (below_size (Z157)) : w.heap.size ≤ bU)) ((Z82 : bQ ≠ bU)) ((Z83 : bU ≠ bQ)) ((Z87 : bR ≠ bU)) ((Z88 : bU ≠ bR)) ?_; clear aC aA aE am ak HB; intro aC aA aE am ak HB al GW725 oc dt dD cQ dg; clear hb hbox hg; obtain ⟨cx, cu, eo33⟩ := Kd.R_slice aE.out; subst eo33; have hnb34 := dD.out; have hnc34 := dt.out; have Et := dg.out; have Eu := cQ.out; obtain ⟨lP, lQ, lR, lS⟩ := bx2_ (w := B7) al.out; obtain ⟨wu, wv, ww, wx⟩ := bx2_ (w := B7) am.out) | ((with_reducible refine gate_callee (f := 25) rfl ?_); refine gl_ 83 Try.func25 #[.agg #[.slice ca bG.length bV, .int .i64 dZ]] ?_; (with_reducible refine (impl_StrokesLeft.calls k _ _ bG dZ yd qz _ ?_ ?_ A7.out).mono ?_); exact (by refine (Kd.R_reads' (e := 90) (base := w.heap.size) (ok := fun k_ => ((True ∧ some k_ ≠ (.slice bN bw.length bL : Value).ownBlock) ∧ some k_ ≠ (.slice cx bF.length cu : Value).ownBlock)) (n := bG.length) (c := bV) ?_).2.2; exact (Z148 aC)); exact (Kd.R_reads' aC.out).2.1; rintro e Ct ⟨rfl, hb⟩; refine ⟨_, rfl, ?_⟩; refine k7_ (Kd.R_below (Z148 aC) hb) (Kd.R_below (Z148 aA) hb) (Kd.R_below (Z148 aE) hb) (blk_below (g := bQ) (o := .cells #[.slice ca bG.length bV, .int .i64 dZ] 44 (0, 0)) (Z12 dt) hb) (blk_below (g := bR) (o := .cells #[.slice bN bw.length bL, .int .i64 dq] 44 (0, 0)) (Z13 cQ) hb) (blk_below (g := bU) (o := .cells #[.slice cx bF.length cu, .int .i64 dL] 44 (0, 0)) (by (with_reducible repeat (first | refine blk_drewN ?_ _ | refine blk_drew ?_ | refine blk_alloc ?_ _)); refine blk_put (cs := #[.slice cx bF.length cu, .int .i64 0]) ?_ 1 _ rfl; (with_reducible repeat (first | refine blk_drewN ?_ _ | refine blk_drew ?_ | refine blk_alloc ?_ _)); refine blk_put (cs := #[.slice none 0 0, .int .i64 0]) ?_ 0 _ rfl; (with_reducible repeat (first | refine blk_drewN ?_ _ | refine blk_drew ?_ | refine blk_alloc ?_ _)); exact al.out) hb) (below_step (Z119) hb) ?_; clear aC aA aE am ak al HB; intro aC aA aE am ak al HB; (try clear hb); obtain ⟨hcz39_0, hcz39_1, hfz39_0, hfz39_1⟩ := bx2_ (w := Ct) am.out) | ((with_reducible refine gate_callee (f := 26) rfl ?_); refine gl_ 88 Try.func26 #[.agg #[.slice ca bG.length bV, .int .i64 dZ]] ?_; (with_reducible refine (spec_StrokesLeft.calls k _ _ bG dZ l8 rA _ ?_ ?_ A8.out).mono ?_); exact (Z7 aC); exact (Kd.R_reads' aC.out).2.1; rintro e Ec ⟨rfl, hb⟩; refine ⟨_, rfl, ?_⟩; refine k7_ (Ya_ aC) (Ya_ aA) (Ya_ aE) (Ye_ am) (Ye_ ak) (Ye_ al) (below_step (Z119) hb) ?_; clear aC aA aE am ak al HB; intro aC aA aE am ak al HB; (try clear hb)) | ((with_reducible refine gate_callee (f := 27) rfl ?_); refine gl_ 93 Try.func27 #[.slice A1 l1.length c1] ?_; (with_reducible refine (spec_DrawResumeAt.calls k _ _ l1 bX eJ jT _ ?_ ?_ A9.out).mono ?_); exact (Z15 HR1); exact HC1.out; rintro e Jp ⟨v731, rfl, ho0, hb⟩; refine ⟨_, rfl, ?_⟩; refine k8_ (Yb_ aC) (Yb_ aA) (Yb_ aE) (Kd.R_lower (Kd.R_new' (Kd.R_new' (Kd.R_new' ho0 (Yd_ aC)) (Yd_ aA)) (Yd_ aE)) (below_size (Z119))) (Ye_ am) (Ye_ ak) (Ye_ al) (below_step (Z119) hb) ?_; clear aC aA aE am ak al HB; intro aC aA aE aQ am ak al HB; (try clear hb ho0)) | ((with_reducible refine gate_dst (N := 17) rfl ?_); (try (refine gate_guard (by rfl) ?_; dsimp only)); refine bv_ 17 44 #[.slice none 0 0, .int .i64 0] ?_; intro bW hg I2 hbox hb; refine k17_ (Ya_ aC) (Ya_ aA) (Ya_ aE) (Ya_ aQ) (Ye_ am) (Ye_ ak) (Ye_ al) (below_step (Z119) hb) (hbox) ((by rw [hg]; exact (below_size (Z119)) : w.heap.size ≤ bW)) ((by rw [hg]; exact (below_size (Z119)) : w.heap.size ≤ bW)) ((Z82 : bQ ≠ bW)) ((Z83 : bW ≠ bQ)) ((Z87 : bR ≠ bW)) ((Z88 : bW ≠ bR)) ((Z93 : bU ≠ bW)) ((Z94 : bW ≠ bU)) ?_; clear aC aA aE aQ am ak al HB; intro aC aA aE aQ am ak al HB aq GW735 pi fp fB b5 ce cE cR; clear hb hbox hg; obtain ⟨cw, cp, F3⟩ := Kd.R_slice aQ.out; subst F3; have hnb44 := fB.out; have hnc44 := fp.out; have hnb45 := ce.out; have hnc45 := b5.out; have hnb46 := cR.out; have hnc46 := cE.out; obtain ⟨hcz47_0, hcz47_1, hfz47_0, hfz47_1⟩ := bx2_ (w := I2) aq.out) | ((with_reducible refine gate_callee (f := 28) rfl ?_); refine gl_ 99 Try.func28 #[.agg #[.slice cw bX.length cp, .int .i64 eJ], .int .i64 jT] ?_; (with_reducible refine (impl_ResumeAt.calls k _ _ bX eJ jT bO eD ye oF _ ?_ ?_ Jl.out).mono ?_); exact (by refine (Kd.R_reads' (e := 90) (base := w.heap.size) (ok := fun k_ => (((True ∧ some k_ ≠ (.slice ca bG.length bV : Value).ownBlock) ∧ some k_ ≠ (.slice bN bw.length bL : Value).ownBlock) ∧ some k_ ≠ (.slice cx bF.length cu : Value).ownBlock)) (n := bX.length) (c := cp) ?_).2.2; exact (Z75 aQ)); exact (Kd.R_reads' aQ.out).2.1; rintro e Jz ⟨v737, rfl, ho0, hb⟩; refine ⟨_, rfl, ?_⟩; refine k10_ (Kd.R_elder' (Z75 aC) (Kd.R_base ho0) hb) (Kd.R_elder' (Z75 aA) (Kd.R_base ho0) hb) (Kd.R_elder' (Z75 aE) (Kd.R_base ho0) hb) (Kd.R_elder' (Z75 aQ) (Kd.R_base ho0) hb) (Kd.R_lower (Kd.R_new' (Kd.R_new' (Kd.R_new' (Kd.R_new' ho0 (Kd.R_lt (Z75 aC))) (Kd.R_lt (Z75 aA))) (Kd.R_lt (Z75 aE))) (Kd.R_lt (Z75 aQ))) (below_size (Z144))) (blk_below (g := bQ) (o := .cells #[.slice ca bG.length bV, .int .i64 dZ] 44 (0, 0)) (Z12 fp) hb) (blk_below (g := bR) (o := .cells #[.slice bN bw.length bL, .int .i64 dq] 44 (0, 0)) (Z13 b5) hb) (blk_below (g := bU) (o := .cells #[.slice cx bF.length cu, .int .i64 dL] 44 (0, 0)) (Z18 cE) hb) (blk_below (g := bW) (o := .cells #[.slice cw bX.length cp, .int .i64 eJ] 44 (0, 0)) (by (with_reducible repeat (first | refine blk_drewN ?_ _ | refine blk_drew ?_ | refine blk_alloc ?_ _)); refine blk_put (cs := #[.slice cw bX.length cp, .int .i64 0]) ?_ 1 _ rfl; (with_reducible repeat (first | refine blk_drewN ?_ _ | refine blk_drew ?_ | refine blk_alloc ?_ _)); refine blk_put (cs := #[.slice none 0 0, .int .i64 0]) ?_ 0 _ rfl; (with_reducible repeat (first | refine blk_drewN ?_ _ | refine blk_drew ?_ | refine blk_alloc ?_ _)); exact aq.out) hb) (below_step (Z144) hb) ?_; clear aC aA aE aQ am ak al aq HB; intro aC aA aE aQ aI am ak al aq HB; (try clear hb ho0)) | ((with_reducible refine gate_dst (N := 19) rfl ?_); (try (refine gate_guard (by rfl) ?_; dsimp only)); refine bv_ 19 44 #[.slice none 0 0, .int .i64 0] ?_; intro bZ hg Jq hbox hb; refine k21_ (Ya_ aC) (Ya_ aA) (Ya_ aE) (Ya_ aQ) (Ya_ aI) (Ye_ am) (Ye_ ak) (Ye_ al) (Ye_ aq) (below_step (Z144) hb) (hbox) ((by rw [hg]; exact (below_size (Z144)) : w.heap.size ≤ bZ)) ((by rw [hg]; exact (below_size (Z144)) : w.heap.size ≤ bZ)) ((Z82 : bQ ≠ bZ)) ((Z83 : bZ ≠ bQ)) ((Z87 : bR ≠ bZ)) ((Z88 : bZ ≠ bR)) ((Z93 : bU ≠ bZ)) ((Z94 : bZ ≠ bU)) ((Z98 : bW ≠ bZ)) ((Z99 : bZ ≠ bW)) ?_; clear aC aA aE aQ aI am ak al aq HB; intro aC aA aE aQ aI am ak al aq HB ao GW742 qK dT d7 cF cS dk du dU d8; clear hb hbox hg; obtain ⟨cA, cz, F4⟩ := Kd.R_slice aI.out; subst F4; have hnb51 := d7.out; have hnc51 := dT.out; have hnb52 := cS.out; have hnc52 := cF.out; have hnb53 := du.out; have hnc53 := dk.out; have hnb54 := d8.out; have hnc54 := dU.out; obtain ⟨hcz55_0, hcz55_1, hfz55_0, hfz55_1⟩ := bx2_ (w := Jq) ao.out; obtain ⟨hcz56_0, hcz56_1, hfz56_0, hfz56_1⟩ := bx2_ (w := Jq) aq.out) | ((with_reducible refine gate_callee (f := 29) rfl ?_); refine gl_ 106 Try.func29 #[.agg #[.slice cw bX.length cp, .int .i64 eJ], .int .i64 jT] ?_; (with_reducible refine (spec_ResumeAt.calls k _ _ bX eJ jT bS el jB rB _ ?_ ?_ GK.out).mono ?_); exact (by refine (Kd.R_reads' (e := 90) (base := w.heap.size) (ok := fun k_ => ((((True ∧ some k_ ≠ (.slice ca bG.length bV : Value).ownBlock) ∧ some k_ ≠ (.slice bN bw.length bL : Value).ownBlock) ∧ some k_ ≠ (.slice cx bF.length cu : Value).ownBlock) ∧ some k_ ≠ (.slice cA bO.length cz : Value).ownBlock)) (n := bX.length) (c := cp) ?_).2.2; exact (Z60 aQ)); exact (Kd.R_reads' aQ.out).2.1; rintro e w57 ⟨v744, rfl, ho0, hb⟩; refine ⟨_, rfl, ?_⟩; refine k12_ (Kd.R_elder' (Z60 aC) (Kd.R_base ho0) hb) (Kd.R_elder' (Z60 aA) (Kd.R_base ho0) hb) (Kd.R_elder' (Z60 aE) (Kd.R_base ho0) hb) (Kd.R_elder' (Z60 aQ) (Kd.R_base ho0) hb) (Kd.R_elder' (Z60 aI) (Kd.R_base ho0) hb) (Kd.R_lower (Kd.R_new' (Kd.R_new' (Kd.R_new' (Kd.R_new' (Kd.R_new' ho0 (Kd.R_lt (Z60 aC))) (Kd.R_lt (Z60 aA))) (Kd.R_lt (Z60 aE))) (Kd.R_lt (Z60 aQ))) (Kd.R_lt (Z60 aI))) (below_size (Z133))) (blk_below (g := bQ) (o := .cells #[.slice ca bG.length bV, .int .i64 dZ] 44 (0, 0)) (Z12 dT) hb) (blk_below (g := bR) (o := .cells #[.slice bN bw.length bL, .int .i64 dq] 44 (0, 0)) (Z13 cF) hb) (blk_below (g := bU) (o := .cells #[.slice cx bF.length cu, .int .i64 dL] 44 (0, 0)) (Z18 dk) hb) (blk_below (g := bW) (o := .cells #[.slice cw bX.length cp, .int .i64 eJ] 44 (0, 0)) (Z19 dU) hb) (blk_below (g := bZ) (o := .cells #[.slice cA bO.length cz, .int .i64 eD] 44 (0, 0)) (by (with_reducible repeat (first | refine blk_drewN ?_ _ | refine blk_drew ?_ | refine blk_alloc ?_ _)); refine blk_put (cs := #[.slice cA bO.length cz, .int .i64 0]) ?_ 1 _ rfl; (with_reducible repeat (first | refine blk_drewN ?_ _ | refine blk_drew ?_ | refine blk_alloc ?_ _)); refine blk_put (cs := #[.slice none 0 0, .int .i64 0]) ?_ 0 _ rfl; (with_reducible repeat (first | refine blk_drewN ?_ _ | refine blk_drew ?_ | refine blk_alloc ?_ _)); exact ao.out) hb) (below_step (Z133) hb) ?_; clear aC aA aE aQ aI am ak al aq ao HB; intro aC aA aE aQ aI aN am ak al aq ao HB; (try clear hb ho0)) | ((with_reducible refine gate_dst (N := 22) rfl ?_); (try (refine gate_guard (by rfl) ?_; dsimp only)); refine bv_ 22 44 #[.slice none 0 0, .int .i64 0] ?_; intro cb hg w58 hbox hb; refine k25_ (Ya_ aC) (Ya_ aA) (Ya_ aE) (Ya_ aQ) (Ya_ aI) (Ya_ aN) (Ye_ am) (Ye_ ak) (Ye_ al) (Ye_ aq) (Ye_ ao) (below_step (Z133) hb) (hbox) ((by rw [hg]; exact (below_size (Z133)) : w.heap.size ≤ cb)) ((by rw [hg]; exact (below_size (Z133)) : w.heap.size ≤ cb)) ((Z82 : bQ ≠ cb)) ((Z83 : cb ≠ bQ)) ((Z87 : bR ≠ cb)) ((Z88 : cb ≠ bR)) ((Z93 : bU ≠ cb)) ((Z94 : cb ≠ bU)) ((Z98 : bW ≠ cb)) ((Z99 : cb ≠ bW)) ((Z103 : bZ ≠ cb)) ((Z104 : cb ≠ bZ)) ?_; clear aC aA aE aQ aI aN am ak al aq ao HB; intro aC aA aE aQ aI aN am ak al aq ao HB ap GW749 sg dv dE b6 cf cG cT dV d9 dW ea; clear hb hbox hg; obtain ⟨cB, cC, F5⟩ := Kd.R_slice aN.out; subst F5; have hnb60 := dE.out; have hnc60 := dv.out; have hnb61 := cf.out; have hnc61 := b6.out; have hnb62 := cT.out; have hnc62 := cG.out; have hnb63 := d9.out; have hnc63 := dV.out; have hnb64 := ea.out; have hnc64 := dW.out; obtain ⟨hcz65_0, hcz65_1, hfz65_0, hfz65_1⟩ := bx2_ (w := w58) ap.out) | ((with_reducible refine gate_callee (f := 30) rfl ?_); refine gl_ 111 Try.func30 #[.slice A1 l1.length c1] ?_; (with_reducible refine (spec_DrawPunchedNow.calls k _ _ l1 bE em _ ?_ ?_ GL.out).mono ?_); exact Kd.C_below HR1.out (Z101); exact HC1.out; rintro e w66 ⟨v751, rfl, ho0, hb⟩; refine ⟨_, rfl, ?_⟩; refine k14_ (Kd.R_elder' (Z55 aC) (Kd.R_base ho0) hb) (Kd.R_elder' (Z55 aA) (Kd.R_base ho0) hb) (Kd.R_elder' (Z55 aE) (Kd.R_base ho0) hb) (Kd.R_elder' (Z55 aQ) (Kd.R_base ho0) hb) (Kd.R_elder' (Z55 aI) (Kd.R_base ho0) hb) (Kd.R_elder' (Z55 aN) (Kd.R_base ho0) hb) (Kd.R_lower (Kd.R_new' (Kd.R_new' (Kd.R_new' (Kd.R_new' (Kd.R_new' (Kd.R_new' ho0 (Kd.R_lt (Z55 aC))) (Kd.R_lt (Z55 aA))) (Kd.R_lt (Z55 aE))) (Kd.R_lt (Z55 aQ))) (Kd.R_lt (Z55 aI))) (Kd.R_lt (Z55 aN))) (below_size (Z101))) (blk_below (g := bQ) (o := .cells #[.slice ca bG.length bV, .int .i64 dZ] 44 (0, 0)) (Z12 dv) hb) (blk_below (g := bR) (o := .cells #[.slice bN bw.length bL, .int .i64 dq] 44 (0, 0)) (Z13 b6) hb) (blk_below (g := bU) (o := .cells #[.slice cx bF.length cu, .int .i64 dL] 44 (0, 0)) (Z18 cG) hb) (blk_below (g := bW) (o := .cells #[.slice cw bX.length cp, .int .i64 eJ] 44 (0, 0)) (Z19 dV) hb) (blk_below (g := bZ) (o := .cells #[.slice cA bO.length cz, .int .i64 eD] 44 (0, 0)) (Z20 dW) hb) (blk_below (g := cb) (o := .cells #[.slice cB bS.length cC, .int .i64 el] 44 (0, 0)) (by (with_reducible repeat (first | refine blk_drewN ?_ _ | refine blk_drew ?_ | refine blk_alloc ?_ _)); refine blk_put (cs := #[.slice cB bS.length cC, .int .i64 0]) ?_ 1 _ rfl; (with_reducible repeat (first | refine blk_drewN ?_ _ | refine blk_drew ?_ | refine blk_alloc ?_ _)); refine blk_put (cs := #[.slice none 0 0, .int .i64 0]) ?_ 0 _ rfl; (with_reducible repeat (first | refine blk_drewN ?_ _ | refine blk_drew ?_ | refine blk_alloc ?_ _)); exact ap.out) hb) (below_step (Z101) hb) ?_; clear aC aA aE aQ aI aN am ak al aq ao ap HB; intro aC aA aE aQ aI aN aT am ak al aq ao ap HB; (try clear hb ho0)) | ((with_reducible refine gate_dst (N := 25) rfl ?_); (try (refine gate_guard (by rfl) ?_; dsimp only)); refine bv_ 25 44 #[.slice none 0 0, .int .i64 0] ?_; intro cd hg JA hbox hb; refine k29_ (Ya_ aC) (Ya_ aA) (Ya_ aE) (Ya_ aQ) (Ya_ aI) (Ya_ aN) (Ya_ aT) (Ye_ am) (Ye_ ak) (Ye_ al) (Ye_ aq) (Ye_ ao) (Ye_ ap) (below_step (Z101) hb) (hbox) ((by rw [hg]; exact (below_size (Z101)) : w.heap.size ≤ cd)) ((by rw [hg]; exact (below_size (Z101)) : w.heap.size ≤ cd)) ((Z82 : bQ ≠ cd)) ((Z83 : cd ≠ bQ)) ((Z87 : bR ≠ cd)) ((Z88 : cd ≠ bR)) ((Z93 : bU ≠ cd)) ((Z94 : cd ≠ bU)) ((Z98 : bW ≠ cd)) ((Z99 : cd ≠ bW)) ((Z103 : bZ ≠ cd)) ((Z104 : cd ≠ bZ)) ((Z111 : cb ≠ cd)) ((Z112 : cd ≠ cb)) ?_; clear aC aA aE aQ aI aN aT am ak al aq ao ap HB; intro aC aA aE aQ aI aN aT am ak al aq ao ap HB ar GW754 v8 eF eO b7 cg cH cU ew eG dN dX dl dw; clear hb hbox hg; obtain ⟨cy, cv, eo68⟩ := Kd.R_slice aT.out; subst eo68; have hnb69 := eO.out; have hnc69 := eF.out; have hnb70 := cg.out; have hnc70 := b7.out; have hnb71 := cU.out; have hnc71 := cH.out; have hnb72 := eG.out; have hnc72 := ew.out; have hnb73 := dX.out; have hnc73 := dN.out; have hnb74 := dw.out; have hnc74 := dl.out; obtain ⟨hcz75_0, hcz75_1, hfz75_0, hfz75_1⟩ := bx2_ (w := JA) ar.out) | ((with_reducible refine gate_callee (f := 31) rfl ?_); refine gl_ 114 Try.func31 #[.agg #[.slice cy bE.length cv, .int .i64 em]] ?_; (with_reducible refine (impl_PunchedNow.calls k _ _ bE em rC rD _ ?_ ?_ I1.out).mono ?_); exact (by refine (Kd.R_reads' (e := 90) (base := w.heap.size) (ok := fun k_ => ((((((True ∧ some k_ ≠ (.slice ca bG.length bV : Value).ownBlock) ∧ some k_ ≠ (.slice bN bw.length bL : Value).ownBlock) ∧ some k_ ≠ (.slice cx bF.length cu : Value).ownBlock) ∧ some k_ ≠ (.slice cw bX.length cp : Value).ownBlock) ∧ some k_ ≠ (.slice cA bO.length cz : Value).ownBlock) ∧ some k_ ≠ (.slice cB bS.length cC : Value).ownBlock)) (n := bE.length) (c := cv) ?_).2.2; exact (Z46 aT)); exact (Kd.R_reads' aT.out).2.1; rintro e w76 ⟨Fc, rfl, ho0, hb⟩; refine ⟨_, rfl, ?_⟩; refine k16_ (Kd.R_elder' (Z46 aC) (Kd.R_base ho0) hb) (Kd.R_elder' (Z46 aA) (Kd.R_base ho0) hb) (Kd.R_elder' (Z46 aE) (Kd.R_base ho0) hb) (Kd.R_elder' (Z46 aQ) (Kd.R_base ho0) hb) (Kd.R_elder' (Z46 aI) (Kd.R_base ho0) hb) (Kd.R_elder' (Z46 aN) (Kd.R_base ho0) hb) (Kd.R_elder' (Z46 aT) (Kd.R_base ho0) hb) (Kd.R_lower (Kd.R_new' (Kd.R_new' (Kd.R_new' (Kd.R_new' (Kd.R_new' (Kd.R_new' (Kd.R_new' ho0 (Kd.R_lt (Z46 aC))) (Kd.R_lt (Z46 aA))) (Kd.R_lt (Z46 aE))) (Kd.R_lt (Z46 aQ))) (Kd.R_lt (Z46 aI))) (Kd.R_lt (Z46 aN))) (Kd.R_lt (Z46 aT))) (below_size (Z43))) (blk_below (g := bQ) (o := .cells #[.slice ca bG.length bV, .int .i64 dZ] 44 (0, 0)) (Z12 eF) hb) (blk_below (g := bR) (o := .cells #[.slice bN bw.length bL, .int .i64 dq] 44 (0, 0)) (Z13 b7) hb) (blk_below (g := bU) (o := .cells #[.slice cx bF.length cu, .int .i64 dL] 44 (0, 0)) (Z18 cH) hb) (blk_below (g := bW) (o := .cells #[.slice cw bX.length cp, .int .i64 eJ] 44 (0, 0)) (Z19 ew) hb) (blk_below (g := bZ) (o := .cells #[.slice cA bO.length cz, .int .i64 eD] 44 (0, 0)) (Z20 dN) hb) (blk_below (g := cb) (o := .cells #[.slice cB bS.length cC, .int .i64 el] 44 (0, 0)) (Z22 dl) hb) (blk_below (g := cd) (o := .cells #[.slice cy bE.length cv, .int .i64 em] 44 (0, 0)) (by (with_reducible repeat (first | refine blk_drewN ?_ _ | refine blk_drew ?_ | refine blk_alloc ?_ _)); refine blk_put (cs := #[.slice cy bE.length cv, .int .i64 0]) ?_ 1 _ rfl; (with_reducible repeat (first | refine blk_drewN ?_ _ | refine blk_drew ?_ | refine blk_alloc ?_ _)); refine blk_put (cs := #[.slice none 0 0, .int .i64 0]) ?_ 0 _ rfl; (with_reducible repeat (first | refine blk_drewN ?_ _ | refine blk_drew ?_ | refine blk_alloc ?_ _)); exact ar.out) hb) (below_step (Z43) hb) ?_; clear aC aA aE aQ aI aN aT am ak al aq ao ap ar HB; intro aC aA aE aQ aI aN aT aU am ak al aq ao ap ar HB; (try clear hb ho0); obtain ⟨hcz77_0, hcz77_1, hfz77_0, hfz77_1⟩ := bx2_ (w := w76) ar.out) | ((with_reducible refine gate_callee (f := 32) rfl ?_); refine gl_ 119 Try.func32 #[.agg #[.slice cy bE.length cv, .int .i64 em]] ?_; (with_reducible refine (spec_PunchedNow.calls k _ _ bE em rE rF _ ?_ ?_ Jm.out).mono ?_); exact (Z7 aT); exact (Kd.R_reads' aT.out).2.1; rintro e w78 ⟨Fd, rfl, ho0, hb⟩; refine ⟨_, rfl, ?_⟩; refine k17_ (Yb_ aC) (Yb_ aA) (Yb_ aE) (Yb_ aQ) (Yb_ aI) (Yb_ aN) (Yb_ aT) (Yb_ aU) (Kd.R_lower (Kd.R_new' (Kd.R_new' (Kd.R_new' (Kd.R_new' (Kd.R_new' (Kd.R_new' (Kd.R_new' (Kd.R_new' ho0 (Yd_ aC)) (Yd_ aA)) (Yd_ aE)) (Yd_ aQ)) (Yd_ aI)) (Yd_ aN)) (Yd_ aT)) (Yd_ aU)) (below_size (Z43))) (Ye_ am) (Ye_ ak) (Ye_ al) (Ye_ aq) (Ye_ ao) (Ye_ ap) (Ye_ ar) (below_step (Z43) hb) ?_; clear aC aA aE aQ aI aN aT aU am ak al aq ao ap ar HB; intro aC aA aE aQ aI aN aT aU aW am ak al aq ao ap ar HB; (try clear hb ho0); obtain ⟨hcz79_0, hcz79_1, hfz79_0, hfz79_1⟩ := bx2_ (w := w78) ar.out) | ((with_reducible refine gate_callee (f := 33) rfl ?_); refine gl_ 124 Try.func33 #[.agg #[.slice cy bE.length cv, .int .i64 em]] ?_; (with_reducible refine (impl_HolesDone.calls k _ _ bE em vC iP _ ?_ ?_ Ff.out).mono ?_); exact (Z7 aT); exact (Kd.R_reads' aT.out).2.1; rintro e w80 ⟨v764, rfl, ho0, hb⟩; refine ⟨_, rfl, ?_⟩; refine k18_ (Ya_ aC) (Ya_ aA) (Ya_ aE) (Ya_ aQ) (Ya_ aI) (Ya_ aN) (Ya_ aT) (Ya_ aU) (Ya_ aW) (Kd.R_lower ho0 (below_size (Z43))) (Ye_ am) (Ye_ ak) (Ye_ al) (Ye_ aq) (Ye_ ao) (Ye_ ap) (Ye_ ar) (below_step (Z43) hb) ?_; clear aC aA aE aQ aI aN aT aU aW am ak al aq ao ap ar HB; intro aC aA aE aQ aI aN aT aU aW aZ am ak al aq ao ap ar HB; (try clear hb ho0); obtain ⟨hcz81_0, hcz81_1, hfz81_0, hfz81_1⟩ := bx2_ (w := w80) ar.out) | ((with_reducible refine gate_callee (f := 34) rfl ?_); refine gl_ 129 Try.func34 #[.agg #[.slice cy bE.length cv, .int .i64 em]] ?_; (with_reducible refine (spec_HolesDone.calls k _ _ bE em fb rG _ ?_ ?_ Fp.out).mono ?_); exact (Z7 aT); exact (Kd.R_reads' aT.out).2.1; rintro e w82 ⟨F6, rfl, ho0, hb⟩; refine ⟨_, rfl, ?_⟩; refine k19_ (Ya_ aC) (Ya_ aA) (Ya_ aE) (Ya_ aQ) (Ya_ aI) (Ya_ aN) (Ya_ aT) (Ya_ aU) (Ya_ aW) (Yb_ aZ) (Kd.R_lower (Kd.R_new' ho0 (Yd_ aZ)) (below_size (Z43))) (Ye_ am) (Ye_ ak) (Ye_ al) (Ye_ aq) (Ye_ ao) (Ye_ ap) (Ye_ ar) (below_step (Z43) hb) ?_; clear aC aA aE aQ aI aN aT aU aW aZ am ak al aq ao ap ar HB; intro aC aA aE aQ aI aN aT aU aW aZ aV am ak al aq ao ap ar HB; (try clear hb ho0)) | ((with_reducible refine gate_callee (f := 35) rfl ?_); refine gl_ 133 Try.func35 #[.slice A1 l1.length c1] ?_; (with_reducible refine (spec_DrawNewPunchJob.calls k _ _ l1 cl _ ?_ ?_ Jn.out).mono ?_); exact (Z15 HR1); exact HC1.out; rintro e w83 ⟨v772, rfl, ho0, hb⟩; refine ⟨_, rfl, ?_⟩; refine k20_ (Yb_ aC) (Yb_ aA) (Yb_ aE) (Yb_ aQ) (Yb_ aI) (Yb_ aN) (Yb_ aT) (Yb_ aU) (Yb_ aW) (Ya_ aZ) (Ya_ aV) (Kd.R_lower (Kd.R_new' (Kd.R_new' (Kd.R_new' (Kd.R_new' (Kd.R_new' (Kd.R_new' (Kd.R_new' (Kd.R_new' (Kd.R_new' ho0 (Yd_ aC)) (Yd_ aA)) (Yd_ aE)) (Yd_ aQ)) (Yd_ aI)) (Yd_ aN)) (Yd_ aT)) (Yd_ aU)) (Yd_ aW)) (below_size (Z43))) (Ye_ am) (Ye_ ak) (Ye_ al) (Ye_ aq) (Ye_ ao) (Ye_ ap) (Ye_ ar) (below_step (Z43) hb) ?_; clear aC aA aE aQ aI aN aT aU aW aZ aV am ak al aq ao ap ar HB; intro aC aA aE aQ aI aN aT aU aW aZ aV bf am ak al aq ao ap ar HB; (try clear hb ho0); obtain ⟨ff, e9, eo84⟩ := Kd.R_slice bf.out; subst eo84) | ((with_reducible refine gate_callee (f := 36) rfl ?_); refine gl_ 136 Try.func36 #[.slice ff cl.length e9] ?_; (with_reducible refine (impl_NewPunchJob.calls k _ _ cl bB dC pY _ ?_ ?_ Jo.out).mono ?_); exact (Z7 bf); exact (Kd.R_reads' bf.out).2.1; rintro e w85 ⟨v775, rfl, ho0, hb⟩; refine ⟨_, rfl, ?_⟩; refine k21_ (Yb_ aC) (Yb_ aA) (Yb_ aE) (Yb_ aQ) (Yb_ aI) (Yb_ aN) (Yb_ aT) (Yb_ aU) (Yb_ aW) (Ya_ aZ) (Ya_ aV) (Yb_ bf) (Kd.R_lower (Kd.R_new' (Kd.R_new' (Kd.R_new' (Kd.R_new' (Kd.R_new' (Kd.R_new' (Kd.R_new' (Kd.R_new' (Kd.R_new' (Kd.R_new' ho0 (Yd_ aC)) (Yd_ aA)) (Yd_ aE)) (Yd_ aQ)) (Yd_ aI)) (Yd_ aN)) (Yd_ aT)) (Yd_ aU)) (Yd_ aW)) (Yd_ bf)) (below_size (Z43))) (Ye_ am) (Ye_ ak) (Ye_ al) (Ye_ aq) (Ye_ ao) (Ye_ ap) (Ye_ ar) (below_step (Z43) hb) ?_; clear aC aA aE aQ aI aN aT aU aW aZ aV bf am ak al aq ao ap ar HB; intro aC aA aE aQ aI aN aT aU aW aZ aV bf ba am ak al aq ao ap ar HB; (try clear hb ho0)) | ((with_reducible refine gate_dst (N := 35) rfl ?_); (try (refine gate_guard (by rfl) ?_; dsimp only)); refine bv_ 35 44 #[.slice none 0 0, .int .i64 0] ?_; intro ck hg w86 hbox hb; refine k38_ (Ya_ aC) (Ya_ aA) (Ya_ aE) (Ya_ aQ) (Ya_ aI) (Ya_ aN) (Ya_ aT) (Ya_ aU) (Ya_ aW) (Ya_ aZ) (Ya_ aV) (Ya_ bf) (Ya_ ba) (Ye_ am) (Ye_ ak) (Ye_ al) (Ye_ aq) (Ye_ ao) (Ye_ ap) (Ye_ ar) (below_step (Z43) hb) (hbox) ((by rw [hg]; exact (below_size (Z43)) : w.heap.size ≤ ck)) ((by rw [hg]; exact (below_size (Z43)) : w.heap.size ≤ ck)) ((Z82 : bQ ≠ ck)) ((Z83 : ck ≠ bQ)) ((Z87 : bR ≠ ck)) ((Z88 : ck ≠ bR)) ((Z93 : bU ≠ ck)) ((Z94 : ck ≠ bU)) ((Z98 : bW ≠ ck)) ((Z99 : ck ≠ bW)) ((Z103 : bZ ≠ ck)) ((Z104 : ck ≠ bZ)) ((Z111 : cb ≠ ck)) ((Z112 : ck ≠ cb)) ((Z122 : cd ≠ ck)) ((Z123 : ck ≠ cd)) ?_; clear aC aA aE aQ aI aN aT aU aW aZ aV bf ba am ak al aq ao ap ar HB; intro aC aA aE aQ aI aN aT aU aW aZ aV bf ba am ak al aq ao ap ar HB av GW779 yU dO dY bH bJ b8 ch dJ dP dm dx cI cV dK dQ; clear hb hbox hg; obtain ⟨b3, b4, eo87⟩ := Kd.R_slice ba.out; subst eo87; have hnb88 := dY.out; have hnc88 := dO.out; have hnb89 := bJ.out; have hnc89 := bH.out; have hnb90 := ch.out; have hnc90 := b8.out; have hnb91 := dP.out; have hnc91 := dJ.out; have hnb92 := dx.out; have hnc92 := dm.out; have hnb93 := cV.out; have hnc93 := cI.out; have hnb94 := dQ.out; have hnc94 := dK.out; obtain ⟨hcz95_0, hcz95_1, hfz95_0, hfz95_1⟩ := bx2_ (w := w86) av.out) | ((with_reducible refine gate_callee (f := 37) rfl ?_); refine gl_ 141 Try.func37 #[.slice ff cl.length e9] ?_; (with_reducible refine (spec_NewPunchJob.calls k _ _ cl co e8 rH _ ?_ ?_ A19.out).mono ?_); exact (by refine (Kd.R_reads' (e := 90) (base := w.heap.size) (ok := fun k_ => ((((((((((True ∧ some k_ ≠ (.slice ca bG.length bV : Value).ownBlock) ∧ some k_ ≠ (.slice bN bw.length bL : Value).ownBlock) ∧ some k_ ≠ (.slice cx bF.length cu : Value).ownBlock) ∧ some k_ ≠ (.slice cw bX.length cp : Value).ownBlock) ∧ some k_ ≠ (.slice cA bO.length cz : Value).ownBlock) ∧ some k_ ≠ (.slice cB bS.length cC : Value).ownBlock) ∧ some k_ ≠ (.slice cy bE.length cv : Value).ownBlock) ∧ some k_ ≠ (Fc : Value).ownBlock) ∧ some k_ ≠ (Fd : Value).ownBlock) ∧ some k_ ≠ (.slice b3 bB.length b4 : Value).ownBlock)) (n := cl.length) (c := e9) ?_).2.2; exact (Z36 bf)); exact (Kd.R_reads' bf.out).2.1; rintro e w96 ⟨v781, rfl, ho0, hb⟩; refine ⟨_, rfl, ?_⟩; refine k23_ (Kd.R_elder' (Z36 aC) (Kd.R_base ho0) hb) (Kd.R_elder' (Z36 aA) (Kd.R_base ho0) hb) (Kd.R_elder' (Z36 aE) (Kd.R_base ho0) hb) (Kd.R_elder' (Z36 aQ) (Kd.R_base ho0) hb) (Kd.R_elder' (Z36 aI) (Kd.R_base ho0) hb) (Kd.R_elder' (Z36 aN) (Kd.R_base ho0) hb) (Kd.R_elder' (Z36 aT) (Kd.R_base ho0) hb) (Kd.R_elder' (Z36 aU) (Kd.R_base ho0) hb) (Kd.R_elder' (Z36 aW) (Kd.R_base ho0) hb) (Kd.R_below (Z36 aZ) hb) (Kd.R_below (Z36 aV) hb) (Kd.R_elder' (Z36 bf) (Kd.R_base ho0) hb) (Kd.R_elder' (Z36 ba) (Kd.R_base ho0) hb) (Kd.R_lower (Kd.R_new' (Kd.R_new' (Kd.R_new' (Kd.R_new' (Kd.R_new' (Kd.R_new' (Kd.R_new' (Kd.R_new' (Kd.R_new' (Kd.R_new' (Kd.R_new' ho0 (Kd.R_lt (Z36 aC))) (Kd.R_lt (Z36 aA))) (Kd.R_lt (Z36 aE))) (Kd.R_lt (Z36 aQ))) (Kd.R_lt (Z36 aI))) (Kd.R_lt (Z36 aN))) (Kd.R_lt (Z36 aT))) (Kd.R_lt (Z36 aU))) (Kd.R_lt (Z36 aW))) (Kd.R_lt (Z36 bf))) (Kd.R_lt (Z36 ba))) (below_size (Z106))) (blk_below (g := bQ) (o := .cells #[.slice ca bG.length bV, .int .i64 dZ] 44 (0, 0)) (Z12 dO) hb) (blk_below (g := bR) (o := .cells #[.slice bN bw.length bL, .int .i64 dq] 44 (0, 0)) (Z13 bH) hb) (blk_below (g := bU) (o := .cells #[.slice cx bF.length cu, .int .i64 dL] 44 (0, 0)) (Z18 b8) hb) (blk_below (g := bW) (o := .cells #[.slice cw bX.length cp, .int .i64 eJ] 44 (0, 0)) (Z19 dJ) hb) (blk_below (g := bZ) (o := .cells #[.slice cA bO.length cz, .int .i64 eD] 44 (0, 0)) (Z20 dm) hb) (blk_below (g := cb) (o := .cells #[.slice cB bS.length cC, .int .i64 el] 44 (0, 0)) (Z22 cI) hb) (blk_below (g := cd) (o := .cells #[.slice cy bE.length cv, .int .i64 em] 44 (0, 0)) (Z23 dK) hb) (blk_below (g := ck) (o := .cells #[.slice b3 bB.length b4, .int .i64 dC] 44 (0, 0)) (by (with_reducible repeat (first | refine blk_drewN ?_ _ | refine blk_drew ?_ | refine blk_alloc ?_ _)); refine blk_put (cs := #[.slice b3 bB.length b4, .int .i64 0]) ?_ 1 _ rfl; (with_reducible repeat (first | refine blk_drewN ?_ _ | refine blk_drew ?_ | refine blk_alloc ?_ _)); refine blk_put (cs := #[.slice none 0 0, .int .i64 0]) ?_ 0 _ rfl; (with_reducible repeat (first | refine blk_drewN ?_ _ | refine blk_drew ?_ | refine blk_alloc ?_ _)); exact av.out) hb) (below_step (Z106) hb) ?_; clear aC aA aE aQ aI aN aT aU aW aZ aV bf ba am ak al aq ao ap ar av HB; intro aC aA aE aQ aI aN aT aU aW aZ aV bf ba bc am ak al aq ao ap ar av HB; (try clear hb ho0)) | ((with_reducible refine gate_dst (N := 37) rfl ?_); (try (refine gate_guard (by rfl) ?_; dsimp only)); refine bv_ 37 44 #[.slice none 0 0, .int .i64 0] ?_; intro bP hg l9 hbox hb; refine k42_ (Ya_ aC) (Ya_ aA) (Ya_ aE) (Ya_ aQ) (Ya_ aI) (Ya_ aN) (Ya_ aT) (Ya_ aU) (Ya_ aW) (Ya_ aZ) (Ya_ aV) (Ya_ bf) (Ya_ ba) (Ya_ bc) (Ye_ am) (Ye_ ak) (Ye_ al) (Ye_ aq) (Ye_ ao) (Ye_ ap) (Ye_ ar) (Ye_ av) (below_step (Z106) hb) (hbox) ((by rw [hg]; exact (below_size (Z106)) : w.heap.size ≤ bP)) ((by rw [hg]; exact (below_size (Z106)) : w.heap.size ≤ bP)) ((Z82 : bQ ≠ bP)) ((Z83 : bP ≠ bQ)) ((Z87 : bR ≠ bP)) ((Z88 : bP ≠ bR)) ((Z93 : bU ≠ bP)) ((Z94 : bP ≠ bU)) ((Z98 : bW ≠ bP)) ((Z99 : bP ≠ bW)) ((Z103 : bZ ≠ bP)) ((Z104 : bP ≠ bZ)) ((Z111 : cb ≠ bP)) ((Z112 : bP ≠ cb)) ((Z122 : cd ≠ bP)) ((Z123 : bP ≠ cd)) ((Z131 : ck ≠ bP)) ((Z132 : bP ≠ ck)) ?_; clear aC aA aE aQ aI aN aT aU aW aZ aV bf ba bc am ak al aq ao ap ar av HB; intro aC aA aE aQ aI aN aT aU aW aZ aV bf ba bc am ak al aq ao ap ar av HB aw GW785 DC cW fR bv dh bC dF cJ fC ci eP bK eb cK fD b9 eH; clear hb hbox hg; obtain ⟨cN, cO, eo98⟩ := Kd.R_slice bc.out; subst eo98; have hnb99 := fR.out; have hnc99 := cW.out; have hnb100 := dh.out; have hnc100 := bv.out; have hnb101 := dF.out; have hnc101 := bC.out; have hnb102 := fC.out; have hnc102 := cJ.out; have hnb103 := eP.out; have hnc103 := ci.out; have hnb104 := eb.out; have hnc104 := bK.out; have hnb105 := fD.out; have hnc105 := cK.out; have hnb106 := eH.out; have hnc106 := b9.out; obtain ⟨hcz107_0, hcz107_1, hfz107_0, hfz107_1⟩ := bx2_ (w := l9) aw.out))
 (try simp only [Act.put, List.setIfInBounds_toArray, List.set_cons_zero, List.set_cons_succ])
 dsimp only [List.append]
 go_cut [229] (fun v229 wc => ∃ (kq : Nat) (o4 : Bool), v229 = .bool o4 ∧ Aside0 (laws_FnPunchJobs.j0 kq jS l7 fQ l8 jT oF jB iP fb cl pY o4 bG dZ bw dq bF dL bX eJ bO eD bS el bE em bB dC = some r) ∧ Aside0 (kq ≤ k) ∧ Aside0 (Kd.R (Kd.int .i64) 3 wc w.heap.size (fun _ => True) F6 fb) ∧ Aside0 (Kd.R k90 90 wc w.heap.size (fun k_ => some k_ ≠ ((.slice ca bG.length bV) : Value).ownBlock ∧ some k_ ≠ ((.slice bN bw.length bL) : Value).ownBlock ∧ some k_ ≠ ((.slice cx bF.length cu) : Value).ownBlock ∧ some k_ ≠ ((.slice cw bX.length cp) : Value).ownBlock ∧ some k_ ≠ ((.slice cA bO.length cz) : Value).ownBlock ∧ some k_ ≠ ((.slice cB bS.length cC) : Value).ownBlock ∧ some k_ ≠ ((.slice cy bE.length cv) : Value).ownBlock ∧ some k_ ≠ ((.slice b3 bB.length b4) : Value).ownBlock ∧ some k_ ≠ ((.slice cN co.length cO) : Value).ownBlock) (.slice ff cl.length e9) cl) ∧ Aside0 (Kd.R k90 90 wc w.heap.size (fun k_ => some k_ ≠ ((.slice ff cl.length e9) : Value).ownBlock ∧ some k_ ≠ ((.slice bN bw.length bL) : Value).ownBlock ∧ some k_ ≠ ((.slice cx bF.length cu) : Value).ownBlock ∧ some k_ ≠ ((.slice cw bX.length cp) : Value).ownBlock ∧ some k_ ≠ ((.slice cA bO.length cz) : Value).ownBlock ∧ some k_ ≠ ((.slice cB bS.length cC) : Value).ownBlock ∧ some k_ ≠ ((.slice cy bE.length cv) : Value).ownBlock ∧ some k_ ≠ ((.slice b3 bB.length b4) : Value).ownBlock ∧ some k_ ≠ ((.slice cN co.length cO) : Value).ownBlock) (.slice ca bG.length bV) bG) ∧ Aside0 (Kd.R k90 90 wc w.heap.size (fun k_ => some k_ ≠ ((.slice ff cl.length e9) : Value).ownBlock ∧ some k_ ≠ ((.slice ca bG.length bV) : Value).ownBlock ∧ some k_ ≠ ((.slice cx bF.length cu) : Value).ownBlock ∧ some k_ ≠ ((.slice cw bX.length cp) : Value).ownBlock ∧ some k_ ≠ ((.slice cA bO.length cz) : Value).ownBlock ∧ some k_ ≠ ((.slice cB bS.length cC) : Value).ownBlock ∧ some k_ ≠ ((.slice cy bE.length cv) : Value).ownBlock ∧ some k_ ≠ ((.slice b3 bB.length b4) : Value).ownBlock ∧ some k_ ≠ ((.slice cN co.length cO) : Value).ownBlock) (.slice bN bw.length bL) bw) ∧ Aside0 (Kd.R k90 90 wc w.heap.size (fun k_ => some k_ ≠ ((.slice ff cl.length e9) : Value).ownBlock ∧ some k_ ≠ ((.slice ca bG.length bV) : Value).ownBlock ∧ some k_ ≠ ((.slice bN bw.length bL) : Value).ownBlock ∧ some k_ ≠ ((.slice cw bX.length cp) : Value).ownBlock ∧ some k_ ≠ ((.slice cA bO.length cz) : Value).ownBlock ∧ some k_ ≠ ((.slice cB bS.length cC) : Value).ownBlock ∧ some k_ ≠ ((.slice cy bE.length cv) : Value).ownBlock ∧ some k_ ≠ ((.slice b3 bB.length b4) : Value).ownBlock ∧ some k_ ≠ ((.slice cN co.length cO) : Value).ownBlock) (.slice cx bF.length cu) bF) ∧ Aside0 (Kd.R k90 90 wc w.heap.size (fun k_ => some k_ ≠ ((.slice ff cl.length e9) : Value).ownBlock ∧ some k_ ≠ ((.slice ca bG.length bV) : Value).ownBlock ∧ some k_ ≠ ((.slice bN bw.length bL) : Value).ownBlock ∧ some k_ ≠ ((.slice cx bF.length cu) : Value).ownBlock ∧ some k_ ≠ ((.slice cA bO.length cz) : Value).ownBlock ∧ some k_ ≠ ((.slice cB bS.length cC) : Value).ownBlock ∧ some k_ ≠ ((.slice cy bE.length cv) : Value).ownBlock ∧ some k_ ≠ ((.slice b3 bB.length b4) : Value).ownBlock ∧ some k_ ≠ ((.slice cN co.length cO) : Value).ownBlock) (.slice cw bX.length cp) bX) ∧ Aside0 (Kd.R k90 90 wc w.heap.size (fun k_ => some k_ ≠ ((.slice ff cl.length e9) : Value).ownBlock ∧ some k_ ≠ ((.slice ca bG.length bV) : Value).ownBlock ∧ some k_ ≠ ((.slice bN bw.length bL) : Value).ownBlock ∧ some k_ ≠ ((.slice cx bF.length cu) : Value).ownBlock ∧ some k_ ≠ ((.slice cw bX.length cp) : Value).ownBlock ∧ some k_ ≠ ((.slice cB bS.length cC) : Value).ownBlock ∧ some k_ ≠ ((.slice cy bE.length cv) : Value).ownBlock ∧ some k_ ≠ ((.slice b3 bB.length b4) : Value).ownBlock ∧ some k_ ≠ ((.slice cN co.length cO) : Value).ownBlock) (.slice cA bO.length cz) bO) ∧ Aside0 (Kd.R k90 90 wc w.heap.size (fun k_ => some k_ ≠ ((.slice ff cl.length e9) : Value).ownBlock ∧ some k_ ≠ ((.slice ca bG.length bV) : Value).ownBlock ∧ some k_ ≠ ((.slice bN bw.length bL) : Value).ownBlock ∧ some k_ ≠ ((.slice cx bF.length cu) : Value).ownBlock ∧ some k_ ≠ ((.slice cw bX.length cp) : Value).ownBlock ∧ some k_ ≠ ((.slice cA bO.length cz) : Value).ownBlock ∧ some k_ ≠ ((.slice cy bE.length cv) : Value).ownBlock ∧ some k_ ≠ ((.slice b3 bB.length b4) : Value).ownBlock ∧ some k_ ≠ ((.slice cN co.length cO) : Value).ownBlock) (.slice cB bS.length cC) bS) ∧ Aside0 (Kd.R k90 90 wc w.heap.size (fun k_ => some k_ ≠ ((.slice ff cl.length e9) : Value).ownBlock ∧ some k_ ≠ ((.slice ca bG.length bV) : Value).ownBlock ∧ some k_ ≠ ((.slice bN bw.length bL) : Value).ownBlock ∧ some k_ ≠ ((.slice cx bF.length cu) : Value).ownBlock ∧ some k_ ≠ ((.slice cw bX.length cp) : Value).ownBlock ∧ some k_ ≠ ((.slice cA bO.length cz) : Value).ownBlock ∧ some k_ ≠ ((.slice cB bS.length cC) : Value).ownBlock ∧ some k_ ≠ ((.slice b3 bB.length b4) : Value).ownBlock ∧ some k_ ≠ ((.slice cN co.length cO) : Value).ownBlock) (.slice cy bE.length cv) bE) ∧ Aside0 (Kd.R k90 90 wc w.heap.size (fun k_ => some k_ ≠ ((.slice ff cl.length e9) : Value).ownBlock ∧ some k_ ≠ ((.slice ca bG.length bV) : Value).ownBlock ∧ some k_ ≠ ((.slice bN bw.length bL) : Value).ownBlock ∧ some k_ ≠ ((.slice cx bF.length cu) : Value).ownBlock ∧ some k_ ≠ ((.slice cw bX.length cp) : Value).ownBlock ∧ some k_ ≠ ((.slice cA bO.length cz) : Value).ownBlock ∧ some k_ ≠ ((.slice cB bS.length cC) : Value).ownBlock ∧ some k_ ≠ ((.slice cy bE.length cv) : Value).ownBlock ∧ some k_ ≠ ((.slice cN co.length cO) : Value).ownBlock) (.slice b3 bB.length b4) bB) ∧ Aside0 (Kd.R k90 90 wc w.heap.size (fun k_ => some k_ ≠ ((.slice ff cl.length e9) : Value).ownBlock ∧ some k_ ≠ ((.slice ca bG.length bV) : Value).ownBlock ∧ some k_ ≠ ((.slice bN bw.length bL) : Value).ownBlock ∧ some k_ ≠ ((.slice cx bF.length cu) : Value).ownBlock ∧ some k_ ≠ ((.slice cw bX.length cp) : Value).ownBlock ∧ some k_ ≠ ((.slice cA bO.length cz) : Value).ownBlock ∧ some k_ ≠ ((.slice cB bS.length cC) : Value).ownBlock ∧ some k_ ≠ ((.slice cy bE.length cv) : Value).ownBlock ∧ some k_ ≠ ((.slice b3 bB.length b4) : Value).ownBlock) (.slice cN co.length cO) co) ∧ Aside0 (wc.heap[bQ]? = some (.cells #[(.slice ca bG.length bV), .int .i64 dZ] 44 (0, 0))) ∧ Aside0 (wc.heap[bR]? = some (.cells #[(.slice bN bw.length bL), .int .i64 dq] 44 (0, 0))) ∧ Aside0 (wc.heap[bU]? = some (.cells #[(.slice cx bF.length cu), .int .i64 dL] 44 (0, 0))) ∧ Aside0 (wc.heap[bW]? = some (.cells #[(.slice cw bX.length cp), .int .i64 eJ] 44 (0, 0))) ∧ Aside0 (wc.heap[bZ]? = some (.cells #[(.slice cA bO.length cz), .int .i64 eD] 44 (0, 0))) ∧ Aside0 (wc.heap[cb]? = some (.cells #[(.slice cB bS.length cC), .int .i64 el] 44 (0, 0))) ∧ Aside0 (wc.heap[cd]? = some (.cells #[(.slice cy bE.length cv), .int .i64 em] 44 (0, 0))) ∧ Aside0 (wc.heap[ck]? = some (.cells #[(.slice b3 bB.length b4), .int .i64 dC] 44 (0, 0))) ∧ Aside0 (wc.heap[bP]? = some (.cells #[(.slice cN co.length cO), .int .i64 e8] 44 (0, 0))) ∧ Aside0 (Below w.heap.size w wc))
 case first =>
  as_aux_lemma =>
   have H := HC20.out
   clear HC20
   by_cases c108 : (l7 != rz) = true
   ·rw [if_pos c108] at H
    have pZ : (l7 != rz) = true := c108
    (try (have c108b1 : decide (l7 = rz) = false := by simpa using c108))
    (try (have c108b2 : (l7 == rz) = false := by simpa using c108))
    (try (have c108b3 : ¬ (l7 = rz) := by simpa using c108))
    clear c108
    (first | rw [pZ] | (simp only [i64_w, i32_w]; rw [pZ]) | skip)
    have H' := Aside0.mk H
    clear H
    as_aux_lemma =>
     go_wp2
     all_goals (try (rename_i hq_ hr_; cases hq_; done))
     all_goals ((refine Met.intro ?_; go_step; (repeat (first | apply ex_32 | apply ex_8 | apply Exists.intro)); refine ⟨?rel, rfl⟩); case rel => exact ⟨_, (true), (Z41), H', ⟨Z168⟩, ⟨by (with_reducible repeat (first | apply Kd.R_alloc | apply Kd.R_drewN | apply Kd.R_drew)); exact Kd.R_mono (Kd.R_far (p := ⟨bP, 1, none⟩) (Kd.R_far (p := ⟨bP, 0, none⟩) (Kd.R_types aV.out aw.out (by decide)) (fun _ hk => hk.2) (.slice cN co.length cO)) (fun _ hk => hk.2) (.int .i64 e8)) (fun _ hk => trivial)⟩, ⟨by (with_reducible repeat (first | apply Kd.R_alloc | apply Kd.R_drewN | apply Kd.R_drew)); exact Kd.R_mono (Kd.R_far (p := ⟨bP, 1, none⟩) (Kd.R_far (p := ⟨bP, 0, none⟩) (Kd.R_types bf.out aw.out (by decide)) (fun _ hk => hk.2) (.slice cN co.length cO)) (fun _ hk => hk.2) (.int .i64 e8)) (fun _ hk => ⟨hk.1.1.1.1.1.1.1.1.1.1.1.2, ⟨hk.1.1.1.1.1.1.1.1.1.1.2, ⟨hk.1.1.1.1.1.1.1.1.1.2, ⟨hk.1.1.1.1.1.1.1.1.2, ⟨hk.1.1.1.1.1.1.1.2, ⟨hk.1.1.1.1.1.1.2, ⟨hk.1.1.1.1.1.2, ⟨hk.1.1.2, hk.1.2⟩⟩⟩⟩⟩⟩⟩⟩)⟩, ⟨Z65 aC⟩, ⟨Z65 aA⟩, ⟨Z65 aE⟩, ⟨Z65 aQ⟩, ⟨Z65 aI⟩, ⟨Z65 aN⟩, ⟨Z65 aT⟩, ⟨Z184 ba⟩, ⟨Z184 bc⟩, ⟨Z12 cW⟩, ⟨Z13 bv⟩, ⟨Z18 bC⟩, ⟨Z19 cJ⟩, ⟨Z20 ci⟩, ⟨Z22 bK⟩, ⟨Z23 cK⟩, ⟨Z24 b9⟩, ⟨Z37⟩, ⟨Z4⟩⟩)
   rw [if_neg c108] at H
   have pZ : (l7 != rz) = false := by simpa using c108
   (try (have c108b1 : decide (l7 = rz) = true := by simpa using c108))
   (try (have c108b2 : (l7 == rz) = true := by simpa using c108))
   clear c108
   (first | rw [pZ] | (simp only [i64_w, i32_w]; rw [pZ]) | skip)
   obtain ⟨Aw, ma, H⟩ := bd_ H
   (try dsimp only at H)
   by_cases c110 : Aw = true
   ·subst c110
    rw [if_pos rfl] at H
    by_cases c111 : yc = fQ
    ·rw [if_pos c111] at H
     have AH : (yc == fQ) = true := beq_iff_eq.mpr c111
     have AJ : (yc != fQ) = false := bne_eq_false_iff_eq.mpr c111
     clear c111
     by_cases c112 : (qz != rA) = true
     ·rw [if_pos c112] at H
      have c112b0 : (qz != rA) = true := c112
      (try (have c112b1 : decide (qz = rA) = false := by simpa using c112))
      (try (have c112b2 : (qz == rA) = false := by simpa using c112))
      (try (have c112b3 : ¬ (qz = rA) := by simpa using c112))
      clear c112
      have H' := Aside0.mk H
      clear H
      obtain ⟨hcz121_0, hcz121_1, hfz121_0, hfz121_1⟩ := bx2_ (w := l9) ak.out
      obtain ⟨hcz129_0, hcz129_1, hfz129_0, hfz129_1⟩ := bx2_ (w := l9) al.out
      as_aux_lemma =>
       go_wp2_with (go_at_call 38; (with_reducible refine (laws_qJob.calls k _ _ bw dq _ _ bF dL true _ ?_ ?_ ?_ ?_ ma.out).mono ?_); exact Z16; exact (Kd.R_reads' aA.out).2.1; exact Z17; exact (Kd.R_reads' aE.out).2.1; rintro e w130 ⟨rfl, hb⟩; refine k24_ (Kd.R_below (Z3 aC) hb) (Kd.R_below (Z3 aA) hb) (Kd.R_below (Z3 aE) hb) (Kd.R_below (Z3 aQ) hb) (Kd.R_below (Z3 aI) hb) (Kd.R_below (Z3 aN) hb) (Kd.R_below (Z3 aT) hb) (Kd.R_below (Z3 aU) hb) (Kd.R_below (Z3 aW) hb) (Kd.R_below (Z3 aZ) hb) (Kd.R_below (Z3 aV) hb) (Kd.R_below (Z3 bf) hb) (Kd.R_below (Z3 ba) hb) (Kd.R_below (Z3 bc) hb) (blk_below (g := bQ) (o := .cells #[.slice ca bG.length bV, .int .i64 dZ] 44 (0, 0)) (Z12 cW) hb) (blk_below (g := bR) (o := .cells #[.slice bN bw.length bL, .int .i64 dq] 44 (0, 0)) (Z13 bv) hb) (blk_below (g := bU) (o := .cells #[.slice cx bF.length cu, .int .i64 dL] 44 (0, 0)) (Z18 bC) hb) (blk_below (g := bW) (o := .cells #[.slice cw bX.length cp, .int .i64 eJ] 44 (0, 0)) (Z19 cJ) hb) (blk_below (g := bZ) (o := .cells #[.slice cA bO.length cz, .int .i64 eD] 44 (0, 0)) (Z20 ci) hb) (blk_below (g := cb) (o := .cells #[.slice cB bS.length cC, .int .i64 el] 44 (0, 0)) (Z22 bK) hb) (blk_below (g := cd) (o := .cells #[.slice cy bE.length cv, .int .i64 em] 44 (0, 0)) (Z23 cK) hb) (blk_below (g := ck) (o := .cells #[.slice b3 bB.length b4, .int .i64 dC] 44 (0, 0)) (Z24 b9) hb) (blk_below (g := bP) (o := .cells #[.slice cN co.length cO, .int .i64 e8] 44 (0, 0)) (Z37) hb) (below_step (Z4) hb) ?_; clear aC aA aE aQ aI aN aT aU aW aZ aV bf ba bc am ak al aq ao ap ar av aw HB; intro aC aA aE aQ aI aN aT aU aW aZ aV bf ba bc am ak al aq ao ap ar av aw HB; (try clear hb))
       all_goals (try (rename_i hq_ hr_; cases hq_; done))
       all_goals ((refine Met.intro ?_; go_step; (repeat (first | apply ex_32 | apply ex_8 | apply Exists.intro)); refine ⟨?rel, rfl⟩); case rel => exact ⟨_, (true), (Z41), H', ⟨Z168⟩, ⟨Z47 aV⟩, ⟨Z45⟩, ⟨Z6 aC⟩, ⟨Z6 aA⟩, ⟨Z6 aE⟩, ⟨Z6 aQ⟩, ⟨Z6 aI⟩, ⟨Z6 aN⟩, ⟨Z6 aT⟩, ⟨Z25 ba⟩, ⟨Z25 bc⟩, ⟨Z1 am⟩, ⟨Z1 ak⟩, ⟨Z1 al⟩, ⟨Z1 aq⟩, ⟨Z1 ao⟩, ⟨Z1 ap⟩, ⟨Z1 ar⟩, ⟨Z1 av⟩, ⟨Z1 aw⟩, ⟨Z4⟩⟩)
     rw [if_neg c112] at H
     have c112b0 : (qz != rA) = false := by simpa using c112
     (try (have c112b1 : decide (qz = rA) = true := by simpa using c112))
     (try (have c112b2 : (qz == rA) = true := by simpa using c112))
     clear c112
     by_cases c131 : yd = l8
     ·rw [if_pos c131] at H
      have AK : (yd == l8) = true := beq_iff_eq.mpr c131
      have AL : (yd != l8) = false := bne_eq_false_iff_eq.mpr c131
      clear c131
      by_cases c132 : (oF != rB) = true
      ·rw [if_pos c132] at H
       have c132b0 : (oF != rB) = true := c132
       (try (have c132b1 : decide (oF = rB) = false := by simpa using c132))
       (try (have c132b2 : (oF == rB) = false := by simpa using c132))
       (try (have c132b3 : ¬ (oF = rB) := by simpa using c132))
       clear c132
       have H' := Aside0.mk H
       clear H
       obtain ⟨hcz141_0, hcz141_1, hfz141_0, hfz141_1⟩ := bx2_ (w := l9) ak.out
       obtain ⟨hcz149_0, hcz149_1, hfz149_0, hfz149_1⟩ := bx2_ (w := l9) al.out
       as_aux_lemma =>
        go_wp2_with (go_at_call 38; (with_reducible refine (laws_qJob.calls k _ _ bw dq _ _ bF dL true _ ?_ ?_ ?_ ?_ ma.out).mono ?_); exact Z16; exact (Kd.R_reads' aA.out).2.1; exact Z17; exact (Kd.R_reads' aE.out).2.1; rintro e w150 ⟨rfl, hb⟩; refine k24_ (Kd.R_below (Z3 aC) hb) (Kd.R_below (Z3 aA) hb) (Kd.R_below (Z3 aE) hb) (Kd.R_below (Z3 aQ) hb) (Kd.R_below (Z3 aI) hb) (Kd.R_below (Z3 aN) hb) (Kd.R_below (Z3 aT) hb) (Kd.R_below (Z3 aU) hb) (Kd.R_below (Z3 aW) hb) (Kd.R_below (Z3 aZ) hb) (Kd.R_below (Z3 aV) hb) (Kd.R_below (Z3 bf) hb) (Kd.R_below (Z3 ba) hb) (Kd.R_below (Z3 bc) hb) (blk_below (g := bQ) (o := .cells #[.slice ca bG.length bV, .int .i64 dZ] 44 (0, 0)) (Z12 cW) hb) (blk_below (g := bR) (o := .cells #[.slice bN bw.length bL, .int .i64 dq] 44 (0, 0)) (Z13 bv) hb) (blk_below (g := bU) (o := .cells #[.slice cx bF.length cu, .int .i64 dL] 44 (0, 0)) (Z18 bC) hb) (blk_below (g := bW) (o := .cells #[.slice cw bX.length cp, .int .i64 eJ] 44 (0, 0)) (Z19 cJ) hb) (blk_below (g := bZ) (o := .cells #[.slice cA bO.length cz, .int .i64 eD] 44 (0, 0)) (Z20 ci) hb) (blk_below (g := cb) (o := .cells #[.slice cB bS.length cC, .int .i64 el] 44 (0, 0)) (Z22 bK) hb) (blk_below (g := cd) (o := .cells #[.slice cy bE.length cv, .int .i64 em] 44 (0, 0)) (Z23 cK) hb) (blk_below (g := ck) (o := .cells #[.slice b3 bB.length b4, .int .i64 dC] 44 (0, 0)) (Z24 b9) hb) (blk_below (g := bP) (o := .cells #[.slice cN co.length cO, .int .i64 e8] 44 (0, 0)) (Z37) hb) (below_step (Z4) hb) ?_; clear aC aA aE aQ aI aN aT aU aW aZ aV bf ba bc am ak al aq ao ap ar av aw HB; intro aC aA aE aQ aI aN aT aU aW aZ aV bf ba bc am ak al aq ao ap ar av aw HB; (try clear hb))
        all_goals (try (rename_i hq_ hr_; cases hq_; done))
        all_goals ((refine Met.intro ?_; go_step; (repeat (first | apply ex_32 | apply ex_8 | apply Exists.intro)); refine ⟨?rel, rfl⟩); case rel => exact ⟨_, (true), (Z41), H', ⟨Z168⟩, ⟨Z47 aV⟩, ⟨Z45⟩, ⟨Z6 aC⟩, ⟨Z6 aA⟩, ⟨Z6 aE⟩, ⟨Z6 aQ⟩, ⟨Z6 aI⟩, ⟨Z6 aN⟩, ⟨Z6 aT⟩, ⟨Z25 ba⟩, ⟨Z25 bc⟩, ⟨Z1 am⟩, ⟨Z1 ak⟩, ⟨Z1 al⟩, ⟨Z1 aq⟩, ⟨Z1 ao⟩, ⟨Z1 ap⟩, ⟨Z1 ar⟩, ⟨Z1 av⟩, ⟨Z1 aw⟩, ⟨Z4⟩⟩)
      rw [if_neg c132] at H
      have c132b0 : (oF != rB) = false := by simpa using c132
      (try (have c132b1 : decide (oF = rB) = true := by simpa using c132))
      (try (have c132b2 : (oF == rB) = true := by simpa using c132))
      clear c132
      obtain ⟨Ax, p0, H⟩ := bd_ H
      (try dsimp only at H)
      obtain ⟨hcz275_0, hcz275_1, hfz275_0, hfz275_1⟩ := bx2_ (w := l9) ak.out
      obtain ⟨hcz283_0, hcz283_1, hfz283_0, hfz283_1⟩ := bx2_ (w := l9) al.out
      go_wp2_with (go_at_call 38; (with_reducible refine (laws_qJob.calls k _ _ bw dq _ _ bF dL true _ ?_ ?_ ?_ ?_ ma.out).mono ?_); exact Z16; exact (Kd.R_reads' aA.out).2.1; exact Z17; exact (Kd.R_reads' aE.out).2.1; rintro e HU ⟨rfl, hb⟩; refine k24_ (Kd.R_below (Z3 aC) hb) (Kd.R_below (Z3 aA) hb) (Kd.R_below (Z3 aE) hb) (Kd.R_below (Z3 aQ) hb) (Kd.R_below (Z3 aI) hb) (Kd.R_below (Z3 aN) hb) (Kd.R_below (Z3 aT) hb) (Kd.R_below (Z3 aU) hb) (Kd.R_below (Z3 aW) hb) (Kd.R_below (Z3 aZ) hb) (Kd.R_below (Z3 aV) hb) (Kd.R_below (Z3 bf) hb) (Kd.R_below (Z3 ba) hb) (Kd.R_below (Z3 bc) hb) (blk_below (g := bQ) (o := .cells #[.slice ca bG.length bV, .int .i64 dZ] 44 (0, 0)) (Z12 cW) hb) (blk_below (g := bR) (o := .cells #[.slice bN bw.length bL, .int .i64 dq] 44 (0, 0)) (Z13 bv) hb) (blk_below (g := bU) (o := .cells #[.slice cx bF.length cu, .int .i64 dL] 44 (0, 0)) (Z18 bC) hb) (blk_below (g := bW) (o := .cells #[.slice cw bX.length cp, .int .i64 eJ] 44 (0, 0)) (Z19 cJ) hb) (blk_below (g := bZ) (o := .cells #[.slice cA bO.length cz, .int .i64 eD] 44 (0, 0)) (Z20 ci) hb) (blk_below (g := cb) (o := .cells #[.slice cB bS.length cC, .int .i64 el] 44 (0, 0)) (Z22 bK) hb) (blk_below (g := cd) (o := .cells #[.slice cy bE.length cv, .int .i64 em] 44 (0, 0)) (Z23 cK) hb) (blk_below (g := ck) (o := .cells #[.slice b3 bB.length b4, .int .i64 dC] 44 (0, 0)) (Z24 b9) hb) (blk_below (g := bP) (o := .cells #[.slice cN co.length cO, .int .i64 e8] 44 (0, 0)) (Z37) hb) (below_step (Z4) hb) ?_; clear aC aA aE aQ aI aN aT aU aW aZ aV bf ba bc am ak al aq ao ap ar av aw HB; intro aC aA aE aQ aI aN aT aU aW aZ aV bf ba bc am ak al aq ao ap ar av aw HB; (try clear hb); have hnb285 := d7.out; have hnc285 := dT.out; have hnb286 := d8.out; have hnc286 := dU.out; have hnb287 := dW.out; have hnc287 := ea.out; have hnb288 := dN.out; have hnc288 := dX.out; have hnb289 := dm.out; have hnc289 := dx.out; have hnb290 := ci.out; have hnc290 := eP.out; obtain ⟨hcz291_0, hcz291_1, hfz291_0, hfz291_1⟩ := bx2_ (w := HU) ao.out; have hnb292 := dE.out; have hnc292 := dv.out; have hnb293 := d9.out; have hnc293 := dV.out; have hnb294 := dl.out; have hnc294 := dw.out; have hnb295 := cI.out; have hnc295 := cV.out; have hnb296 := bK.out; have hnc296 := eb.out; obtain ⟨hcz297_0, hcz297_1, hfz297_0, hfz297_1⟩ := bx2_ (w := HU) ap.out)
      by_cases c152 : Ax = true
      ·subst c152
       rw [if_pos rfl] at H
       by_cases c153 : ye = jB
       ·rw [if_pos c153] at H
        have AM : (ye == jB) = true := beq_iff_eq.mpr c153
        have AN : (ye != jB) = false := bne_eq_false_iff_eq.mpr c153
        clear c153
        by_cases c154 : (rD != rF) = true
        ·rw [if_pos c154] at H
         have c154b0 : (rD != rF) = true := c154
         (try (have c154b1 : decide (rD = rF) = false := by simpa using c154))
         (try (have c154b2 : (rD == rF) = false := by simpa using c154))
         (try (have c154b3 : ¬ (rD = rF) := by simpa using c154))
         clear c154
         have H' := Aside0.mk H
         clear H
         as_aux_lemma =>
          go_wp2_with (go_at_call 38; (with_reducible refine (laws_qJob.calls k _ _ bO eD _ _ bS el true _ ?_ ?_ ?_ ?_ p0.out).mono ?_); exact (Z7 aI); exact (Kd.R_reads' aI.out).2.1; exact (Z7 aN); exact (Kd.R_reads' aN.out).2.1; rintro e w186 ⟨rfl, hb⟩; refine k24_ (Ya_ aC) (Ya_ aA) (Ya_ aE) (Ya_ aQ) (Ya_ aI) (Ya_ aN) (Ya_ aT) (Ya_ aU) (Ya_ aW) (Ya_ aZ) (Ya_ aV) (Ya_ bf) (Ya_ ba) (Ya_ bc) (Ye_ am) (Ye_ ak) (Ye_ al) (Ye_ aq) (Ye_ ao) (Ye_ ap) (Ye_ ar) (Ye_ av) (Ye_ aw) (below_step (Z4) hb) ?_; clear aC aA aE aQ aI aN aT aU aW aZ aV bf ba bc am ak al aq ao ap ar av aw HB; intro aC aA aE aQ aI aN aT aU aW aZ aV bf ba bc am ak al aq ao ap ar av aw HB; (try clear hb))
          all_goals (try (rename_i hq_ hr_; cases hq_; done))
          all_goals ((refine Met.intro ?_; go_step; (repeat (first | apply ex_32 | apply ex_8 | apply Exists.intro)); refine ⟨?rel, rfl⟩); case rel => exact ⟨_, (true), (Z41), H', ⟨Z168⟩, ⟨Z47 aV⟩, ⟨Z45⟩, ⟨Z6 aC⟩, ⟨Z6 aA⟩, ⟨Z6 aE⟩, ⟨Z6 aQ⟩, ⟨Z6 aI⟩, ⟨Z6 aN⟩, ⟨Z6 aT⟩, ⟨Z25 ba⟩, ⟨Z25 bc⟩, ⟨Z1 am⟩, ⟨Z1 ak⟩, ⟨Z1 al⟩, ⟨Z1 aq⟩, ⟨Z1 ao⟩, ⟨Z1 ap⟩, ⟨Z1 ar⟩, ⟨Z1 av⟩, ⟨Z1 aw⟩, ⟨Z4⟩⟩)
        rw [if_neg c154] at H
        have c154b0 : (rD != rF) = false := by simpa using c154
        (try (have c154b1 : decide (rD = rF) = true := by simpa using c154))
        (try (have c154b2 : (rD == rF) = true := by simpa using c154))
        clear c154
        obtain ⟨Ay, tH, H⟩ := bd_ H
        (try dsimp only at H)
        go_wp2_with (go_at_call 38; (with_reducible refine (laws_qJob.calls k _ _ bO eD _ _ bS el true _ ?_ ?_ ?_ ?_ p0.out).mono ?_); exact (Z7 aI); exact (Kd.R_reads' aI.out).2.1; exact (Z7 aN); exact (Kd.R_reads' aN.out).2.1; rintro e HV ⟨rfl, hb⟩; refine k24_ (Ya_ aC) (Ya_ aA) (Ya_ aE) (Ya_ aQ) (Ya_ aI) (Ya_ aN) (Ya_ aT) (Ya_ aU) (Ya_ aW) (Ya_ aZ) (Ya_ aV) (Ya_ bf) (Ya_ ba) (Ya_ bc) (Ye_ am) (Ye_ ak) (Ye_ al) (Ye_ aq) (Ye_ ao) (Ye_ ap) (Ye_ ar) (Ye_ av) (Ye_ aw) (below_step (Z4) hb) ?_; clear aC aA aE aQ aI aN aT aU aW aZ aV bf ba bc am ak al aq ao ap ar av aw HB; intro aC aA aE aQ aI aN aT aU aW aZ aV bf ba bc am ak al aq ao ap ar av aw HB; (try clear hb); obtain ⟨Ao299, co299, eo299⟩ := Kd.R_slice aU.out; subst eo299; obtain ⟨Ao300, co300, eo300⟩ := Kd.R_slice aW.out; subst eo300)
        by_cases c188 : Ay = true
        ·subst c188
         rw [if_pos rfl] at H
         by_cases c189 : (iP != rG) = true
         ·rw [if_pos c189] at H
          have c189b0 : (iP != rG) = true := c189
          (try (have c189b1 : decide (iP = rG) = false := by simpa using c189))
          (try (have c189b2 : (iP == rG) = false := by simpa using c189))
          (try (have c189b3 : ¬ (iP = rG) := by simpa using c189))
          clear c189
          have H' := Aside0.mk H
          clear H
          as_aux_lemma =>
           go_wp2_with (go_at_call 39; (with_reducible refine (laws_qSheet.calls k _ _ rC _ _ rE true _ ?_ ?_ ?_ ?_ tH.out).mono ?_); exact (Z7 aU); exact (Kd.R_reads' aU.out).2.1; exact (Z7 aW); exact (Kd.R_reads' aW.out).2.1; rintro e w' ⟨rfl, ⟨nd, rfl⟩⟩)
           all_goals (try (rename_i hq_ hr_; cases hq_; done))
           all_goals ((refine Met.intro ?_; go_step; (repeat (first | apply ex_32 | apply ex_8 | apply Exists.intro)); refine ⟨?rel, rfl⟩); case rel => exact ⟨_, (true), (Z41), H', ⟨Z168⟩, ⟨Z47 aV⟩, ⟨Z45⟩, ⟨Z6 aC⟩, ⟨Z6 aA⟩, ⟨Z6 aE⟩, ⟨Z6 aQ⟩, ⟨Z6 aI⟩, ⟨Z6 aN⟩, ⟨Z6 aT⟩, ⟨Z25 ba⟩, ⟨Z25 bc⟩, ⟨Z1 am⟩, ⟨Z1 ak⟩, ⟨Z1 al⟩, ⟨Z1 aq⟩, ⟨Z1 ao⟩, ⟨Z1 ap⟩, ⟨Z1 ar⟩, ⟨Z1 av⟩, ⟨Z1 aw⟩, ⟨Z4⟩⟩)
         rw [if_neg c189] at H
         have c189b0 : (iP != rG) = false := by simpa using c189
         (try (have c189b1 : decide (iP = rG) = true := by simpa using c189))
         (try (have c189b2 : (iP == rG) = true := by simpa using c189))
         clear c189
         obtain ⟨Az, yf, H⟩ := bd_ H
         (try dsimp only at H)
         go_wp2_with (go_at_call 39; (with_reducible refine (laws_qSheet.calls k _ _ rC _ _ rE true _ ?_ ?_ ?_ ?_ tH.out).mono ?_); exact (Z7 aU); exact (Kd.R_reads' aU.out).2.1; exact (Z7 aW); exact (Kd.R_reads' aW.out).2.1; rintro e w' ⟨rfl, ⟨nd, rfl⟩⟩; obtain ⟨Ao301, co301, eo301⟩ := Kd.R_slice aZ.out; subst eo301; obtain ⟨Ao302, co302, eo302⟩ := Kd.R_slice aV.out; subst eo302)
         by_cases c225 : Az = true
         ·subst c225
          rw [if_pos rfl] at H
          by_cases c226 : (pY != rH) = true
          ·rw [if_pos c226] at H
           have AO : (pY != rH) = true := c226
           (try (have AP : decide (pY = rH) = false := by simpa using c226))
           (try (have AQ : (pY == rH) = false := by simpa using c226))
           (try (have c226b3 : ¬ (pY = rH) := by simpa using c226))
           clear c226
           have H' := Aside0.mk H
           clear H
           as_aux_lemma =>
            go_wp2_with (go_at_call 40; (with_reducible refine (laws_qInts.calls k _ _ vC _ _ fb true _ ?_ ?_ ?_ ?_ yf.out).mono ?_); exact (Z7 aZ); exact (Kd.R_reads' aZ.out).2.1; exact (Z7 aV); exact (Kd.R_reads' aV.out).2.1; rintro e w' ⟨rfl, ⟨nd, rfl⟩⟩)
            all_goals (try (rename_i hq_ hr_; cases hq_; done))
            all_goals ((refine Met.intro ?_; go_step; (repeat (first | apply ex_32 | apply ex_8 | apply Exists.intro)); refine ⟨?rel, rfl⟩); case rel => exact ⟨_, (true), (Z41), H', ⟨Z168⟩, ⟨Z47 aV⟩, ⟨Z45⟩, ⟨Z6 aC⟩, ⟨Z6 aA⟩, ⟨Z6 aE⟩, ⟨Z6 aQ⟩, ⟨Z6 aI⟩, ⟨Z6 aN⟩, ⟨Z6 aT⟩, ⟨Z25 ba⟩, ⟨Z25 bc⟩, ⟨Z1 am⟩, ⟨Z1 ak⟩, ⟨Z1 al⟩, ⟨Z1 aq⟩, ⟨Z1 ao⟩, ⟨Z1 ap⟩, ⟨Z1 ar⟩, ⟨Z1 av⟩, ⟨Z1 aw⟩, ⟨Z4⟩⟩)
          rw [if_neg c226] at H
          have AO : (pY != rH) = false := by simpa using c226
          (try (have AP : decide (pY = rH) = true := by simpa using c226))
          (try (have AQ : (pY == rH) = true := by simpa using c226))
          clear c226
          obtain ⟨AA, CI, H⟩ := bd_ H
          (try dsimp only at H)
          go_wp2_with (go_at_call 40; (with_reducible refine (laws_qInts.calls k _ _ vC _ _ fb true _ ?_ ?_ ?_ ?_ yf.out).mono ?_); exact (Z7 aZ); exact (Kd.R_reads' aZ.out).2.1; exact (Z7 aV); exact (Kd.R_reads' aV.out).2.1; rintro e w' ⟨rfl, ⟨nd, rfl⟩⟩; have hnb303 := dY.out; have hnc303 := dO.out; have hnb304 := dP.out; have hnc304 := dJ.out; have hnb305 := dQ.out; have hnc305 := dK.out; have hnb306 := b9.out; have hnc306 := eH.out; obtain ⟨hcz307_0, hcz307_1, hfz307_0, hfz307_1⟩ := bx2_ (w := HV) av.out; have hnb308 := fR.out; have hnc308 := cW.out; have hnb309 := fC.out; have hnc309 := cJ.out; have hnb310 := fD.out; have hnc310 := cK.out; obtain ⟨hcz311_0, hcz311_1, hfz311_0, hfz311_1⟩ := bx2_ (w := HV) aw.out)
          by_cases c264 : AA = true
          ·subst c264
           rw [if_pos rfl] at H
           obtain ⟨mI, F7, H⟩ := bd_ H
           (try dsimp only at H)
           go_wp2_with (go_at_call 38; (with_reducible refine (laws_qJob.calls k _ _ bB dC _ _ co e8 true _ ?_ ?_ ?_ ?_ CI.out).mono ?_); exact (Z7 ba); exact (Kd.R_reads' ba.out).2.1; exact (Z7 bc); exact (Kd.R_reads' bc.out).2.1; rintro e w312 ⟨rfl, hb⟩; refine k24_ (Ya_ aC) (Ya_ aA) (Ya_ aE) (Ya_ aQ) (Ya_ aI) (Ya_ aN) (Ya_ aT) (Ya_ aU) (Ya_ aW) (Ya_ aZ) (Ya_ aV) (Ya_ bf) (Ya_ ba) (Ya_ bc) (Yq_ am hb) (Yq_ ak hb) (Yq_ al hb) (Yq_ aq hb) (Yq_ ao hb) (Yq_ ap hb) (Yq_ ar hb) (Yq_ av hb) (Yq_ aw hb) (below_step (Z4) hb) ?_; clear aC aA aE aQ aI aN aT aU aW aZ aV bf ba bc am ak al aq ao ap ar av aw HB; intro aC aA aE aQ aI aN aT aU aW aZ aV bf ba bc am ak al aq ao ap ar av aw HB; (try clear hb); have hnb313 := eO.out; have hnc313 := eF.out; have hnb314 := eG.out; have hnc314 := ew.out; obtain ⟨hcz315_0, hcz315_1, hfz315_0, hfz315_1⟩ := bx2_ (w := w312) ar.out)
           by_cases c266 : (mI != iP) = true
           ·rw [if_pos c266] at H
            have AR : (mI != iP) = true := c266
            (try (have AS : decide (mI = iP) = false := by simpa using c266))
            (try (have AT : (mI == iP) = false := by simpa using c266))
            (try (have c266b3 : ¬ (mI = iP) := by simpa using c266))
            clear c266
            have H' := Aside0.mk H
            clear H
            as_aux_lemma =>
             go_wp2_with (go_at_call 41; (with_reducible refine (impl_IsPunchJob.calls k _ _ bE em mI _ ?_ ?_ F7.out).mono ?_); exact (Z7 aT); exact (Kd.R_reads' aT.out).2.1; rintro e w316 ⟨rfl, hb⟩; refine k24_ (Ya_ aC) (Ya_ aA) (Ya_ aE) (Ya_ aQ) (Ya_ aI) (Ya_ aN) (Ya_ aT) (Ya_ aU) (Ya_ aW) (Ya_ aZ) (Ya_ aV) (Ya_ bf) (Ya_ ba) (Ya_ bc) (Ye_ am) (Ye_ ak) (Ye_ al) (Ye_ aq) (Ye_ ao) (Ye_ ap) (Ye_ ar) (Ye_ av) (Ye_ aw) (below_step (Z4) hb) ?_; clear aC aA aE aQ aI aN aT aU aW aZ aV bf ba bc am ak al aq ao ap ar av aw HB; intro aC aA aE aQ aI aN aT aU aW aZ aV bf ba bc am ak al aq ao ap ar av aw HB; (try clear hb))
             all_goals (try (rename_i hq_ hr_; cases hq_; done))
             all_goals ((refine Met.intro ?_; go_step; (repeat (first | apply ex_32 | apply ex_8 | apply Exists.intro)); refine ⟨?rel, rfl⟩); case rel => exact ⟨_, (true), (Z41), H', ⟨Z168⟩, ⟨Z47 aV⟩, ⟨Z45⟩, ⟨Z6 aC⟩, ⟨Z6 aA⟩, ⟨Z6 aE⟩, ⟨Z6 aQ⟩, ⟨Z6 aI⟩, ⟨Z6 aN⟩, ⟨Z6 aT⟩, ⟨Z25 ba⟩, ⟨Z25 bc⟩, ⟨Z1 am⟩, ⟨Z1 ak⟩, ⟨Z1 al⟩, ⟨Z1 aq⟩, ⟨Z1 ao⟩, ⟨Z1 ap⟩, ⟨Z1 ar⟩, ⟨Z1 av⟩, ⟨Z1 aw⟩, ⟨Z4⟩⟩)
           rw [if_neg c266] at H
           have AR : (mI != iP) = false := by simpa using c266
           (try (have AS : decide (mI = iP) = true := by simpa using c266))
           (try (have AT : (mI == iP) = true := by simpa using c266))
           clear c266
           by_cases c317 : l7 = true
           ·subst c317
            rw [if_pos rfl] at H
            have H' := Aside0.mk H
            clear H
            as_aux_lemma =>
             go_wp2_with (go_at_call 41; (with_reducible refine (impl_IsPunchJob.calls k _ _ bE em mI _ ?_ ?_ F7.out).mono ?_); exact (Z7 aT); exact (Kd.R_reads' aT.out).2.1; rintro e w367 ⟨rfl, hb⟩; refine k24_ (Ya_ aC) (Ya_ aA) (Ya_ aE) (Ya_ aQ) (Ya_ aI) (Ya_ aN) (Ya_ aT) (Ya_ aU) (Ya_ aW) (Ya_ aZ) (Ya_ aV) (Ya_ bf) (Ya_ ba) (Ya_ bc) (Ye_ am) (Ye_ ak) (Ye_ al) (Ye_ aq) (Ye_ ao) (Ye_ ap) (Ye_ ar) (Ye_ av) (Ye_ aw) (below_step (Z4) hb) ?_; clear aC aA aE aQ aI aN aT aU aW aZ aV bf ba bc am ak al aq ao ap ar av aw HB; intro aC aA aE aQ aI aN aT aU aW aZ aV bf ba bc am ak al aq ao ap ar av aw HB; (try clear hb))
             all_goals (try (rename_i hq_ hr_; cases hq_; done))
             all_goals ((refine Met.intro ?_; go_step; (repeat (first | apply ex_32 | apply ex_8 | apply Exists.intro)); refine ⟨?rel, rfl⟩); case rel => exact ⟨_, (!qz), (Z41), H', ⟨Z168⟩, ⟨Z47 aV⟩, ⟨Z45⟩, ⟨Z6 aC⟩, ⟨Z6 aA⟩, ⟨Z6 aE⟩, ⟨Z6 aQ⟩, ⟨Z6 aI⟩, ⟨Z6 aN⟩, ⟨Z6 aT⟩, ⟨Z25 ba⟩, ⟨Z25 bc⟩, ⟨Z1 am⟩, ⟨Z1 ak⟩, ⟨Z1 al⟩, ⟨Z1 aq⟩, ⟨Z1 ao⟩, ⟨Z1 ap⟩, ⟨Z1 ar⟩, ⟨Z1 av⟩, ⟨Z1 aw⟩, ⟨Z4⟩⟩)
           replace c317 := Bool.eq_false_iff.mpr c317
           subst c317
           rw [if_neg (show ¬ (false = true) by decide)] at H
           have H' := Aside0.mk H
           clear H
           as_aux_lemma =>
            go_wp2_with (go_at_call 41; (with_reducible refine (impl_IsPunchJob.calls k _ _ bE em mI _ ?_ ?_ F7.out).mono ?_); exact (Z7 aT); exact (Kd.R_reads' aT.out).2.1; rintro e w417 ⟨rfl, hb⟩; refine k24_ (Ya_ aC) (Ya_ aA) (Ya_ aE) (Ya_ aQ) (Ya_ aI) (Ya_ aN) (Ya_ aT) (Ya_ aU) (Ya_ aW) (Ya_ aZ) (Ya_ aV) (Ya_ bf) (Ya_ ba) (Ya_ bc) (Ye_ am) (Ye_ ak) (Ye_ al) (Ye_ aq) (Ye_ ao) (Ye_ ap) (Ye_ ar) (Ye_ av) (Ye_ aw) (below_step (Z4) hb) ?_; clear aC aA aE aQ aI aN aT aU aW aZ aV bf ba bc am ak al aq ao ap ar av aw HB; intro aC aA aE aQ aI aN aT aU aW aZ aV bf ba bc am ak al aq ao ap ar av aw HB; (try clear hb))
            all_goals (try (rename_i hq_ hr_; cases hq_; done))
            all_goals ((refine Met.intro ?_; go_step; (repeat (first | apply ex_32 | apply ex_8 | apply Exists.intro)); refine ⟨?rel, rfl⟩); case rel => exact ⟨_, (false), (Z41), H', ⟨Z168⟩, ⟨Z47 aV⟩, ⟨Z45⟩, ⟨Z6 aC⟩, ⟨Z6 aA⟩, ⟨Z6 aE⟩, ⟨Z6 aQ⟩, ⟨Z6 aI⟩, ⟨Z6 aN⟩, ⟨Z6 aT⟩, ⟨Z25 ba⟩, ⟨Z25 bc⟩, ⟨Z1 am⟩, ⟨Z1 ak⟩, ⟨Z1 al⟩, ⟨Z1 aq⟩, ⟨Z1 ao⟩, ⟨Z1 ap⟩, ⟨Z1 ar⟩, ⟨Z1 av⟩, ⟨Z1 aw⟩, ⟨Z4⟩⟩)
          replace c264 := Bool.eq_false_iff.mpr c264
          subst c264
          rw [if_neg (show ¬ (false = true) by decide)] at H
          have H' := Aside0.mk H
          clear H
          as_aux_lemma =>
           go_wp2_with (go_at_call 38; (with_reducible refine (laws_qJob.calls k _ _ bB dC _ _ co e8 false _ ?_ ?_ ?_ ?_ CI.out).mono ?_); exact (Z7 ba); exact (Kd.R_reads' ba.out).2.1; exact (Z7 bc); exact (Kd.R_reads' bc.out).2.1; rintro e w463 ⟨rfl, hb⟩; refine k24_ (Ya_ aC) (Ya_ aA) (Ya_ aE) (Ya_ aQ) (Ya_ aI) (Ya_ aN) (Ya_ aT) (Ya_ aU) (Ya_ aW) (Ya_ aZ) (Ya_ aV) (Ya_ bf) (Ya_ ba) (Ya_ bc) (Yq_ am hb) (Yq_ ak hb) (Yq_ al hb) (Yq_ aq hb) (Yq_ ao hb) (Yq_ ap hb) (Yq_ ar hb) (Yq_ av hb) (Yq_ aw hb) (below_step (Z4) hb) ?_; clear aC aA aE aQ aI aN aT aU aW aZ aV bf ba bc am ak al aq ao ap ar av aw HB; intro aC aA aE aQ aI aN aT aU aW aZ aV bf ba bc am ak al aq ao ap ar av aw HB; (try clear hb))
           all_goals (try (rename_i hq_ hr_; cases hq_; done))
           all_goals ((refine Met.intro ?_; go_step; (repeat (first | apply ex_32 | apply ex_8 | apply Exists.intro)); refine ⟨?rel, rfl⟩); case rel => exact ⟨_, (true), (Z41), H', ⟨Z168⟩, ⟨Z47 aV⟩, ⟨Z45⟩, ⟨Z6 aC⟩, ⟨Z6 aA⟩, ⟨Z6 aE⟩, ⟨Z6 aQ⟩, ⟨Z6 aI⟩, ⟨Z6 aN⟩, ⟨Z6 aT⟩, ⟨Z25 ba⟩, ⟨Z25 bc⟩, ⟨Z1 am⟩, ⟨Z1 ak⟩, ⟨Z1 al⟩, ⟨Z1 aq⟩, ⟨Z1 ao⟩, ⟨Z1 ap⟩, ⟨Z1 ar⟩, ⟨Z1 av⟩, ⟨Z1 aw⟩, ⟨Z4⟩⟩)
         replace c225 := Bool.eq_false_iff.mpr c225
         subst c225
         rw [if_neg (show ¬ (false = true) by decide)] at H
         have H' := Aside0.mk H
         clear H
         as_aux_lemma =>
          go_wp2_with (go_at_call 40; (with_reducible refine (laws_qInts.calls k _ _ vC _ _ fb false _ ?_ ?_ ?_ ?_ yf.out).mono ?_); exact (Z7 aZ); exact (Kd.R_reads' aZ.out).2.1; exact (Z7 aV); exact (Kd.R_reads' aV.out).2.1; rintro e w' ⟨rfl, ⟨nd, rfl⟩⟩)
          all_goals (try (rename_i hq_ hr_; cases hq_; done))
          all_goals ((refine Met.intro ?_; go_step; (repeat (first | apply ex_32 | apply ex_8 | apply Exists.intro)); refine ⟨?rel, rfl⟩); case rel => exact ⟨_, (true), (Z41), H', ⟨Z168⟩, ⟨Z47 aV⟩, ⟨Z45⟩, ⟨Z6 aC⟩, ⟨Z6 aA⟩, ⟨Z6 aE⟩, ⟨Z6 aQ⟩, ⟨Z6 aI⟩, ⟨Z6 aN⟩, ⟨Z6 aT⟩, ⟨Z25 ba⟩, ⟨Z25 bc⟩, ⟨Z1 am⟩, ⟨Z1 ak⟩, ⟨Z1 al⟩, ⟨Z1 aq⟩, ⟨Z1 ao⟩, ⟨Z1 ap⟩, ⟨Z1 ar⟩, ⟨Z1 av⟩, ⟨Z1 aw⟩, ⟨Z4⟩⟩)
        replace c188 := Bool.eq_false_iff.mpr c188
        subst c188
        rw [if_neg (show ¬ (false = true) by decide)] at H
        have H' := Aside0.mk H
        clear H
        as_aux_lemma =>
         go_wp2_with (go_at_call 39; (with_reducible refine (laws_qSheet.calls k _ _ rC _ _ rE false _ ?_ ?_ ?_ ?_ tH.out).mono ?_); exact (Z7 aU); exact (Kd.R_reads' aU.out).2.1; exact (Z7 aW); exact (Kd.R_reads' aW.out).2.1; rintro e w' ⟨rfl, ⟨nd, rfl⟩⟩)
         all_goals (try (rename_i hq_ hr_; cases hq_; done))
         all_goals ((refine Met.intro ?_; go_step; (repeat (first | apply ex_32 | apply ex_8 | apply Exists.intro)); refine ⟨?rel, rfl⟩); case rel => exact ⟨_, (true), (Z41), H', ⟨Z168⟩, ⟨Z47 aV⟩, ⟨Z45⟩, ⟨Z6 aC⟩, ⟨Z6 aA⟩, ⟨Z6 aE⟩, ⟨Z6 aQ⟩, ⟨Z6 aI⟩, ⟨Z6 aN⟩, ⟨Z6 aT⟩, ⟨Z25 ba⟩, ⟨Z25 bc⟩, ⟨Z1 am⟩, ⟨Z1 ak⟩, ⟨Z1 al⟩, ⟨Z1 aq⟩, ⟨Z1 ao⟩, ⟨Z1 ap⟩, ⟨Z1 ar⟩, ⟨Z1 av⟩, ⟨Z1 aw⟩, ⟨Z4⟩⟩)
       rw [if_neg c153] at H
       have AM : (ye == jB) = false := beq_eq_false_iff_ne.mpr c153
       have AN : (ye != jB) = true := bne_iff_ne.mpr c153
       have H' := Aside0.mk H
       clear H
       as_aux_lemma =>
        go_wp2_with (go_at_call 38; (with_reducible refine (laws_qJob.calls k _ _ bO eD _ _ bS el true _ ?_ ?_ ?_ ?_ p0.out).mono ?_); exact (Z7 aI); exact (Kd.R_reads' aI.out).2.1; exact (Z7 aN); exact (Kd.R_reads' aN.out).2.1; rintro e w565 ⟨rfl, hb⟩; refine k24_ (Ya_ aC) (Ya_ aA) (Ya_ aE) (Ya_ aQ) (Ya_ aI) (Ya_ aN) (Ya_ aT) (Ya_ aU) (Ya_ aW) (Ya_ aZ) (Ya_ aV) (Ya_ bf) (Ya_ ba) (Ya_ bc) (Ye_ am) (Ye_ ak) (Ye_ al) (Ye_ aq) (Ye_ ao) (Ye_ ap) (Ye_ ar) (Ye_ av) (Ye_ aw) (below_step (Z4) hb) ?_; clear aC aA aE aQ aI aN aT aU aW aZ aV bf ba bc am ak al aq ao ap ar av aw HB; intro aC aA aE aQ aI aN aT aU aW aZ aV bf ba bc am ak al aq ao ap ar av aw HB; (try clear hb))
        all_goals (try (rename_i hq_ hr_; cases hq_; done))
        all_goals ((refine Met.intro ?_; go_step; (repeat (first | apply ex_32 | apply ex_8 | apply Exists.intro)); refine ⟨?rel, rfl⟩); case rel => exact ⟨_, (true), (Z41), H', ⟨Z168⟩, ⟨Z47 aV⟩, ⟨Z45⟩, ⟨Z6 aC⟩, ⟨Z6 aA⟩, ⟨Z6 aE⟩, ⟨Z6 aQ⟩, ⟨Z6 aI⟩, ⟨Z6 aN⟩, ⟨Z6 aT⟩, ⟨Z25 ba⟩, ⟨Z25 bc⟩, ⟨Z1 am⟩, ⟨Z1 ak⟩, ⟨Z1 al⟩, ⟨Z1 aq⟩, ⟨Z1 ao⟩, ⟨Z1 ap⟩, ⟨Z1 ar⟩, ⟨Z1 av⟩, ⟨Z1 aw⟩, ⟨Z4⟩⟩)
      replace c152 := Bool.eq_false_iff.mpr c152
      subst c152
      rw [if_neg (show ¬ (false = true) by decide)] at H
      have H' := Aside0.mk H
      clear H
      as_aux_lemma =>
       go_wp2_with (go_at_call 38; (with_reducible refine (laws_qJob.calls k _ _ bO eD _ _ bS el false _ ?_ ?_ ?_ ?_ p0.out).mono ?_); exact (Z7 aI); exact (Kd.R_reads' aI.out).2.1; exact (Z7 aN); exact (Kd.R_reads' aN.out).2.1; rintro e w597 ⟨rfl, hb⟩; refine k24_ (Ya_ aC) (Ya_ aA) (Ya_ aE) (Ya_ aQ) (Ya_ aI) (Ya_ aN) (Ya_ aT) (Ya_ aU) (Ya_ aW) (Ya_ aZ) (Ya_ aV) (Ya_ bf) (Ya_ ba) (Ya_ bc) (Ye_ am) (Ye_ ak) (Ye_ al) (Ye_ aq) (Ye_ ao) (Ye_ ap) (Ye_ ar) (Ye_ av) (Ye_ aw) (below_step (Z4) hb) ?_; clear aC aA aE aQ aI aN aT aU aW aZ aV bf ba bc am ak al aq ao ap ar av aw HB; intro aC aA aE aQ aI aN aT aU aW aZ aV bf ba bc am ak al aq ao ap ar av aw HB; (try clear hb))
       all_goals (try (rename_i hq_ hr_; cases hq_; done))
       all_goals ((refine Met.intro ?_; go_step; (repeat (first | apply ex_32 | apply ex_8 | apply Exists.intro)); refine ⟨?rel, rfl⟩); case rel => exact ⟨_, (true), (Z41), H', ⟨Z168⟩, ⟨Z47 aV⟩, ⟨Z45⟩, ⟨Z6 aC⟩, ⟨Z6 aA⟩, ⟨Z6 aE⟩, ⟨Z6 aQ⟩, ⟨Z6 aI⟩, ⟨Z6 aN⟩, ⟨Z6 aT⟩, ⟨Z25 ba⟩, ⟨Z25 bc⟩, ⟨Z1 am⟩, ⟨Z1 ak⟩, ⟨Z1 al⟩, ⟨Z1 aq⟩, ⟨Z1 ao⟩, ⟨Z1 ap⟩, ⟨Z1 ar⟩, ⟨Z1 av⟩, ⟨Z1 aw⟩, ⟨Z4⟩⟩)
     rw [if_neg c131] at H
     have AK : (yd == l8) = false := beq_eq_false_iff_ne.mpr c131
     have AL : (yd != l8) = true := bne_iff_ne.mpr c131
     have H' := Aside0.mk H
     clear H
     obtain ⟨hcz606_0, hcz606_1, hfz606_0, hfz606_1⟩ := bx2_ (w := l9) ak.out
     obtain ⟨hcz614_0, hcz614_1, hfz614_0, hfz614_1⟩ := bx2_ (w := l9) al.out
     as_aux_lemma =>
      go_wp2_with (go_at_call 38; (with_reducible refine (laws_qJob.calls k _ _ bw dq _ _ bF dL true _ ?_ ?_ ?_ ?_ ma.out).mono ?_); exact Z16; exact (Kd.R_reads' aA.out).2.1; exact Z17; exact (Kd.R_reads' aE.out).2.1; rintro e w615 ⟨rfl, hb⟩; refine k24_ (Kd.R_below (Z3 aC) hb) (Kd.R_below (Z3 aA) hb) (Kd.R_below (Z3 aE) hb) (Kd.R_below (Z3 aQ) hb) (Kd.R_below (Z3 aI) hb) (Kd.R_below (Z3 aN) hb) (Kd.R_below (Z3 aT) hb) (Kd.R_below (Z3 aU) hb) (Kd.R_below (Z3 aW) hb) (Kd.R_below (Z3 aZ) hb) (Kd.R_below (Z3 aV) hb) (Kd.R_below (Z3 bf) hb) (Kd.R_below (Z3 ba) hb) (Kd.R_below (Z3 bc) hb) (blk_below (g := bQ) (o := .cells #[.slice ca bG.length bV, .int .i64 dZ] 44 (0, 0)) (Z12 cW) hb) (blk_below (g := bR) (o := .cells #[.slice bN bw.length bL, .int .i64 dq] 44 (0, 0)) (Z13 bv) hb) (blk_below (g := bU) (o := .cells #[.slice cx bF.length cu, .int .i64 dL] 44 (0, 0)) (Z18 bC) hb) (blk_below (g := bW) (o := .cells #[.slice cw bX.length cp, .int .i64 eJ] 44 (0, 0)) (Z19 cJ) hb) (blk_below (g := bZ) (o := .cells #[.slice cA bO.length cz, .int .i64 eD] 44 (0, 0)) (Z20 ci) hb) (blk_below (g := cb) (o := .cells #[.slice cB bS.length cC, .int .i64 el] 44 (0, 0)) (Z22 bK) hb) (blk_below (g := cd) (o := .cells #[.slice cy bE.length cv, .int .i64 em] 44 (0, 0)) (Z23 cK) hb) (blk_below (g := ck) (o := .cells #[.slice b3 bB.length b4, .int .i64 dC] 44 (0, 0)) (Z24 b9) hb) (blk_below (g := bP) (o := .cells #[.slice cN co.length cO, .int .i64 e8] 44 (0, 0)) (Z37) hb) (below_step (Z4) hb) ?_; clear aC aA aE aQ aI aN aT aU aW aZ aV bf ba bc am ak al aq ao ap ar av aw HB; intro aC aA aE aQ aI aN aT aU aW aZ aV bf ba bc am ak al aq ao ap ar av aw HB; (try clear hb))
      all_goals (try (rename_i hq_ hr_; cases hq_; done))
      all_goals ((refine Met.intro ?_; go_step; (repeat (first | apply ex_32 | apply ex_8 | apply Exists.intro)); refine ⟨?rel, rfl⟩); case rel => exact ⟨_, (true), (Z41), H', ⟨Z168⟩, ⟨Z47 aV⟩, ⟨Z45⟩, ⟨Z6 aC⟩, ⟨Z6 aA⟩, ⟨Z6 aE⟩, ⟨Z6 aQ⟩, ⟨Z6 aI⟩, ⟨Z6 aN⟩, ⟨Z6 aT⟩, ⟨Z25 ba⟩, ⟨Z25 bc⟩, ⟨Z1 am⟩, ⟨Z1 ak⟩, ⟨Z1 al⟩, ⟨Z1 aq⟩, ⟨Z1 ao⟩, ⟨Z1 ap⟩, ⟨Z1 ar⟩, ⟨Z1 av⟩, ⟨Z1 aw⟩, ⟨Z4⟩⟩)
    rw [if_neg c111] at H
    have AH : (yc == fQ) = false := beq_eq_false_iff_ne.mpr c111
    have AJ : (yc != fQ) = true := bne_iff_ne.mpr c111
    have H' := Aside0.mk H
    clear H
    obtain ⟨hcz624_0, hcz624_1, hfz624_0, hfz624_1⟩ := bx2_ (w := l9) ak.out
    obtain ⟨hcz632_0, hcz632_1, hfz632_0, hfz632_1⟩ := bx2_ (w := l9) al.out
    as_aux_lemma =>
     go_wp2_with (go_at_call 38; (with_reducible refine (laws_qJob.calls k _ _ bw dq _ _ bF dL true _ ?_ ?_ ?_ ?_ ma.out).mono ?_); exact Z16; exact (Kd.R_reads' aA.out).2.1; exact Z17; exact (Kd.R_reads' aE.out).2.1; rintro e w633 ⟨rfl, hb⟩; refine k24_ (Kd.R_below (Z3 aC) hb) (Kd.R_below (Z3 aA) hb) (Kd.R_below (Z3 aE) hb) (Kd.R_below (Z3 aQ) hb) (Kd.R_below (Z3 aI) hb) (Kd.R_below (Z3 aN) hb) (Kd.R_below (Z3 aT) hb) (Kd.R_below (Z3 aU) hb) (Kd.R_below (Z3 aW) hb) (Kd.R_below (Z3 aZ) hb) (Kd.R_below (Z3 aV) hb) (Kd.R_below (Z3 bf) hb) (Kd.R_below (Z3 ba) hb) (Kd.R_below (Z3 bc) hb) (blk_below (g := bQ) (o := .cells #[.slice ca bG.length bV, .int .i64 dZ] 44 (0, 0)) (Z12 cW) hb) (blk_below (g := bR) (o := .cells #[.slice bN bw.length bL, .int .i64 dq] 44 (0, 0)) (Z13 bv) hb) (blk_below (g := bU) (o := .cells #[.slice cx bF.length cu, .int .i64 dL] 44 (0, 0)) (Z18 bC) hb) (blk_below (g := bW) (o := .cells #[.slice cw bX.length cp, .int .i64 eJ] 44 (0, 0)) (Z19 cJ) hb) (blk_below (g := bZ) (o := .cells #[.slice cA bO.length cz, .int .i64 eD] 44 (0, 0)) (Z20 ci) hb) (blk_below (g := cb) (o := .cells #[.slice cB bS.length cC, .int .i64 el] 44 (0, 0)) (Z22 bK) hb) (blk_below (g := cd) (o := .cells #[.slice cy bE.length cv, .int .i64 em] 44 (0, 0)) (Z23 cK) hb) (blk_below (g := ck) (o := .cells #[.slice b3 bB.length b4, .int .i64 dC] 44 (0, 0)) (Z24 b9) hb) (blk_below (g := bP) (o := .cells #[.slice cN co.length cO, .int .i64 e8] 44 (0, 0)) (Z37) hb) (below_step (Z4) hb) ?_; clear aC aA aE aQ aI aN aT aU aW aZ aV bf ba bc am ak al aq ao ap ar av aw HB; intro aC aA aE aQ aI aN aT aU aW aZ aV bf ba bc am ak al aq ao ap ar av aw HB; (try clear hb))
     all_goals (try (rename_i hq_ hr_; cases hq_; done))
     all_goals ((refine Met.intro ?_; go_step; (repeat (first | apply ex_32 | apply ex_8 | apply Exists.intro)); refine ⟨?rel, rfl⟩); case rel => exact ⟨_, (true), (Z41), H', ⟨Z168⟩, ⟨Z47 aV⟩, ⟨Z45⟩, ⟨Z6 aC⟩, ⟨Z6 aA⟩, ⟨Z6 aE⟩, ⟨Z6 aQ⟩, ⟨Z6 aI⟩, ⟨Z6 aN⟩, ⟨Z6 aT⟩, ⟨Z25 ba⟩, ⟨Z25 bc⟩, ⟨Z1 am⟩, ⟨Z1 ak⟩, ⟨Z1 al⟩, ⟨Z1 aq⟩, ⟨Z1 ao⟩, ⟨Z1 ap⟩, ⟨Z1 ar⟩, ⟨Z1 av⟩, ⟨Z1 aw⟩, ⟨Z4⟩⟩)
   replace c110 := Bool.eq_false_iff.mpr c110
   subst c110
   rw [if_neg (show ¬ (false = true) by decide)] at H
   have H' := Aside0.mk H
   clear H
   obtain ⟨hcz642_0, hcz642_1, hfz642_0, hfz642_1⟩ := bx2_ (w := l9) ak.out
   obtain ⟨hcz650_0, hcz650_1, hfz650_0, hfz650_1⟩ := bx2_ (w := l9) al.out
   as_aux_lemma =>
    go_wp2_with (go_at_call 38; (with_reducible refine (laws_qJob.calls k _ _ bw dq _ _ bF dL false _ ?_ ?_ ?_ ?_ ma.out).mono ?_); exact Z16; exact (Kd.R_reads' aA.out).2.1; exact Z17; exact (Kd.R_reads' aE.out).2.1; rintro e w651 ⟨rfl, hb⟩; refine k24_ (Kd.R_below (Z3 aC) hb) (Kd.R_below (Z3 aA) hb) (Kd.R_below (Z3 aE) hb) (Kd.R_below (Z3 aQ) hb) (Kd.R_below (Z3 aI) hb) (Kd.R_below (Z3 aN) hb) (Kd.R_below (Z3 aT) hb) (Kd.R_below (Z3 aU) hb) (Kd.R_below (Z3 aW) hb) (Kd.R_below (Z3 aZ) hb) (Kd.R_below (Z3 aV) hb) (Kd.R_below (Z3 bf) hb) (Kd.R_below (Z3 ba) hb) (Kd.R_below (Z3 bc) hb) (blk_below (g := bQ) (o := .cells #[.slice ca bG.length bV, .int .i64 dZ] 44 (0, 0)) (Z12 cW) hb) (blk_below (g := bR) (o := .cells #[.slice bN bw.length bL, .int .i64 dq] 44 (0, 0)) (Z13 bv) hb) (blk_below (g := bU) (o := .cells #[.slice cx bF.length cu, .int .i64 dL] 44 (0, 0)) (Z18 bC) hb) (blk_below (g := bW) (o := .cells #[.slice cw bX.length cp, .int .i64 eJ] 44 (0, 0)) (Z19 cJ) hb) (blk_below (g := bZ) (o := .cells #[.slice cA bO.length cz, .int .i64 eD] 44 (0, 0)) (Z20 ci) hb) (blk_below (g := cb) (o := .cells #[.slice cB bS.length cC, .int .i64 el] 44 (0, 0)) (Z22 bK) hb) (blk_below (g := cd) (o := .cells #[.slice cy bE.length cv, .int .i64 em] 44 (0, 0)) (Z23 cK) hb) (blk_below (g := ck) (o := .cells #[.slice b3 bB.length b4, .int .i64 dC] 44 (0, 0)) (Z24 b9) hb) (blk_below (g := bP) (o := .cells #[.slice cN co.length cO, .int .i64 e8] 44 (0, 0)) (Z37) hb) (below_step (Z4) hb) ?_; clear aC aA aE aQ aI aN aT aU aW aZ aV bf ba bc am ak al aq ao ap ar av aw HB; intro aC aA aE aQ aI aN aT aU aW aZ aV bf ba bc am ak al aq ao ap ar av aw HB; (try clear hb))
    all_goals (try (rename_i hq_ hr_; cases hq_; done))
    all_goals ((refine Met.intro ?_; go_step; (repeat (first | apply ex_32 | apply ex_8 | apply Exists.intro)); refine ⟨?rel, rfl⟩); case rel => exact ⟨_, (true), (Z41), H', ⟨Z168⟩, ⟨Z47 aV⟩, ⟨Z45⟩, ⟨Z6 aC⟩, ⟨Z6 aA⟩, ⟨Z6 aE⟩, ⟨Z6 aQ⟩, ⟨Z6 aI⟩, ⟨Z6 aN⟩, ⟨Z6 aT⟩, ⟨Z25 ba⟩, ⟨Z25 bc⟩, ⟨Z1 am⟩, ⟨Z1 ak⟩, ⟨Z1 al⟩, ⟨Z1 aq⟩, ⟨Z1 ao⟩, ⟨Z1 ap⟩, ⟨Z1 ar⟩, ⟨Z1 av⟩, ⟨Z1 aw⟩, ⟨Z4⟩⟩)
 case rest =>
  as_aux_lemma =>
   clear HC20
   (try clear c1); (try clear c3)
   obtain ⟨kq, o4, rfl, HA, uK, aK, ay, af, ab, ag, ah, ae, ai, ac, aa, aj, am, ak, al, aq, ao, ap, ar, av, aw, HB⟩ := hcut
   cases kq with
   | zero => exact absurd HA.out (by simp [laws_FnPunchJobs.j0])
   | succ eQ =>
    have H := HA.out
    clear HA
    simp only [laws_FnPunchJobs.j0] at H
    by_cases c652 : o4 = true
    ·subst c652
     rw [if_pos rfl] at H
     obtain rfl := Option.some.inj H
     as_aux_lemma =>
      go_wp2
      go_ret
      exact ⟨Z11, Z4⟩
    replace c652 := Bool.eq_false_iff.mpr c652
    subst c652
    rw [if_neg (show ¬ (false = true) by decide)] at H
    have HC653 := Aside0.mk H
    clear H
    go_upto_if 230 with (fail)
    go_cut [] (fun wc => ∃ (kq : Nat), Aside0 (laws_FnPunchJobs.j1 kq jS l7 fQ l8 jT oF jB iP fb bG dZ bw dq bF dL bX eJ bO eD bS el bE em = some r) ∧ Aside0 (kq ≤ eQ) ∧ Aside0 (Kd.R (Kd.int .i64) 3 wc w.heap.size (fun _ => True) F6 fb) ∧ Aside0 (Kd.R k90 90 wc w.heap.size (fun k_ => some k_ ≠ ((.slice bN bw.length bL) : Value).ownBlock ∧ some k_ ≠ ((.slice cx bF.length cu) : Value).ownBlock ∧ some k_ ≠ ((.slice cw bX.length cp) : Value).ownBlock ∧ some k_ ≠ ((.slice cA bO.length cz) : Value).ownBlock ∧ some k_ ≠ ((.slice cB bS.length cC) : Value).ownBlock ∧ some k_ ≠ ((.slice cy bE.length cv) : Value).ownBlock ∧ some k_ ≠ ((.slice b3 bB.length b4) : Value).ownBlock ∧ some k_ ≠ ((.slice cN co.length cO) : Value).ownBlock) (.slice ca bG.length bV) bG) ∧ Aside0 (Kd.R k90 90 wc w.heap.size (fun k_ => some k_ ≠ ((.slice ca bG.length bV) : Value).ownBlock ∧ some k_ ≠ ((.slice cx bF.length cu) : Value).ownBlock ∧ some k_ ≠ ((.slice cw bX.length cp) : Value).ownBlock ∧ some k_ ≠ ((.slice cA bO.length cz) : Value).ownBlock ∧ some k_ ≠ ((.slice cB bS.length cC) : Value).ownBlock ∧ some k_ ≠ ((.slice cy bE.length cv) : Value).ownBlock ∧ some k_ ≠ ((.slice b3 bB.length b4) : Value).ownBlock ∧ some k_ ≠ ((.slice cN co.length cO) : Value).ownBlock) (.slice bN bw.length bL) bw) ∧ Aside0 (Kd.R k90 90 wc w.heap.size (fun k_ => some k_ ≠ ((.slice ca bG.length bV) : Value).ownBlock ∧ some k_ ≠ ((.slice bN bw.length bL) : Value).ownBlock ∧ some k_ ≠ ((.slice cw bX.length cp) : Value).ownBlock ∧ some k_ ≠ ((.slice cA bO.length cz) : Value).ownBlock ∧ some k_ ≠ ((.slice cB bS.length cC) : Value).ownBlock ∧ some k_ ≠ ((.slice cy bE.length cv) : Value).ownBlock ∧ some k_ ≠ ((.slice b3 bB.length b4) : Value).ownBlock ∧ some k_ ≠ ((.slice cN co.length cO) : Value).ownBlock) (.slice cx bF.length cu) bF) ∧ Aside0 (Kd.R k90 90 wc w.heap.size (fun k_ => some k_ ≠ ((.slice ca bG.length bV) : Value).ownBlock ∧ some k_ ≠ ((.slice bN bw.length bL) : Value).ownBlock ∧ some k_ ≠ ((.slice cx bF.length cu) : Value).ownBlock ∧ some k_ ≠ ((.slice cA bO.length cz) : Value).ownBlock ∧ some k_ ≠ ((.slice cB bS.length cC) : Value).ownBlock ∧ some k_ ≠ ((.slice cy bE.length cv) : Value).ownBlock ∧ some k_ ≠ ((.slice b3 bB.length b4) : Value).ownBlock ∧ some k_ ≠ ((.slice cN co.length cO) : Value).ownBlock) (.slice cw bX.length cp) bX) ∧ Aside0 (Kd.R k90 90 wc w.heap.size (fun k_ => some k_ ≠ ((.slice ca bG.length bV) : Value).ownBlock ∧ some k_ ≠ ((.slice bN bw.length bL) : Value).ownBlock ∧ some k_ ≠ ((.slice cx bF.length cu) : Value).ownBlock ∧ some k_ ≠ ((.slice cw bX.length cp) : Value).ownBlock ∧ some k_ ≠ ((.slice cB bS.length cC) : Value).ownBlock ∧ some k_ ≠ ((.slice cy bE.length cv) : Value).ownBlock ∧ some k_ ≠ ((.slice b3 bB.length b4) : Value).ownBlock ∧ some k_ ≠ ((.slice cN co.length cO) : Value).ownBlock) (.slice cA bO.length cz) bO) ∧ Aside0 (Kd.R k90 90 wc w.heap.size (fun k_ => some k_ ≠ ((.slice ca bG.length bV) : Value).ownBlock ∧ some k_ ≠ ((.slice bN bw.length bL) : Value).ownBlock ∧ some k_ ≠ ((.slice cx bF.length cu) : Value).ownBlock ∧ some k_ ≠ ((.slice cw bX.length cp) : Value).ownBlock ∧ some k_ ≠ ((.slice cA bO.length cz) : Value).ownBlock ∧ some k_ ≠ ((.slice cy bE.length cv) : Value).ownBlock ∧ some k_ ≠ ((.slice b3 bB.length b4) : Value).ownBlock ∧ some k_ ≠ ((.slice cN co.length cO) : Value).ownBlock) (.slice cB bS.length cC) bS) ∧ Aside0 (Kd.R k90 90 wc w.heap.size (fun k_ => some k_ ≠ ((.slice ca bG.length bV) : Value).ownBlock ∧ some k_ ≠ ((.slice bN bw.length bL) : Value).ownBlock ∧ some k_ ≠ ((.slice cx bF.length cu) : Value).ownBlock ∧ some k_ ≠ ((.slice cw bX.length cp) : Value).ownBlock ∧ some k_ ≠ ((.slice cA bO.length cz) : Value).ownBlock ∧ some k_ ≠ ((.slice cB bS.length cC) : Value).ownBlock ∧ some k_ ≠ ((.slice b3 bB.length b4) : Value).ownBlock ∧ some k_ ≠ ((.slice cN co.length cO) : Value).ownBlock) (.slice cy bE.length cv) bE) ∧ Aside0 (Kd.R k90 90 wc w.heap.size (fun k_ => some k_ ≠ ((.slice ca bG.length bV) : Value).ownBlock ∧ some k_ ≠ ((.slice bN bw.length bL) : Value).ownBlock ∧ some k_ ≠ ((.slice cx bF.length cu) : Value).ownBlock ∧ some k_ ≠ ((.slice cw bX.length cp) : Value).ownBlock ∧ some k_ ≠ ((.slice cA bO.length cz) : Value).ownBlock ∧ some k_ ≠ ((.slice cB bS.length cC) : Value).ownBlock ∧ some k_ ≠ ((.slice cy bE.length cv) : Value).ownBlock ∧ some k_ ≠ ((.slice cN co.length cO) : Value).ownBlock) (.slice b3 bB.length b4) bB) ∧ Aside0 (Kd.R k90 90 wc w.heap.size (fun k_ => some k_ ≠ ((.slice ca bG.length bV) : Value).ownBlock ∧ some k_ ≠ ((.slice bN bw.length bL) : Value).ownBlock ∧ some k_ ≠ ((.slice cx bF.length cu) : Value).ownBlock ∧ some k_ ≠ ((.slice cw bX.length cp) : Value).ownBlock ∧ some k_ ≠ ((.slice cA bO.length cz) : Value).ownBlock ∧ some k_ ≠ ((.slice cB bS.length cC) : Value).ownBlock ∧ some k_ ≠ ((.slice cy bE.length cv) : Value).ownBlock ∧ some k_ ≠ ((.slice b3 bB.length b4) : Value).ownBlock) (.slice cN co.length cO) co) ∧ Aside0 (wc.heap[bQ]? = some (.cells #[(.slice ca bG.length bV), .int .i64 dZ] 44 (0, 0))) ∧ Aside0 (wc.heap[bR]? = some (.cells #[(.slice bN bw.length bL), .int .i64 dq] 44 (0, 0))) ∧ Aside0 (wc.heap[bU]? = some (.cells #[(.slice cx bF.length cu), .int .i64 dL] 44 (0, 0))) ∧ Aside0 (wc.heap[bW]? = some (.cells #[(.slice cw bX.length cp), .int .i64 eJ] 44 (0, 0))) ∧ Aside0 (wc.heap[bZ]? = some (.cells #[(.slice cA bO.length cz), .int .i64 eD] 44 (0, 0))) ∧ Aside0 (wc.heap[cb]? = some (.cells #[(.slice cB bS.length cC), .int .i64 el] 44 (0, 0))) ∧ Aside0 (wc.heap[cd]? = some (.cells #[(.slice cy bE.length cv), .int .i64 em] 44 (0, 0))) ∧ Aside0 (wc.heap[ck]? = some (.cells #[(.slice b3 bB.length b4), .int .i64 dC] 44 (0, 0))) ∧ Aside0 (wc.heap[bP]? = some (.cells #[(.slice cN co.length cO), .int .i64 e8] 44 (0, 0))) ∧ Aside0 (Below w.heap.size w wc))
    case first =>
     as_aux_lemma =>
      have H := HC653.out
      clear HC653
      by_cases c654 : pY = true
      ·subst c654
       rw [if_pos rfl] at H
       obtain ⟨⟨nB, t793⟩, rI, H⟩ := bd_ H
       (try dsimp only at H)
       obtain ⟨⟨mb, H6⟩, rJ, H⟩ := bd_ H
       (try dsimp only at H)
       obtain ⟨⟨iQ, F8⟩, rK, H⟩ := bd_ H
       (try dsimp only at H)
       obtain ⟨⟨d2, eW, rL, yg⟩, rM, H⟩ := bd_ H
       (try dsimp only at H)
       obtain ⟨⟨p5, vD⟩, rN, H⟩ := bd_ H
       (try dsimp only at H)
       obtain ⟨hcz677_0, hcz677_1, hfz677_0, hfz677_1⟩ := bx2_ (w := wc) av.out
       repeat (first | ((with_reducible refine gate_callee (f := 25) rfl ?_); refine gl_ 233 Try.func25 #[.agg #[.slice b3 bB.length b4, .int .i64 dC]] ?_; (with_reducible refine (impl_StrokesLeft.calls eQ _ _ bB dC nB t793 _ ?_ ?_ rI.out).mono ?_); exact (Z7 aa); exact (Kd.R_reads' aa.out).2.1; rintro e w678 ⟨rfl, hb⟩; refine ⟨_, rfl, ?_⟩; refine k21_ (Ya_ aK) (Ya_ ay) (Ya_ af) (Ya_ ab) (Ya_ ag) (Ya_ ah) (Ya_ ae) (Ya_ ai) (Ya_ ac) (Ya_ aa) (Ya_ aj) (Ye_ am) (Ye_ ak) (Ye_ al) (Ye_ aq) (Ye_ ao) (Ye_ ap) (Ye_ ar) (Ye_ av) (Ye_ aw) (below_step (Z4) hb) ?_; clear aK ay af ab ag ah ae ai ac aa aj am ak al aq ao ap ar av aw HB; intro aK ay af ab ag ah ae ai ac aa aj am ak al aq ao ap ar av aw HB; (try clear hb)) | ((with_reducible refine gate_callee (f := 42) rfl ?_); refine gl_ 238 Try.func42 #[.slice ff cl.length e9] ?_; (with_reducible refine (impl_StrokesOf.calls eQ _ _ cl mb H6 _ ?_ ?_ rJ.out).mono ?_); exact (Z7 ay); exact (Kd.R_reads' ay.out).2.1; rintro e w679 ⟨tI, rfl, ho0, hb⟩; refine ⟨_, rfl, ?_⟩; refine k22_ (Ya_ aK) (Ya_ ay) (Ya_ af) (Ya_ ab) (Ya_ ag) (Ya_ ah) (Ya_ ae) (Ya_ ai) (Ya_ ac) (Ya_ aa) (Ya_ aj) (Kd.R_lower ho0 (below_size (Z4))) (Ye_ am) (Ye_ ak) (Ye_ al) (Ye_ aq) (Ye_ ao) (Ye_ ap) (Ye_ ar) (Ye_ av) (Ye_ aw) (below_step (Z4) hb) ?_; clear aK ay af ab ag ah ae ai ac aa aj am ak al aq ao ap ar av aw HB; intro aK ay af ab ag ah ae ai ac aa aj bd am ak al aq ao ap ar av aw HB; (try clear hb ho0)) | ((with_reducible refine gate_callee (f := 43) rfl ?_); refine gl_ 243 Try.func43 #[.slice ff cl.length e9] ?_; (with_reducible refine (spec_StrokesOf.calls eQ _ _ cl iQ F8 _ ?_ ?_ rK.out).mono ?_); exact (Z7 ay); exact (Kd.R_reads' ay.out).2.1; rintro e w680 ⟨tJ, rfl, ho0, hb⟩; refine ⟨_, rfl, ?_⟩; refine k23_ (Ya_ aK) (Ya_ ay) (Ya_ af) (Ya_ ab) (Ya_ ag) (Ya_ ah) (Ya_ ae) (Ya_ ai) (Ya_ ac) (Ya_ aa) (Ya_ aj) (Yb_ bd) (Kd.R_lower (Kd.R_new' ho0 (Yd_ bd)) (below_size (Z4))) (Ye_ am) (Ye_ ak) (Ye_ al) (Ye_ aq) (Ye_ ao) (Ye_ ap) (Ye_ ar) (Ye_ av) (Ye_ aw) (below_step (Z4) hb) ?_; clear aK ay af ab ag ah ae ai ac aa aj bd am ak al aq ao ap ar av aw HB; intro aK ay af ab ag ah ae ai ac aa aj bd bz am ak al aq ao ap ar av aw HB; (try clear hb ho0); obtain ⟨hcz681_0, hcz681_1, hfz681_0, hfz681_1⟩ := bx2_ (w := w680) av.out) | ((with_reducible refine gate_callee (f := 23) rfl ?_); refine gl_ 248 Try.func23 #[.agg #[.slice b3 bB.length b4, .int .i64 dC], .int .i64 200] ?_; (with_reducible refine (impl_MakeStrokes.calls eQ _ _ bB dC 200 d2 eW rL yg _ ?_ ?_ rM.out).mono ?_); exact (Z7 aa); exact (Kd.R_reads' aa.out).2.1; rintro e w682 ⟨tK, rfl, ho0, hb⟩; refine ⟨_, rfl, ?_⟩; refine k24_ (Ya_ aK) (Yb_ ay) (Yb_ af) (Yb_ ab) (Yb_ ag) (Yb_ ah) (Yb_ ae) (Yb_ ai) (Yb_ ac) (Yb_ aa) (Yb_ aj) (Ya_ bd) (Ya_ bz) (Kd.R_lower (Kd.R_new' (Kd.R_new' (Kd.R_new' (Kd.R_new' (Kd.R_new' (Kd.R_new' (Kd.R_new' (Kd.R_new' (Kd.R_new' (Kd.R_new' ho0 (Yd_ ay)) (Yd_ af)) (Yd_ ab)) (Yd_ ag)) (Yd_ ah)) (Yd_ ae)) (Yd_ ai)) (Yd_ ac)) (Yd_ aa)) (Yd_ aj)) (below_size (Z4))) (Ye_ am) (Ye_ ak) (Ye_ al) (Ye_ aq) (Ye_ ao) (Ye_ ap) (Ye_ ar) (Ye_ av) (Ye_ aw) (below_step (Z4) hb) ?_; clear aK ay af ab ag ah ae ai ac aa aj bd bz am ak al aq ao ap ar av aw HB; intro aK ay af ab ag ah ae ai ac aa aj bd bz bx am ak al aq ao ap ar av aw HB; (try clear hb ho0)) | ((with_reducible refine gate_dst (N := 45) rfl ?_); (try (refine gate_guard (by rfl) ?_; dsimp only)); refine bv_ 45 44 #[.slice none 0 0, .int .i64 0] ?_; intro az hg w683 hbox hb; refine k45_ (Ya_ aK) (Ya_ ay) (Ya_ af) (Ya_ ab) (Ya_ ag) (Ya_ ah) (Ya_ ae) (Ya_ ai) (Ya_ ac) (Ya_ aa) (Ya_ aj) (Ya_ bd) (Ya_ bz) (Ya_ bx) (Ye_ am) (Ye_ ak) (Ye_ al) (Ye_ aq) (Ye_ ao) (Ye_ ap) (Ye_ ar) (Ye_ av) (Ye_ aw) (below_step (Z4) hb) (hbox) ((Z176 : w.heap.size ≤ az)) ((Z176 : w.heap.size ≤ az)) ((Z82 : bQ ≠ az)) ((Z83 : az ≠ bQ)) ((Z87 : bR ≠ az)) ((Z88 : az ≠ bR)) ((Z93 : bU ≠ az)) ((Z94 : az ≠ bU)) ((Z98 : bW ≠ az)) ((Z99 : az ≠ bW)) ((Z103 : bZ ≠ az)) ((Z104 : az ≠ bZ)) ((Z111 : cb ≠ az)) ((Z112 : az ≠ cb)) ((Z122 : cd ≠ az)) ((Z123 : az ≠ cd)) ((Z131 : ck ≠ az)) ((Z132 : az ≠ ck)) ((Z142 : bP ≠ az)) ((Z143 : az ≠ bP)) ?_; clear aK ay af ab ag ah ae ai ac aa aj bd bz bx am ak al aq ao ap ar av aw HB; intro aK ay af ab ag ah ae ai ac aa aj bd bz bx am ak al aq ao ap ar av aw HB dr oo mQ cX ec cY ed cZ ee da ef db eg dc eh dd ei de ej dM ek; clear hb hbox hg; obtain ⟨wo, sr, eo684⟩ := Kd.R_slice bx.out; subst eo684; have hnb685 := ec.out; have hnc685 := cX.out; have hnb686 := ed.out; have hnc686 := cY.out; have hnb687 := ee.out; have hnc687 := cZ.out; have hnb688 := ef.out; have hnc688 := da.out; have hnb689 := eg.out; have hnc689 := db.out; have hnb690 := eh.out; have hnc690 := dc.out; have hnb691 := ei.out; have hnc691 := dd.out; have hnb692 := ej.out; have hnc692 := de.out; have hnb693 := ek.out; have hnc693 := dM.out; obtain ⟨hcz694_0, hcz694_1, hfz694_0, hfz694_1⟩ := bx2_ (w := w683) dr.out) | go_values | go_skip | go_guarded | go_step | go_upon)
       (go_at_call 31; (with_reducible refine (impl_PunchedNow.calls eQ _ _ d2 eW p5 vD _ ?_ ?_ rN.out).mono ?_); exact (by refine (Kd.R_reads' (e := 90) (base := w.heap.size) (ok := fun k_ => ((((((((((True ∧ some k_ ≠ (.slice ff cl.length e9 : Value).ownBlock) ∧ some k_ ≠ (.slice ca bG.length bV : Value).ownBlock) ∧ some k_ ≠ (.slice bN bw.length bL : Value).ownBlock) ∧ some k_ ≠ (.slice cx bF.length cu : Value).ownBlock) ∧ some k_ ≠ (.slice cw bX.length cp : Value).ownBlock) ∧ some k_ ≠ (.slice cA bO.length cz : Value).ownBlock) ∧ some k_ ≠ (.slice cB bS.length cC : Value).ownBlock) ∧ some k_ ≠ (.slice cy bE.length cv : Value).ownBlock) ∧ some k_ ≠ (.slice b3 bB.length b4 : Value).ownBlock) ∧ some k_ ≠ (.slice cN co.length cO : Value).ownBlock)) (n := d2.length) (c := sr) ?_).2.2; exact (Z27 bx)); exact (Kd.R_reads' bx.out).2.1; rintro e w695 ⟨tL, rfl, ho0, hb⟩; refine k26_ (Kd.R_below (Z27 aK) hb) (Kd.R_elder' (Z27 ay) (Kd.R_base ho0) hb) (Kd.R_elder' (Z27 af) (Kd.R_base ho0) hb) (Kd.R_elder' (Z27 ab) (Kd.R_base ho0) hb) (Kd.R_elder' (Z27 ag) (Kd.R_base ho0) hb) (Kd.R_elder' (Z27 ah) (Kd.R_base ho0) hb) (Kd.R_elder' (Z27 ae) (Kd.R_base ho0) hb) (Kd.R_elder' (Z27 ai) (Kd.R_base ho0) hb) (Kd.R_elder' (Z27 ac) (Kd.R_base ho0) hb) (Kd.R_elder' (Z27 aa) (Kd.R_base ho0) hb) (Kd.R_elder' (Z27 aj) (Kd.R_base ho0) hb) (Kd.R_below (Z27 bd) hb) (Kd.R_below (Z27 bz) hb) (Kd.R_elder' (Z27 bx) (Kd.R_base ho0) hb) (Kd.R_lower (Kd.R_new' (Kd.R_new' (Kd.R_new' (Kd.R_new' (Kd.R_new' (Kd.R_new' (Kd.R_new' (Kd.R_new' (Kd.R_new' (Kd.R_new' (Kd.R_new' ho0 (Kd.R_lt (Z27 ay))) (Kd.R_lt (Z27 af))) (Kd.R_lt (Z27 ab))) (Kd.R_lt (Z27 ag))) (Kd.R_lt (Z27 ah))) (Kd.R_lt (Z27 ae))) (Kd.R_lt (Z27 ai))) (Kd.R_lt (Z27 ac))) (Kd.R_lt (Z27 aa))) (Kd.R_lt (Z27 aj))) (Kd.R_lt (Z27 bx))) (below_size (Z14))) (blk_below (g := bQ) (o := .cells #[.slice ca bG.length bV, .int .i64 dZ] 44 (0, 0)) (Z12 cX) hb) (blk_below (g := bR) (o := .cells #[.slice bN bw.length bL, .int .i64 dq] 44 (0, 0)) (Z13 cY) hb) (blk_below (g := bU) (o := .cells #[.slice cx bF.length cu, .int .i64 dL] 44 (0, 0)) (Z18 cZ) hb) (blk_below (g := bW) (o := .cells #[.slice cw bX.length cp, .int .i64 eJ] 44 (0, 0)) (Z19 da) hb) (blk_below (g := bZ) (o := .cells #[.slice cA bO.length cz, .int .i64 eD] 44 (0, 0)) (Z20 db) hb) (blk_below (g := cb) (o := .cells #[.slice cB bS.length cC, .int .i64 el] 44 (0, 0)) (Z22 dc) hb) (blk_below (g := cd) (o := .cells #[.slice cy bE.length cv, .int .i64 em] 44 (0, 0)) (Z23 dd) hb) (blk_below (g := ck) (o := .cells #[.slice b3 bB.length b4, .int .i64 dC] 44 (0, 0)) (Z24 de) hb) (blk_below (g := bP) (o := .cells #[.slice cN co.length cO, .int .i64 e8] 44 (0, 0)) (Z61) hb) (blk_below (g := az) (o := .cells #[.slice wo d2.length sr, .int .i64 eW] 44 (0, 0)) (by (with_reducible repeat (first | refine blk_drewN ?_ _ | refine blk_drew ?_ | refine blk_alloc ?_ _)); refine blk_put (cs := #[.slice wo d2.length sr, .int .i64 0]) ?_ 1 _ rfl; (with_reducible repeat (first | refine blk_drewN ?_ _ | refine blk_drew ?_ | refine blk_alloc ?_ _)); refine blk_put (cs := #[.slice none 0 0, .int .i64 0]) ?_ 0 _ rfl; (with_reducible repeat (first | refine blk_drewN ?_ _ | refine blk_drew ?_ | refine blk_alloc ?_ _)); exact dr.out) hb) (below_step (Z14) hb) ?_; clear aK ay af ab ag ah ae ai ac aa aj bd bz bx am ak al aq ao ap ar av aw dr HB; intro aK ay af ab ag ah ae ai ac aa aj bd bz bx iD am ak al aq ao ap ar av aw dr HB; (try clear hb ho0); obtain ⟨Ao696, co696, eo696⟩ := Kd.R_slice bd.out; subst eo696; obtain ⟨Ao697, co697, eo697⟩ := Kd.R_slice bz.out; subst eo697; obtain ⟨Ao698, co698, eo698⟩ := Kd.R_slice iD.out; subst eo698)
       by_cases c660 : t793 = true
       ·subst c660
        rw [if_pos rfl] at H
        by_cases c661 : H6 = true
        ·subst c661
         rw [if_pos rfl] at H
         by_cases c662 : F8 = true
         ·subst c662
          rw [if_pos rfl] at H
          by_cases c663 : (mb.length : Int) = (iQ.length : Int)
          ·rw [if_pos c663] at H
           have n4 : ((mb.length : Int) == (iQ.length : Int)) = true := beq_iff_eq.mpr c663
           have AU : ((mb.length : Int) != (iQ.length : Int)) = false := bne_eq_false_iff_eq.mpr c663
           have AV : (mb.length == iQ.length) = true := by first | simpa using c663 | (simp at c663 ⊢; omega)
           clear c663
           (first | rw [n4] | (simp only [i64_w, i32_w]; rw [n4]) | skip)
           by_cases c664 : nB = (iQ.length : Int)
           ·rw [if_pos c664] at H
            have AW : (nB == (iQ.length : Int)) = true := beq_iff_eq.mpr c664
            have AX : (nB != (iQ.length : Int)) = false := bne_eq_false_iff_eq.mpr c664
            clear c664
            by_cases c665 : yg = true
            ·subst c665
             rw [if_pos rfl] at H
             by_cases c666 : vD = true
             ·subst c666
              rw [if_pos rfl] at H
              obtain ⟨FV, H7, H⟩ := bd_ H
              (try dsimp only at H)
              by_cases c668 : FV = true
              ·subst c668
               rw [if_pos rfl] at H
               have H' := Aside0.mk H
               clear H
               as_aux_lemma =>
                go_wp2_with (go_at_call 39; (with_reducible refine (laws_qSheet.calls eQ _ _ p5 _ _ cl true _ ?_ ?_ ?_ ?_ H7.out).mono ?_); exact (Z7 iD); exact (Kd.R_reads' iD.out).2.1; exact (Z7 ay); exact (Kd.R_reads' ay.out).2.1; rintro e w' ⟨rfl, ⟨nd, rfl⟩⟩)
                all_goals (try (rename_i hq_ hr_; cases hq_; done))
                all_goals ((refine Met.intro ?_; go_step; (repeat (first | apply ex_32 | apply ex_8 | apply Exists.intro)); refine ⟨?rel, rfl⟩); case rel => exact ⟨_, H', ⟨Z186 uK⟩, ⟨Z2 aK⟩, ⟨Z79 af⟩, ⟨Z79 ab⟩, ⟨Z79 ag⟩, ⟨Z79 ah⟩, ⟨Z79 ae⟩, ⟨Z79 ai⟩, ⟨Z79 ac⟩, ⟨Z79 aa⟩, ⟨Z79 aj⟩, ⟨Z1 am⟩, ⟨Z1 ak⟩, ⟨Z1 al⟩, ⟨Z1 aq⟩, ⟨Z1 ao⟩, ⟨Z1 ap⟩, ⟨Z1 ar⟩, ⟨Z1 av⟩, ⟨Z1 aw⟩, ⟨Z14⟩⟩)
              replace c668 := Bool.eq_false_iff.mpr c668
              subst c668
              rw [if_neg (show ¬ (false = true) by decide)] at H
              obtain rfl := Option.some.inj H
              as_aux_lemma =>
               go_wp2_with (go_at_call 39; (with_reducible refine (laws_qSheet.calls eQ _ _ p5 _ _ cl false _ ?_ ?_ ?_ ?_ H7.out).mono ?_); exact (Z7 iD); exact (Kd.R_reads' iD.out).2.1; exact (Z7 ay); exact (Kd.R_reads' ay.out).2.1; rintro e w' ⟨rfl, ⟨nd, rfl⟩⟩)
               go_ret
               exact ⟨Z11, Z14⟩
             replace c666 := Bool.eq_false_iff.mpr c666
             subst c666
             rw [if_neg (show ¬ (false = true) by decide)] at H
             obtain rfl := Option.some.inj H
             as_aux_lemma =>
              go_wp2
              go_ret
              exact ⟨Z11, Z14⟩
            replace c665 := Bool.eq_false_iff.mpr c665
            subst c665
            rw [if_neg (show ¬ (false = true) by decide)] at H
            obtain rfl := Option.some.inj H
            as_aux_lemma =>
             go_wp2
             go_ret
             exact ⟨Z11, Z14⟩
           rw [if_neg c664] at H
           have AW : (nB == (iQ.length : Int)) = false := beq_eq_false_iff_ne.mpr c664
           have AX : (nB != (iQ.length : Int)) = true := bne_iff_ne.mpr c664
           obtain rfl := Option.some.inj H
           as_aux_lemma =>
            go_wp2
            go_ret
            exact ⟨Z11, Z14⟩
          rw [if_neg c663] at H
          have n4 : ((mb.length : Int) == (iQ.length : Int)) = false := beq_eq_false_iff_ne.mpr c663
          have AU : ((mb.length : Int) != (iQ.length : Int)) = true := bne_iff_ne.mpr c663
          have AV : (mb.length == iQ.length) = false := by first | simpa using c663 | (simp at c663 ⊢; omega)
          (first | rw [n4] | (simp only [i64_w, i32_w]; rw [n4]) | skip)
          obtain rfl := Option.some.inj H
          as_aux_lemma =>
           go_wp2
           go_ret
           exact ⟨Z11, Z14⟩
         replace c662 := Bool.eq_false_iff.mpr c662
         subst c662
         rw [if_neg (show ¬ (false = true) by decide)] at H
         obtain rfl := Option.some.inj H
         as_aux_lemma =>
          go_wp2
          go_ret
          exact ⟨Z11, Z14⟩
        replace c661 := Bool.eq_false_iff.mpr c661
        subst c661
        rw [if_neg (show ¬ (false = true) by decide)] at H
        obtain rfl := Option.some.inj H
        as_aux_lemma =>
         go_wp2
         go_ret
         exact ⟨Z11, Z14⟩
       replace c660 := Bool.eq_false_iff.mpr c660
       subst c660
       rw [if_neg (show ¬ (false = true) by decide)] at H
       obtain rfl := Option.some.inj H
       as_aux_lemma =>
        go_wp2
        go_ret
        exact ⟨Z11, Z14⟩
      replace c654 := Bool.eq_false_iff.mpr c654
      subst c654
      rw [if_neg (show ¬ (false = true) by decide)] at H
      have H' := Aside0.mk H
      clear H
      as_aux_lemma =>
       go_wp2
       all_goals (try (rename_i hq_ hr_; cases hq_; done))
       all_goals ((refine Met.intro ?_; go_step; (repeat (first | apply ex_32 | apply ex_8 | apply Exists.intro)); refine ⟨?rel, rfl⟩); case rel => exact ⟨_, H', ⟨Z186 uK⟩, ⟨Z2 aK⟩, ⟨Z86 af⟩, ⟨Z86 ab⟩, ⟨Z86 ag⟩, ⟨Z86 ah⟩, ⟨Z86 ae⟩, ⟨Z86 ai⟩, ⟨Z86 ac⟩, ⟨Z86 aa⟩, ⟨Z86 aj⟩, ⟨Z1 am⟩, ⟨Z1 ak⟩, ⟨Z1 al⟩, ⟨Z1 aq⟩, ⟨Z1 ao⟩, ⟨Z1 ap⟩, ⟨Z1 ar⟩, ⟨Z1 av⟩, ⟨Z1 aw⟩, ⟨Z4⟩⟩)
    case rest =>
     as_aux_lemma =>
      clear HC653
      (try clear c652)
      obtain ⟨kq, HA, se, aK, af, ab, ag, ah, ae, ai, ac, aa, aj, am, ak, al, aq, ao, ap, ar, av, aw, HB⟩ := hcut
      cases kq with
      | zero => exact absurd HA.out (by simp [laws_FnPunchJobs.j1])
      | succ EI =>
       have H := HA.out
       clear HA
       simp only [laws_FnPunchJobs.j1] at H
       have HC926 := Aside0.mk H
       clear H
       go_upto_region 29 with (fail)
       go_cut [324] (fun v324 wc => ∃ (kq : Nat) (nC : Bool), v324 = .bool nC ∧ Aside0 (laws_FnPunchJobs.j2 kq jS l7 fQ l8 iP fb nC bG dZ bw dq bF dL bE em = some r) ∧ Aside0 (kq ≤ EI) ∧ Aside0 (Kd.R (Kd.int .i64) 3 wc w.heap.size (fun _ => True) F6 fb) ∧ Aside0 (Kd.R k90 90 wc w.heap.size (fun k_ => some k_ ≠ ((.slice bN bw.length bL) : Value).ownBlock ∧ some k_ ≠ ((.slice cx bF.length cu) : Value).ownBlock ∧ some k_ ≠ ((.slice cw bX.length cp) : Value).ownBlock ∧ some k_ ≠ ((.slice cA bO.length cz) : Value).ownBlock ∧ some k_ ≠ ((.slice cB bS.length cC) : Value).ownBlock ∧ some k_ ≠ ((.slice cy bE.length cv) : Value).ownBlock ∧ some k_ ≠ ((.slice b3 bB.length b4) : Value).ownBlock ∧ some k_ ≠ ((.slice cN co.length cO) : Value).ownBlock) (.slice ca bG.length bV) bG) ∧ Aside0 (Kd.R k90 90 wc w.heap.size (fun k_ => some k_ ≠ ((.slice ca bG.length bV) : Value).ownBlock ∧ some k_ ≠ ((.slice cx bF.length cu) : Value).ownBlock ∧ some k_ ≠ ((.slice cw bX.length cp) : Value).ownBlock ∧ some k_ ≠ ((.slice cA bO.length cz) : Value).ownBlock ∧ some k_ ≠ ((.slice cB bS.length cC) : Value).ownBlock ∧ some k_ ≠ ((.slice cy bE.length cv) : Value).ownBlock ∧ some k_ ≠ ((.slice b3 bB.length b4) : Value).ownBlock ∧ some k_ ≠ ((.slice cN co.length cO) : Value).ownBlock) (.slice bN bw.length bL) bw) ∧ Aside0 (Kd.R k90 90 wc w.heap.size (fun k_ => some k_ ≠ ((.slice ca bG.length bV) : Value).ownBlock ∧ some k_ ≠ ((.slice bN bw.length bL) : Value).ownBlock ∧ some k_ ≠ ((.slice cw bX.length cp) : Value).ownBlock ∧ some k_ ≠ ((.slice cA bO.length cz) : Value).ownBlock ∧ some k_ ≠ ((.slice cB bS.length cC) : Value).ownBlock ∧ some k_ ≠ ((.slice cy bE.length cv) : Value).ownBlock ∧ some k_ ≠ ((.slice b3 bB.length b4) : Value).ownBlock ∧ some k_ ≠ ((.slice cN co.length cO) : Value).ownBlock) (.slice cx bF.length cu) bF) ∧ Aside0 (Kd.R k90 90 wc w.heap.size (fun k_ => some k_ ≠ ((.slice ca bG.length bV) : Value).ownBlock ∧ some k_ ≠ ((.slice bN bw.length bL) : Value).ownBlock ∧ some k_ ≠ ((.slice cx bF.length cu) : Value).ownBlock ∧ some k_ ≠ ((.slice cA bO.length cz) : Value).ownBlock ∧ some k_ ≠ ((.slice cB bS.length cC) : Value).ownBlock ∧ some k_ ≠ ((.slice cy bE.length cv) : Value).ownBlock ∧ some k_ ≠ ((.slice b3 bB.length b4) : Value).ownBlock ∧ some k_ ≠ ((.slice cN co.length cO) : Value).ownBlock) (.slice cw bX.length cp) bX) ∧ Aside0 (Kd.R k90 90 wc w.heap.size (fun k_ => some k_ ≠ ((.slice ca bG.length bV) : Value).ownBlock ∧ some k_ ≠ ((.slice bN bw.length bL) : Value).ownBlock ∧ some k_ ≠ ((.slice cx bF.length cu) : Value).ownBlock ∧ some k_ ≠ ((.slice cw bX.length cp) : Value).ownBlock ∧ some k_ ≠ ((.slice cB bS.length cC) : Value).ownBlock ∧ some k_ ≠ ((.slice cy bE.length cv) : Value).ownBlock ∧ some k_ ≠ ((.slice b3 bB.length b4) : Value).ownBlock ∧ some k_ ≠ ((.slice cN co.length cO) : Value).ownBlock) (.slice cA bO.length cz) bO) ∧ Aside0 (Kd.R k90 90 wc w.heap.size (fun k_ => some k_ ≠ ((.slice ca bG.length bV) : Value).ownBlock ∧ some k_ ≠ ((.slice bN bw.length bL) : Value).ownBlock ∧ some k_ ≠ ((.slice cx bF.length cu) : Value).ownBlock ∧ some k_ ≠ ((.slice cw bX.length cp) : Value).ownBlock ∧ some k_ ≠ ((.slice cA bO.length cz) : Value).ownBlock ∧ some k_ ≠ ((.slice cy bE.length cv) : Value).ownBlock ∧ some k_ ≠ ((.slice b3 bB.length b4) : Value).ownBlock ∧ some k_ ≠ ((.slice cN co.length cO) : Value).ownBlock) (.slice cB bS.length cC) bS) ∧ Aside0 (Kd.R k90 90 wc w.heap.size (fun k_ => some k_ ≠ ((.slice ca bG.length bV) : Value).ownBlock ∧ some k_ ≠ ((.slice bN bw.length bL) : Value).ownBlock ∧ some k_ ≠ ((.slice cx bF.length cu) : Value).ownBlock ∧ some k_ ≠ ((.slice cw bX.length cp) : Value).ownBlock ∧ some k_ ≠ ((.slice cA bO.length cz) : Value).ownBlock ∧ some k_ ≠ ((.slice cB bS.length cC) : Value).ownBlock ∧ some k_ ≠ ((.slice b3 bB.length b4) : Value).ownBlock ∧ some k_ ≠ ((.slice cN co.length cO) : Value).ownBlock) (.slice cy bE.length cv) bE) ∧ Aside0 (Kd.R k90 90 wc w.heap.size (fun k_ => some k_ ≠ ((.slice ca bG.length bV) : Value).ownBlock ∧ some k_ ≠ ((.slice bN bw.length bL) : Value).ownBlock ∧ some k_ ≠ ((.slice cx bF.length cu) : Value).ownBlock ∧ some k_ ≠ ((.slice cw bX.length cp) : Value).ownBlock ∧ some k_ ≠ ((.slice cA bO.length cz) : Value).ownBlock ∧ some k_ ≠ ((.slice cB bS.length cC) : Value).ownBlock ∧ some k_ ≠ ((.slice cy bE.length cv) : Value).ownBlock ∧ some k_ ≠ ((.slice cN co.length cO) : Value).ownBlock) (.slice b3 bB.length b4) bB) ∧ Aside0 (Kd.R k90 90 wc w.heap.size (fun k_ => some k_ ≠ ((.slice ca bG.length bV) : Value).ownBlock ∧ some k_ ≠ ((.slice bN bw.length bL) : Value).ownBlock ∧ some k_ ≠ ((.slice cx bF.length cu) : Value).ownBlock ∧ some k_ ≠ ((.slice cw bX.length cp) : Value).ownBlock ∧ some k_ ≠ ((.slice cA bO.length cz) : Value).ownBlock ∧ some k_ ≠ ((.slice cB bS.length cC) : Value).ownBlock ∧ some k_ ≠ ((.slice cy bE.length cv) : Value).ownBlock ∧ some k_ ≠ ((.slice b3 bB.length b4) : Value).ownBlock) (.slice cN co.length cO) co) ∧ Aside0 (wc.heap[bQ]? = some (.cells #[(.slice ca bG.length bV), .int .i64 dZ] 44 (0, 0))) ∧ Aside0 (wc.heap[bR]? = some (.cells #[(.slice bN bw.length bL), .int .i64 dq] 44 (0, 0))) ∧ Aside0 (wc.heap[bU]? = some (.cells #[(.slice cx bF.length cu), .int .i64 dL] 44 (0, 0))) ∧ Aside0 (wc.heap[bW]? = some (.cells #[(.slice cw bX.length cp), .int .i64 eJ] 44 (0, 0))) ∧ Aside0 (wc.heap[bZ]? = some (.cells #[(.slice cA bO.length cz), .int .i64 eD] 44 (0, 0))) ∧ Aside0 (wc.heap[cb]? = some (.cells #[(.slice cB bS.length cC), .int .i64 el] 44 (0, 0))) ∧ Aside0 (wc.heap[cd]? = some (.cells #[(.slice cy bE.length cv), .int .i64 em] 44 (0, 0))) ∧ Aside0 (wc.heap[ck]? = some (.cells #[(.slice b3 bB.length b4), .int .i64 dC] 44 (0, 0))) ∧ Aside0 (wc.heap[bP]? = some (.cells #[(.slice cN co.length cO), .int .i64 e8] 44 (0, 0))) ∧ Aside0 (Below w.heap.size w wc))
       case first =>
        as_aux_lemma =>
         have H := HC926.out
         clear HC926
         by_cases c927 : oF = true
         ·subst c927
          rw [if_pos rfl] at H
          by_cases c928 : jB = (wrap64 (eJ - el))
          ·rw [if_pos c928] at H
           have n5 : (jB == (wrap64 (eJ - el))) = true := beq_iff_eq.mpr c928
           have AY : (jB != (wrap64 (eJ - el))) = false := bne_eq_false_iff_eq.mpr c928
           clear c928
           (first | rw [n5] | (simp only [i64_w, i32_w]; rw [n5]) | skip)
           by_cases c929 : jB < 0
           ·rw [if_pos c929] at H
            have AZ : decide (jB < 0) = true := decide_eq_true c929
            clear c929
            have H' := Aside0.mk H
            clear H
            obtain ⟨hcz938_0, hcz938_1, hfz938_0, hfz938_1⟩ := bx2_ (w := wc) aq.out
            obtain ⟨hcz946_0, hcz946_1, hfz946_0, hfz946_1⟩ := bx2_ (w := wc) ap.out
            as_aux_lemma =>
             go_wp2
             all_goals (try (rename_i hq_ hr_; cases hq_; done))
             all_goals ((refine Met.intro ?_; go_step; (repeat (first | apply ex_32 | apply ex_8 | apply Exists.intro)); refine ⟨?rel, rfl⟩); case rel => exact ⟨_, (true), (Z41), H', ⟨Z211⟩, ⟨Z2 aK⟩, ⟨Z2 af⟩, ⟨Z2 ab⟩, ⟨Z2 ag⟩, ⟨Z2 ah⟩, ⟨Z2 ae⟩, ⟨Z2 ai⟩, ⟨Z2 ac⟩, ⟨Z2 aa⟩, ⟨Z2 aj⟩, ⟨Z1 am⟩, ⟨Z1 ak⟩, ⟨Z1 al⟩, ⟨Z1 aq⟩, ⟨Z1 ao⟩, ⟨Z1 ap⟩, ⟨Z1 ar⟩, ⟨Z1 av⟩, ⟨Z1 aw⟩, ⟨Z4⟩⟩)
           rw [if_neg c929] at H
           have AZ : decide (jB < 0) = false := decide_eq_false c929
           clear c929
           by_cases c947 : jB ≥ jT
           ·rw [if_pos c947] at H
            have Ba : decide (jT ≤ jB) = true := decide_eq_true c947
            clear c947
            have H' := Aside0.mk H
            clear H
            obtain ⟨hcz956_0, hcz956_1, hfz956_0, hfz956_1⟩ := bx2_ (w := wc) aq.out
            obtain ⟨hcz964_0, hcz964_1, hfz964_0, hfz964_1⟩ := bx2_ (w := wc) ap.out
            as_aux_lemma =>
             go_wp2
             all_goals (try (rename_i hq_ hr_; cases hq_; done))
             all_goals ((refine Met.intro ?_; go_step; (repeat (first | apply ex_32 | apply ex_8 | apply Exists.intro)); refine ⟨?rel, rfl⟩); case rel => exact ⟨_, (true), (Z41), H', ⟨Z211⟩, ⟨Z2 aK⟩, ⟨Z2 af⟩, ⟨Z2 ab⟩, ⟨Z2 ag⟩, ⟨Z2 ah⟩, ⟨Z2 ae⟩, ⟨Z2 ai⟩, ⟨Z2 ac⟩, ⟨Z2 aa⟩, ⟨Z2 aj⟩, ⟨Z1 am⟩, ⟨Z1 ak⟩, ⟨Z1 al⟩, ⟨Z1 aq⟩, ⟨Z1 ao⟩, ⟨Z1 ap⟩, ⟨Z1 ar⟩, ⟨Z1 av⟩, ⟨Z1 aw⟩, ⟨Z4⟩⟩)
           rw [if_neg c947] at H
           have Ba : decide (jT ≤ jB) = false := decide_eq_false c947
           clear c947
           by_cases c965 : jT = 0
           ·rw [if_pos c965] at H
            exact absurd H (by simp)
           rw [if_neg c965] at H
           have c965b0 : (jT == 0) = false := beq_eq_false_iff_ne.mpr c965
           have c965b1 : (jT != 0) = true := bne_iff_ne.mpr c965
           by_cases c966 : (Int.tmod el jT) = 0
           ·rw [if_pos c966] at H
            have Bb : ((Int.tmod el jT) == 0) = true := beq_iff_eq.mpr c966
            have Bc : ((Int.tmod el jT) != 0) = false := bne_eq_false_iff_eq.mpr c966
            clear c966
            obtain ⟨CE, A967, H⟩ := bd_ H
            (try dsimp only at H)
            have H' := Aside0.mk H
            clear H
            obtain ⟨hcz976_0, hcz976_1, hfz976_0, hfz976_1⟩ := bx2_ (w := wc) aq.out
            obtain ⟨hcz984_0, hcz984_1, hfz984_0, hfz984_1⟩ := bx2_ (w := wc) ap.out
            obtain ⟨hcz991_0, hcz991_1, hfz991_0, hfz991_1⟩ := bx2_ (w := wc) ao.out
            as_aux_lemma =>
             go_wp2_with (go_at_call 41; (with_reducible refine (impl_IsPunchJob.calls EI _ _ bO eD CE _ ?_ ?_ A967.out).mono ?_); exact (Z7 ae); exact (Kd.R_reads' ae.out).2.1; rintro e w992 ⟨rfl, hb⟩; refine k20_ (Ya_ aK) (Ya_ af) (Ya_ ab) (Ya_ ag) (Ya_ ah) (Ya_ ae) (Ya_ ai) (Ya_ ac) (Ya_ aa) (Ya_ aj) (Ye_ am) (Ye_ ak) (Ye_ al) (Ye_ aq) (Ye_ ao) (Ye_ ap) (Ye_ ar) (Ye_ av) (Ye_ aw) (below_step (Z4) hb) ?_; clear aK af ab ag ah ae ai ac aa aj am ak al aq ao ap ar av aw HB; intro aK af ab ag ah ae ai ac aa aj am ak al aq ao ap ar av aw HB; (try clear hb))
             all_goals (try (rename_i hq_ hr_; cases hq_; done))
             all_goals ((refine Met.intro ?_; go_step; (repeat (first | apply ex_32 | apply ex_8 | apply Exists.intro)); refine ⟨?rel, rfl⟩); case rel => exact ⟨_, (!CE), (Z41), H', ⟨Z211⟩, ⟨Z2 aK⟩, ⟨Z2 af⟩, ⟨Z2 ab⟩, ⟨Z2 ag⟩, ⟨Z2 ah⟩, ⟨Z2 ae⟩, ⟨Z2 ai⟩, ⟨Z2 ac⟩, ⟨Z2 aa⟩, ⟨Z2 aj⟩, ⟨Z1 am⟩, ⟨Z1 ak⟩, ⟨Z1 al⟩, ⟨Z1 aq⟩, ⟨Z1 ao⟩, ⟨Z1 ap⟩, ⟨Z1 ar⟩, ⟨Z1 av⟩, ⟨Z1 aw⟩, ⟨Z4⟩⟩)
           rw [if_neg c966] at H
           have Bb : ((Int.tmod el jT) == 0) = false := beq_eq_false_iff_ne.mpr c966
           have Bc : ((Int.tmod el jT) != 0) = true := bne_iff_ne.mpr c966
           have H' := Aside0.mk H
           clear H
           obtain ⟨hcz1001_0, hcz1001_1, hfz1001_0, hfz1001_1⟩ := bx2_ (w := wc) aq.out
           obtain ⟨hcz1009_0, hcz1009_1, hfz1009_0, hfz1009_1⟩ := bx2_ (w := wc) ap.out
           as_aux_lemma =>
            go_wp2
            all_goals (try (rename_i hq_ hr_; cases hq_; done))
            all_goals ((refine Met.intro ?_; go_step; (repeat (first | apply ex_32 | apply ex_8 | apply Exists.intro)); refine ⟨?rel, rfl⟩); case rel => exact ⟨_, (true), (Z41), H', ⟨Z211⟩, ⟨Z2 aK⟩, ⟨Z2 af⟩, ⟨Z2 ab⟩, ⟨Z2 ag⟩, ⟨Z2 ah⟩, ⟨Z2 ae⟩, ⟨Z2 ai⟩, ⟨Z2 ac⟩, ⟨Z2 aa⟩, ⟨Z2 aj⟩, ⟨Z1 am⟩, ⟨Z1 ak⟩, ⟨Z1 al⟩, ⟨Z1 aq⟩, ⟨Z1 ao⟩, ⟨Z1 ap⟩, ⟨Z1 ar⟩, ⟨Z1 av⟩, ⟨Z1 aw⟩, ⟨Z4⟩⟩)
          rw [if_neg c928] at H
          have n5 : (jB == (wrap64 (eJ - el))) = false := beq_eq_false_iff_ne.mpr c928
          have AY : (jB != (wrap64 (eJ - el))) = true := bne_iff_ne.mpr c928
          (first | rw [n5] | (simp only [i64_w, i32_w]; rw [n5]) | skip)
          have H' := Aside0.mk H
          clear H
          obtain ⟨hcz1018_0, hcz1018_1, hfz1018_0, hfz1018_1⟩ := bx2_ (w := wc) aq.out
          obtain ⟨hcz1026_0, hcz1026_1, hfz1026_0, hfz1026_1⟩ := bx2_ (w := wc) ap.out
          as_aux_lemma =>
           go_wp2
           all_goals (try (rename_i hq_ hr_; cases hq_; done))
           all_goals ((refine Met.intro ?_; go_step; (repeat (first | apply ex_32 | apply ex_8 | apply Exists.intro)); refine ⟨?rel, rfl⟩); case rel => exact ⟨_, (true), (Z41), H', ⟨Z211⟩, ⟨Z2 aK⟩, ⟨Z2 af⟩, ⟨Z2 ab⟩, ⟨Z2 ag⟩, ⟨Z2 ah⟩, ⟨Z2 ae⟩, ⟨Z2 ai⟩, ⟨Z2 ac⟩, ⟨Z2 aa⟩, ⟨Z2 aj⟩, ⟨Z1 am⟩, ⟨Z1 ak⟩, ⟨Z1 al⟩, ⟨Z1 aq⟩, ⟨Z1 ao⟩, ⟨Z1 ap⟩, ⟨Z1 ar⟩, ⟨Z1 av⟩, ⟨Z1 aw⟩, ⟨Z4⟩⟩)
         replace c927 := Bool.eq_false_iff.mpr c927
         subst c927
         rw [if_neg (show ¬ (false = true) by decide)] at H
         have H' := Aside0.mk H
         clear H
         as_aux_lemma =>
          go_wp2
          all_goals (try (rename_i hq_ hr_; cases hq_; done))
          all_goals ((refine Met.intro ?_; go_step; (repeat (first | apply ex_32 | apply ex_8 | apply Exists.intro)); refine ⟨?rel, rfl⟩); case rel => exact ⟨_, (false), (Z41), H', ⟨Z211⟩, ⟨Z2 aK⟩, ⟨Z2 af⟩, ⟨Z2 ab⟩, ⟨Z2 ag⟩, ⟨Z2 ah⟩, ⟨Z2 ae⟩, ⟨Z2 ai⟩, ⟨Z2 ac⟩, ⟨Z2 aa⟩, ⟨Z2 aj⟩, ⟨Z1 am⟩, ⟨Z1 ak⟩, ⟨Z1 al⟩, ⟨Z1 aq⟩, ⟨Z1 ao⟩, ⟨Z1 ap⟩, ⟨Z1 ar⟩, ⟨Z1 av⟩, ⟨Z1 aw⟩, ⟨Z4⟩⟩)
       case rest =>
        as_aux_lemma =>
         clear HC926
         obtain ⟨kq, nC, rfl, HA, xp, aK, af, ab, ag, ah, ae, ai, ac, aa, aj, am, ak, al, aq, ao, ap, ar, av, aw, HB⟩ := hcut
         cases kq with
         | zero => exact absurd HA.out (by simp [laws_FnPunchJobs.j2])
         | succ Bd =>
          have H := HA.out
          clear HA
          simp only [laws_FnPunchJobs.j2] at H
          by_cases c1027 : nC = true
          ·subst c1027
           rw [if_pos rfl] at H
           obtain rfl := Option.some.inj H
           as_aux_lemma =>
            go_wp2
            go_ret
            exact ⟨Z11, Z4⟩
          replace c1027 := Bool.eq_false_iff.mpr c1027
          subst c1027
          rw [if_neg (show ¬ (false = true) by decide)] at H
          have HC1028 := Aside0.mk H
          clear H
          go_upto_if 325 with (fail)
          go_cut [] (fun wc => ∃ (kq : Nat), Aside0 (laws_FnPunchJobs.j4 kq jS l7 fQ l8 bG dZ bw dq bF dL = some r) ∧ Aside0 (kq ≤ Bd) ∧ Aside0 (Kd.R k90 90 wc w.heap.size (fun k_ => some k_ ≠ ((.slice bN bw.length bL) : Value).ownBlock ∧ some k_ ≠ ((.slice cx bF.length cu) : Value).ownBlock ∧ some k_ ≠ ((.slice cw bX.length cp) : Value).ownBlock ∧ some k_ ≠ ((.slice cA bO.length cz) : Value).ownBlock ∧ some k_ ≠ ((.slice cB bS.length cC) : Value).ownBlock ∧ some k_ ≠ ((.slice cy bE.length cv) : Value).ownBlock ∧ some k_ ≠ ((.slice b3 bB.length b4) : Value).ownBlock ∧ some k_ ≠ ((.slice cN co.length cO) : Value).ownBlock) (.slice ca bG.length bV) bG) ∧ Aside0 (Kd.R k90 90 wc w.heap.size (fun k_ => some k_ ≠ ((.slice ca bG.length bV) : Value).ownBlock ∧ some k_ ≠ ((.slice cx bF.length cu) : Value).ownBlock ∧ some k_ ≠ ((.slice cw bX.length cp) : Value).ownBlock ∧ some k_ ≠ ((.slice cA bO.length cz) : Value).ownBlock ∧ some k_ ≠ ((.slice cB bS.length cC) : Value).ownBlock ∧ some k_ ≠ ((.slice cy bE.length cv) : Value).ownBlock ∧ some k_ ≠ ((.slice b3 bB.length b4) : Value).ownBlock ∧ some k_ ≠ ((.slice cN co.length cO) : Value).ownBlock) (.slice bN bw.length bL) bw) ∧ Aside0 (Kd.R k90 90 wc w.heap.size (fun k_ => some k_ ≠ ((.slice ca bG.length bV) : Value).ownBlock ∧ some k_ ≠ ((.slice bN bw.length bL) : Value).ownBlock ∧ some k_ ≠ ((.slice cw bX.length cp) : Value).ownBlock ∧ some k_ ≠ ((.slice cA bO.length cz) : Value).ownBlock ∧ some k_ ≠ ((.slice cB bS.length cC) : Value).ownBlock ∧ some k_ ≠ ((.slice cy bE.length cv) : Value).ownBlock ∧ some k_ ≠ ((.slice b3 bB.length b4) : Value).ownBlock ∧ some k_ ≠ ((.slice cN co.length cO) : Value).ownBlock) (.slice cx bF.length cu) bF) ∧ Aside0 (Kd.R k90 90 wc w.heap.size (fun k_ => some k_ ≠ ((.slice ca bG.length bV) : Value).ownBlock ∧ some k_ ≠ ((.slice bN bw.length bL) : Value).ownBlock ∧ some k_ ≠ ((.slice cx bF.length cu) : Value).ownBlock ∧ some k_ ≠ ((.slice cA bO.length cz) : Value).ownBlock ∧ some k_ ≠ ((.slice cB bS.length cC) : Value).ownBlock ∧ some k_ ≠ ((.slice cy bE.length cv) : Value).ownBlock ∧ some k_ ≠ ((.slice b3 bB.length b4) : Value).ownBlock ∧ some k_ ≠ ((.slice cN co.length cO) : Value).ownBlock) (.slice cw bX.length cp) bX) ∧ Aside0 (Kd.R k90 90 wc w.heap.size (fun k_ => some k_ ≠ ((.slice ca bG.length bV) : Value).ownBlock ∧ some k_ ≠ ((.slice bN bw.length bL) : Value).ownBlock ∧ some k_ ≠ ((.slice cx bF.length cu) : Value).ownBlock ∧ some k_ ≠ ((.slice cw bX.length cp) : Value).ownBlock ∧ some k_ ≠ ((.slice cB bS.length cC) : Value).ownBlock ∧ some k_ ≠ ((.slice cy bE.length cv) : Value).ownBlock ∧ some k_ ≠ ((.slice b3 bB.length b4) : Value).ownBlock ∧ some k_ ≠ ((.slice cN co.length cO) : Value).ownBlock) (.slice cA bO.length cz) bO) ∧ Aside0 (Kd.R k90 90 wc w.heap.size (fun k_ => some k_ ≠ ((.slice ca bG.length bV) : Value).ownBlock ∧ some k_ ≠ ((.slice bN bw.length bL) : Value).ownBlock ∧ some k_ ≠ ((.slice cx bF.length cu) : Value).ownBlock ∧ some k_ ≠ ((.slice cw bX.length cp) : Value).ownBlock ∧ some k_ ≠ ((.slice cA bO.length cz) : Value).ownBlock ∧ some k_ ≠ ((.slice cy bE.length cv) : Value).ownBlock ∧ some k_ ≠ ((.slice b3 bB.length b4) : Value).ownBlock ∧ some k_ ≠ ((.slice cN co.length cO) : Value).ownBlock) (.slice cB bS.length cC) bS) ∧ Aside0 (Kd.R k90 90 wc w.heap.size (fun k_ => some k_ ≠ ((.slice ca bG.length bV) : Value).ownBlock ∧ some k_ ≠ ((.slice bN bw.length bL) : Value).ownBlock ∧ some k_ ≠ ((.slice cx bF.length cu) : Value).ownBlock ∧ some k_ ≠ ((.slice cw bX.length cp) : Value).ownBlock ∧ some k_ ≠ ((.slice cA bO.length cz) : Value).ownBlock ∧ some k_ ≠ ((.slice cB bS.length cC) : Value).ownBlock ∧ some k_ ≠ ((.slice b3 bB.length b4) : Value).ownBlock ∧ some k_ ≠ ((.slice cN co.length cO) : Value).ownBlock) (.slice cy bE.length cv) bE) ∧ Aside0 (Kd.R k90 90 wc w.heap.size (fun k_ => some k_ ≠ ((.slice ca bG.length bV) : Value).ownBlock ∧ some k_ ≠ ((.slice bN bw.length bL) : Value).ownBlock ∧ some k_ ≠ ((.slice cx bF.length cu) : Value).ownBlock ∧ some k_ ≠ ((.slice cw bX.length cp) : Value).ownBlock ∧ some k_ ≠ ((.slice cA bO.length cz) : Value).ownBlock ∧ some k_ ≠ ((.slice cB bS.length cC) : Value).ownBlock ∧ some k_ ≠ ((.slice cy bE.length cv) : Value).ownBlock ∧ some k_ ≠ ((.slice cN co.length cO) : Value).ownBlock) (.slice b3 bB.length b4) bB) ∧ Aside0 (Kd.R k90 90 wc w.heap.size (fun k_ => some k_ ≠ ((.slice ca bG.length bV) : Value).ownBlock ∧ some k_ ≠ ((.slice bN bw.length bL) : Value).ownBlock ∧ some k_ ≠ ((.slice cx bF.length cu) : Value).ownBlock ∧ some k_ ≠ ((.slice cw bX.length cp) : Value).ownBlock ∧ some k_ ≠ ((.slice cA bO.length cz) : Value).ownBlock ∧ some k_ ≠ ((.slice cB bS.length cC) : Value).ownBlock ∧ some k_ ≠ ((.slice cy bE.length cv) : Value).ownBlock ∧ some k_ ≠ ((.slice b3 bB.length b4) : Value).ownBlock) (.slice cN co.length cO) co) ∧ Aside0 (wc.heap[bQ]? = some (.cells #[(.slice ca bG.length bV), .int .i64 dZ] 44 (0, 0))) ∧ Aside0 (wc.heap[bR]? = some (.cells #[(.slice bN bw.length bL), .int .i64 dq] 44 (0, 0))) ∧ Aside0 (wc.heap[bU]? = some (.cells #[(.slice cx bF.length cu), .int .i64 dL] 44 (0, 0))) ∧ Aside0 (wc.heap[bW]? = some (.cells #[(.slice cw bX.length cp), .int .i64 eJ] 44 (0, 0))) ∧ Aside0 (wc.heap[bZ]? = some (.cells #[(.slice cA bO.length cz), .int .i64 eD] 44 (0, 0))) ∧ Aside0 (wc.heap[cb]? = some (.cells #[(.slice cB bS.length cC), .int .i64 el] 44 (0, 0))) ∧ Aside0 (wc.heap[cd]? = some (.cells #[(.slice cy bE.length cv), .int .i64 em] 44 (0, 0))) ∧ Aside0 (wc.heap[ck]? = some (.cells #[(.slice b3 bB.length b4), .int .i64 dC] 44 (0, 0))) ∧ Aside0 (wc.heap[bP]? = some (.cells #[(.slice cN co.length cO), .int .i64 e8] 44 (0, 0))) ∧ Aside0 (Below w.heap.size w wc))
          case first =>
           as_aux_lemma =>
            have H := HC1028.out
            clear HC1028
            by_cases c1029 : iP = true
            ·subst c1029
             rw [if_pos rfl] at H
             have H' := Aside0.mk H
             clear H
             obtain ⟨Be, Bf, eo1030⟩ := Kd.R_slice aK.out
             subst eo1030
             go_wp2
             go_loopg [328] Bd (fun kq H8 w' => ∃ (eB : Int), H8 = .int .i64 eB ∧ Aside0 (laws_FnPunchJobs.l0 kq jS l7 fQ l8 fb fb (fb.length : Int) eB bG dZ bw dq bF dL bE em = some r) ∧ Aside0 (kq ≤ Bd) ∧ Aside0 (Kd.R (Kd.int .i64) 3 w' w.heap.size (fun _ => True) (.slice Be fb.length Bf) fb) ∧ Aside0 (Kd.R (Kd.int .i64) 3 w' w.heap.size (fun _ => True) (.slice Be fb.length Bf) fb) ∧ Aside0 (Kd.R k90 90 w' w.heap.size (fun k_ => some k_ ≠ ((.slice bN bw.length bL) : Value).ownBlock ∧ some k_ ≠ ((.slice cx bF.length cu) : Value).ownBlock ∧ some k_ ≠ ((.slice cw bX.length cp) : Value).ownBlock ∧ some k_ ≠ ((.slice cA bO.length cz) : Value).ownBlock ∧ some k_ ≠ ((.slice cB bS.length cC) : Value).ownBlock ∧ some k_ ≠ ((.slice cy bE.length cv) : Value).ownBlock ∧ some k_ ≠ ((.slice b3 bB.length b4) : Value).ownBlock ∧ some k_ ≠ ((.slice cN co.length cO) : Value).ownBlock) (.slice ca bG.length bV) bG) ∧ Aside0 (Kd.R k90 90 w' w.heap.size (fun k_ => some k_ ≠ ((.slice ca bG.length bV) : Value).ownBlock ∧ some k_ ≠ ((.slice cx bF.length cu) : Value).ownBlock ∧ some k_ ≠ ((.slice cw bX.length cp) : Value).ownBlock ∧ some k_ ≠ ((.slice cA bO.length cz) : Value).ownBlock ∧ some k_ ≠ ((.slice cB bS.length cC) : Value).ownBlock ∧ some k_ ≠ ((.slice cy bE.length cv) : Value).ownBlock ∧ some k_ ≠ ((.slice b3 bB.length b4) : Value).ownBlock ∧ some k_ ≠ ((.slice cN co.length cO) : Value).ownBlock) (.slice bN bw.length bL) bw) ∧ Aside0 (Kd.R k90 90 w' w.heap.size (fun k_ => some k_ ≠ ((.slice ca bG.length bV) : Value).ownBlock ∧ some k_ ≠ ((.slice bN bw.length bL) : Value).ownBlock ∧ some k_ ≠ ((.slice cw bX.length cp) : Value).ownBlock ∧ some k_ ≠ ((.slice cA bO.length cz) : Value).ownBlock ∧ some k_ ≠ ((.slice cB bS.length cC) : Value).ownBlock ∧ some k_ ≠ ((.slice cy bE.length cv) : Value).ownBlock ∧ some k_ ≠ ((.slice b3 bB.length b4) : Value).ownBlock ∧ some k_ ≠ ((.slice cN co.length cO) : Value).ownBlock) (.slice cx bF.length cu) bF) ∧ Aside0 (Kd.R k90 90 w' w.heap.size (fun k_ => some k_ ≠ ((.slice ca bG.length bV) : Value).ownBlock ∧ some k_ ≠ ((.slice bN bw.length bL) : Value).ownBlock ∧ some k_ ≠ ((.slice cx bF.length cu) : Value).ownBlock ∧ some k_ ≠ ((.slice cA bO.length cz) : Value).ownBlock ∧ some k_ ≠ ((.slice cB bS.length cC) : Value).ownBlock ∧ some k_ ≠ ((.slice cy bE.length cv) : Value).ownBlock ∧ some k_ ≠ ((.slice b3 bB.length b4) : Value).ownBlock ∧ some k_ ≠ ((.slice cN co.length cO) : Value).ownBlock) (.slice cw bX.length cp) bX) ∧ Aside0 (Kd.R k90 90 w' w.heap.size (fun k_ => some k_ ≠ ((.slice ca bG.length bV) : Value).ownBlock ∧ some k_ ≠ ((.slice bN bw.length bL) : Value).ownBlock ∧ some k_ ≠ ((.slice cx bF.length cu) : Value).ownBlock ∧ some k_ ≠ ((.slice cw bX.length cp) : Value).ownBlock ∧ some k_ ≠ ((.slice cB bS.length cC) : Value).ownBlock ∧ some k_ ≠ ((.slice cy bE.length cv) : Value).ownBlock ∧ some k_ ≠ ((.slice b3 bB.length b4) : Value).ownBlock ∧ some k_ ≠ ((.slice cN co.length cO) : Value).ownBlock) (.slice cA bO.length cz) bO) ∧ Aside0 (Kd.R k90 90 w' w.heap.size (fun k_ => some k_ ≠ ((.slice ca bG.length bV) : Value).ownBlock ∧ some k_ ≠ ((.slice bN bw.length bL) : Value).ownBlock ∧ some k_ ≠ ((.slice cx bF.length cu) : Value).ownBlock ∧ some k_ ≠ ((.slice cw bX.length cp) : Value).ownBlock ∧ some k_ ≠ ((.slice cA bO.length cz) : Value).ownBlock ∧ some k_ ≠ ((.slice cy bE.length cv) : Value).ownBlock ∧ some k_ ≠ ((.slice b3 bB.length b4) : Value).ownBlock ∧ some k_ ≠ ((.slice cN co.length cO) : Value).ownBlock) (.slice cB bS.length cC) bS) ∧ Aside0 (Kd.R k90 90 w' w.heap.size (fun k_ => some k_ ≠ ((.slice ca bG.length bV) : Value).ownBlock ∧ some k_ ≠ ((.slice bN bw.length bL) : Value).ownBlock ∧ some k_ ≠ ((.slice cx bF.length cu) : Value).ownBlock ∧ some k_ ≠ ((.slice cw bX.length cp) : Value).ownBlock ∧ some k_ ≠ ((.slice cA bO.length cz) : Value).ownBlock ∧ some k_ ≠ ((.slice cB bS.length cC) : Value).ownBlock ∧ some k_ ≠ ((.slice b3 bB.length b4) : Value).ownBlock ∧ some k_ ≠ ((.slice cN co.length cO) : Value).ownBlock) (.slice cy bE.length cv) bE) ∧ Aside0 (Kd.R k90 90 w' w.heap.size (fun k_ => some k_ ≠ ((.slice ca bG.length bV) : Value).ownBlock ∧ some k_ ≠ ((.slice bN bw.length bL) : Value).ownBlock ∧ some k_ ≠ ((.slice cx bF.length cu) : Value).ownBlock ∧ some k_ ≠ ((.slice cw bX.length cp) : Value).ownBlock ∧ some k_ ≠ ((.slice cA bO.length cz) : Value).ownBlock ∧ some k_ ≠ ((.slice cB bS.length cC) : Value).ownBlock ∧ some k_ ≠ ((.slice cy bE.length cv) : Value).ownBlock ∧ some k_ ≠ ((.slice cN co.length cO) : Value).ownBlock) (.slice b3 bB.length b4) bB) ∧ Aside0 (Kd.R k90 90 w' w.heap.size (fun k_ => some k_ ≠ ((.slice ca bG.length bV) : Value).ownBlock ∧ some k_ ≠ ((.slice bN bw.length bL) : Value).ownBlock ∧ some k_ ≠ ((.slice cx bF.length cu) : Value).ownBlock ∧ some k_ ≠ ((.slice cw bX.length cp) : Value).ownBlock ∧ some k_ ≠ ((.slice cA bO.length cz) : Value).ownBlock ∧ some k_ ≠ ((.slice cB bS.length cC) : Value).ownBlock ∧ some k_ ≠ ((.slice cy bE.length cv) : Value).ownBlock ∧ some k_ ≠ ((.slice b3 bB.length b4) : Value).ownBlock) (.slice cN co.length cO) co) ∧ Aside0 (w'.heap[bQ]? = some (.cells #[(.slice ca bG.length bV), .int .i64 dZ] 44 (0, 0))) ∧ Aside0 (w'.heap[bR]? = some (.cells #[(.slice bN bw.length bL), .int .i64 dq] 44 (0, 0))) ∧ Aside0 (w'.heap[bU]? = some (.cells #[(.slice cx bF.length cu), .int .i64 dL] 44 (0, 0))) ∧ Aside0 (w'.heap[bW]? = some (.cells #[(.slice cw bX.length cp), .int .i64 eJ] 44 (0, 0))) ∧ Aside0 (w'.heap[bZ]? = some (.cells #[(.slice cA bO.length cz), .int .i64 eD] 44 (0, 0))) ∧ Aside0 (w'.heap[cb]? = some (.cells #[(.slice cB bS.length cC), .int .i64 el] 44 (0, 0))) ∧ Aside0 (w'.heap[cd]? = some (.cells #[(.slice cy bE.length cv), .int .i64 em] 44 (0, 0))) ∧ Aside0 (w'.heap[ck]? = some (.cells #[(.slice b3 bB.length b4), .int .i64 dC] 44 (0, 0))) ∧ Aside0 (w'.heap[bP]? = some (.cells #[(.slice cN co.length cO), .int .i64 e8] 44 (0, 0))) ∧ Aside0 (Below w.heap.size w w'))
             case atStart => exact ⟨(0), (Z41), H', ⟨Nat.le_refl _⟩, ⟨Z2 aK⟩, ⟨Z2 aK⟩, ⟨Z2 af⟩, ⟨Z2 ab⟩, ⟨Z2 ag⟩, ⟨Z2 ah⟩, ⟨Z2 ae⟩, ⟨Z2 ai⟩, ⟨Z2 ac⟩, ⟨Z2 aa⟩, ⟨Z2 aj⟩, ⟨Z1 am⟩, ⟨Z1 ak⟩, ⟨Z1 al⟩, ⟨Z1 aq⟩, ⟨Z1 ao⟩, ⟨Z1 ap⟩, ⟨Z1 ar⟩, ⟨Z1 av⟩, ⟨Z1 aw⟩, ⟨Z4⟩⟩
             case round =>
              as_aux_lemma =>
               clear H'
               (try clear c1027); (try clear c1029)
               obtain ⟨eB, rfl, HA, HK4, aK, gy, af, ab, ag, ah, ae, ai, ac, aa, aj, am, ak, al, aq, ao, ap, ar, av, aw, HB⟩ := hrel
               cases gk with
               | zero => exact absurd HA.out (by simp [laws_FnPunchJobs.l0])
               | succ k4 =>
                have H := HA.out
                clear HA
                simp only [laws_FnPunchJobs.l0] at H
                by_cases c1031 : eB < (fb.length : Int)
                ·rw [if_pos c1031] at H
                 have lU : decide (eB < (fb.length : Int)) = true := decide_eq_true c1031
                 clear c1031
                 (first | rw [lU] | (simp only [i64_w, i32_w]; rw [lU]) | skip)
                 by_cases c1032 : 0 ≤ eB
                 case neg => rw [if_neg c1032] at H; exact absurd H (by simp)
                 rw [if_pos c1032] at H
                 have c1032b0 : decide (0 ≤ eB) = true := decide_eq_true c1032
                 clear c1032
                 by_cases c1033 : eB < (fb.length : Int)
                 case neg => rw [if_neg c1033] at H; exact absurd H (by simp)
                 rw [if_pos c1033] at H
                 have c1033b0 : decide (eB < (fb.length : Int)) = true := decide_eq_true c1033
                 clear c1033
                 by_cases c1034 : (rd fb eB) < 0
                 ·rw [if_pos c1034] at H
                  have xq : decide ((rd fb eB) < 0) = true := decide_eq_true c1034
                  clear c1034
                  obtain rfl := Option.some.inj H
                  have oG : 0 ≤ (eB : Int) := of_decide_eq_true (Z21)
                  have oH : eB < (fb.length : Int) := of_decide_eq_true (Z21)
                  obtain ⟨EK, e815, rO⟩ := Kd.at_int (Kd.R_reads' gy.out).2.2 eB oG oH
                  cases e815
                  replace oG := eq_true oG
                  replace oH := eq_true oH
                  as_aux_lemma =>
                   go_wp2
                   go_ret
                   exact ⟨Z11, Z4⟩
                 rw [if_neg c1034] at H
                 have xq : decide ((rd fb eB) < 0) = false := decide_eq_false c1034
                 clear c1034
                 by_cases c1035 : (rd fb eB) ≥ (bE.length : Int)
                 ·rw [if_pos c1035] at H
                  have xr : decide ((bE.length : Int) ≤ (rd fb eB)) = true := decide_eq_true c1035
                  clear c1035
                  obtain rfl := Option.some.inj H
                  have oG : 0 ≤ (eB : Int) := of_decide_eq_true (Z21)
                  have oH : eB < (fb.length : Int) := of_decide_eq_true (Z21)
                  obtain ⟨EK, e815, rO⟩ := Kd.at_int (Kd.R_reads' gy.out).2.2 eB oG oH
                  cases e815
                  replace oG := eq_true oG
                  replace oH := eq_true oH
                  obtain ⟨hcz1044_0, hcz1044_1, hfz1044_0, hfz1044_1⟩ := bx2_ (w := wr) ar.out
                  as_aux_lemma =>
                   go_wp2
                   go_ret
                   exact ⟨Z11, Z4⟩
                 rw [if_neg c1035] at H
                 have xr : decide ((bE.length : Int) ≤ (rd fb eB)) = false := decide_eq_false c1035
                 clear c1035
                 have H' := Aside0.mk H
                 clear H
                 have oG : 0 ≤ (eB : Int) := of_decide_eq_true (Z21)
                 have oH : eB < (fb.length : Int) := of_decide_eq_true (Z21)
                 obtain ⟨EK, e815, rO⟩ := Kd.at_int (Kd.R_reads' gy.out).2.2 eB oG oH
                 cases e815
                 replace oG := eq_true oG
                 replace oH := eq_true oH
                 obtain ⟨hcz1053_0, hcz1053_1, hfz1053_0, hfz1053_1⟩ := bx2_ (w := wr) ar.out
                 as_aux_lemma =>
                  go_wp2
                  go_roundg k4
                  case measure => have := uK.out; have := se.out; have := xp.out; have := HK4.out; omega
                  case rel => exact ⟨(wrap64 (eB + 1)), (Z41), H', ⟨by have := uK.out; have := se.out; have := xp.out; have := HK4.out; omega⟩, ⟨Z2 aK⟩, ⟨Z2 gy⟩, ⟨Z2 af⟩, ⟨Z2 ab⟩, ⟨Z2 ag⟩, ⟨Z2 ah⟩, ⟨Z2 ae⟩, ⟨Z2 ai⟩, ⟨Z2 ac⟩, ⟨Z2 aa⟩, ⟨Z2 aj⟩, ⟨Z1 am⟩, ⟨Z1 ak⟩, ⟨Z1 al⟩, ⟨Z1 aq⟩, ⟨Z1 ao⟩, ⟨Z1 ap⟩, ⟨Z1 ar⟩, ⟨Z1 av⟩, ⟨Z1 aw⟩, ⟨Z4⟩⟩
                rw [if_neg c1031] at H
                have lU : decide (eB < (fb.length : Int)) = false := decide_eq_false c1031
                clear c1031
                (first | rw [lU] | (simp only [i64_w, i32_w]; rw [lU]) | skip)
                obtain ⟨⟨p7, t817⟩, Bh, H⟩ := bd_ H
                (try dsimp only at H)
                by_cases c1055 : t817 = true
                ·subst c1055
                 rw [if_pos rfl] at H
                 by_cases c1056 : (((fb.length : Int) == (bE.length : Int)) != (em == (p7.length : Int))) = true
                 ·rw [if_pos c1056] at H
                  have xt : (((fb.length : Int) == (bE.length : Int)) != (em == (p7.length : Int))) = true := c1056
                  (try (have xu : decide (((fb.length : Int) == (bE.length : Int)) = (em == (p7.length : Int))) = false := by simpa using c1056))
                  (try (have xv : (((fb.length : Int) == (bE.length : Int)) == (em == (p7.length : Int))) = false := by simpa using c1056))
                  (try (have c1056b3 : ¬ (((fb.length : Int) == (bE.length : Int)) = (em == (p7.length : Int))) := by simpa using c1056))
                  clear c1056
                  obtain rfl := Option.some.inj H
                  obtain ⟨hcz1065_0, hcz1065_1, hfz1065_0, hfz1065_1⟩ := bx2_ (w := wr) ar.out
                  as_aux_lemma =>
                   go_wp2_with ((with_reducible refine gate_callee (f := 43) rfl ?_); refine gl_ 345 Try.func43 #[.slice cy bE.length cv] ?_; (with_reducible refine (spec_StrokesOf.calls k4 _ _ bE p7 true _ ?_ ?_ Bh.out).mono ?_); exact (Z7 ac); exact (Kd.R_reads' ac.out).2.1; rintro e w1066 ⟨H9, rfl, ho0, hb⟩; refine ⟨_, rfl, ?_⟩; refine k22_ (Ya_ aK) (Ya_ gy) (Ya_ af) (Ya_ ab) (Ya_ ag) (Ya_ ah) (Ya_ ae) (Ya_ ai) (Ya_ ac) (Ya_ aa) (Ya_ aj) (Kd.R_lower ho0 (below_size (Z4))) (Ye_ am) (Ye_ ak) (Ye_ al) (Ye_ aq) (Ye_ ao) (Ye_ ap) (Ye_ ar) (Ye_ av) (Ye_ aw) (below_step (Z4) hb) ?_; clear aK gy af ab ag ah ae ai ac aa aj am ak al aq ao ap ar av aw HB; intro aK gy af ab ag ah ae ai ac aa aj xw am ak al aq ao ap ar av aw HB; (try clear hb ho0); obtain ⟨hcz1067_0, hcz1067_1, hfz1067_0, hfz1067_1⟩ := bx2_ (w := w1066) ar.out; obtain ⟨Ao1068, co1068, eo1068⟩ := Kd.R_slice xw.out; subst eo1068)
                   go_ret
                   exact ⟨Z11, Z4⟩
                 rw [if_neg c1056] at H
                 have xt : (((fb.length : Int) == (bE.length : Int)) != (em == (p7.length : Int))) = false := by simpa using c1056
                 (try (have xu : decide (((fb.length : Int) == (bE.length : Int)) = (em == (p7.length : Int))) = true := by simpa using c1056))
                 (try (have xv : (((fb.length : Int) == (bE.length : Int)) == (em == (p7.length : Int))) = true := by simpa using c1056))
                 clear c1056
                 have H' := Aside0.mk H
                 clear H
                 obtain ⟨hcz1077_0, hcz1077_1, hfz1077_0, hfz1077_1⟩ := bx2_ (w := wr) ar.out
                 as_aux_lemma =>
                  go_wp2_with ((with_reducible refine gate_callee (f := 43) rfl ?_); refine gl_ 345 Try.func43 #[.slice cy bE.length cv] ?_; (with_reducible refine (spec_StrokesOf.calls k4 _ _ bE p7 true _ ?_ ?_ Bh.out).mono ?_); exact (Z7 ac); exact (Kd.R_reads' ac.out).2.1; rintro e w1078 ⟨H9, rfl, ho0, hb⟩; refine ⟨_, rfl, ?_⟩; refine k22_ (Ya_ aK) (Ya_ gy) (Ya_ af) (Ya_ ab) (Ya_ ag) (Ya_ ah) (Ya_ ae) (Ya_ ai) (Ya_ ac) (Ya_ aa) (Ya_ aj) (Kd.R_lower ho0 (below_size (Z4))) (Ye_ am) (Ye_ ak) (Ye_ al) (Ye_ aq) (Ye_ ao) (Ye_ ap) (Ye_ ar) (Ye_ av) (Ye_ aw) (below_step (Z4) hb) ?_; clear aK gy af ab ag ah ae ai ac aa aj am ak al aq ao ap ar av aw HB; intro aK gy af ab ag ah ae ai ac aa aj xw am ak al aq ao ap ar av aw HB; (try clear hb ho0); obtain ⟨hcz1079_0, hcz1079_1, hfz1079_0, hfz1079_1⟩ := bx2_ (w := w1078) ar.out; obtain ⟨Ao1080, co1080, eo1080⟩ := Kd.R_slice xw.out; subst eo1080)
                  all_goals (try (rename_i hq_ hr_; cases hq_; done))
                  all_goals ((refine Met.intro ?_; go_step; (repeat (first | apply ex_32 | apply ex_8 | apply Exists.intro)); refine ⟨?rel, rfl⟩); case rel => exact ⟨_, H', ⟨by have := uK.out; have := se.out; have := xp.out; have := HK4.out; first | omega | exact Nat.le_refl _⟩, ⟨Z2 af⟩, ⟨Z2 ab⟩, ⟨Z2 ag⟩, ⟨Z2 ah⟩, ⟨Z2 ae⟩, ⟨Z2 ai⟩, ⟨Z2 ac⟩, ⟨Z2 aa⟩, ⟨Z2 aj⟩, ⟨Z1 am⟩, ⟨Z1 ak⟩, ⟨Z1 al⟩, ⟨Z1 aq⟩, ⟨Z1 ao⟩, ⟨Z1 ap⟩, ⟨Z1 ar⟩, ⟨Z1 av⟩, ⟨Z1 aw⟩, ⟨Z4⟩⟩)
                replace c1055 := Bool.eq_false_iff.mpr c1055
                subst c1055
                rw [if_neg (show ¬ (false = true) by decide)] at H
                obtain rfl := Option.some.inj H
                obtain ⟨hcz1089_0, hcz1089_1, hfz1089_0, hfz1089_1⟩ := bx2_ (w := wr) ar.out
                as_aux_lemma =>
                 go_wp2_with ((with_reducible refine gate_callee (f := 43) rfl ?_); refine gl_ 345 Try.func43 #[.slice cy bE.length cv] ?_; (with_reducible refine (spec_StrokesOf.calls k4 _ _ bE p7 false _ ?_ ?_ Bh.out).mono ?_); exact (Z7 ac); exact (Kd.R_reads' ac.out).2.1; rintro e w1090 ⟨H9, rfl, ho0, hb⟩; refine ⟨_, rfl, ?_⟩; refine k22_ (Ya_ aK) (Ya_ gy) (Ya_ af) (Ya_ ab) (Ya_ ag) (Ya_ ah) (Ya_ ae) (Ya_ ai) (Ya_ ac) (Ya_ aa) (Ya_ aj) (Kd.R_lower ho0 (below_size (Z4))) (Ye_ am) (Ye_ ak) (Ye_ al) (Ye_ aq) (Ye_ ao) (Ye_ ap) (Ye_ ar) (Ye_ av) (Ye_ aw) (below_step (Z4) hb) ?_; clear aK gy af ab ag ah ae ai ac aa aj am ak al aq ao ap ar av aw HB; intro aK gy af ab ag ah ae ai ac aa aj xw am ak al aq ao ap ar av aw HB; (try clear hb ho0))
                 go_ret
                 exact ⟨Z11, Z4⟩
            replace c1029 := Bool.eq_false_iff.mpr c1029
            subst c1029
            rw [if_neg (show ¬ (false = true) by decide)] at H
            have H' := Aside0.mk H
            clear H
            as_aux_lemma =>
             go_wp2
             all_goals (try (rename_i hq_ hr_; cases hq_; done))
             all_goals ((refine Met.intro ?_; go_step; (repeat (first | apply ex_32 | apply ex_8 | apply Exists.intro)); refine ⟨?rel, rfl⟩); case rel => exact ⟨_, H', ⟨by have := uK.out; have := se.out; have := xp.out; first | omega | exact Nat.le_refl _⟩, ⟨Z2 af⟩, ⟨Z2 ab⟩, ⟨Z2 ag⟩, ⟨Z2 ah⟩, ⟨Z2 ae⟩, ⟨Z2 ai⟩, ⟨Z2 ac⟩, ⟨Z2 aa⟩, ⟨Z2 aj⟩, ⟨Z1 am⟩, ⟨Z1 ak⟩, ⟨Z1 al⟩, ⟨Z1 aq⟩, ⟨Z1 ao⟩, ⟨Z1 ap⟩, ⟨Z1 ar⟩, ⟨Z1 av⟩, ⟨Z1 aw⟩, ⟨Z4⟩⟩)
          case rest =>
           as_aux_lemma =>
            clear HC1028
            (try clear c1027)
            obtain ⟨kq, HA, HJ1027, af, ab, ag, ah, ae, ai, ac, aa, aj, am, ak, al, aq, ao, ap, ar, av, aw, HB⟩ := hcut
            cases kq with
            | zero => exact absurd HA.out (by simp [laws_FnPunchJobs.j4])
            | succ iR =>
             have H := HA.out
             clear HA
             simp only [laws_FnPunchJobs.j4] at H
             by_cases c1091 : l7 = true
             ·subst c1091
              rw [if_pos rfl] at H
              obtain ⟨⟨jU, t821⟩, oq, H⟩ := bd_ H
              (try dsimp only at H)
              by_cases c1093 : t821 = true
              ·subst c1093
               rw [if_pos rfl] at H
               by_cases c1094 : jU = (wrap64 (l8 - fQ))
               ·rw [if_pos c1094] at H
                have c1094b0 : (jU == (wrap64 (l8 - fQ))) = true := beq_iff_eq.mpr c1094
                have c1094b1 : (jU != (wrap64 (l8 - fQ))) = false := bne_eq_false_iff_eq.mpr c1094
                clear c1094
                by_cases c1095 : fQ ≤ jS
                ·rw [if_pos c1095] at H
                 have c1095b0 : decide (fQ ≤ jS) = true := decide_eq_true c1095
                 clear c1095
                 by_cases c1096 : fQ = jS
                 ·rw [if_pos c1096] at H
                  have c1096b0 : (fQ == jS) = true := beq_iff_eq.mpr c1096
                  have c1096b1 : (fQ != jS) = false := bne_eq_false_iff_eq.mpr c1096
                  clear c1096
                  by_cases c1097 : dL = (wrap64 (dZ + fQ))
                  ·rw [if_pos c1097] at H
                   have c1097b0 : (dL == (wrap64 (dZ + fQ))) = true := beq_iff_eq.mpr c1097
                   have c1097b1 : (dL != (wrap64 (dZ + fQ))) = false := bne_eq_false_iff_eq.mpr c1097
                   clear c1097
                   obtain ⟨CF, A1098, H⟩ := bd_ H
                   replace H : (some CF) = some r := H
                   obtain rfl := Option.some.inj H
                   obtain ⟨hcz1107_0, hcz1107_1, hfz1107_0, hfz1107_1⟩ := bx2_ (w := wc) ak.out
                   as_aux_lemma =>
                    go_wp2_with (first | ((with_reducible refine gate_callee (f := 25) rfl ?_); refine gl_ 368 Try.func25 #[.agg #[.slice bN bw.length bL, .int .i64 dq]] ?_; (with_reducible refine (impl_StrokesLeft.calls iR _ _ bw dq jU true _ ?_ ?_ oq.out).mono ?_); exact (Z7 ab); exact (Kd.R_reads' ab.out).2.1; rintro e Bk ⟨rfl, hb⟩; refine ⟨_, rfl, ?_⟩; refine k19_ (Ya_ af) (Ya_ ab) (Ya_ ag) (Ya_ ah) (Ya_ ae) (Ya_ ai) (Ya_ ac) (Ya_ aa) (Ya_ aj) (Ye_ am) (Ye_ ak) (Ye_ al) (Ye_ aq) (Ye_ ao) (Ye_ ap) (Ye_ ar) (Ye_ av) (Ye_ aw) (below_step (Z4) hb) ?_; clear af ab ag ah ae ai ac aa aj am ak al aq ao ap ar av aw HB; intro af ab ag ah ae ai ac aa aj am ak al aq ao ap ar av aw HB; (try clear hb); have hnb1109 := dD.out; have hnc1109 := dt.out; have hnb1110 := cE.out; have hnc1110 := cR.out; have hnb1111 := dk.out; have hnc1111 := du.out; have hnb1112 := cG.out; have hnc1112 := cT.out; have hnb1113 := cH.out; have hnc1113 := cU.out; have hnb1114 := b8.out; have hnc1114 := ch.out; have hnb1115 := bC.out; have hnc1115 := dF.out; obtain ⟨hcz1116_0, hcz1116_1, hfz1116_0, hfz1116_1⟩ := bx2_ (w := Bk) al.out; have hnb1117 := fp.out; have hnc1117 := fB.out; have hnb1118 := dT.out; have hnc1118 := d7.out; have hnb1119 := dv.out; have hnc1119 := dE.out; have hnb1120 := eF.out; have hnc1120 := eO.out; have hnb1121 := dO.out; have hnc1121 := dY.out; have hnb1122 := cW.out; have hnc1122 := fR.out; obtain ⟨hcz1123_0, hcz1123_1, hfz1123_0, hfz1123_1⟩ := bx2_ (w := Bk) am.out; obtain ⟨hcz1124_0, hcz1124_1, hfz1124_0, hfz1124_1⟩ := bx2_ (w := Bk) ak.out) | (go_at_call 41; (with_reducible refine (impl_IsPunchJob.calls iR _ _ bw dq CF _ ?_ ?_ A1098.out).mono ?_); exact (Z7 ab); exact (Kd.R_reads' ab.out).2.1; rintro e w1125 ⟨rfl, hb⟩; refine k19_ (Ya_ af) (Ya_ ab) (Ya_ ag) (Ya_ ah) (Ya_ ae) (Ya_ ai) (Ya_ ac) (Ya_ aa) (Ya_ aj) (Ye_ am) (Ye_ ak) (Ye_ al) (Ye_ aq) (Ye_ ao) (Ye_ ap) (Ye_ ar) (Ye_ av) (Ye_ aw) (below_step (Z4) hb) ?_; clear af ab ag ah ae ai ac aa aj am ak al aq ao ap ar av aw HB; intro af ab ag ah ae ai ac aa aj am ak al aq ao ap ar av aw HB; (try clear hb)))
                    go_ret
                    exact ⟨Z11, Z4⟩
                  rw [if_neg c1097] at H
                  have c1097b0 : (dL == (wrap64 (dZ + fQ))) = false := beq_eq_false_iff_ne.mpr c1097
                  have c1097b1 : (dL != (wrap64 (dZ + fQ))) = true := bne_iff_ne.mpr c1097
                  obtain rfl := Option.some.inj H
                  obtain ⟨hcz1134_0, hcz1134_1, hfz1134_0, hfz1134_1⟩ := bx2_ (w := wc) ak.out
                  as_aux_lemma =>
                   go_wp2_with ((with_reducible refine gate_callee (f := 25) rfl ?_); refine gl_ 368 Try.func25 #[.agg #[.slice bN bw.length bL, .int .i64 dq]] ?_; (with_reducible refine (impl_StrokesLeft.calls iR _ _ bw dq jU true _ ?_ ?_ oq.out).mono ?_); exact (Z7 ab); exact (Kd.R_reads' ab.out).2.1; rintro e EL ⟨rfl, hb⟩; refine ⟨_, rfl, ?_⟩; refine k19_ (Ya_ af) (Ya_ ab) (Ya_ ag) (Ya_ ah) (Ya_ ae) (Ya_ ai) (Ya_ ac) (Ya_ aa) (Ya_ aj) (Ye_ am) (Ye_ ak) (Ye_ al) (Ye_ aq) (Ye_ ao) (Ye_ ap) (Ye_ ar) (Ye_ av) (Ye_ aw) (below_step (Z4) hb) ?_; clear af ab ag ah ae ai ac aa aj am ak al aq ao ap ar av aw HB; intro af ab ag ah ae ai ac aa aj am ak al aq ao ap ar av aw HB; (try clear hb); have hnb1136 := dD.out; have hnc1136 := dt.out; have hnb1137 := cE.out; have hnc1137 := cR.out; have hnb1138 := dk.out; have hnc1138 := du.out; have hnb1139 := cG.out; have hnc1139 := cT.out; have hnb1140 := cH.out; have hnc1140 := cU.out; have hnb1141 := b8.out; have hnc1141 := ch.out; have hnb1142 := bC.out; have hnc1142 := dF.out; obtain ⟨hcz1143_0, hcz1143_1, hfz1143_0, hfz1143_1⟩ := bx2_ (w := EL) al.out; have hnb1144 := fp.out; have hnc1144 := fB.out; have hnb1145 := dT.out; have hnc1145 := d7.out; have hnb1146 := dv.out; have hnc1146 := dE.out; have hnb1147 := eF.out; have hnc1147 := eO.out; have hnb1148 := dO.out; have hnc1148 := dY.out; have hnb1149 := cW.out; have hnc1149 := fR.out; obtain ⟨hcz1150_0, hcz1150_1, hfz1150_0, hfz1150_1⟩ := bx2_ (w := EL) am.out)
                   go_ret
                   exact ⟨Z11, Z4⟩
                 rw [if_neg c1096] at H
                 have c1096b0 : (fQ == jS) = false := beq_eq_false_iff_ne.mpr c1096
                 have c1096b1 : (fQ != jS) = true := bne_iff_ne.mpr c1096
                 by_cases c1151 : jU = 0
                 ·rw [if_pos c1151] at H
                  have c1151b0 : (jU == 0) = true := beq_iff_eq.mpr c1151
                  have c1151b1 : (jU != 0) = false := bne_eq_false_iff_eq.mpr c1151
                  clear c1151
                  by_cases c1152 : dL = (wrap64 (dZ + fQ))
                  ·rw [if_pos c1152] at H
                   have c1152b0 : (dL == (wrap64 (dZ + fQ))) = true := beq_iff_eq.mpr c1152
                   have c1152b1 : (dL != (wrap64 (dZ + fQ))) = false := bne_eq_false_iff_eq.mpr c1152
                   clear c1152
                   obtain ⟨CG, A1153, H⟩ := bd_ H
                   replace H : (some CG) = some r := H
                   obtain rfl := Option.some.inj H
                   obtain ⟨hcz1162_0, hcz1162_1, hfz1162_0, hfz1162_1⟩ := bx2_ (w := wc) ak.out
                   as_aux_lemma =>
                    go_wp2_with (first | ((with_reducible refine gate_callee (f := 25) rfl ?_); refine gl_ 368 Try.func25 #[.agg #[.slice bN bw.length bL, .int .i64 dq]] ?_; (with_reducible refine (impl_StrokesLeft.calls iR _ _ bw dq jU true _ ?_ ?_ oq.out).mono ?_); exact (Z7 ab); exact (Kd.R_reads' ab.out).2.1; rintro e Bm ⟨rfl, hb⟩; refine ⟨_, rfl, ?_⟩; refine k19_ (Ya_ af) (Ya_ ab) (Ya_ ag) (Ya_ ah) (Ya_ ae) (Ya_ ai) (Ya_ ac) (Ya_ aa) (Ya_ aj) (Ye_ am) (Ye_ ak) (Ye_ al) (Ye_ aq) (Ye_ ao) (Ye_ ap) (Ye_ ar) (Ye_ av) (Ye_ aw) (below_step (Z4) hb) ?_; clear af ab ag ah ae ai ac aa aj am ak al aq ao ap ar av aw HB; intro af ab ag ah ae ai ac aa aj am ak al aq ao ap ar av aw HB; (try clear hb); have hnb1164 := dD.out; have hnc1164 := dt.out; have hnb1165 := cE.out; have hnc1165 := cR.out; have hnb1166 := dk.out; have hnc1166 := du.out; have hnb1167 := cG.out; have hnc1167 := cT.out; have hnb1168 := cH.out; have hnc1168 := cU.out; have hnb1169 := b8.out; have hnc1169 := ch.out; have hnb1170 := bC.out; have hnc1170 := dF.out; obtain ⟨hcz1171_0, hcz1171_1, hfz1171_0, hfz1171_1⟩ := bx2_ (w := Bm) al.out; have hnb1172 := fp.out; have hnc1172 := fB.out; have hnb1173 := dT.out; have hnc1173 := d7.out; have hnb1174 := dv.out; have hnc1174 := dE.out; have hnb1175 := eF.out; have hnc1175 := eO.out; have hnb1176 := dO.out; have hnc1176 := dY.out; have hnb1177 := cW.out; have hnc1177 := fR.out; obtain ⟨hcz1178_0, hcz1178_1, hfz1178_0, hfz1178_1⟩ := bx2_ (w := Bm) am.out; obtain ⟨hcz1179_0, hcz1179_1, hfz1179_0, hfz1179_1⟩ := bx2_ (w := Bm) ak.out) | (go_at_call 41; (with_reducible refine (impl_IsPunchJob.calls iR _ _ bw dq CG _ ?_ ?_ A1153.out).mono ?_); exact (Z7 ab); exact (Kd.R_reads' ab.out).2.1; rintro e w1180 ⟨rfl, hb⟩; refine k19_ (Ya_ af) (Ya_ ab) (Ya_ ag) (Ya_ ah) (Ya_ ae) (Ya_ ai) (Ya_ ac) (Ya_ aa) (Ya_ aj) (Ye_ am) (Ye_ ak) (Ye_ al) (Ye_ aq) (Ye_ ao) (Ye_ ap) (Ye_ ar) (Ye_ av) (Ye_ aw) (below_step (Z4) hb) ?_; clear af ab ag ah ae ai ac aa aj am ak al aq ao ap ar av aw HB; intro af ab ag ah ae ai ac aa aj am ak al aq ao ap ar av aw HB; (try clear hb)))
                    go_ret
                    exact ⟨Z11, Z4⟩
                  rw [if_neg c1152] at H
                  have c1152b0 : (dL == (wrap64 (dZ + fQ))) = false := beq_eq_false_iff_ne.mpr c1152
                  have c1152b1 : (dL != (wrap64 (dZ + fQ))) = true := bne_iff_ne.mpr c1152
                  obtain rfl := Option.some.inj H
                  obtain ⟨hcz1189_0, hcz1189_1, hfz1189_0, hfz1189_1⟩ := bx2_ (w := wc) ak.out
                  as_aux_lemma =>
                   go_wp2_with ((with_reducible refine gate_callee (f := 25) rfl ?_); refine gl_ 368 Try.func25 #[.agg #[.slice bN bw.length bL, .int .i64 dq]] ?_; (with_reducible refine (impl_StrokesLeft.calls iR _ _ bw dq jU true _ ?_ ?_ oq.out).mono ?_); exact (Z7 ab); exact (Kd.R_reads' ab.out).2.1; rintro e EM ⟨rfl, hb⟩; refine ⟨_, rfl, ?_⟩; refine k19_ (Ya_ af) (Ya_ ab) (Ya_ ag) (Ya_ ah) (Ya_ ae) (Ya_ ai) (Ya_ ac) (Ya_ aa) (Ya_ aj) (Ye_ am) (Ye_ ak) (Ye_ al) (Ye_ aq) (Ye_ ao) (Ye_ ap) (Ye_ ar) (Ye_ av) (Ye_ aw) (below_step (Z4) hb) ?_; clear af ab ag ah ae ai ac aa aj am ak al aq ao ap ar av aw HB; intro af ab ag ah ae ai ac aa aj am ak al aq ao ap ar av aw HB; (try clear hb); have hnb1191 := dD.out; have hnc1191 := dt.out; have hnb1192 := cE.out; have hnc1192 := cR.out; have hnb1193 := dk.out; have hnc1193 := du.out; have hnb1194 := cG.out; have hnc1194 := cT.out; have hnb1195 := cH.out; have hnc1195 := cU.out; have hnb1196 := b8.out; have hnc1196 := ch.out; have hnb1197 := bC.out; have hnc1197 := dF.out; obtain ⟨hcz1198_0, hcz1198_1, hfz1198_0, hfz1198_1⟩ := bx2_ (w := EM) al.out; have hnb1199 := fp.out; have hnc1199 := fB.out; have hnb1200 := dT.out; have hnc1200 := d7.out; have hnb1201 := dv.out; have hnc1201 := dE.out; have hnb1202 := eF.out; have hnc1202 := eO.out; have hnb1203 := dO.out; have hnc1203 := dY.out; have hnb1204 := cW.out; have hnc1204 := fR.out; obtain ⟨hcz1205_0, hcz1205_1, hfz1205_0, hfz1205_1⟩ := bx2_ (w := EM) am.out)
                   go_ret
                   exact ⟨Z11, Z4⟩
                 rw [if_neg c1151] at H
                 have c1151b0 : (jU == 0) = false := beq_eq_false_iff_ne.mpr c1151
                 have c1151b1 : (jU != 0) = true := bne_iff_ne.mpr c1151
                 obtain rfl := Option.some.inj H
                 obtain ⟨hcz1214_0, hcz1214_1, hfz1214_0, hfz1214_1⟩ := bx2_ (w := wc) ak.out
                 as_aux_lemma =>
                  go_wp2_with ((with_reducible refine gate_callee (f := 25) rfl ?_); refine gl_ 368 Try.func25 #[.agg #[.slice bN bw.length bL, .int .i64 dq]] ?_; (with_reducible refine (impl_StrokesLeft.calls iR _ _ bw dq jU true _ ?_ ?_ oq.out).mono ?_); exact (Z7 ab); exact (Kd.R_reads' ab.out).2.1; rintro e w1215 ⟨rfl, hb⟩; refine ⟨_, rfl, ?_⟩; refine k19_ (Ya_ af) (Ya_ ab) (Ya_ ag) (Ya_ ah) (Ya_ ae) (Ya_ ai) (Ya_ ac) (Ya_ aa) (Ya_ aj) (Ye_ am) (Ye_ ak) (Ye_ al) (Ye_ aq) (Ye_ ao) (Ye_ ap) (Ye_ ar) (Ye_ av) (Ye_ aw) (below_step (Z4) hb) ?_; clear af ab ag ah ae ai ac aa aj am ak al aq ao ap ar av aw HB; intro af ab ag ah ae ai ac aa aj am ak al aq ao ap ar av aw HB; (try clear hb))
                  go_ret
                  exact ⟨Z11, Z4⟩
                rw [if_neg c1095] at H
                have c1095b0 : decide (fQ ≤ jS) = false := decide_eq_false c1095
                clear c1095
                obtain rfl := Option.some.inj H
                obtain ⟨hcz1224_0, hcz1224_1, hfz1224_0, hfz1224_1⟩ := bx2_ (w := wc) ak.out
                as_aux_lemma =>
                 go_wp2_with ((with_reducible refine gate_callee (f := 25) rfl ?_); refine gl_ 368 Try.func25 #[.agg #[.slice bN bw.length bL, .int .i64 dq]] ?_; (with_reducible refine (impl_StrokesLeft.calls iR _ _ bw dq jU true _ ?_ ?_ oq.out).mono ?_); exact (Z7 ab); exact (Kd.R_reads' ab.out).2.1; rintro e w1225 ⟨rfl, hb⟩; refine ⟨_, rfl, ?_⟩; refine k19_ (Ya_ af) (Ya_ ab) (Ya_ ag) (Ya_ ah) (Ya_ ae) (Ya_ ai) (Ya_ ac) (Ya_ aa) (Ya_ aj) (Ye_ am) (Ye_ ak) (Ye_ al) (Ye_ aq) (Ye_ ao) (Ye_ ap) (Ye_ ar) (Ye_ av) (Ye_ aw) (below_step (Z4) hb) ?_; clear af ab ag ah ae ai ac aa aj am ak al aq ao ap ar av aw HB; intro af ab ag ah ae ai ac aa aj am ak al aq ao ap ar av aw HB; (try clear hb))
                 go_ret
                 exact ⟨Z11, Z4⟩
               rw [if_neg c1094] at H
               have c1094b0 : (jU == (wrap64 (l8 - fQ))) = false := beq_eq_false_iff_ne.mpr c1094
               have c1094b1 : (jU != (wrap64 (l8 - fQ))) = true := bne_iff_ne.mpr c1094
               obtain rfl := Option.some.inj H
               obtain ⟨hcz1234_0, hcz1234_1, hfz1234_0, hfz1234_1⟩ := bx2_ (w := wc) ak.out
               as_aux_lemma =>
                go_wp2_with ((with_reducible refine gate_callee (f := 25) rfl ?_); refine gl_ 368 Try.func25 #[.agg #[.slice bN bw.length bL, .int .i64 dq]] ?_; (with_reducible refine (impl_StrokesLeft.calls iR _ _ bw dq jU true _ ?_ ?_ oq.out).mono ?_); exact (Z7 ab); exact (Kd.R_reads' ab.out).2.1; rintro e w1235 ⟨rfl, hb⟩; refine ⟨_, rfl, ?_⟩; refine k19_ (Ya_ af) (Ya_ ab) (Ya_ ag) (Ya_ ah) (Ya_ ae) (Ya_ ai) (Ya_ ac) (Ya_ aa) (Ya_ aj) (Ye_ am) (Ye_ ak) (Ye_ al) (Ye_ aq) (Ye_ ao) (Ye_ ap) (Ye_ ar) (Ye_ av) (Ye_ aw) (below_step (Z4) hb) ?_; clear af ab ag ah ae ai ac aa aj am ak al aq ao ap ar av aw HB; intro af ab ag ah ae ai ac aa aj am ak al aq ao ap ar av aw HB; (try clear hb))
                go_ret
                exact ⟨Z11, Z4⟩
              replace c1093 := Bool.eq_false_iff.mpr c1093
              subst c1093
              rw [if_neg (show ¬ (false = true) by decide)] at H
              obtain rfl := Option.some.inj H
              obtain ⟨hcz1244_0, hcz1244_1, hfz1244_0, hfz1244_1⟩ := bx2_ (w := wc) ak.out
              as_aux_lemma =>
               go_wp2_with ((with_reducible refine gate_callee (f := 25) rfl ?_); refine gl_ 368 Try.func25 #[.agg #[.slice bN bw.length bL, .int .i64 dq]] ?_; (with_reducible refine (impl_StrokesLeft.calls iR _ _ bw dq jU false _ ?_ ?_ oq.out).mono ?_); exact (Z7 ab); exact (Kd.R_reads' ab.out).2.1; rintro e w1245 ⟨rfl, hb⟩; refine ⟨_, rfl, ?_⟩; refine k19_ (Ya_ af) (Ya_ ab) (Ya_ ag) (Ya_ ah) (Ya_ ae) (Ya_ ai) (Ya_ ac) (Ya_ aa) (Ya_ aj) (Ye_ am) (Ye_ ak) (Ye_ al) (Ye_ aq) (Ye_ ao) (Ye_ ap) (Ye_ ar) (Ye_ av) (Ye_ aw) (below_step (Z4) hb) ?_; clear af ab ag ah ae ai ac aa aj am ak al aq ao ap ar av aw HB; intro af ab ag ah ae ai ac aa aj am ak al aq ao ap ar av aw HB; (try clear hb))
               go_ret
               exact ⟨Z11, Z4⟩
             replace c1091 := Bool.eq_false_iff.mpr c1091
             subst c1091
             rw [if_neg (show ¬ (false = true) by decide)] at H
             obtain rfl := Option.some.inj H
             as_aux_lemma =>
              go_wp2
              go_ret
              exact ⟨Z11, Z4⟩

/-- THE ONE PURE STATEMENT of laws_FnPunchJobs: yours. -/
theorem laws_FnPunchJobs.walk (P : laws_FnPunchJobs.Pure) (a0 : Option Addr) (len0 cap0 : Nat) (z0 : List Int) (a1 : Option Addr) (len1 cap1 : Nat) (z1 : List Int) (w : World) (w0 : (a0 = none ∧ len0 = 0 ∧ cap0 = 0 ∧ z0 = []) ∨ ∃ x, a0 = some x ∧ len0 ≤ cap0 ∧ cap0 ≤ maxLen ∧ z0.length = cap0 ∧ (∀ i, i < z0.length → w.cell? (x.add i) = some (.int .u8 (z0.getD i 0))) ∧ ∀ n ∈ z0, (Lit.int .u8 n).wf = true) (y0 : len0 * 1 ≤ 140737488351232) (w1 : (a1 = none ∧ len1 = 0 ∧ cap1 = 0 ∧ z1 = []) ∨ ∃ x, a1 = some x ∧ len1 ≤ cap1 ∧ cap1 ≤ maxLen ∧ z1.length = cap1 ∧ (∀ i, i < z1.length → w.cell? (x.add i) = some (.int .u8 (z1.getD i 0))) ∧ ∀ n ∈ z1, (Lit.int .u8 n).wf = true) (y1 : len1 * 1 ≤ 140737488351232) :
  Calls Try.prog 4 #[.slice a0 len0 cap0, .slice a1 len1 cap1] w fun e w' => e = .returned (.bool true) ∧ Below w.heap.size w w' := by
 obtain ⟨l0, rfl, hr0, hm0, hw0, hc0⟩ := ReadsInt.ofRowC w0
 obtain ⟨l1, rfl, hr1, hm1, hw1, hc1⟩ := ReadsInt.ofRowC w1
 obtain ⟨k, h⟩ := P l0 l1 hm0 y0 hw0 hm1 y1 hw1
 refine (laws_FnPunchJobs.calls k _ _ l0 _ _ l1 true w (Kd.C_of_reads (d := (0 : Int)) (h1 := fun _ => rfl) hr0) hc0 (Kd.C_of_reads (d := (0 : Int)) (h1 := fun _ => rfl) hr1) hc1 h).mono ?_
 rintro e w' ⟨rfl, hd⟩
 exact ⟨rfl, hd⟩

end Go.Proofs.Ytmnnmddfmmaohaa.PFnPunchJobs
