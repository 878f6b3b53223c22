-- out of a turned copy of the print, by a program of this session; Lean checks it
import Derived.Test.YtkbekdjoaibhbaaPPairStepsx0
import Derived.Test.YtkbekdjoaibhbaaPPairStepsx5
import Derived.Test.YtkbekdjoaibhbaaPPairStepsx10
import Derived.Test.YtkbekdjoaibhbaaPPairStepsx11
import Derived.Test.YtkbekdjoaibhbaaPPairStepsx14
namespace Go.Proofs.Ytkbekdjoaibhbaa.PPairSteps
open Go.RowKit Go.Proofs.YtkbekdjoaibhbaaW.PrintWords Go.Proofs.YtkbekdjoaibhbaaW.PrintLast Go.Proofs.YtkbekdjoaibhbaaW.PrintMore
attribute [local go_sem] max2_int min2_int max_two min_two max_three min_three max_four min_four   -- for this text's walks alone
set_option linter.unusedVariables false
set_option linter.unusedSimpArgs false

attribute [local go_sem] isSome_put_
/-! ### standstilllaw08_PairSteps: function 5 -/
def standstilllaw08_PairSteps.j0 : Nat → Bool → Int → List (S45) → Int → List Int → Option (Bool)
 | 0, _, _, _, _, _ => none
 | k + 1, x25, x268000, x268001, x269000, x269001 => if x25 = true then ((standstilllaw08_awake.f k).bind fun t270 => (some t270)) else ((pair_Two.f k x268000 x268001).bind fun bt271 => (if bt271.2.2.2 = 0 then ((standstilllaw08_next.f k x268000 x268001 bt271.1 bt271.2.1 bt271.2.2.1 x269000 x269001 5000).bind fun bt280 => (if bt280.2.2.2 = true then ((standstilllaw08_awake.f k).bind fun t287 => (some t287)) else (none))) else (if bt271.2.2.2 = 4 then ((standstilllaw08_awake.f k).bind fun t288 => (some t288)) else (none))))
def standstilllaw08_PairSteps.f (k : Nat) (a0_0 : Int) (l0_1 : List (S45)) (a1_0 : Int) (l1_1 : List Int) : Option (Bool) := if (l0_1.length : Int) > 4000 then (standstilllaw08_PairSteps.j0 k true a0_0 l0_1 a1_0 l1_1) else ((standstillref06_Fits.f k a0_0 l0_1 a1_0 l1_1).bind fun t269 => (if t269 = true then (standstilllaw08_PairSteps.j0 k (decide (a0_0 > 6)) a0_0 l0_1 a1_0 l1_1) else (standstilllaw08_PairSteps.j0 k true a0_0 l0_1 a1_0 l1_1)))
theorem standstilllaw08_PairSteps.mono_l : ∀ k, (∀ y0 y1 y2 y3 y4, LeO (standstilllaw08_PairSteps.j0 k y0 y1 y2 y3 y4) (standstilllaw08_PairSteps.j0 (k + 1) y0 y1 y2 y3 y4))
 | 0 => fun _ _ _ _ _ r h => by simp [standstilllaw08_PairSteps.j0] at h
 | k + 1 => by
  have ih0 := standstilllaw08_PairSteps.mono_l k
  ·intro y0 y1 y2 y3 y4
   unfold standstilllaw08_PairSteps.j0
   repeat' first
   | (with_reducible exact ih0 _ _ _ _ _)
   | (with_reducible exact pair_Two.mono _ _ _)
   | (with_reducible exact standstilllaw08_awake.mono _)
   | (with_reducible exact standstilllaw08_next.mono _ _ _ _ _ _ _ _ _)
   | (with_reducible exact standstillref06_Fits.mono _ _ _ _ _)
   | (with_reducible exact LeO.refl _)
   | (with_reducible exact LeO.none _)
   | (with_reducible refine LeO.ite ?_ ?_)
   | (with_reducible refine LeO.bind ?_ (fun _ => ?_))
   | exact ih0 _ _ _ _ _
   | exact pair_Two.mono _ _ _
   | exact standstilllaw08_awake.mono _
   | exact standstilllaw08_next.mono _ _ _ _ _ _ _ _ _
   | exact standstillref06_Fits.mono _ _ _ _ _
   | exact LeO.none _
   | refine LeO.ite ?_ ?_
   | refine LeO.bind ?_ (fun _ => ?_)
theorem standstilllaw08_PairSteps.mono : ∀ a0 a1 a2 a3 k, LeO (standstilllaw08_PairSteps.f k a0 a1 a2 a3) (standstilllaw08_PairSteps.f (k + 1) a0 a1 a2 a3) := by
 intro a0 a1 a2 a3 k
 have ih0 := standstilllaw08_PairSteps.mono_l k
 unfold standstilllaw08_PairSteps.f
 repeat' first
   | (with_reducible exact ih0 _ _ _ _ _)
   | (with_reducible exact pair_Two.mono _ _ _)
   | (with_reducible exact standstilllaw08_awake.mono _)
   | (with_reducible exact standstilllaw08_next.mono _ _ _ _ _ _ _ _ _)
   | (with_reducible exact standstillref06_Fits.mono _ _ _ _ _)
   | (with_reducible exact LeO.refl _)
   | (with_reducible exact LeO.none _)
   | (with_reducible refine LeO.ite ?_ ?_)
   | (with_reducible refine LeO.bind ?_ (fun _ => ?_))
   | exact ih0 _ _ _ _ _
   | exact pair_Two.mono _ _ _
   | exact standstilllaw08_awake.mono _
   | exact standstilllaw08_next.mono _ _ _ _ _ _ _ _ _
   | exact standstillref06_Fits.mono _ _ _ _ _
   | exact LeO.none _
   | refine LeO.ite ?_ ?_
   | refine LeO.bind ?_ (fun _ => ?_)
set_option maxHeartbeats 8000000 in
set_option maxRecDepth 100000 in
theorem standstilllaw08_PairSteps.calls (k : Nat) (a0_0 : Int) (A0_1 : Option Addr) (c0_1 : Nat) (l0_1 : List (S45)) (a1_0 : Int) (A1_1 : Option Addr) (c1_1 : Nat) (l1_1 : List Int) (r : Bool) (w : World) (hr0_1 : Kd.C k45 w A0_1 l0_1.length l0_1) (hc0_1 : l0_1.length ≤ c0_1) (hr1_1 : Kd.C (Kd.int .i64) w A1_1 l1_1.length l1_1) (hc1_1 : l1_1.length ≤ c1_1) (h : standstilllaw08_PairSteps.f k a0_0 l0_1 a1_0 l1_1 = some r) :
  Calls Try.prog 5 #[.agg #[.int .i64 a0_0, .slice A0_1 l0_1.length c0_1], .agg #[.int .i64 a1_0, .slice A1_1 l1_1.length c1_1]] w fun e w' => e = .returned (.bool r) ∧ Below w.heap.size w w' := by
 have hu38 := Try.underlying38
 have hu47 := Try.underlying47
 have HR0_1 := Aside0.mk hr0_1
 have HC0_1 := Aside0.mk hc0_1
 clear hr0_1 hc0_1
 have HR1_1 := Aside0.mk hr1_1
 have HC1_1 := Aside0.mk hc1_1
 clear hr1_1 hc1_1
 have HB := A_ (Below.refl w.heap.size w)
 have H : (if (l0_1.length : Int) > 4000 then (standstilllaw08_PairSteps.j0 k true a0_0 l0_1 a1_0 l1_1) else ((standstillref06_Fits.f k a0_0 l0_1 a1_0 l1_1).bind fun t269 => (if t269 = true then (standstilllaw08_PairSteps.j0 k (decide (a0_0 > 6)) a0_0 l0_1 a1_0 l1_1) else (standstilllaw08_PairSteps.j0 k true a0_0 l0_1 a1_0 l1_1)))) = some r := h
 clear h
 have HC3 := Aside0.mk H
 clear H
 go_enter Try.func5, Try.ntmps5
 go_upto_region 1 with (first | ((with_reducible refine gate_dst (N := 2) rfl ?_); refine box_event ?hg (N := 2) ?hd (cs := #[.int .i64 a0_0, .slice A0_1 l0_1.length c0_1]) (t := 38) ?hr ?_; (case hd => rfl); (case hg => rfl); (case hr => first | (go_simp; done) | (go_simp; rfl)); intro gb267 hg w4 hbox hb; have n0_ := A_ (below_step (bk_ HB.out) hb); have n1_ := A_ (hbox); have n2_ := A_ (bz_ hg (bk_ HB.out)); have n3_ := A_ (bz_ hg (bk_ HB.out)); clear HB; have HB := n0_; have BK267 := n1_; have GW267 := n2_; have GE267 := n3_; clear n0_ n1_ n2_ n3_ hb hbox hg) | ((with_reducible refine gate_dst (N := 3) rfl ?_); refine box_event ?hg (N := 3) ?hd (cs := #[.int .i64 a1_0, .slice A1_1 l1_1.length c1_1]) (t := 47) ?hr ?_; (case hd => rfl); (case hg => rfl); (case hr => first | (go_simp; done) | (go_simp; rfl)); intro gb268 hg w5 hbox hb; have n0_ := A_ (blk_below (pk_ BK267.out) hb); have n1_ := A_ (below_step (bk_ HB.out) hb); have n2_ := A_ (hbox); have n3_ := A_ (bz_ hg (bk_ HB.out)); have n4_ := A_ (bz_ hg (bk_ HB.out)); have n5_ := A_ (nl_ hg (pk_ BK267.out)); have n6_ := A_ (ng_ hg (pk_ BK267.out)); clear BK267 HB; have BK267 := n0_; have HB := n1_; have BK268 := n2_; have GW268 := n3_; have GE268 := n4_; have NB267_268 := n5_; have NB268_267 := n6_; clear n0_ n1_ n2_ n3_ n4_ n5_ n6_ hb hbox hg))
 (try simp only [Act.put, List.setIfInBounds_toArray, List.set_cons_zero, List.set_cons_succ])
 go_cut [25] (fun v25 wc => ∃ (kq : Nat) (x25_2 : Bool), v25 = .bool x25_2 ∧ Aside0 (standstilllaw08_PairSteps.j0 kq x25_2 a0_0 l0_1 a1_0 l1_1 = some r) ∧ Aside0 (kq ≤ k) ∧ Aside0 (wc.heap[gb267]? = some (.cells #[.int .i64 a0_0, (.slice A0_1 l0_1.length c0_1)] 38 (0, 0))) ∧ Aside0 (wc.heap[gb268]? = some (.cells #[.int .i64 a1_0, (.slice A1_1 l1_1.length c1_1)] 47 (0, 0))) ∧ Aside0 (Below w.heap.size w wc))
 case first =>
  have H := HC3.out
  clear HC3
  by_cases c6 : (l0_1.length : Int) > 4000
  ·rw [if_pos c6] at H
   have c6b0 : decide (4000 < (l0_1.length : Int)) = true := decide_eq_true c6
   have c6b1 : decide (4000 < l0_1.length) = true := decide_eq_true (by omega)
   clear c6
   (first | rw [c6b0] | (simp only [i64_w, i32_w]; rw [c6b0]) | skip)
   have H' := Aside0.mk H
   clear H
   have hnb7 := NB267_268.out
   have hnc7 := NB268_267.out
   obtain ⟨hcz8_0, hcz8_1⟩ := bc2_ BK267.out
   have hfz8_0 := blk_frozen BK267.out 0
   have hfz8_1 := blk_frozen BK267.out 1
   go_wp2
   go_meet
   case rel => exact ⟨_, (true), jr_, H', ⟨by first | omega | exact Nat.le_refl _⟩, ⟨pk_ BK267.out⟩, ⟨pk_ BK268.out⟩, ⟨bk_ HB.out⟩⟩
  ·rw [if_neg c6] at H
   have c6b0 : decide (4000 < (l0_1.length : Int)) = false := decide_eq_false c6
   have c6b1 : decide (4000 < l0_1.length) = false := decide_eq_false (by omega)
   clear c6
   (first | rw [c6b0] | (simp only [i64_w, i32_w]; rw [c6b0]) | skip)
   replace H := Option.bind_eq_some_iff.mp H
   obtain ⟨t269, A90, H⟩ := H
   replace H : (if t269 = true then (standstilllaw08_PairSteps.j0 k (decide (a0_0 > 6)) a0_0 l0_1 a1_0 l1_1) else (standstilllaw08_PairSteps.j0 k true a0_0 l0_1 a1_0 l1_1)) = some r := H
   have A9 := Aside0.mk A90
   clear A90
   by_cases c10 : t269 = true
   ·subst c10
    have H1 : (standstilllaw08_PairSteps.j0 k (decide (a0_0 > 6)) a0_0 l0_1 a1_0 l1_1) = some r := by rw [if_pos rfl] at H; exact H
    clear H
    have H := H1
    clear H1
    have H' := Aside0.mk H
    clear H
    have hnb11 := NB267_268.out
    have hnc11 := NB268_267.out
    obtain ⟨hcz12_0, hcz12_1⟩ := bc2_ BK267.out
    have hfz12_0 := blk_frozen BK267.out 0
    have hfz12_1 := blk_frozen BK267.out 1
    obtain ⟨hcz13_0, hcz13_1⟩ := bc2_ BK268.out
    have hfz13_0 := blk_frozen BK268.out 0
    have hfz13_1 := blk_frozen BK268.out 1
    go_wp2_with (first | (go_at_call 18; (with_reducible refine (standstillref06_Fits.calls k a0_0 _ _ l0_1 a1_0 _ _ l1_1 true _ ?side1 ?side2 ?side3 ?side4 A9.out).mono ?_); (case side1 => exact ck_ (Kd.C_below HR0_1.out HB.out)); (case side2 => exact HC0_1.out); (case side3 => exact ck_ (Kd.C_below HR1_1.out HB.out)); (case side4 => exact HC1_1.out); rintro e w14 ⟨rfl, hb⟩; have n0_ := A_ (blk_below (pk_ BK267.out) hb); have n1_ := A_ (blk_below (pk_ BK268.out) hb); have n2_ := A_ (below_step (bk_ HB.out) hb); clear BK267 BK268 HB; have BK267 := n0_; have BK268 := n1_; have HB := n2_; clear n0_ n1_ n2_; (try clear hb); (try clear hb2); (try clear hk); (try clear hi); obtain ⟨hcz15_0, hcz15_1⟩ := bc2_ BK267.out; have hfz15_0 := blk_frozen BK267.out 0; have hfz15_1 := blk_frozen BK267.out 1))
    go_meet
    case rel => exact ⟨_, (decide (a0_0 > 6)), jr_, H', ⟨by first | omega | exact Nat.le_refl _⟩, ⟨pk_ BK267.out⟩, ⟨pk_ BK268.out⟩, ⟨bk_ HB.out⟩⟩
   ·replace c10 := Bool.eq_false_iff.mpr c10
    subst c10
    have H1 : (standstilllaw08_PairSteps.j0 k true a0_0 l0_1 a1_0 l1_1) = some r := by rw [if_neg (show ¬ (false = true) by decide)] at H; exact H
    clear H
    have H := H1
    clear H1
    have H' := Aside0.mk H
    clear H
    have hnb16 := NB267_268.out
    have hnc16 := NB268_267.out
    obtain ⟨hcz17_0, hcz17_1⟩ := bc2_ BK267.out
    have hfz17_0 := blk_frozen BK267.out 0
    have hfz17_1 := blk_frozen BK267.out 1
    obtain ⟨hcz18_0, hcz18_1⟩ := bc2_ BK268.out
    have hfz18_0 := blk_frozen BK268.out 0
    have hfz18_1 := blk_frozen BK268.out 1
    go_wp2_with (first | (go_at_call 18; (with_reducible refine (standstillref06_Fits.calls k a0_0 _ _ l0_1 a1_0 _ _ l1_1 false _ ?side1 ?side2 ?side3 ?side4 A9.out).mono ?_); (case side1 => exact ck_ (Kd.C_below HR0_1.out HB.out)); (case side2 => exact HC0_1.out); (case side3 => exact ck_ (Kd.C_below HR1_1.out HB.out)); (case side4 => exact HC1_1.out); rintro e w19 ⟨rfl, hb⟩; have n0_ := A_ (blk_below (pk_ BK267.out) hb); have n1_ := A_ (blk_below (pk_ BK268.out) hb); have n2_ := A_ (below_step (bk_ HB.out) hb); clear BK267 BK268 HB; have BK267 := n0_; have BK268 := n1_; have HB := n2_; clear n0_ n1_ n2_; (try clear hb); (try clear hb2); (try clear hk); (try clear hi)))
    go_meet
    case rel => exact ⟨_, (true), jr_, H', ⟨by first | omega | exact Nat.le_refl _⟩, ⟨pk_ BK267.out⟩, ⟨pk_ BK268.out⟩, ⟨bk_ HB.out⟩⟩
 case rest =>
  clear HC3
  obtain ⟨kq, x25_2, rfl, HA, HJ2, BK267, BK268, HB⟩ := hcut
  cases kq with
  | zero => exact absurd HA.out (by simp [standstilllaw08_PairSteps.j0])
  | succ kj2 =>
   have H := HA.out
   clear HA
   simp only [standstilllaw08_PairSteps.j0] at H
   by_cases c20 : x25_2 = true
   ·subst c20
    have H1 : ((standstilllaw08_awake.f kj2).bind fun t270 => (some t270)) = some r := by rw [if_pos rfl] at H; exact H
    clear H
    have H := H1
    clear H1
    replace H := Option.bind_eq_some_iff.mp H
    obtain ⟨t270, A210, H⟩ := H
    replace H : (some t270) = some r := H
    have A21 := Aside0.mk A210
    clear A210
    obtain rfl := Option.some.inj H
    go_wp2_with (first | ((with_reducible refine gate_callee (f := 7) rfl ?_); refine goesL_ (some 26) rfl rfl Try.func7 (by kernel_rfl) rfl #[] rfl gl_ ?_; (with_reducible refine (standstilllaw08_awake.calls kj2  t270 _ A21.out).mono ?_); rintro e w22 ⟨rfl, hb⟩; refine ⟨_, rfl, ?_⟩; have n0_ := A_ (blk_below (pk_ BK267.out) hb); have n1_ := A_ (blk_below (pk_ BK268.out) hb); have n2_ := A_ (below_step (bk_ HB.out) hb); clear BK267 BK268 HB; have BK267 := n0_; have BK268 := n1_; have HB := n2_; clear n0_ n1_ n2_; (try clear hb); (try clear hb2); (try clear hk); (try clear hi)))
    go_ret
    exact ⟨er_, bk_ HB.out⟩
   ·replace c20 := Bool.eq_false_iff.mpr c20
    subst c20
    have H1 : ((pair_Two.f kj2 a0_0 l0_1).bind fun bt271 => (if bt271.2.2.2 = 0 then ((standstilllaw08_next.f kj2 a0_0 l0_1 bt271.1 bt271.2.1 bt271.2.2.1 a1_0 l1_1 5000).bind fun bt280 => (if bt280.2.2.2 = true then ((standstilllaw08_awake.f kj2).bind fun t287 => (some t287)) else (none))) else (if bt271.2.2.2 = 4 then ((standstilllaw08_awake.f kj2).bind fun t288 => (some t288)) else (none)))) = some r := by rw [if_neg (show ¬ (false = true) by decide)] at H; exact H
    clear H
    have H := H1
    clear H1
    replace H := Option.bind_eq_some_iff.mp H
    obtain ⟨⟨t271, t272, t275, t278⟩, A230, H⟩ := H
    replace H : (if t278 = 0 then ((standstilllaw08_next.f kj2 a0_0 l0_1 t271 t272 t275 a1_0 l1_1 5000).bind fun bt280 => (if bt280.2.2.2 = true then ((standstilllaw08_awake.f kj2).bind fun t287 => (some t287)) else (none))) else (if t278 = 4 then ((standstilllaw08_awake.f kj2).bind fun t288 => (some t288)) else (none))) = some r := H
    have A23 := Aside0.mk A230
    clear A230
    by_cases c24 : t278 = 0
    ·rw [if_pos c24] at H
     have c24b0 : (t278 == 0) = true := beq_iff_eq.mpr c24
     have c24b1 : (t278 != 0) = false := bne_eq_false_iff_eq.mpr c24
     clear c24
     replace H := Option.bind_eq_some_iff.mp H
     obtain ⟨⟨t280, t281, t284, t285⟩, A250, H⟩ := H
     replace H : (if t285 = true then ((standstilllaw08_awake.f kj2).bind fun t287 => (some t287)) else (none)) = some r := H
     have A25 := Aside0.mk A250
     clear A250
     by_cases c26 : t285 = true
     ·subst c26
      have H1 : ((standstilllaw08_awake.f kj2).bind fun t287 => (some t287)) = some r := by rw [if_pos rfl] at H; exact H
      clear H
      have H := H1
      clear H1
      replace H := Option.bind_eq_some_iff.mp H
      obtain ⟨t287, A270, H⟩ := H
      replace H : (some t287) = some r := H
      have A27 := Aside0.mk A270
      clear A270
      obtain rfl := Option.some.inj H
      have hnb28 := NB267_268.out
      have hnc28 := NB268_267.out
      obtain ⟨hcz29_0, hcz29_1⟩ := bc2_ BK267.out
      have hfz29_0 := blk_frozen BK267.out 0
      have hfz29_1 := blk_frozen BK267.out 1
      go_wp2_with (first | ((with_reducible refine gate_callee (f := 14) rfl ?_); refine goesL_ (some 29) rfl rfl Try.func14 (by kernel_rfl) rfl #[.agg #[.int .i64 a0_0, .slice A0_1 l0_1.length c0_1]] rfl gl_ ?_; (with_reducible refine (pair_Two.calls kj2 a0_0 _ _ l0_1 t271 t272 t275 t278 _ ?side1 ?side2 A23.out).mono ?_); (case side1 => exact ck_ (Kd.C_below HR0_1.out HB.out)); (case side2 => exact HC0_1.out); rintro e w30 ⟨v273, v276, rfl, ho0, ho1, hb⟩; refine ⟨_, rfl, ?_⟩; have n0_ := A_ (Kd.R_lower ho0 (below_size (bk_ HB.out))); have n1_ := A_ (Kd.R_lower ho1 (below_size (bk_ HB.out))); have n2_ := A_ (blk_below (pk_ BK267.out) hb); have n3_ := A_ (blk_below (pk_ BK268.out) hb); have n4_ := A_ (below_step (bk_ HB.out) hb); clear BK267 BK268 HB; have HO274 := n0_; have HO277 := n1_; have BK267 := n2_; have BK268 := n3_; have HB := n4_; clear n0_ n1_ n2_ n3_ n4_; (try clear hb); (try clear hb2); (try clear hk); (try clear hi); (try clear ho0); (try clear ho1)) | ((with_reducible refine gate_dst (N := 5) rfl ?_); refine box_event ?hg (N := 5) ?hd (cs := #[.int .i64 0, .slice none 0 0]) (t := 38) ?hr ?_; (case hd => rfl); (case hg => rfl); (case hr => first | (go_simp; done) | (go_simp; rfl)); intro gb279 hg w31 hbox hb; have n0_ := A_ (Kd.R_below (rk_ HO274.out) hb); have n1_ := A_ (Kd.R_below (rk_ HO277.out) hb); have n2_ := A_ (blk_below (pk_ BK267.out) hb); have n3_ := A_ (blk_below (pk_ BK268.out) hb); have n4_ := A_ (below_step (bk_ HB.out) hb); have n5_ := A_ (hbox); have n6_ := A_ (bz_ hg (bk_ HB.out)); have n7_ := A_ (bz_ hg (bk_ HB.out)); have n8_ := A_ (nl_ hg (pk_ BK267.out)); have n9_ := A_ (ng_ hg (pk_ BK267.out)); have n10_ := A_ (nl_ hg (pk_ BK268.out)); have n11_ := A_ (ng_ hg (pk_ BK268.out)); clear HO274 HO277 BK267 BK268 HB; have HO274 := n0_; have HO277 := n1_; have BK267 := n2_; have BK268 := n3_; have HB := n4_; have BK279 := n5_; have GW279 := n6_; have GE279 := n7_; have NB267_279 := n8_; have NB279_267 := n9_; have NB268_279 := n10_; have NB279_268 := n11_; clear n0_ n1_ n2_ n3_ n4_ n5_ n6_ n7_ n8_ n9_ n10_ n11_ hb hbox hg; have hnb32 := NB279_267.out; have hnc32 := NB267_279.out; have hnb33 := NB279_268.out; have hnc33 := NB268_279.out; obtain ⟨hcz34_0, hcz34_1⟩ := bc2_ BK279.out; have hfz34_0 := blk_frozen BK279.out 0; have hfz34_1 := blk_frozen BK279.out 1; obtain ⟨Ao35, co35, eo35⟩ := Kd.R_slice HO274.out; subst eo35) | ((with_reducible refine gate_store (t := 38) (p := 5) rfl ?_); refine store_event (t := 38) (p := 5) (v := ?vo_w36) (w1 := ((w31.setCell ⟨gb279, 0, none⟩ (.int .i64 t271)).setCell ⟨gb279, 1, none⟩ (.slice Ao35 t272.length co35))) ?hg ?ho ?hn ?hr ?_; (case ho => rfl); (case hg => rfl); (case hn => rfl); (case hr => first | (go_simp; done) | (go_simp; rfl)); intro w36 hw; have n0_ : Aside0 (Kd.R k45 45 w36 w.heap.size (fun _ => True) (.slice Ao35 t272.length co35) t272) := ⟨(by rw [hw]; exact (by (with_reducible repeat (first | apply Kd.R_alloc | apply Kd.R_drewN | apply Kd.R_drew)); exact Kd.R_mono (rf2_ (Kd.R_types HO274.out BK279.out (by decide))) (fun _ hk => trivial)))⟩; have n1_ : Aside0 (Kd.R (Kd.int .i64) 3 w36 w.heap.size (fun _ => True) v276 t275) := ⟨(by rw [hw]; exact (by (with_reducible repeat (first | apply Kd.R_alloc | apply Kd.R_drewN | apply Kd.R_drew)); exact Kd.R_mono (rf2_ (Kd.R_types HO277.out BK279.out (by decide))) (fun _ hk => trivial)))⟩; have n2_ := A_ (bs2_ hw NB267_279.out (pk_ BK267.out)); have n3_ := A_ (bs2_ hw NB268_279.out (pk_ BK268.out)); have n4_ : Aside0 (w36.heap[gb279]? = some (.cells #[.int .i64 t271, .slice Ao35 t272.length co35] 38 (0, 0))) := ⟨(by rw [hw]; exact (by refine pk_ ?_; refine blk_put (cs := #[.int .i64 t271, .slice none 0 0]) ?_ 1 _ rfl; refine pk_ ?_; refine blk_put (cs := #[.int .i64 0, .slice none 0 0]) ?_ 0 _ rfl; exact pk_ BK279.out))⟩; have n5_ : Aside0 (Below w.heap.size w w36) := ⟨(by rw [hw]; exact (bk_ HB.out))⟩; clear hw HO274 HO277 BK267 BK268 BK279 HB; have HO274 := n0_; have HO277 := n1_; have BK267 := n2_; have BK268 := n3_; have BK279 := n4_; have HB := n5_; clear n0_ n1_ n2_ n3_ n4_ n5_; obtain ⟨hcz37_0, hcz37_1⟩ := bc2_ BK267.out; have hfz37_0 := blk_frozen BK267.out 0; have hfz37_1 := blk_frozen BK267.out 1; obtain ⟨hcz38_0, hcz38_1⟩ := bc2_ BK279.out; have hfz38_0 := blk_frozen BK279.out 0; have hfz38_1 := blk_frozen BK279.out 1; obtain ⟨hcz39_0, hcz39_1⟩ := bc2_ BK268.out; have hfz39_0 := blk_frozen BK268.out 0; have hfz39_1 := blk_frozen BK268.out 1; obtain ⟨Ao40, co40, eo40⟩ := Kd.R_slice HO277.out; subst eo40) | ((with_reducible refine gate_callee (f := 19) rfl ?_); refine goesL_ (some 45) rfl rfl Try.func19 (by kernel_rfl) rfl #[.agg #[.int .i64 a0_0, .slice A0_1 l0_1.length c0_1], .agg #[.int .i64 t271, .slice Ao35 t272.length co35], .slice Ao40 t275.length co40, .agg #[.int .i64 a1_0, .slice A1_1 l1_1.length c1_1], .int .i64 5000] rfl gl_ ?_; (with_reducible refine (standstilllaw08_next.calls kj2 a0_0 _ _ l0_1 t271 _ _ t272 _ _ t275 a1_0 (fun k_ => k_ < w.heap.size) _ _ l1_1 5000 t280 t281 t284 true _ ?side1 ?side2 ?side3 ?side4 ?side5 ?side6 ?side7 A25.out).mono ?_); (case side1 => exact ck_ (Kd.C_below HR0_1.out HB.out)); (case side2 => exact HC0_1.out); (case side3 => repeat (first | exact (Kd.R_reads' HO274.out).2.2 | (with_reducible refine Kd.C_alloc ?_ _) | (with_reducible refine Kd.C_drewN ?_ _) | (with_reducible refine Kd.C_drew ?_))); (case side4 => exact (Kd.R_reads' HO274.out).2.1); (case side5 => repeat (first | exact (Kd.R_reads' HO277.out).2.2 | (with_reducible refine Kd.C_alloc ?_ _) | (with_reducible refine Kd.C_drewN ?_ _) | (with_reducible refine Kd.C_drew ?_))); (case side6 => exact (Kd.R_reads' HO277.out).2.1); (case side7 => exact Kd.V_mk HC1_1.out (Kd.F_below (Kd.C_F (Kd.heap_int _) HR1_1.out) (bk_ HB.out))); rintro e w41 ⟨v282, rfl, ho0, hb⟩; refine ⟨_, rfl, ?_⟩; have n0_ := A_ (Kd.R_below (rk_ HO274.out) hb); have n2_ := A_ (Kd.V_lower (Kd.V_mono (ok' := fun k_ => some k_ ≠ (.slice Ao35 t272.length co35 : Value).ownBlock ∧ some k_ ≠ (.slice Ao40 t275.length co40 : Value).ownBlock ∧ k_ ≠ gb267 ∧ k_ ≠ gb268 ∧ k_ ≠ gb279) ho0 (fun k_ hk_ => ⟨Or.elim hk_ (fun hs_ => fun e_ => Nat.not_le.2 hs_ (Kd.R_base HO274.out k_ e_.symm)) (fun hn_ => (Kd.fresh' (Kd.R_lt (rk_ HO274.out)) k_ hn_)), Or.elim hk_ (fun hs_ => fun e_ => Nat.not_le.2 hs_ (Kd.R_base HO277.out k_ e_.symm)) (fun hn_ => (Kd.fresh' (Kd.R_lt (rk_ HO277.out)) k_ hn_)), Or.elim hk_ (fun hs_ => fun e_ => Nat.not_le.2 hs_ (by rw [e_]; exact GW267.out)) (fun hn_ => (Kd.freshB (g := gb267) (o := .cells #[.int .i64 a0_0, .slice A0_1 l0_1.length c0_1] 38 (0, 0)) (pk_ BK267.out) k_ hn_)), Or.elim hk_ (fun hs_ => fun e_ => Nat.not_le.2 hs_ (by rw [e_]; exact GW268.out)) (fun hn_ => (Kd.freshB (g := gb268) (o := .cells #[.int .i64 a1_0, .slice A1_1 l1_1.length c1_1] 47 (0, 0)) (pk_ BK268.out) k_ hn_)), Or.elim hk_ (fun hs_ => fun e_ => Nat.not_le.2 hs_ (by rw [e_]; exact GW279.out)) (fun hn_ => (Kd.freshB (g := gb279) (o := .cells #[.int .i64 t271, .slice Ao35 t272.length co35] 38 (0, 0)) (pk_ BK279.out) k_ hn_))⟩)) (below_size (bk_ HB.out))); have n3_ := A_ (blk_below (pk_ BK267.out) hb); have n5_ := A_ (blk_below (pk_ BK279.out) hb); have n6_ := A_ (below_step (bk_ HB.out) hb); clear HO274 BK267 BK279 HB; have HO274 := n0_; have HO283 := n2_; have BK267 := n3_; have BK279 := n5_; have HB := n6_; clear n0_ n2_ n3_ n5_ n6_; (try clear hb); (try clear hb2); (try clear hk); (try clear hi); (try clear ho0)) | ((with_reducible refine gate_dst (N := 8) rfl ?_); refine box_event ?hg (N := 8) ?hd (cs := #[.int .i64 0, .slice none 0 0]) (t := 47) ?hr ?_; (case hd => rfl); (case hg => rfl); (case hr => first | (go_simp; done) | (go_simp; rfl)); intro gb286 hg w42 hbox hb; have n0_ := A_ (Kd.R_below (rk_ HO274.out) hb); have n2_ := A_ (Kd.V_below (Kd.V_elderB (by (with_reducible repeat (first | apply Kd.V_alloc | apply Kd.V_drewN | apply Kd.V_drew)); exact HO283.out) gb286 (Nat.le_of_eq hg.symm)) hb); have n3_ := A_ (blk_below (pk_ BK267.out) hb); have n5_ := A_ (blk_below (pk_ BK279.out) hb); have n6_ := A_ (below_step (bk_ HB.out) hb); have n7_ := A_ (hbox); have n8_ := A_ (bz_ hg (bk_ HB.out)); have n9_ := A_ (bz_ hg (bk_ HB.out)); have n10_ := A_ (nl_ hg (pk_ BK267.out)); have n11_ := A_ (ng_ hg (pk_ BK267.out)); have n14_ := A_ (nl_ hg (pk_ BK279.out)); have n15_ := A_ (ng_ hg (pk_ BK279.out)); clear HO274 HO283 BK267 BK279 HB; have HO274 := n0_; have HO283 := n2_; have BK267 := n3_; have BK279 := n5_; have HB := n6_; have BK286 := n7_; have GW286 := n8_; have GE286 := n9_; have NB267_286 := n10_; have NB286_267 := n11_; have NB279_286 := n14_; have NB286_279 := n15_; clear n0_ n2_ n3_ n5_ n6_ n7_ n8_ n9_ n10_ n11_ n14_ n15_ hb hbox hg; have hnb43 := NB286_267.out; have hnc43 := NB267_286.out; have hnb45 := NB286_279.out; have hnc45 := NB279_286.out; obtain ⟨hcz46_0, hcz46_1⟩ := bc2_ BK286.out; have hfz46_0 := blk_frozen BK286.out 0; have hfz46_1 := blk_frozen BK286.out 1; obtain ⟨Ao47, co47, eo47⟩ := Kd.V_slice HO283.out; subst eo47) | (go_at_call 7; (with_reducible refine (standstilllaw08_awake.calls kj2  t287 _ A27.out).mono ?_); rintro e w48 ⟨rfl, hb⟩; have n0_ := A_ (Kd.R_below (rz_ HO274.out BK286.out) hb); have n3_ := A_ (bf_ BK267.out NB267_286.out hb); have n5_ := A_ (bf_ BK279.out NB279_286.out hb); have n7_ := A_ (below_step (bk_ HB.out) hb); clear HO274 BK267 BK279 HB; have HO274 := n0_; have BK267 := n3_; have BK279 := n5_; have HB := n7_; clear n0_ n3_ n5_ n7_; (try clear hb); (try clear hb2); (try clear hk); (try clear hi)))
      go_ret
      exact ⟨er_, bk_ HB.out⟩
     ·replace c26 := Bool.eq_false_iff.mpr c26
      subst c26
      have H1 : (none) = some r := by rw [if_neg (show ¬ (false = true) by decide)] at H; exact H
      clear H
      have H := H1
      clear H1
      exact absurd H (by simp)
    ·rw [if_neg c24] at H
     have c24b0 : (t278 == 0) = false := beq_eq_false_iff_ne.mpr c24
     have c24b1 : (t278 != 0) = true := bne_iff_ne.mpr c24
     by_cases c49 : t278 = 4
     ·rw [if_pos c49] at H
      have c49b0 : (t278 == 4) = true := beq_iff_eq.mpr c49
      have c49b1 : (t278 != 4) = false := bne_eq_false_iff_eq.mpr c49
      clear c49
      replace H := Option.bind_eq_some_iff.mp H
      obtain ⟨t288, A500, H⟩ := H
      replace H : (some t288) = some r := H
      have A50 := Aside0.mk A500
      clear A500
      obtain rfl := Option.some.inj H
      obtain ⟨hcz52_0, hcz52_1⟩ := bc2_ BK267.out
      have hfz52_0 := blk_frozen BK267.out 0
      have hfz52_1 := blk_frozen BK267.out 1
      go_wp2_with (first | ((with_reducible refine gate_callee (f := 14) rfl ?_); refine goesL_ (some 29) rfl rfl Try.func14 (by kernel_rfl) rfl #[.agg #[.int .i64 a0_0, .slice A0_1 l0_1.length c0_1]] rfl gl_ ?_; (with_reducible refine (pair_Two.calls kj2 a0_0 _ _ l0_1 t271 t272 t275 t278 _ ?side1 ?side2 A23.out).mono ?_); (case side1 => exact ck_ (Kd.C_below HR0_1.out HB.out)); (case side2 => exact HC0_1.out); rintro e w53 ⟨v273, v276, rfl, ho0, ho1, hb⟩; refine ⟨_, rfl, ?_⟩; have n0_ := A_ (Kd.R_lower ho0 (below_size (bk_ HB.out))); have n4_ := A_ (below_step (bk_ HB.out) hb); clear HB; have HO274 := n0_; have HB := n4_; clear n0_ n4_; (try clear hb); (try clear hb2); (try clear hk); (try clear hi); (try clear ho0); (try clear ho1)) | ((with_reducible refine gate_dst (N := 5) rfl ?_); refine box_event ?hg (N := 5) ?hd (cs := #[.int .i64 0, .slice none 0 0]) (t := 38) ?hr ?_; (case hd => rfl); (case hg => rfl); (case hr => first | (go_simp; done) | (go_simp; rfl)); intro gb279 hg w54 hbox hb; have n0_ := A_ (Kd.R_below (rk_ HO274.out) hb); have n4_ := A_ (below_step (bk_ HB.out) hb); have n5_ := A_ (hbox); have n6_ := A_ (bz_ hg (bk_ HB.out)); have n7_ := A_ (bz_ hg (bk_ HB.out)); clear HO274 HB; have HO274 := n0_; have HB := n4_; have BK279 := n5_; have GW279 := n6_; have GE279 := n7_; clear n0_ n4_ n5_ n6_ n7_ hb hbox hg; obtain ⟨hcz57_0, hcz57_1⟩ := bc2_ BK279.out; have hfz57_0 := blk_frozen BK279.out 0; have hfz57_1 := blk_frozen BK279.out 1; obtain ⟨Ao58, co58, eo58⟩ := Kd.R_slice HO274.out; subst eo58) | (go_at_call 7; (with_reducible refine (standstilllaw08_awake.calls kj2  t288 _ A50.out).mono ?_); rintro e w59 ⟨rfl, hb⟩; have n5_ := A_ (below_step (bk_ HB.out) hb); clear HB; have HB := n5_; clear n5_; (try clear hb); (try clear hb2); (try clear hk); (try clear hi)))
      go_ret
      exact ⟨er_, bk_ HB.out⟩
     ·rw [if_neg c49] at H
      exact absurd H (by simp)

/-- THE ONE PURE STATEMENT of standstilllaw08_PairSteps. -/
def standstilllaw08_PairSteps.Pure : Prop := ∀ (a0_0 : Int) (l0_1 : List (S45)) (a1_0 : Int) (l1_1 : List Int), ((Lit.int .i64 a0_0).wf = true) → (l0_1.length * 32 ≤ 140737488351232 ∧ ∀ y_ ∈ l0_1, inv45 y_) → ((Lit.int .i64 a1_0).wf = true) → (l1_1.length * 8 ≤ 140737488351232 ∧ ∀ y_ ∈ l1_1, (Lit.int .i64 y_).wf = true) → ∃ k, standstilllaw08_PairSteps.f k a0_0 l0_1 a1_0 l1_1 = some true

end Go.Proofs.Ytkbekdjoaibhbaa.PPairSteps
