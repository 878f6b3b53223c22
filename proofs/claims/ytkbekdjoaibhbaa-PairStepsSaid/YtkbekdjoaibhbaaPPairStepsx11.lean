-- out of a turned copy of the print, by a program of this session; Lean checks it
import Derived.Test.YtkbekdjoaibhbaaPPairStepsx0
import Derived.Test.YtkbekdjoaibhbaaPPairStepsx5
import Derived.Test.YtkbekdjoaibhbaaPPairStepsx6
namespace Go.Proofs.Ytkbekdjoaibhbaa.PPairSteps
open Go.RowKit Go.Proofs.YtkbekdjoaibhbaaW.PrintWords Go.Proofs.YtkbekdjoaibhbaaW.PrintLast Go.Proofs.YtkbekdjoaibhbaaW.PrintMore
attribute [local go_sem] max2_int min2_int max_two min_two max_three min_three max_four min_four   -- for this text's walks alone
set_option linter.unusedVariables false
set_option linter.unusedSimpArgs false

attribute [local go_sem] isSome_put_
/-! ### standstillref06_Fits: function 18 -/
mutual
def standstillref06_Fits.j0 : Nat → Bool → Int → List Int → Option (Bool)
 | 0, _, _, _ => none
 | k + 1, x23, x207000, x207001 => if x23 = true then (some false) else (standstillref06_Fits.l0 k 0 x207000 x207001)
def standstillref06_Fits.l0 : Nat → Int → Int → List Int → Option (Bool)
 | 0, _, _, _ => none
 | k + 1, x5, x207000, x207001 => if x5 < (x207001.length : Int) then (if 0 ≤ x5 then (if (rd x207001 x5) < 0 then (some false) else (if (rd x207001 x5) > 1152921504606846976 then (some false) else (standstillref06_Fits.l0 k (wrap64 (x5 + 1)) x207000 x207001))) else (none)) else (some true)
end
def standstillref06_Fits.f (k : Nat) (a0_0 : Int) (l0_1 : List (S45)) (a1_0 : Int) (l1_1 : List Int) : Option (Bool) := (standstillref06_Valid.f k a0_0 l0_1).bind fun t207 => (if t207 = true then ((standstillref06_index.f a0_0 l0_1 a1_0).bind fun t208 => (if t208 = true then (standstillref06_Fits.j0 k ((l1_1.length : Int) != a0_0) a1_0 l1_1) else (standstillref06_Fits.j0 k true a1_0 l1_1))) else (standstillref06_Fits.j0 k true a1_0 l1_1))
theorem standstillref06_Fits.mono_l : ∀ k, (∀ y0 y1 y2, LeO (standstillref06_Fits.j0 k y0 y1 y2) (standstillref06_Fits.j0 (k + 1) y0 y1 y2)) ∧ (∀ y0 y1 y2, LeO (standstillref06_Fits.l0 k y0 y1 y2) (standstillref06_Fits.l0 (k + 1) y0 y1 y2))
 | 0 => ⟨fun _ _ _ r h => by simp [standstillref06_Fits.j0] at h, fun _ _ _ r h => by simp [standstillref06_Fits.l0] at h⟩
 | k + 1 => by
  obtain ⟨ih0, ih1⟩ := standstillref06_Fits.mono_l k
  refine ⟨?_, ?_⟩
  ·intro y0 y1 y2
   unfold standstillref06_Fits.j0
   repeat' first
   | (with_reducible exact ih0 _ _ _)
   | (with_reducible exact ih1 _ _ _)
   | (with_reducible exact standstillref06_Valid.mono _ _ _)
   | (with_reducible exact LeO.refl _)
   | (with_reducible exact LeO.none _)
   | (with_reducible refine LeO.ite ?_ ?_)
   | (with_reducible refine LeO.bind ?_ (fun _ => ?_))
   | exact ih0 _ _ _
   | exact ih1 _ _ _
   | exact standstillref06_Valid.mono _ _ _
   | exact LeO.none _
   | refine LeO.ite ?_ ?_
   | refine LeO.bind ?_ (fun _ => ?_)
  ·intro y0 y1 y2
   unfold standstillref06_Fits.l0
   repeat' first
   | (with_reducible exact ih0 _ _ _)
   | (with_reducible exact ih1 _ _ _)
   | (with_reducible exact standstillref06_Valid.mono _ _ _)
   | (with_reducible exact LeO.refl _)
   | (with_reducible exact LeO.none _)
   | (with_reducible refine LeO.ite ?_ ?_)
   | (with_reducible refine LeO.bind ?_ (fun _ => ?_))
   | exact ih0 _ _ _
   | exact ih1 _ _ _
   | exact standstillref06_Valid.mono _ _ _
   | exact LeO.none _
   | refine LeO.ite ?_ ?_
   | refine LeO.bind ?_ (fun _ => ?_)
theorem standstillref06_Fits.mono : ∀ a0 a1 a2 a3 k, LeO (standstillref06_Fits.f k a0 a1 a2 a3) (standstillref06_Fits.f (k + 1) a0 a1 a2 a3) := by
 intro a0 a1 a2 a3 k
 obtain ⟨ih0, ih1⟩ := standstillref06_Fits.mono_l k
 unfold standstillref06_Fits.f
 repeat' first
   | (with_reducible exact ih0 _ _ _)
   | (with_reducible exact ih1 _ _ _)
   | (with_reducible exact standstillref06_Valid.mono _ _ _)
   | (with_reducible exact LeO.refl _)
   | (with_reducible exact LeO.none _)
   | (with_reducible refine LeO.ite ?_ ?_)
   | (with_reducible refine LeO.bind ?_ (fun _ => ?_))
   | exact ih0 _ _ _
   | exact ih1 _ _ _
   | exact standstillref06_Valid.mono _ _ _
   | exact LeO.none _
   | refine LeO.ite ?_ ?_
   | refine LeO.bind ?_ (fun _ => ?_)
set_option maxHeartbeats 8000000 in
set_option maxRecDepth 100000 in
theorem standstillref06_Fits.calls (k : Nat) (a0_0 : Int) (A0_1 : Option Addr) (c0_1 : Nat) (l0_1 : List (S45)) (a1_0 : Int) (A1_1 : Option Addr) (c1_1 : Nat) (l1_1 : List Int) (r : Bool) (w : World) (hr0_1 : Kd.C k45 w A0_1 l0_1.length l0_1) (hc0_1 : l0_1.length ≤ c0_1) (hr1_1 : Kd.C (Kd.int .i64) w A1_1 l1_1.length l1_1) (hc1_1 : l1_1.length ≤ c1_1) (h : standstillref06_Fits.f k a0_0 l0_1 a1_0 l1_1 = some r) :
  Calls Try.prog 18 #[.agg #[.int .i64 a0_0, .slice A0_1 l0_1.length c0_1], .agg #[.int .i64 a1_0, .slice A1_1 l1_1.length c1_1]] w fun e w' => e = .returned (.bool r) ∧ Below w.heap.size w w' := by
 have hu38 := Try.underlying38
 have hu47 := Try.underlying47
 have HR0_1 := Aside0.mk hr0_1
 have HC0_1 := Aside0.mk hc0_1
 clear hr0_1 hc0_1
 have HR1_1 := Aside0.mk hr1_1
 have HC1_1 := Aside0.mk hc1_1
 clear hr1_1 hc1_1
 have HB := A_ (Below.refl w.heap.size w)
 have H : ((standstillref06_Valid.f k a0_0 l0_1).bind fun t207 => (if t207 = true then ((standstillref06_index.f a0_0 l0_1 a1_0).bind fun t208 => (if t208 = true then (standstillref06_Fits.j0 k ((l1_1.length : Int) != a0_0) a1_0 l1_1) else (standstillref06_Fits.j0 k true a1_0 l1_1))) else (standstillref06_Fits.j0 k true a1_0 l1_1))) = some r := h
 clear h
 have HC3 := Aside0.mk H
 clear H
 go_enter Try.func18, Try.ntmps18
 go_upto_region 1 with (first | ((with_reducible refine gate_dst (N := 2) rfl ?_); (try (refine gate_guard (by rfl) ?_; dsimp only)); refine box_event ?hg (N := 2) ?hd (cs := #[.int .i64 a0_0, .slice A0_1 l0_1.length c0_1]) (t := 38) ?hr ?_; (case hd => rfl); (case hg => rfl); (case hr => first | (go_simp; done) | (go_simp; rfl)); intro gb205 hg w4 hbox hb; have n0_ := A_ (below_step (bk_ HB.out) hb); have n1_ := A_ (hbox); have n2_ := A_ (bz_ hg (bk_ HB.out)); have n3_ := A_ (bz_ hg (bk_ HB.out)); clear HB; have HB := n0_; have BK205 := n1_; have GW205 := n2_; have GE205 := n3_; clear n0_ n1_ n2_ n3_ hb hbox hg) | ((with_reducible refine gate_dst (N := 3) rfl ?_); (try (refine gate_guard (by rfl) ?_; dsimp only)); refine box_event ?hg (N := 3) ?hd (cs := #[.int .i64 a1_0, .slice A1_1 l1_1.length c1_1]) (t := 47) ?hr ?_; (case hd => rfl); (case hg => rfl); (case hr => first | (go_simp; done) | (go_simp; rfl)); intro gb206 hg w5 hbox hb; have n0_ := A_ (blk_below (pk_ BK205.out) hb); have n1_ := A_ (below_step (bk_ HB.out) hb); have n2_ := A_ (hbox); have n3_ := A_ (bz_ hg (bk_ HB.out)); have n4_ := A_ (bz_ hg (bk_ HB.out)); have n5_ := A_ (nl_ hg (pk_ BK205.out)); have n6_ := A_ (ng_ hg (pk_ BK205.out)); clear BK205 HB; have BK205 := n0_; have HB := n1_; have BK206 := n2_; have GW206 := n3_; have GE206 := n4_; have NB205_206 := n5_; have NB206_205 := n6_; clear n0_ n1_ n2_ n3_ n4_ n5_ n6_ hb hbox hg))
 (try simp only [Act.put, List.setIfInBounds_toArray, List.set_cons_zero, List.set_cons_succ])
 go_cut [23] (fun v23 wc => ∃ (kq : Nat) (x23_2 : Bool), v23 = .bool x23_2 ∧ Aside0 (standstillref06_Fits.j0 kq x23_2 a1_0 l1_1 = some r) ∧ Aside0 (kq ≤ k) ∧ Aside0 (wc.heap[gb205]? = some (.cells #[.int .i64 a0_0, (.slice A0_1 l0_1.length c0_1)] 38 (0, 0))) ∧ Aside0 (wc.heap[gb206]? = some (.cells #[.int .i64 a1_0, (.slice A1_1 l1_1.length c1_1)] 47 (0, 0))) ∧ Aside0 (Below w.heap.size w wc))
 case first =>
  have H := HC3.out
  clear HC3
  replace H := Option.bind_eq_some_iff.mp H
  obtain ⟨t207, A60, H⟩ := H
  replace H : (if t207 = true then ((standstillref06_index.f a0_0 l0_1 a1_0).bind fun t208 => (if t208 = true then (standstillref06_Fits.j0 k ((l1_1.length : Int) != a0_0) a1_0 l1_1) else (standstillref06_Fits.j0 k true a1_0 l1_1))) else (standstillref06_Fits.j0 k true a1_0 l1_1)) = some r := H
  have A6 := Aside0.mk A60
  clear A60
  by_cases c7 : t207 = true
  ·subst c7
   have H1 : ((standstillref06_index.f a0_0 l0_1 a1_0).bind fun t208 => (if t208 = true then (standstillref06_Fits.j0 k ((l1_1.length : Int) != a0_0) a1_0 l1_1) else (standstillref06_Fits.j0 k true a1_0 l1_1))) = some r := by rw [if_pos rfl] at H; exact H
   clear H
   have H := H1
   clear H1
   replace H := Option.bind_eq_some_iff.mp H
   obtain ⟨t208, A80, H⟩ := H
   replace H : (if t208 = true then (standstillref06_Fits.j0 k ((l1_1.length : Int) != a0_0) a1_0 l1_1) else (standstillref06_Fits.j0 k true a1_0 l1_1)) = some r := H
   have A8 := Aside0.mk A80
   clear A80
   by_cases c9 : t208 = true
   ·subst c9
    have H1 : (standstillref06_Fits.j0 k ((l1_1.length : Int) != a0_0) a1_0 l1_1) = some r := by rw [if_pos rfl] at H; exact H
    clear H
    have H := H1
    clear H1
    have H' := Aside0.mk H
    clear H
    have hnb10 := NB205_206.out
    have hnc10 := NB206_205.out
    obtain ⟨hcz11_0, hcz11_1⟩ := bc2_ BK205.out
    have hfz11_0 := blk_frozen BK205.out 0
    have hfz11_1 := blk_frozen BK205.out 1
    go_wp2_with (first | ((with_reducible refine gate_callee (f := 15) rfl ?_); refine goesL_ (some 7) rfl rfl Try.func15 (by kernel_rfl) rfl #[.agg #[.int .i64 a0_0, .slice A0_1 l0_1.length c0_1]] rfl gl_ ?_; (with_reducible refine (standstillref06_Valid.calls k a0_0 _ _ l0_1 true _ ?side1 ?side2 A6.out).mono ?_); (case side1 => exact ck_ (Kd.C_below HR0_1.out HB.out)); (case side2 => exact HC0_1.out); rintro e w12 ⟨rfl, hb⟩; refine ⟨_, rfl, ?_⟩; have n0_ := A_ (blk_below (pk_ BK205.out) hb); have n1_ := A_ (blk_below (pk_ BK206.out) hb); have n2_ := A_ (below_step (bk_ HB.out) hb); clear BK205 BK206 HB; have BK205 := n0_; have BK206 := n1_; have HB := n2_; clear n0_ n1_ n2_; (try clear hb); (try clear hb2); (try clear hk); (try clear hi); obtain ⟨hcz13_0, hcz13_1⟩ := bc2_ BK205.out; have hfz13_0 := blk_frozen BK205.out 0; have hfz13_1 := blk_frozen BK205.out 1; obtain ⟨hcz14_0, hcz14_1⟩ := bc2_ BK206.out; have hfz14_0 := blk_frozen BK206.out 0; have hfz14_1 := blk_frozen BK206.out 1) | (go_at_call 30; (with_reducible refine (standstillref06_index.calls a0_0 _ _ l0_1 a1_0 true _ ?side1 ?side2 A8.out).mono ?_); (case side1 => exact ck_ (Kd.C_below HR0_1.out HB.out)); (case side2 => exact HC0_1.out); rintro e w15 ⟨rfl, hb⟩; have n0_ := A_ (blk_below (pk_ BK205.out) hb); have n1_ := A_ (blk_below (pk_ BK206.out) hb); have n2_ := A_ (below_step (bk_ HB.out) hb); clear BK205 BK206 HB; have BK205 := n0_; have BK206 := n1_; have HB := n2_; clear n0_ n1_ n2_; (try clear hb); (try clear hb2); (try clear hk); (try clear hi); obtain ⟨hcz16_0, hcz16_1⟩ := bc2_ BK206.out; have hfz16_0 := blk_frozen BK206.out 0; have hfz16_1 := blk_frozen BK206.out 1; obtain ⟨hcz17_0, hcz17_1⟩ := bc2_ BK205.out; have hfz17_0 := blk_frozen BK205.out 0; have hfz17_1 := blk_frozen BK205.out 1))
    go_meet
    case rel => exact ⟨_, (((l1_1.length : Int) != a0_0)), jr_, H', ⟨by first | omega | exact Nat.le_refl _⟩, ⟨pk_ BK205.out⟩, ⟨pk_ BK206.out⟩, ⟨bk_ HB.out⟩⟩
   ·replace c9 := Bool.eq_false_iff.mpr c9
    subst c9
    have H1 : (standstillref06_Fits.j0 k true a1_0 l1_1) = some r := by rw [if_neg (show ¬ (false = true) by decide)] at H; exact H
    clear H
    have H := H1
    clear H1
    have H' := Aside0.mk H
    clear H
    have hnb18 := NB205_206.out
    have hnc18 := NB206_205.out
    obtain ⟨hcz19_0, hcz19_1⟩ := bc2_ BK205.out
    have hfz19_0 := blk_frozen BK205.out 0
    have hfz19_1 := blk_frozen BK205.out 1
    go_wp2_with (first | ((with_reducible refine gate_callee (f := 15) rfl ?_); refine goesL_ (some 7) rfl rfl Try.func15 (by kernel_rfl) rfl #[.agg #[.int .i64 a0_0, .slice A0_1 l0_1.length c0_1]] rfl gl_ ?_; (with_reducible refine (standstillref06_Valid.calls k a0_0 _ _ l0_1 true _ ?side1 ?side2 A6.out).mono ?_); (case side1 => exact ck_ (Kd.C_below HR0_1.out HB.out)); (case side2 => exact HC0_1.out); rintro e w20 ⟨rfl, hb⟩; refine ⟨_, rfl, ?_⟩; have n0_ := A_ (blk_below (pk_ BK205.out) hb); have n1_ := A_ (blk_below (pk_ BK206.out) hb); have n2_ := A_ (below_step (bk_ HB.out) hb); clear BK205 BK206 HB; have BK205 := n0_; have BK206 := n1_; have HB := n2_; clear n0_ n1_ n2_; (try clear hb); (try clear hb2); (try clear hk); (try clear hi); obtain ⟨hcz21_0, hcz21_1⟩ := bc2_ BK205.out; have hfz21_0 := blk_frozen BK205.out 0; have hfz21_1 := blk_frozen BK205.out 1; obtain ⟨hcz22_0, hcz22_1⟩ := bc2_ BK206.out; have hfz22_0 := blk_frozen BK206.out 0; have hfz22_1 := blk_frozen BK206.out 1) | (go_at_call 30; (with_reducible refine (standstillref06_index.calls a0_0 _ _ l0_1 a1_0 false _ ?side1 ?side2 A8.out).mono ?_); (case side1 => exact ck_ (Kd.C_below HR0_1.out HB.out)); (case side2 => exact HC0_1.out); rintro e w23 ⟨rfl, hb⟩; have n0_ := A_ (blk_below (pk_ BK205.out) hb); have n1_ := A_ (blk_below (pk_ BK206.out) hb); have n2_ := A_ (below_step (bk_ HB.out) hb); clear BK205 BK206 HB; have BK205 := n0_; have BK206 := n1_; have HB := n2_; clear n0_ n1_ n2_; (try clear hb); (try clear hb2); (try clear hk); (try clear hi)))
    go_meet
    case rel => exact ⟨_, (true), jr_, H', ⟨by first | omega | exact Nat.le_refl _⟩, ⟨pk_ BK205.out⟩, ⟨pk_ BK206.out⟩, ⟨bk_ HB.out⟩⟩
  ·replace c7 := Bool.eq_false_iff.mpr c7
   subst c7
   have H1 : (standstillref06_Fits.j0 k true a1_0 l1_1) = some r := by rw [if_neg (show ¬ (false = true) by decide)] at H; exact H
   clear H
   have H := H1
   clear H1
   have H' := Aside0.mk H
   clear H
   have hnb24 := NB205_206.out
   have hnc24 := NB206_205.out
   obtain ⟨hcz25_0, hcz25_1⟩ := bc2_ BK205.out
   have hfz25_0 := blk_frozen BK205.out 0
   have hfz25_1 := blk_frozen BK205.out 1
   go_wp2_with (first | ((with_reducible refine gate_callee (f := 15) rfl ?_); refine goesL_ (some 7) rfl rfl Try.func15 (by kernel_rfl) rfl #[.agg #[.int .i64 a0_0, .slice A0_1 l0_1.length c0_1]] rfl gl_ ?_; (with_reducible refine (standstillref06_Valid.calls k a0_0 _ _ l0_1 false _ ?side1 ?side2 A6.out).mono ?_); (case side1 => exact ck_ (Kd.C_below HR0_1.out HB.out)); (case side2 => exact HC0_1.out); rintro e w26 ⟨rfl, hb⟩; refine ⟨_, rfl, ?_⟩; have n0_ := A_ (blk_below (pk_ BK205.out) hb); have n1_ := A_ (blk_below (pk_ BK206.out) hb); have n2_ := A_ (below_step (bk_ HB.out) hb); clear BK205 BK206 HB; have BK205 := n0_; have BK206 := n1_; have HB := n2_; clear n0_ n1_ n2_; (try clear hb); (try clear hb2); (try clear hk); (try clear hi)))
   go_meet
   case rel => exact ⟨_, (true), jr_, H', ⟨by first | omega | exact Nat.le_refl _⟩, ⟨pk_ BK205.out⟩, ⟨pk_ BK206.out⟩, ⟨bk_ HB.out⟩⟩
 case rest =>
  clear HC3
  obtain ⟨kq, x23_2, rfl, HA, HJ2, BK205, BK206, HB⟩ := hcut
  cases kq with
  | zero => exact absurd HA.out (by simp [standstillref06_Fits.j0])
  | succ kj2 =>
   have H := HA.out
   clear HA
   simp only [standstillref06_Fits.j0] at H
   by_cases c27 : x23_2 = true
   ·subst c27
    have H1 : (some false) = some r := by rw [if_pos rfl] at H; exact H
    clear H
    have H := H1
    clear H1
    obtain rfl := Option.some.inj H
    go_wp2
    go_ret
    exact ⟨er_, bk_ HB.out⟩
   ·replace c27 := Bool.eq_false_iff.mpr c27
    subst c27
    have H1 : (standstillref06_Fits.l0 kj2 0 a1_0 l1_1) = some r := by rw [if_neg (show ¬ (false = true) by decide)] at H; exact H
    clear H
    have H := H1
    clear H1
    have H' := Aside0.mk H
    clear H
    go_wp2
    go_loopg [5] kj2 (fun kq v5 w' => ∃ (x5_2 : Int), v5 = .int .i64 x5_2 ∧ Aside0 (standstillref06_Fits.l0 kq x5_2 a1_0 l1_1 = some r) ∧ Aside0 (kq ≤ kj2) ∧ Aside0 (w'.heap[gb205]? = some (.cells #[.int .i64 a0_0, (.slice A0_1 l0_1.length c0_1)] 38 (0, 0))) ∧ Aside0 (w'.heap[gb206]? = some (.cells #[.int .i64 a1_0, (.slice A1_1 l1_1.length c1_1)] 47 (0, 0))) ∧ Aside0 (Below w.heap.size w w'))
    case atStart => exact ⟨(0), jr_, H', ⟨Nat.le_refl _⟩, ⟨pk_ BK205.out⟩, ⟨pk_ BK206.out⟩, ⟨bk_ HB.out⟩⟩
    case round =>
     clear H'
     (try clear c27)
     obtain ⟨x5_2, rfl, HA, HK2, BK205, BK206, HB⟩ := hrel
     cases gk with
     | zero => exact absurd HA.out (by simp [standstillref06_Fits.l0])
     | succ k2 =>
      have H := HA.out
      clear HA
      simp only [standstillref06_Fits.l0] at H
      by_cases c28 : x5_2 < (l1_1.length : Int)
      ·rw [if_pos c28] at H
       have c28b0 : decide (x5_2 < (l1_1.length : Int)) = true := decide_eq_true c28
       clear c28
       by_cases c29 : 0 ≤ x5_2
       ·rw [if_pos c29] at H
        have c29b0 : decide (0 ≤ x5_2) = true := decide_eq_true c29
        clear c29
        by_cases c30 : (rd l1_1 x5_2) < 0
        ·rw [if_pos c30] at H
         have c30b0 : decide ((rd l1_1 x5_2) < 0) = true := decide_eq_true c30
         clear c30
         obtain rfl := Option.some.inj H
         have hnb31 := NB206_205.out
         have hnc31 := NB205_206.out
         obtain ⟨hcz32_0, hcz32_1⟩ := bc2_ BK206.out
         have hfz32_0 := blk_frozen BK206.out 0
         have hfz32_1 := blk_frozen BK206.out 1
         have p209 : 0 ≤ (x5_2 : Int) := od_
         have q209 : x5_2 < (l1_1.length : Int) := od_
         obtain ⟨ad209, e209, hx209_0⟩ := Kd.at_int HR1_1.out x5_2 p209 q209
         cases e209
         replace hx209_0 := lf_ HB.out hx209_0
         replace p209 := eq_true p209
         replace q209 := eq_true q209
         go_wp2
         go_ret
         exact ⟨er_, bk_ HB.out⟩
        ·rw [if_neg c30] at H
         have c30b0 : decide ((rd l1_1 x5_2) < 0) = false := decide_eq_false c30
         clear c30
         by_cases c33 : (rd l1_1 x5_2) > 1152921504606846976
         ·rw [if_pos c33] at H
          have c33b0 : decide (1152921504606846976 < (rd l1_1 x5_2)) = true := decide_eq_true c33
          clear c33
          obtain rfl := Option.some.inj H
          have hnb34 := NB206_205.out
          have hnc34 := NB205_206.out
          obtain ⟨hcz35_0, hcz35_1⟩ := bc2_ BK206.out
          have hfz35_0 := blk_frozen BK206.out 0
          have hfz35_1 := blk_frozen BK206.out 1
          have p209 : 0 ≤ (x5_2 : Int) := od_
          have q209 : x5_2 < (l1_1.length : Int) := od_
          obtain ⟨ad209, e209, hx209_0⟩ := Kd.at_int HR1_1.out x5_2 p209 q209
          cases e209
          replace hx209_0 := lf_ HB.out hx209_0
          replace p209 := eq_true p209
          replace q209 := eq_true q209
          have p210 : 0 ≤ (x5_2 : Int) := od_
          have q210 : x5_2 < (l1_1.length : Int) := od_
          obtain ⟨ad210, e210, hx210_0⟩ := Kd.at_int HR1_1.out x5_2 p210 q210
          obtain rfl : ad209 = ad210 := (by injection e210)
          replace hx210_0 := lf_ HB.out hx210_0
          replace p210 := eq_true p210
          replace q210 := eq_true q210
          go_wp2
          go_ret
          exact ⟨er_, bk_ HB.out⟩
         ·rw [if_neg c33] at H
          have c33b0 : decide (1152921504606846976 < (rd l1_1 x5_2)) = false := decide_eq_false c33
          clear c33
          have H' := Aside0.mk H
          clear H
          have hnb36 := NB206_205.out
          have hnc36 := NB205_206.out
          obtain ⟨hcz37_0, hcz37_1⟩ := bc2_ BK206.out
          have hfz37_0 := blk_frozen BK206.out 0
          have hfz37_1 := blk_frozen BK206.out 1
          have p209 : 0 ≤ (x5_2 : Int) := od_
          have q209 : x5_2 < (l1_1.length : Int) := od_
          obtain ⟨ad209, e209, hx209_0⟩ := Kd.at_int HR1_1.out x5_2 p209 q209
          cases e209
          replace hx209_0 := lf_ HB.out hx209_0
          replace p209 := eq_true p209
          replace q209 := eq_true q209
          have p210 : 0 ≤ (x5_2 : Int) := od_
          have q210 : x5_2 < (l1_1.length : Int) := od_
          obtain ⟨ad210, e210, hx210_0⟩ := Kd.at_int HR1_1.out x5_2 p210 q210
          obtain rfl : ad209 = ad210 := (by injection e210)
          replace hx210_0 := lf_ HB.out hx210_0
          replace p210 := eq_true p210
          replace q210 := eq_true q210
          go_wp2
          go_roundg k2
          case measure => have := HJ2.out; have := HK2.out; omega
          case rel => exact ⟨(wrap64 (x5_2 + 1)), jr_, H', ⟨by have := HJ2.out; have := HK2.out; omega⟩, ⟨pk_ BK205.out⟩, ⟨pk_ BK206.out⟩, ⟨bk_ HB.out⟩⟩
       ·rw [if_neg c29] at H
        exact absurd H (by simp)
      ·rw [if_neg c28] at H
       have c28b0 : decide (x5_2 < (l1_1.length : Int)) = false := decide_eq_false c28
       clear c28
       obtain rfl := Option.some.inj H
       obtain ⟨hcz39_0, hcz39_1⟩ := bc2_ BK206.out
       have hfz39_0 := blk_frozen BK206.out 0
       have hfz39_1 := blk_frozen BK206.out 1
       go_wp2
       go_ret
       exact ⟨er_, bk_ HB.out⟩

/-! ### standstillref08_Contents: function 12 -/
def standstillref08_Contents.l0 : Nat → List Int → Int → Option (Bool)
 | 0, _, _ => none
 | k + 1, x0, x3 => if x3 < (x0.length : Int) then (if 0 ≤ x3 then (if (rd x0 x3) < 0 then (some false) else (standstillref08_Contents.l0 k x0 (wrap64 (x3 + 1)))) else (none)) else (if (x0.length : Int) ≥ 1 then (some (decide ((x0.length : Int) ≤ 6))) else (some false))
def standstillref08_Contents.f (k : Nat) (l0 : List Int) : Option (Bool) := standstillref08_Contents.l0 k l0 0
theorem standstillref08_Contents.mono_l : ∀ k, (∀ y0 y1, LeO (standstillref08_Contents.l0 k y0 y1) (standstillref08_Contents.l0 (k + 1) y0 y1))
 | 0 => fun _ _ r h => by simp [standstillref08_Contents.l0] at h
 | k + 1 => by
  have ih0 := standstillref08_Contents.mono_l k
  ·intro y0 y1
   unfold standstillref08_Contents.l0
   repeat' first
   | (with_reducible exact ih0 _ _)
   | (with_reducible exact LeO.refl _)
   | (with_reducible exact LeO.none _)
   | (with_reducible refine LeO.ite ?_ ?_)
   | (with_reducible refine LeO.bind ?_ (fun _ => ?_))
   | exact ih0 _ _
   | exact LeO.none _
   | refine LeO.ite ?_ ?_
   | refine LeO.bind ?_ (fun _ => ?_)
theorem standstillref08_Contents.mono : ∀ a0 k, LeO (standstillref08_Contents.f k a0) (standstillref08_Contents.f (k + 1) a0) := by
 intro a0 k
 have ih0 := standstillref08_Contents.mono_l k
 unfold standstillref08_Contents.f
 repeat' first
   | (with_reducible exact ih0 _ _)
   | (with_reducible exact LeO.refl _)
   | (with_reducible exact LeO.none _)
   | (with_reducible refine LeO.ite ?_ ?_)
   | (with_reducible refine LeO.bind ?_ (fun _ => ?_))
   | exact ih0 _ _
   | exact LeO.none _
   | refine LeO.ite ?_ ?_
   | refine LeO.bind ?_ (fun _ => ?_)
set_option maxHeartbeats 8000000 in
set_option maxRecDepth 100000 in
theorem standstillref08_Contents.calls (k : Nat) (A0 : Option Addr) (c0 : Nat) (l0 : List Int) (r : Bool) (w : World) (hr0 : Kd.C (Kd.int .i64) w A0 l0.length l0) (hc0 : l0.length ≤ c0) (h : standstillref08_Contents.f k l0 = some r) :
  Calls Try.prog 12 #[.slice A0 l0.length c0] w fun e w' => e = .returned (.bool r) ∧ Drawn0 w w' := by
 have HR0 := Aside0.mk hr0
 have HC0 := Aside0.mk hc0
 clear hr0 hc0
 have H : (standstillref08_Contents.l0 k l0 0) = some r := h
 clear h
 have H' := Aside0.mk H
 clear H
 go_enter Try.func12, Try.ntmps12
 go_wp2
 go_loopg [3] k (fun kq v3 w' => ∃ (x3_1 : Int), v3 = .int .i64 x3_1 ∧ Aside0 (standstillref08_Contents.l0 kq l0 x3_1 = some r) ∧ Aside0 (kq ≤ k) ∧ Drawn0 w w')
 case atStart => exact ⟨(0), jr_, H', ⟨Nat.le_refl _⟩, by repeat (first | exact Drawn0.refl _ | apply Drawn0.step)⟩
 case round =>
  clear H'
  obtain ⟨x3_1, rfl, HA, HK1, ⟨m1, rfl⟩⟩ := hrel
  cases gk with
  | zero => exact absurd HA.out (by simp [standstillref08_Contents.l0])
  | succ k1 =>
   have H := HA.out
   clear HA
   simp only [standstillref08_Contents.l0] at H
   by_cases c2 : x3_1 < (l0.length : Int)
   ·rw [if_pos c2] at H
    have c2b0 : decide (x3_1 < (l0.length : Int)) = true := decide_eq_true c2
    clear c2
    by_cases c3 : 0 ≤ x3_1
    ·rw [if_pos c3] at H
     have c3b0 : decide (0 ≤ x3_1) = true := decide_eq_true c3
     clear c3
     by_cases c4 : (rd l0 x3_1) < 0
     ·rw [if_pos c4] at H
      have c4b0 : decide ((rd l0 x3_1) < 0) = true := decide_eq_true c4
      clear c4
      obtain rfl := Option.some.inj H
      have p211 : 0 ≤ (x3_1 : Int) := od_
      have q211 : x3_1 < (l0.length : Int) := od_
      obtain ⟨ad211, e211, hx211_0⟩ := Kd.at_int HR0.out x3_1 p211 q211
      cases e211
      replace p211 := eq_true p211
      replace q211 := eq_true q211
      go_wp2
      go_ret
      exact ⟨by first | rfl | (simp; done) | (simp [*]; done), by repeat (first | exact Drawn0.refl _ | apply Drawn0.step)⟩
     ·rw [if_neg c4] at H
      have c4b0 : decide ((rd l0 x3_1) < 0) = false := decide_eq_false c4
      clear c4
      have H' := Aside0.mk H
      clear H
      have p211 : 0 ≤ (x3_1 : Int) := od_
      have q211 : x3_1 < (l0.length : Int) := od_
      obtain ⟨ad211, e211, hx211_0⟩ := Kd.at_int HR0.out x3_1 p211 q211
      cases e211
      replace p211 := eq_true p211
      replace q211 := eq_true q211
      go_wp2
      go_roundg k1
      case measure => have := HK1.out; omega
      case rel => exact ⟨(wrap64 (x3_1 + 1)), jr_, H', ⟨by have := HK1.out; omega⟩, by repeat (first | exact Drawn0.refl _ | apply Drawn0.step)⟩
    ·rw [if_neg c3] at H
     exact absurd H (by simp)
   ·rw [if_neg c2] at H
    have c2b0 : decide (x3_1 < (l0.length : Int)) = false := decide_eq_false c2
    clear c2
    by_cases c5 : (l0.length : Int) ≥ 1
    ·rw [if_pos c5] at H
     have c5b0 : decide (1 ≤ (l0.length : Int)) = true := decide_eq_true c5
     have c5b1 : decide (1 ≤ l0.length) = true := decide_eq_true (by omega)
     clear c5
     obtain rfl := Option.some.inj H
     go_wp2
     go_ret
     exact ⟨by first | rfl | (simp; done) | (simp [*]; done), by repeat (first | exact Drawn0.refl _ | apply Drawn0.step)⟩
    ·rw [if_neg c5] at H
     have c5b0 : decide (1 ≤ (l0.length : Int)) = false := decide_eq_false c5
     have c5b1 : decide (1 ≤ l0.length) = false := decide_eq_false (by omega)
     clear c5
     obtain rfl := Option.some.inj H
     go_wp2
     go_ret
     exact ⟨by first | rfl | (simp; done) | (simp [*]; done), by repeat (first | exact Drawn0.refl _ | apply Drawn0.step)⟩

/-! ### standstillref08_primes: function 25 -/
def standstillref08_primes.f  : Option (List Int) := some (([2, 3, 5, 7, 11, 13] : List Int))
set_option maxHeartbeats 8000000 in
set_option maxRecDepth 100000 in
theorem standstillref08_primes.calls  (r : List Int) (w : World) (h : standstillref08_primes.f  = some r) :
  Calls Try.prog 25 #[] w fun e w' => ∃ v0_ : Value, e = .returned (v0_) ∧ Kd.R (Kd.int .i64) 3 w' w.heap.size (fun _ => True) v0_ r ∧ Below w.heap.size w w' := by
 have HB := A_ (Below.refl w.heap.size w)
 have H : (some (([2, 3, 5, 7, 11, 13] : List Int))) = some r := h
 clear h
 obtain ⟨y212, hy212⟩ : ∃ y_ : List Int, y_ = (([2, 3, 5, 7, 11, 13] : List Int)) := ⟨_, rfl⟩
 replace H : (some y212) = some r := by first | (rw [hy212]; with_reducible exact H) | (have H2_ := (Option.bind_some _ _).symm.trans H; rw [hy212]; with_reducible exact H2_) | (have H2_ := (Option.bind_some _ _).symm.trans H; with_reducible exact H2_) | with_reducible exact H | (rw [hy212]; exact H) | exact H
 have Ny212 := Aside0.mk hy212
 clear hy212
 obtain rfl := Option.some.inj H
 go_enter Try.func25, Try.ntmps25
 go_wp2_with (first | ((with_reducible refine gate_dst (N := 1) rfl ?_); refine Kd.R_lit (Kd.int .i64) _ 3 ?hg (N := 1) ?hd (xs := ([2, 3, 5, 7, 11, 13] : List Int)) (inner := [.int .i64 2, .int .i64 3, .int .i64 5, .int .i64 7, .int .i64 11, .int .i64 13]) (ok := fun _ => True) (okp := fun _ => True) ?hr ?hp (fun _ hk => hk) trivial (Below.refl _ _) (Nat.le_refl _) (by simp) ?_; (case hd => rfl); (case hg => rfl); (case hr => first | (go_simp; done) | (go_simp; rfl)); (case hp => exact (Reps.one (show Kd.M (Kd.int .i64) _ _ _ 2 [.int .i64 2] from rfl) (Reps.one (show Kd.M (Kd.int .i64) _ _ _ 3 [.int .i64 3] from rfl) (Reps.one (show Kd.M (Kd.int .i64) _ _ _ 5 [.int .i64 5] from rfl) (Reps.one (show Kd.M (Kd.int .i64) _ _ _ 7 [.int .i64 7] from rfl) (Reps.one (show Kd.M (Kd.int .i64) _ _ _ 11 [.int .i64 11] from rfl) (Reps.one (show Kd.M (Kd.int .i64) _ _ _ 13 [.int .i64 13] from rfl) (Reps.none _ _)))))))); intro v213 w1 ho2 hb hg_ hnew_; clear hg_ hnew_; (first | rw [← Ny212.out] at ho2 | (simp only [Int.reduceToNat] at ho2; rw [← Ny212.out] at ho2)); have n0_ := A_ (Kd.R_lower ho2 (below_size (bk_ HB.out))); have n1_ := A_ (below_step (bk_ HB.out) hb); clear HB; have HO214 := n0_; have HB := n1_; clear n0_ n1_ hb ho2))
 go_ret
 exact ⟨_, er_, rk_ HO214.out, bk_ HB.out⟩

/-! ### standstillref08_Encode: function 13 -/
mutual
def standstillref08_Encode.l0 : Nat → List Int → Int → Int → Option (Int × Bool)
 | 0, _, _, _ => none
 | k + 1, x0, x4, x5 => if x5 < (x0.length : Int) then ((standstillref08_primes.f).bind fun t215 => (if 0 ≤ x5 then (if x5 < (t215.length : Int) then (standstillref08_Encode.l1 k x0 x4 x5 (rd t215 x5) 0) else (none)) else (none))) else (some (x4, true))
def standstillref08_Encode.l1 : Nat → List Int → Int → Int → Int → Int → Option (Int × Bool)
 | 0, _, _, _, _, _ => none
 | k + 1, x0, x4, x5, x6, x7 => if 0 ≤ x5 then (if x5 < (x0.length : Int) then (if x7 < (rd x0 x5) then (if x6 = 0 then (none) else (if x4 > (wrap64 (Int.tdiv (1152921504606846976 : Int) x6)) then (some (0, false)) else (standstillref08_Encode.l1 k x0 (wrap64 (x4 * x6)) x5 x6 (wrap64 (x7 + 1))))) else (standstillref08_Encode.l0 k x0 x4 (wrap64 (x5 + 1)))) else (none)) else (none)
end
def standstillref08_Encode.f (k : Nat) (l0 : List Int) : Option (Int × Bool) := standstillref08_Encode.l0 k l0 1 0
theorem standstillref08_Encode.mono_l : ∀ k, (∀ y0 y1 y2, LeO (standstillref08_Encode.l0 k y0 y1 y2) (standstillref08_Encode.l0 (k + 1) y0 y1 y2)) ∧ (∀ y0 y1 y2 y3 y4, LeO (standstillref08_Encode.l1 k y0 y1 y2 y3 y4) (standstillref08_Encode.l1 (k + 1) y0 y1 y2 y3 y4))
 | 0 => ⟨fun _ _ _ r h => by simp [standstillref08_Encode.l0] at h, fun _ _ _ _ _ r h => by simp [standstillref08_Encode.l1] at h⟩
 | k + 1 => by
  obtain ⟨ih0, ih1⟩ := standstillref08_Encode.mono_l k
  refine ⟨?_, ?_⟩
  ·intro y0 y1 y2
   unfold standstillref08_Encode.l0
   repeat' first
   | (with_reducible exact ih0 _ _ _)
   | (with_reducible exact ih1 _ _ _ _ _)
   | (with_reducible exact LeO.refl _)
   | (with_reducible exact LeO.none _)
   | (with_reducible refine LeO.ite ?_ ?_)
   | (with_reducible refine LeO.bind ?_ (fun _ => ?_))
   | exact ih0 _ _ _
   | exact ih1 _ _ _ _ _
   | exact LeO.none _
   | refine LeO.ite ?_ ?_
   | refine LeO.bind ?_ (fun _ => ?_)
  ·intro y0 y1 y2 y3 y4
   unfold standstillref08_Encode.l1
   repeat' first
   | (with_reducible exact ih0 _ _ _)
   | (with_reducible exact ih1 _ _ _ _ _)
   | (with_reducible exact LeO.refl _)
   | (with_reducible exact LeO.none _)
   | (with_reducible refine LeO.ite ?_ ?_)
   | (with_reducible refine LeO.bind ?_ (fun _ => ?_))
   | exact ih0 _ _ _
   | exact ih1 _ _ _ _ _
   | exact LeO.none _
   | refine LeO.ite ?_ ?_
   | refine LeO.bind ?_ (fun _ => ?_)
theorem standstillref08_Encode.mono : ∀ a0 k, LeO (standstillref08_Encode.f k a0) (standstillref08_Encode.f (k + 1) a0) := by
 intro a0 k
 obtain ⟨ih0, ih1⟩ := standstillref08_Encode.mono_l k
 unfold standstillref08_Encode.f
 repeat' first
   | (with_reducible exact ih0 _ _ _)
   | (with_reducible exact ih1 _ _ _ _ _)
   | (with_reducible exact LeO.refl _)
   | (with_reducible exact LeO.none _)
   | (with_reducible refine LeO.ite ?_ ?_)
   | (with_reducible refine LeO.bind ?_ (fun _ => ?_))
   | exact ih0 _ _ _
   | exact ih1 _ _ _ _ _
   | exact LeO.none _
   | refine LeO.ite ?_ ?_
   | refine LeO.bind ?_ (fun _ => ?_)
set_option maxHeartbeats 8000000 in
set_option maxRecDepth 100000 in
theorem standstillref08_Encode.calls (k : Nat) (A0 : Option Addr) (c0 : Nat) (l0 : List Int) (r1 : Int) (r2 : Bool) (w : World) (hr0 : Kd.C (Kd.int .i64) w A0 l0.length l0) (hc0 : l0.length ≤ c0) (h : standstillref08_Encode.f k l0 = some (r1, r2)) :
  Calls Try.prog 13 #[.slice A0 l0.length c0] w fun e w' => e = .returned (.tuple #[.int .i64 r1, .bool r2]) ∧ Below w.heap.size w w' := by
 have HR0 := Aside0.mk hr0
 have HC0 := Aside0.mk hc0
 clear hr0 hc0
 have HB := A_ (Below.refl w.heap.size w)
 have H : (standstillref08_Encode.l0 k l0 1 0) = some (r1, r2) := h
 clear h
 have H' := Aside0.mk H
 clear H
 go_enter Try.func13, Try.ntmps13
 go_wp2
 go_loopg [4, 5] k (fun kq v4 v5 w' => ∃ (x4_1 : Int) (x5_1 : Int), v4 = .int .i64 x4_1 ∧ v5 = .int .i64 x5_1 ∧ Aside0 (standstillref08_Encode.l0 kq l0 x4_1 x5_1 = some (r1, r2)) ∧ Aside0 (kq ≤ k) ∧ Aside0 (Below w.heap.size w w'))
 case atStart => exact ⟨(1), (0), jr_, jr_, H', ⟨Nat.le_refl _⟩, ⟨bk_ HB.out⟩⟩
 case round =>
  clear H'
  obtain ⟨x4_1, x5_1, rfl, rfl, HA, HK1, HB⟩ := hrel
  cases gk with
  | zero => exact absurd HA.out (by simp [standstillref08_Encode.l0])
  | succ k1 =>
   have H := HA.out
   clear HA
   simp only [standstillref08_Encode.l0] at H
   by_cases c2 : x5_1 < (l0.length : Int)
   ·rw [if_pos c2] at H
    have c2b0 : decide (x5_1 < (l0.length : Int)) = true := decide_eq_true c2
    clear c2
    replace H := Option.bind_eq_some_iff.mp H
    obtain ⟨t215, A30, H⟩ := H
    replace H : (if 0 ≤ x5_1 then (if x5_1 < (t215.length : Int) then (standstillref08_Encode.l1 k1 l0 x4_1 x5_1 (rd t215 x5_1) 0) else (none)) else (none)) = some (r1, r2) := H
    have A3 := Aside0.mk A30
    clear A30
    by_cases c4 : 0 ≤ x5_1
    ·rw [if_pos c4] at H
     have c4b0 : decide (0 ≤ x5_1) = true := decide_eq_true c4
     clear c4
     by_cases c5 : x5_1 < (t215.length : Int)
     ·rw [if_pos c5] at H
      have c5b0 : decide (x5_1 < (t215.length : Int)) = true := decide_eq_true c5
      clear c5
      have H' := Aside0.mk H
      clear H
      go_wp2_with (first | ((with_reducible refine gate_callee (f := 25) rfl ?_); refine goesL_ (some 14) rfl rfl Try.func25 (by kernel_rfl) rfl #[] rfl gl_ ?_; (with_reducible refine (standstillref08_primes.calls  t215 _ A3.out).mono ?_); rintro e w6 ⟨v216, rfl, ho0, hb⟩; refine ⟨_, rfl, ?_⟩; have n0_ := A_ (Kd.R_lower ho0 (below_size (bk_ HB.out))); have n1_ := A_ (below_step (bk_ HB.out) hb); clear HB; have HO217 := n0_; have HB := n1_; clear n0_ n1_; (try clear hb); (try clear hb2); (try clear hk); (try clear hi); (try clear ho0); obtain ⟨Ao7, co7, eo7⟩ := Kd.R_slice HO217.out; subst eo7; have p218 : 0 ≤ (x5_1 : Int) := od_; have q218 : x5_1 < (t215.length : Int) := od_; obtain ⟨ad218, e218, hx218_0⟩ := Kd.at_int (Kd.R_reads' HO217.out).2.2 x5_1 p218 q218; cases e218; replace p218 := eq_true p218; replace q218 := eq_true q218))
      go_loopg [4, 7] k1 (fun kq v4 v7 w' => ∃ (x4_2 : Int) (x7_2 : Int), v4 = .int .i64 x4_2 ∧ v7 = .int .i64 x7_2 ∧ Aside0 (standstillref08_Encode.l1 kq l0 x4_2 x5_1 (rd t215 x5_1) x7_2 = some (r1, r2)) ∧ Aside0 (kq ≤ k1) ∧ Aside0 (Below w.heap.size w w'))
      case atStart => exact ⟨(x4_1), (0), jr_, jr_, H', ⟨Nat.le_refl _⟩, ⟨bk_ HB.out⟩⟩
      case round =>
       clear H'
       (try clear c2); (try clear c2b0); (try clear c4); (try clear c4b0); (try clear c5); (try clear c5b0); (try clear hx218_0); (try clear p218); (try clear q218)
       obtain ⟨x4_2, x7_2, rfl, rfl, HA, HK2, HB⟩ := hrel
       cases gk with
       | zero => exact absurd HA.out (by simp [standstillref08_Encode.l1])
       | succ k2 =>
        have H := HA.out
        clear HA
        simp only [standstillref08_Encode.l1] at H
        by_cases c8 : 0 ≤ x5_1
        ·rw [if_pos c8] at H
         have c8b0 : decide (0 ≤ x5_1) = true := decide_eq_true c8
         clear c8
         by_cases c9 : x5_1 < (l0.length : Int)
         ·rw [if_pos c9] at H
          have c9b0 : decide (x5_1 < (l0.length : Int)) = true := decide_eq_true c9
          clear c9
          by_cases c10 : x7_2 < (rd l0 x5_1)
          ·rw [if_pos c10] at H
           have c10b0 : decide (x7_2 < (rd l0 x5_1)) = true := decide_eq_true c10
           clear c10
           by_cases c11 : (rd t215 x5_1) = 0
           ·rw [if_pos c11] at H
            exact absurd H (by simp)
           ·rw [if_neg c11] at H
            have c11b0 : ((rd t215 x5_1) == 0) = false := beq_eq_false_iff_ne.mpr c11
            have c11b1 : ((rd t215 x5_1) != 0) = true := bne_iff_ne.mpr c11
            by_cases c12 : x4_2 > (wrap64 (Int.tdiv (1152921504606846976 : Int) (rd t215 x5_1)))
            ·rw [if_pos c12] at H
             have c12b0 : decide ((wrap64 (Int.tdiv (1152921504606846976 : Int) (rd t215 x5_1))) < x4_2) = true := decide_eq_true c12
             clear c12
             simp only [Option.some.injEq, Prod.mk.injEq] at H
             obtain ⟨rfl, rfl⟩ := H
             have p219 : 0 ≤ (x5_1 : Int) := od_
             have q219 : x5_1 < (l0.length : Int) := od_
             obtain ⟨ad219, e219, hx219_0⟩ := Kd.at_int HR0.out x5_1 p219 q219
             cases e219
             replace hx219_0 := lf_ HB.out hx219_0
             replace p219 := eq_true p219
             replace q219 := eq_true q219
             go_wp2
             go_ret2
             exact ⟨er_, bk_ HB.out⟩
            ·rw [if_neg c12] at H
             have c12b0 : decide ((wrap64 (Int.tdiv (1152921504606846976 : Int) (rd t215 x5_1))) < x4_2) = false := decide_eq_false c12
             clear c12
             have H' := Aside0.mk H
             clear H
             have p219 : 0 ≤ (x5_1 : Int) := od_
             have q219 : x5_1 < (l0.length : Int) := od_
             obtain ⟨ad219, e219, hx219_0⟩ := Kd.at_int HR0.out x5_1 p219 q219
             cases e219
             replace hx219_0 := lf_ HB.out hx219_0
             replace p219 := eq_true p219
             replace q219 := eq_true q219
             go_wp2
             go_roundg k2
             case measure => have := HK1.out; have := HK2.out; omega
             case rel => exact ⟨(wrap64 (x4_2 * (rd t215 x5_1))), (wrap64 (x7_2 + 1)), jr_, jr_, H', ⟨by have := HK1.out; have := HK2.out; omega⟩, ⟨bk_ HB.out⟩⟩
          ·rw [if_neg c10] at H
           have c10b0 : decide (x7_2 < (rd l0 x5_1)) = false := decide_eq_false c10
           clear c10
           have H' := Aside0.mk H
           clear H
           have p219 : 0 ≤ (x5_1 : Int) := od_
           have q219 : x5_1 < (l0.length : Int) := od_
           obtain ⟨ad219, e219, hx219_0⟩ := Kd.at_int HR0.out x5_1 p219 q219
           cases e219
           replace hx219_0 := lf_ HB.out hx219_0
           replace p219 := eq_true p219
           replace q219 := eq_true q219
           go_wp2
           go_roundg k2
           case measure => have := HK1.out; have := HK2.out; omega
           case rel => exact ⟨(x4_2), (wrap64 (x5_1 + 1)), jr_, jr_, H', ⟨by have := HK1.out; have := HK2.out; omega⟩, ⟨bk_ HB.out⟩⟩
         ·rw [if_neg c9] at H
          exact absurd H (by simp)
        ·rw [if_neg c8] at H
         exact absurd H (by simp)
     ·rw [if_neg c5] at H
      exact absurd H (by simp)
    ·rw [if_neg c4] at H
     exact absurd H (by simp)
   ·rw [if_neg c2] at H
    have c2b0 : decide (x5_1 < (l0.length : Int)) = false := decide_eq_false c2
    clear c2
    simp only [Option.some.injEq, Prod.mk.injEq] at H
    obtain ⟨rfl, rfl⟩ := H
    go_wp2
    go_ret2
    exact ⟨er_, bk_ HB.out⟩

/-! ### counter_fits: function 42 -/
mutual
def counter_fits.j0 : Nat → Bool → Int → List Int → Option (Bool)
 | 0, _, _, _ => none
 | k + 1, x25, x222000, x222001 => if x25 = true then (some false) else (counter_fits.l0 k x222001 (x222001.length : Int) 0)
def counter_fits.l0 : Nat → List Int → Int → Int → Option (Bool)
 | 0, _, _, _ => none
 | k + 1, x27, x28, x29 => if x29 < x28 then (if 0 ≤ x29 then (if x29 < (x27.length : Int) then (if (rd x27 x29) < 0 then (some false) else (if (rd x27 x29) > 1152921504606846976 then (some false) else (counter_fits.l0 k x27 x28 (wrap64 (x29 + 1))))) else (none)) else (none)) else (some true)
end
def counter_fits.f (k : Nat) (a0_0 : Int) (l0_1 : List (S45)) (a1_0 : Int) (l1_1 : List Int) : Option (Bool) := if a1_0 < 0 then (counter_fits.j0 k true a1_0 l1_1) else (if a1_0 ≥ (l0_1.length : Int) then (counter_fits.j0 k true a1_0 l1_1) else (counter_fits.j0 k ((l1_1.length : Int) != a0_0) a1_0 l1_1))
theorem counter_fits.mono_l : ∀ k, (∀ y0 y1 y2, LeO (counter_fits.j0 k y0 y1 y2) (counter_fits.j0 (k + 1) y0 y1 y2)) ∧ (∀ y0 y1 y2, LeO (counter_fits.l0 k y0 y1 y2) (counter_fits.l0 (k + 1) y0 y1 y2))
 | 0 => ⟨fun _ _ _ r h => by simp [counter_fits.j0] at h, fun _ _ _ r h => by simp [counter_fits.l0] at h⟩
 | k + 1 => by
  obtain ⟨ih0, ih1⟩ := counter_fits.mono_l k
  refine ⟨?_, ?_⟩
  ·intro y0 y1 y2
   unfold counter_fits.j0
   repeat' first
   | (with_reducible exact ih0 _ _ _)
   | (with_reducible exact ih1 _ _ _)
   | (with_reducible exact LeO.refl _)
   | (with_reducible exact LeO.none _)
   | (with_reducible refine LeO.ite ?_ ?_)
   | (with_reducible refine LeO.bind ?_ (fun _ => ?_))
   | exact ih0 _ _ _
   | exact ih1 _ _ _
   | exact LeO.none _
   | refine LeO.ite ?_ ?_
   | refine LeO.bind ?_ (fun _ => ?_)
  ·intro y0 y1 y2
   unfold counter_fits.l0
   repeat' first
   | (with_reducible exact ih0 _ _ _)
   | (with_reducible exact ih1 _ _ _)
   | (with_reducible exact LeO.refl _)
   | (with_reducible exact LeO.none _)
   | (with_reducible refine LeO.ite ?_ ?_)
   | (with_reducible refine LeO.bind ?_ (fun _ => ?_))
   | exact ih0 _ _ _
   | exact ih1 _ _ _
   | exact LeO.none _
   | refine LeO.ite ?_ ?_
   | refine LeO.bind ?_ (fun _ => ?_)
theorem counter_fits.mono : ∀ a0 a1 a2 a3 k, LeO (counter_fits.f k a0 a1 a2 a3) (counter_fits.f (k + 1) a0 a1 a2 a3) := by
 intro a0 a1 a2 a3 k
 obtain ⟨ih0, ih1⟩ := counter_fits.mono_l k
 unfold counter_fits.f
 repeat' first
   | (with_reducible exact ih0 _ _ _)
   | (with_reducible exact ih1 _ _ _)
   | (with_reducible exact LeO.refl _)
   | (with_reducible exact LeO.none _)
   | (with_reducible refine LeO.ite ?_ ?_)
   | (with_reducible refine LeO.bind ?_ (fun _ => ?_))
   | exact ih0 _ _ _
   | exact ih1 _ _ _
   | exact LeO.none _
   | refine LeO.ite ?_ ?_
   | refine LeO.bind ?_ (fun _ => ?_)
set_option maxHeartbeats 8000000 in
set_option maxRecDepth 100000 in
theorem counter_fits.calls (k : Nat) (a0_0 : Int) (A0_1 : Option Addr) (c0_1 : Nat) (l0_1 : List (S45)) (a1_0 : Int) (A1_1 : Option Addr) (c1_1 : Nat) (l1_1 : List Int) (r : Bool) (w : World) (hr0_1 : Kd.C k45 w A0_1 l0_1.length l0_1) (hc0_1 : l0_1.length ≤ c0_1) (hr1_1 : Kd.C (Kd.int .i64) w A1_1 l1_1.length l1_1) (hc1_1 : l1_1.length ≤ c1_1) (h : counter_fits.f k a0_0 l0_1 a1_0 l1_1 = some r) :
  Calls Try.prog 42 #[.agg #[.int .i64 a0_0, .slice A0_1 l0_1.length c0_1], .agg #[.int .i64 a1_0, .slice A1_1 l1_1.length c1_1]] w fun e w' => e = .returned (.bool r) ∧ Below w.heap.size w w' := by
 have hu38 := Try.underlying38
 have hu47 := Try.underlying47
 have HR0_1 := Aside0.mk hr0_1
 have HC0_1 := Aside0.mk hc0_1
 clear hr0_1 hc0_1
 have HR1_1 := Aside0.mk hr1_1
 have HC1_1 := Aside0.mk hc1_1
 clear hr1_1 hc1_1
 have HB := A_ (Below.refl w.heap.size w)
 have H : (if a1_0 < 0 then (counter_fits.j0 k true a1_0 l1_1) else (if a1_0 ≥ (l0_1.length : Int) then (counter_fits.j0 k true a1_0 l1_1) else (counter_fits.j0 k ((l1_1.length : Int) != a0_0) a1_0 l1_1))) = some r := h
 clear h
 have HC3 := Aside0.mk H
 clear H
 go_enter Try.func42, Try.ntmps42
 go_upto_region 1 with (first | ((with_reducible refine gate_dst (N := 2) rfl ?_); (try (refine gate_guard (by rfl) ?_; dsimp only)); refine box_event ?hg (N := 2) ?hd (cs := #[.int .i64 a0_0, .slice A0_1 l0_1.length c0_1]) (t := 38) ?hr ?_; (case hd => rfl); (case hg => rfl); (case hr => first | (go_simp; done) | (go_simp; rfl)); intro gb220 hg w4 hbox hb; have n0_ := A_ (below_step (bk_ HB.out) hb); have n1_ := A_ (hbox); have n2_ := A_ (bz_ hg (bk_ HB.out)); have n3_ := A_ (bz_ hg (bk_ HB.out)); clear HB; have HB := n0_; have BK220 := n1_; have GW220 := n2_; have GE220 := n3_; clear n0_ n1_ n2_ n3_ hb hbox hg) | ((with_reducible refine gate_dst (N := 3) rfl ?_); (try (refine gate_guard (by rfl) ?_; dsimp only)); refine box_event ?hg (N := 3) ?hd (cs := #[.int .i64 a1_0, .slice A1_1 l1_1.length c1_1]) (t := 47) ?hr ?_; (case hd => rfl); (case hg => rfl); (case hr => first | (go_simp; done) | (go_simp; rfl)); intro gb221 hg w5 hbox hb; have n0_ := A_ (blk_below (pk_ BK220.out) hb); have n1_ := A_ (below_step (bk_ HB.out) hb); have n2_ := A_ (hbox); have n3_ := A_ (bz_ hg (bk_ HB.out)); have n4_ := A_ (bz_ hg (bk_ HB.out)); have n5_ := A_ (nl_ hg (pk_ BK220.out)); have n6_ := A_ (ng_ hg (pk_ BK220.out)); clear BK220 HB; have BK220 := n0_; have HB := n1_; have BK221 := n2_; have GW221 := n3_; have GE221 := n4_; have NB220_221 := n5_; have NB221_220 := n6_; clear n0_ n1_ n2_ n3_ n4_ n5_ n6_ hb hbox hg))
 (try simp only [Act.put, List.setIfInBounds_toArray, List.set_cons_zero, List.set_cons_succ])
 go_cut [25] (fun v25 wc => ∃ (kq : Nat) (x25_2 : Bool), v25 = .bool x25_2 ∧ Aside0 (counter_fits.j0 kq x25_2 a1_0 l1_1 = some r) ∧ Aside0 (kq ≤ k) ∧ Aside0 (wc.heap[gb220]? = some (.cells #[.int .i64 a0_0, (.slice A0_1 l0_1.length c0_1)] 38 (0, 0))) ∧ Aside0 (wc.heap[gb221]? = some (.cells #[.int .i64 a1_0, (.slice A1_1 l1_1.length c1_1)] 47 (0, 0))) ∧ Aside0 (Below w.heap.size w wc))
 case first =>
  have H := HC3.out
  clear HC3
  by_cases c6 : a1_0 < 0
  ·rw [if_pos c6] at H
   have c6b0 : decide (a1_0 < 0) = true := decide_eq_true c6
   clear c6
   (first | rw [c6b0] | (simp only [i64_w, i32_w]; rw [c6b0]) | skip)
   have H' := Aside0.mk H
   clear H
   have hnb7 := NB221_220.out
   have hnc7 := NB220_221.out
   obtain ⟨hcz8_0, hcz8_1⟩ := bc2_ BK221.out
   have hfz8_0 := blk_frozen BK221.out 0
   have hfz8_1 := blk_frozen BK221.out 1
   go_wp2
   go_meet
   case rel => exact ⟨_, (true), jr_, H', ⟨by first | omega | exact Nat.le_refl _⟩, ⟨pk_ BK220.out⟩, ⟨pk_ BK221.out⟩, ⟨bk_ HB.out⟩⟩
  ·rw [if_neg c6] at H
   have c6b0 : decide (a1_0 < 0) = false := decide_eq_false c6
   clear c6
   (first | rw [c6b0] | (simp only [i64_w, i32_w]; rw [c6b0]) | skip)
   by_cases c9 : a1_0 ≥ (l0_1.length : Int)
   ·rw [if_pos c9] at H
    have c9b0 : decide ((l0_1.length : Int) ≤ a1_0) = true := decide_eq_true c9
    clear c9
    have H' := Aside0.mk H
    clear H
    have hnb10 := NB221_220.out
    have hnc10 := NB220_221.out
    obtain ⟨hcz11_0, hcz11_1⟩ := bc2_ BK221.out
    have hfz11_0 := blk_frozen BK221.out 0
    have hfz11_1 := blk_frozen BK221.out 1
    obtain ⟨hcz12_0, hcz12_1⟩ := bc2_ BK220.out
    have hfz12_0 := blk_frozen BK220.out 0
    have hfz12_1 := blk_frozen BK220.out 1
    go_wp2
    go_meet
    case rel => exact ⟨_, (true), jr_, H', ⟨by first | omega | exact Nat.le_refl _⟩, ⟨pk_ BK220.out⟩, ⟨pk_ BK221.out⟩, ⟨bk_ HB.out⟩⟩
   ·rw [if_neg c9] at H
    have c9b0 : decide ((l0_1.length : Int) ≤ a1_0) = false := decide_eq_false c9
    clear c9
    have H' := Aside0.mk H
    clear H
    have hnb13 := NB221_220.out
    have hnc13 := NB220_221.out
    obtain ⟨hcz14_0, hcz14_1⟩ := bc2_ BK221.out
    have hfz14_0 := blk_frozen BK221.out 0
    have hfz14_1 := blk_frozen BK221.out 1
    obtain ⟨hcz15_0, hcz15_1⟩ := bc2_ BK220.out
    have hfz15_0 := blk_frozen BK220.out 0
    have hfz15_1 := blk_frozen BK220.out 1
    go_wp2
    go_meet
    case rel => exact ⟨_, (((l1_1.length : Int) != a0_0)), jr_, H', ⟨by first | omega | exact Nat.le_refl _⟩, ⟨pk_ BK220.out⟩, ⟨pk_ BK221.out⟩, ⟨bk_ HB.out⟩⟩
 case rest =>
  clear HC3
  obtain ⟨kq, x25_2, rfl, HA, HJ2, BK220, BK221, HB⟩ := hcut
  cases kq with
  | zero => exact absurd HA.out (by simp [counter_fits.j0])
  | succ kj2 =>
   have H := HA.out
   clear HA
   simp only [counter_fits.j0] at H
   by_cases c16 : x25_2 = true
   ·subst c16
    have H1 : (some false) = some r := by rw [if_pos rfl] at H; exact H
    clear H
    have H := H1
    clear H1
    obtain rfl := Option.some.inj H
    go_wp2
    go_ret
    exact ⟨er_, bk_ HB.out⟩
   ·replace c16 := Bool.eq_false_iff.mpr c16
    subst c16
    have H1 : (counter_fits.l0 kj2 l1_1 (l1_1.length : Int) 0) = some r := by rw [if_neg (show ¬ (false = true) by decide)] at H; exact H
    clear H
    have H := H1
    clear H1
    have H' := Aside0.mk H
    clear H
    have hnb17 := NB221_220.out
    have hnc17 := NB220_221.out
    obtain ⟨hcz18_0, hcz18_1⟩ := bc2_ BK221.out
    have hfz18_0 := blk_frozen BK221.out 0
    have hfz18_1 := blk_frozen BK221.out 1
    go_wp2
    go_loopg [29] kj2 (fun kq v29 w' => ∃ (x29_2 : Int), v29 = .int .i64 x29_2 ∧ Aside0 (counter_fits.l0 kq l1_1 (l1_1.length : Int) x29_2 = some r) ∧ Aside0 (kq ≤ kj2) ∧ Aside0 (w'.heap[gb220]? = some (.cells #[.int .i64 a0_0, (.slice A0_1 l0_1.length c0_1)] 38 (0, 0))) ∧ Aside0 (w'.heap[gb221]? = some (.cells #[.int .i64 a1_0, (.slice A1_1 l1_1.length c1_1)] 47 (0, 0))) ∧ Aside0 (Below w.heap.size w w'))
    case atStart => exact ⟨(0), jr_, H', ⟨Nat.le_refl _⟩, ⟨pk_ BK220.out⟩, ⟨pk_ BK221.out⟩, ⟨bk_ HB.out⟩⟩
    case round =>
     clear H'
     (try clear c16); (try clear hcz18_0); (try clear hcz18_1); (try clear hfz18_0); (try clear hfz18_1)
     obtain ⟨x29_2, rfl, HA, HK2, BK220, BK221, HB⟩ := hrel
     cases gk with
     | zero => exact absurd HA.out (by simp [counter_fits.l0])
     | succ k2 =>
      have H := HA.out
      clear HA
      simp only [counter_fits.l0] at H
      by_cases c19 : x29_2 < (l1_1.length : Int)
      ·rw [if_pos c19] at H
       have c19b0 : decide (x29_2 < (l1_1.length : Int)) = true := decide_eq_true c19
       clear c19
       by_cases c20 : 0 ≤ x29_2
       ·rw [if_pos c20] at H
        have c20b0 : decide (0 ≤ x29_2) = true := decide_eq_true c20
        clear c20
        by_cases c21 : x29_2 < (l1_1.length : Int)
        ·rw [if_pos c21] at H
         have c21b0 : decide (x29_2 < (l1_1.length : Int)) = true := decide_eq_true c21
         clear c21
         by_cases c22 : (rd l1_1 x29_2) < 0
         ·rw [if_pos c22] at H
          have c22b0 : decide ((rd l1_1 x29_2) < 0) = true := decide_eq_true c22
          clear c22
          obtain rfl := Option.some.inj H
          have p222 : 0 ≤ (x29_2 : Int) := od_
          have q222 : x29_2 < (l1_1.length : Int) := od_
          obtain ⟨ad222, e222, hx222_0⟩ := Kd.at_int HR1_1.out x29_2 p222 q222
          cases e222
          replace hx222_0 := lf_ HB.out hx222_0
          replace p222 := eq_true p222
          replace q222 := eq_true q222
          go_wp2
          go_ret
          exact ⟨er_, bk_ HB.out⟩
         ·rw [if_neg c22] at H
          have c22b0 : decide ((rd l1_1 x29_2) < 0) = false := decide_eq_false c22
          clear c22
          by_cases c23 : (rd l1_1 x29_2) > 1152921504606846976
          ·rw [if_pos c23] at H
           have c23b0 : decide (1152921504606846976 < (rd l1_1 x29_2)) = true := decide_eq_true c23
           clear c23
           obtain rfl := Option.some.inj H
           have p222 : 0 ≤ (x29_2 : Int) := od_
           have q222 : x29_2 < (l1_1.length : Int) := od_
           obtain ⟨ad222, e222, hx222_0⟩ := Kd.at_int HR1_1.out x29_2 p222 q222
           cases e222
           replace hx222_0 := lf_ HB.out hx222_0
           replace p222 := eq_true p222
           replace q222 := eq_true q222
           go_wp2
           go_ret
           exact ⟨er_, bk_ HB.out⟩
          ·rw [if_neg c23] at H
           have c23b0 : decide (1152921504606846976 < (rd l1_1 x29_2)) = false := decide_eq_false c23
           clear c23
           have H' := Aside0.mk H
           clear H
           have p222 : 0 ≤ (x29_2 : Int) := od_
           have q222 : x29_2 < (l1_1.length : Int) := od_
           obtain ⟨ad222, e222, hx222_0⟩ := Kd.at_int HR1_1.out x29_2 p222 q222
           cases e222
           replace hx222_0 := lf_ HB.out hx222_0
           replace p222 := eq_true p222
           replace q222 := eq_true q222
           go_wp2
           go_roundg k2
           case measure => have := HJ2.out; have := HK2.out; omega
           case rel => exact ⟨(wrap64 (x29_2 + 1)), jr_, H', ⟨by have := HJ2.out; have := HK2.out; omega⟩, ⟨pk_ BK220.out⟩, ⟨pk_ BK221.out⟩, ⟨bk_ HB.out⟩⟩
        ·rw [if_neg c21] at H
         exact absurd H (by simp)
       ·rw [if_neg c20] at H
        exact absurd H (by simp)
      ·rw [if_neg c19] at H
       have c19b0 : decide (x29_2 < (l1_1.length : Int)) = false := decide_eq_false c19
       clear c19
       obtain rfl := Option.some.inj H
       go_wp2
       go_ret
       exact ⟨er_, bk_ HB.out⟩

end Go.Proofs.Ytkbekdjoaibhbaa.PPairSteps
