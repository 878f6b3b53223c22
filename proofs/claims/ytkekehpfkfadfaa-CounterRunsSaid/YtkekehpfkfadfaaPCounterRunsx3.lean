-- out of a turned copy of the print, by a program of this session; Lean checks it
import Derived.Test.YtkekehpfkfadfaaPCounterRunsx0
import Derived.Test.YtkekehpfkfadfaaPCounterRunsx2
namespace Go.Proofs.Ytkekehpfkfadfaa.PCounterRuns
open Go.RowKit Go.Proofs.YtkekehpfkfadfaaW.PrintWords Go.Proofs.YtkekehpfkfadfaaW.PrintLast Go.Proofs.YtkekehpfkfadfaaW.PrintMore
attribute [local go_sem] max2_int min2_int max_two min_two max_three min_three max_four min_four   -- for this text's walks alone
set_option linter.unusedVariables false
set_option linter.unusedSimpArgs false

attribute [local go_sem] isSome_put_
/-! ### standstillref06_Fits: function 9 -/
mutual
def standstillref06_Fits.j0 : Nat → Bool → Int → List Int → Option (Bool)
 | 0, _, _, _ => none
 | k + 1, x23, x112000, x112001 => if x23 = true then (some false) else (standstillref06_Fits.l0 k 0 x112000 x112001)
def standstillref06_Fits.l0 : Nat → Int → Int → List Int → Option (Bool)
 | 0, _, _, _ => none
 | k + 1, x5, x112000, x112001 => if x5 < (x112001.length : Int) then (if 0 ≤ x5 then (if (rd x112001 x5) < 0 then (some false) else (if (rd x112001 x5) > 1152921504606846976 then (some false) else (standstillref06_Fits.l0 k (wrap64 (x5 + 1)) x112000 x112001))) else (none)) else (some true)
end
def standstillref06_Fits.f (k : Nat) (a0_0 : Int) (l0_1 : List (S33)) (a1_0 : Int) (l1_1 : List Int) : Option (Bool) := (standstillref06_Valid.f k a0_0 l0_1).bind fun t112 => (if t112 = true then ((standstillref06_index.f a0_0 l0_1 a1_0).bind fun t113 => (if t113 = true then (standstillref06_Fits.j0 k ((l1_1.length : Int) != a0_0) a1_0 l1_1) else (standstillref06_Fits.j0 k true a1_0 l1_1))) else (standstillref06_Fits.j0 k true a1_0 l1_1))
theorem standstillref06_Fits.mono_l : ∀ k, (∀ y0 y1 y2, LeO (standstillref06_Fits.j0 k y0 y1 y2) (standstillref06_Fits.j0 (k + 1) y0 y1 y2)) ∧ (∀ y0 y1 y2, LeO (standstillref06_Fits.l0 k y0 y1 y2) (standstillref06_Fits.l0 (k + 1) y0 y1 y2))
 | 0 => ⟨fun _ _ _ r h => by simp [standstillref06_Fits.j0] at h, fun _ _ _ r h => by simp [standstillref06_Fits.l0] at h⟩
 | k + 1 => by
  obtain ⟨ih0, ih1⟩ := standstillref06_Fits.mono_l k
  refine ⟨?_, ?_⟩
  ·intro y0 y1 y2
   unfold standstillref06_Fits.j0
   repeat' first
   | (with_reducible exact ih0 _ _ _)
   | (with_reducible exact ih1 _ _ _)
   | (with_reducible exact standstillref06_Valid.mono _ _ _)
   | (with_reducible exact LeO.refl _)
   | (with_reducible exact LeO.none _)
   | (with_reducible refine LeO.ite ?_ ?_)
   | (with_reducible refine LeO.bind ?_ (fun _ => ?_))
   | exact ih0 _ _ _
   | exact ih1 _ _ _
   | exact standstillref06_Valid.mono _ _ _
   | exact LeO.none _
   | refine LeO.ite ?_ ?_
   | refine LeO.bind ?_ (fun _ => ?_)
  ·intro y0 y1 y2
   unfold standstillref06_Fits.l0
   repeat' first
   | (with_reducible exact ih0 _ _ _)
   | (with_reducible exact ih1 _ _ _)
   | (with_reducible exact standstillref06_Valid.mono _ _ _)
   | (with_reducible exact LeO.refl _)
   | (with_reducible exact LeO.none _)
   | (with_reducible refine LeO.ite ?_ ?_)
   | (with_reducible refine LeO.bind ?_ (fun _ => ?_))
   | exact ih0 _ _ _
   | exact ih1 _ _ _
   | exact standstillref06_Valid.mono _ _ _
   | exact LeO.none _
   | refine LeO.ite ?_ ?_
   | refine LeO.bind ?_ (fun _ => ?_)
theorem standstillref06_Fits.mono : ∀ a0 a1 a2 a3 k, LeO (standstillref06_Fits.f k a0 a1 a2 a3) (standstillref06_Fits.f (k + 1) a0 a1 a2 a3) := by
 intro a0 a1 a2 a3 k
 obtain ⟨ih0, ih1⟩ := standstillref06_Fits.mono_l k
 unfold standstillref06_Fits.f
 repeat' first
   | (with_reducible exact ih0 _ _ _)
   | (with_reducible exact ih1 _ _ _)
   | (with_reducible exact standstillref06_Valid.mono _ _ _)
   | (with_reducible exact LeO.refl _)
   | (with_reducible exact LeO.none _)
   | (with_reducible refine LeO.ite ?_ ?_)
   | (with_reducible refine LeO.bind ?_ (fun _ => ?_))
   | exact ih0 _ _ _
   | exact ih1 _ _ _
   | exact standstillref06_Valid.mono _ _ _
   | exact LeO.none _
   | refine LeO.ite ?_ ?_
   | refine LeO.bind ?_ (fun _ => ?_)
set_option maxHeartbeats 8000000 in
set_option maxRecDepth 100000 in
theorem standstillref06_Fits.calls (k : Nat) (a0_0 : Int) (A0_1 : Option Addr) (c0_1 : Nat) (l0_1 : List (S33)) (a1_0 : Int) (A1_1 : Option Addr) (c1_1 : Nat) (l1_1 : List Int) (r : Bool) (w : World) (hr0_1 : Kd.C k33 w A0_1 l0_1.length l0_1) (hc0_1 : l0_1.length ≤ c0_1) (hr1_1 : Kd.C (Kd.int .i64) w A1_1 l1_1.length l1_1) (hc1_1 : l1_1.length ≤ c1_1) (h : standstillref06_Fits.f k a0_0 l0_1 a1_0 l1_1 = some r) :
  Calls Try.prog 9 #[.agg #[.int .i64 a0_0, .slice A0_1 l0_1.length c0_1], .agg #[.int .i64 a1_0, .slice A1_1 l1_1.length c1_1]] w fun e w' => e = .returned (.bool r) ∧ Below w.heap.size w w' := by
 have hu24 := Try.underlying24
 have hu27 := Try.underlying27
 have HR0_1 := Aside0.mk hr0_1
 have HC0_1 := Aside0.mk hc0_1
 clear hr0_1 hc0_1
 have HR1_1 := Aside0.mk hr1_1
 have HC1_1 := Aside0.mk hc1_1
 clear hr1_1 hc1_1
 have HB := A_ (Below.refl w.heap.size w)
 have H : ((standstillref06_Valid.f k a0_0 l0_1).bind fun t112 => (if t112 = true then ((standstillref06_index.f a0_0 l0_1 a1_0).bind fun t113 => (if t113 = true then (standstillref06_Fits.j0 k ((l1_1.length : Int) != a0_0) a1_0 l1_1) else (standstillref06_Fits.j0 k true a1_0 l1_1))) else (standstillref06_Fits.j0 k true a1_0 l1_1))) = some r := h
 clear h
 have HC3 := Aside0.mk H
 clear H
 go_enter Try.func9, Try.ntmps9
 go_upto_region 1 with (first | ((with_reducible refine gate_dst (N := 2) rfl ?_); (try (refine gate_guard (by rfl) ?_; dsimp only)); refine box_event ?hg (N := 2) ?hd (cs := #[.int .i64 a0_0, .slice A0_1 l0_1.length c0_1]) (t := 24) ?hr ?_; (case hd => rfl); (case hg => rfl); (case hr => first | (go_simp; done) | (go_simp; rfl)); intro gb110 hg w4 hbox hb; have n0_ := A_ (below_step (bk_ HB.out) hb); have n1_ := A_ (hbox); have n2_ := A_ (bz_ hg (bk_ HB.out)); have n3_ := A_ (bz_ hg (bk_ HB.out)); clear HB; have HB := n0_; have BK110 := n1_; have GW110 := n2_; have GE110 := n3_; clear n0_ n1_ n2_ n3_ hb hbox hg) | ((with_reducible refine gate_dst (N := 3) rfl ?_); (try (refine gate_guard (by rfl) ?_; dsimp only)); refine box_event ?hg (N := 3) ?hd (cs := #[.int .i64 a1_0, .slice A1_1 l1_1.length c1_1]) (t := 27) ?hr ?_; (case hd => rfl); (case hg => rfl); (case hr => first | (go_simp; done) | (go_simp; rfl)); intro gb111 hg w5 hbox hb; have n0_ := A_ (blk_below (pk_ BK110.out) hb); have n1_ := A_ (below_step (bk_ HB.out) hb); have n2_ := A_ (hbox); have n3_ := A_ (bz_ hg (bk_ HB.out)); have n4_ := A_ (bz_ hg (bk_ HB.out)); have n5_ := A_ (nl_ hg (pk_ BK110.out)); have n6_ := A_ (ng_ hg (pk_ BK110.out)); clear BK110 HB; have BK110 := n0_; have HB := n1_; have BK111 := n2_; have GW111 := n3_; have GE111 := n4_; have NB110_111 := n5_; have NB111_110 := n6_; clear n0_ n1_ n2_ n3_ n4_ n5_ n6_ hb hbox hg))
 (try simp only [Act.put, List.setIfInBounds_toArray, List.set_cons_zero, List.set_cons_succ])
 go_cut [23] (fun v23 wc => ∃ (kq : Nat) (x23_2 : Bool), v23 = .bool x23_2 ∧ Aside0 (standstillref06_Fits.j0 kq x23_2 a1_0 l1_1 = some r) ∧ Aside0 (kq ≤ k) ∧ Aside0 (wc.heap[gb110]? = some (.cells #[.int .i64 a0_0, (.slice A0_1 l0_1.length c0_1)] 24 (0, 0))) ∧ Aside0 (wc.heap[gb111]? = some (.cells #[.int .i64 a1_0, (.slice A1_1 l1_1.length c1_1)] 27 (0, 0))) ∧ Aside0 (Below w.heap.size w wc))
 case first =>
  have H := HC3.out
  clear HC3
  replace H := Option.bind_eq_some_iff.mp H
  obtain ⟨t112, A60, H⟩ := H
  replace H : (if t112 = true then ((standstillref06_index.f a0_0 l0_1 a1_0).bind fun t113 => (if t113 = true then (standstillref06_Fits.j0 k ((l1_1.length : Int) != a0_0) a1_0 l1_1) else (standstillref06_Fits.j0 k true a1_0 l1_1))) else (standstillref06_Fits.j0 k true a1_0 l1_1)) = some r := H
  have A6 := Aside0.mk A60
  clear A60
  by_cases c7 : t112 = true
  ·subst c7
   have H1 : ((standstillref06_index.f a0_0 l0_1 a1_0).bind fun t113 => (if t113 = true then (standstillref06_Fits.j0 k ((l1_1.length : Int) != a0_0) a1_0 l1_1) else (standstillref06_Fits.j0 k true a1_0 l1_1))) = some r := by rw [if_pos rfl] at H; exact H
   clear H
   have H := H1
   clear H1
   replace H := Option.bind_eq_some_iff.mp H
   obtain ⟨t113, A80, H⟩ := H
   replace H : (if t113 = true then (standstillref06_Fits.j0 k ((l1_1.length : Int) != a0_0) a1_0 l1_1) else (standstillref06_Fits.j0 k true a1_0 l1_1)) = some r := H
   have A8 := Aside0.mk A80
   clear A80
   by_cases c9 : t113 = true
   ·subst c9
    have H1 : (standstillref06_Fits.j0 k ((l1_1.length : Int) != a0_0) a1_0 l1_1) = some r := by rw [if_pos rfl] at H; exact H
    clear H
    have H := H1
    clear H1
    have H' := Aside0.mk H
    clear H
    have hnb10 := NB110_111.out
    have hnc10 := NB111_110.out
    obtain ⟨hcz11_0, hcz11_1⟩ := bc2_ BK110.out
    have hfz11_0 := blk_frozen BK110.out 0
    have hfz11_1 := blk_frozen BK110.out 1
    go_wp2_with (first | ((with_reducible refine gate_callee (f := 13) rfl ?_); refine goesL_ (some 7) rfl rfl Try.func13 (by kernel_rfl) rfl #[.agg #[.int .i64 a0_0, .slice A0_1 l0_1.length c0_1]] rfl gl_ ?_; (with_reducible refine (standstillref06_Valid.calls k a0_0 _ _ l0_1 true _ ?side1 ?side2 A6.out).mono ?_); (case side1 => exact ck_ (Kd.C_below HR0_1.out HB.out)); (case side2 => exact HC0_1.out); rintro e w12 ⟨rfl, hb⟩; refine ⟨_, rfl, ?_⟩; have n0_ := A_ (blk_below (pk_ BK110.out) hb); have n1_ := A_ (blk_below (pk_ BK111.out) hb); have n2_ := A_ (below_step (bk_ HB.out) hb); clear BK110 BK111 HB; have BK110 := n0_; have BK111 := n1_; have HB := n2_; clear n0_ n1_ n2_; (try clear hb); (try clear hb2); (try clear hk); (try clear hi); obtain ⟨hcz13_0, hcz13_1⟩ := bc2_ BK110.out; have hfz13_0 := blk_frozen BK110.out 0; have hfz13_1 := blk_frozen BK110.out 1; obtain ⟨hcz14_0, hcz14_1⟩ := bc2_ BK111.out; have hfz14_0 := blk_frozen BK111.out 0; have hfz14_1 := blk_frozen BK111.out 1) | (go_at_call 25; (with_reducible refine (standstillref06_index.calls a0_0 _ _ l0_1 a1_0 true _ ?side1 ?side2 A8.out).mono ?_); (case side1 => exact ck_ (Kd.C_below HR0_1.out HB.out)); (case side2 => exact HC0_1.out); rintro e w15 ⟨rfl, hb⟩; have n0_ := A_ (blk_below (pk_ BK110.out) hb); have n1_ := A_ (blk_below (pk_ BK111.out) hb); have n2_ := A_ (below_step (bk_ HB.out) hb); clear BK110 BK111 HB; have BK110 := n0_; have BK111 := n1_; have HB := n2_; clear n0_ n1_ n2_; (try clear hb); (try clear hb2); (try clear hk); (try clear hi); obtain ⟨hcz16_0, hcz16_1⟩ := bc2_ BK111.out; have hfz16_0 := blk_frozen BK111.out 0; have hfz16_1 := blk_frozen BK111.out 1; obtain ⟨hcz17_0, hcz17_1⟩ := bc2_ BK110.out; have hfz17_0 := blk_frozen BK110.out 0; have hfz17_1 := blk_frozen BK110.out 1))
    go_meet
    case rel => exact ⟨_, (((l1_1.length : Int) != a0_0)), jr_, H', ⟨by first | omega | exact Nat.le_refl _⟩, ⟨pk_ BK110.out⟩, ⟨pk_ BK111.out⟩, ⟨bk_ HB.out⟩⟩
   ·replace c9 := Bool.eq_false_iff.mpr c9
    subst c9
    have H1 : (standstillref06_Fits.j0 k true a1_0 l1_1) = some r := by rw [if_neg (show ¬ (false = true) by decide)] at H; exact H
    clear H
    have H := H1
    clear H1
    have H' := Aside0.mk H
    clear H
    have hnb18 := NB110_111.out
    have hnc18 := NB111_110.out
    obtain ⟨hcz19_0, hcz19_1⟩ := bc2_ BK110.out
    have hfz19_0 := blk_frozen BK110.out 0
    have hfz19_1 := blk_frozen BK110.out 1
    go_wp2_with (first | ((with_reducible refine gate_callee (f := 13) rfl ?_); refine goesL_ (some 7) rfl rfl Try.func13 (by kernel_rfl) rfl #[.agg #[.int .i64 a0_0, .slice A0_1 l0_1.length c0_1]] rfl gl_ ?_; (with_reducible refine (standstillref06_Valid.calls k a0_0 _ _ l0_1 true _ ?side1 ?side2 A6.out).mono ?_); (case side1 => exact ck_ (Kd.C_below HR0_1.out HB.out)); (case side2 => exact HC0_1.out); rintro e w20 ⟨rfl, hb⟩; refine ⟨_, rfl, ?_⟩; have n0_ := A_ (blk_below (pk_ BK110.out) hb); have n1_ := A_ (blk_below (pk_ BK111.out) hb); have n2_ := A_ (below_step (bk_ HB.out) hb); clear BK110 BK111 HB; have BK110 := n0_; have BK111 := n1_; have HB := n2_; clear n0_ n1_ n2_; (try clear hb); (try clear hb2); (try clear hk); (try clear hi); obtain ⟨hcz21_0, hcz21_1⟩ := bc2_ BK110.out; have hfz21_0 := blk_frozen BK110.out 0; have hfz21_1 := blk_frozen BK110.out 1; obtain ⟨hcz22_0, hcz22_1⟩ := bc2_ BK111.out; have hfz22_0 := blk_frozen BK111.out 0; have hfz22_1 := blk_frozen BK111.out 1) | (go_at_call 25; (with_reducible refine (standstillref06_index.calls a0_0 _ _ l0_1 a1_0 false _ ?side1 ?side2 A8.out).mono ?_); (case side1 => exact ck_ (Kd.C_below HR0_1.out HB.out)); (case side2 => exact HC0_1.out); rintro e w23 ⟨rfl, hb⟩; have n0_ := A_ (blk_below (pk_ BK110.out) hb); have n1_ := A_ (blk_below (pk_ BK111.out) hb); have n2_ := A_ (below_step (bk_ HB.out) hb); clear BK110 BK111 HB; have BK110 := n0_; have BK111 := n1_; have HB := n2_; clear n0_ n1_ n2_; (try clear hb); (try clear hb2); (try clear hk); (try clear hi)))
    go_meet
    case rel => exact ⟨_, (true), jr_, H', ⟨by first | omega | exact Nat.le_refl _⟩, ⟨pk_ BK110.out⟩, ⟨pk_ BK111.out⟩, ⟨bk_ HB.out⟩⟩
  ·replace c7 := Bool.eq_false_iff.mpr c7
   subst c7
   have H1 : (standstillref06_Fits.j0 k true a1_0 l1_1) = some r := by rw [if_neg (show ¬ (false = true) by decide)] at H; exact H
   clear H
   have H := H1
   clear H1
   have H' := Aside0.mk H
   clear H
   have hnb24 := NB110_111.out
   have hnc24 := NB111_110.out
   obtain ⟨hcz25_0, hcz25_1⟩ := bc2_ BK110.out
   have hfz25_0 := blk_frozen BK110.out 0
   have hfz25_1 := blk_frozen BK110.out 1
   go_wp2_with (first | ((with_reducible refine gate_callee (f := 13) rfl ?_); refine goesL_ (some 7) rfl rfl Try.func13 (by kernel_rfl) rfl #[.agg #[.int .i64 a0_0, .slice A0_1 l0_1.length c0_1]] rfl gl_ ?_; (with_reducible refine (standstillref06_Valid.calls k a0_0 _ _ l0_1 false _ ?side1 ?side2 A6.out).mono ?_); (case side1 => exact ck_ (Kd.C_below HR0_1.out HB.out)); (case side2 => exact HC0_1.out); rintro e w26 ⟨rfl, hb⟩; refine ⟨_, rfl, ?_⟩; have n0_ := A_ (blk_below (pk_ BK110.out) hb); have n1_ := A_ (blk_below (pk_ BK111.out) hb); have n2_ := A_ (below_step (bk_ HB.out) hb); clear BK110 BK111 HB; have BK110 := n0_; have BK111 := n1_; have HB := n2_; clear n0_ n1_ n2_; (try clear hb); (try clear hb2); (try clear hk); (try clear hi)))
   go_meet
   case rel => exact ⟨_, (true), jr_, H', ⟨by first | omega | exact Nat.le_refl _⟩, ⟨pk_ BK110.out⟩, ⟨pk_ BK111.out⟩, ⟨bk_ HB.out⟩⟩
 case rest =>
  clear HC3
  obtain ⟨kq, x23_2, rfl, HA, HJ2, BK110, BK111, HB⟩ := hcut
  cases kq with
  | zero => exact absurd HA.out (by simp [standstillref06_Fits.j0])
  | succ kj2 =>
   have H := HA.out
   clear HA
   simp only [standstillref06_Fits.j0] at H
   by_cases c27 : x23_2 = true
   ·subst c27
    have H1 : (some false) = some r := by rw [if_pos rfl] at H; exact H
    clear H
    have H := H1
    clear H1
    obtain rfl := Option.some.inj H
    go_wp2
    go_ret
    exact ⟨er_, bk_ HB.out⟩
   ·replace c27 := Bool.eq_false_iff.mpr c27
    subst c27
    have H1 : (standstillref06_Fits.l0 kj2 0 a1_0 l1_1) = some r := by rw [if_neg (show ¬ (false = true) by decide)] at H; exact H
    clear H
    have H := H1
    clear H1
    have H' := Aside0.mk H
    clear H
    go_wp2
    go_loopg [5] kj2 (fun kq v5 w' => ∃ (x5_2 : Int), v5 = .int .i64 x5_2 ∧ Aside0 (standstillref06_Fits.l0 kq x5_2 a1_0 l1_1 = some r) ∧ Aside0 (kq ≤ kj2) ∧ Aside0 (w'.heap[gb110]? = some (.cells #[.int .i64 a0_0, (.slice A0_1 l0_1.length c0_1)] 24 (0, 0))) ∧ Aside0 (w'.heap[gb111]? = some (.cells #[.int .i64 a1_0, (.slice A1_1 l1_1.length c1_1)] 27 (0, 0))) ∧ Aside0 (Below w.heap.size w w'))
    case atStart => exact ⟨(0), jr_, H', ⟨Nat.le_refl _⟩, ⟨pk_ BK110.out⟩, ⟨pk_ BK111.out⟩, ⟨bk_ HB.out⟩⟩
    case round =>
     clear H'
     (try clear c27)
     obtain ⟨x5_2, rfl, HA, HK2, BK110, BK111, HB⟩ := hrel
     cases gk with
     | zero => exact absurd HA.out (by simp [standstillref06_Fits.l0])
     | succ k2 =>
      have H := HA.out
      clear HA
      simp only [standstillref06_Fits.l0] at H
      by_cases c28 : x5_2 < (l1_1.length : Int)
      ·rw [if_pos c28] at H
       have c28b0 : decide (x5_2 < (l1_1.length : Int)) = true := decide_eq_true c28
       clear c28
       by_cases c29 : 0 ≤ x5_2
       ·rw [if_pos c29] at H
        have c29b0 : decide (0 ≤ x5_2) = true := decide_eq_true c29
        clear c29
        by_cases c30 : (rd l1_1 x5_2) < 0
        ·rw [if_pos c30] at H
         have c30b0 : decide ((rd l1_1 x5_2) < 0) = true := decide_eq_true c30
         clear c30
         obtain rfl := Option.some.inj H
         have hnb31 := NB111_110.out
         have hnc31 := NB110_111.out
         obtain ⟨hcz32_0, hcz32_1⟩ := bc2_ BK111.out
         have hfz32_0 := blk_frozen BK111.out 0
         have hfz32_1 := blk_frozen BK111.out 1
         have p114 : 0 ≤ (x5_2 : Int) := od_
         have q114 : x5_2 < (l1_1.length : Int) := od_
         obtain ⟨ad114, e114, hx114_0⟩ := Kd.at_int HR1_1.out x5_2 p114 q114
         cases e114
         replace hx114_0 := lf_ HB.out hx114_0
         replace p114 := eq_true p114
         replace q114 := eq_true q114
         go_wp2
         go_ret
         exact ⟨er_, bk_ HB.out⟩
        ·rw [if_neg c30] at H
         have c30b0 : decide ((rd l1_1 x5_2) < 0) = false := decide_eq_false c30
         clear c30
         by_cases c33 : (rd l1_1 x5_2) > 1152921504606846976
         ·rw [if_pos c33] at H
          have c33b0 : decide (1152921504606846976 < (rd l1_1 x5_2)) = true := decide_eq_true c33
          clear c33
          obtain rfl := Option.some.inj H
          have hnb34 := NB111_110.out
          have hnc34 := NB110_111.out
          obtain ⟨hcz35_0, hcz35_1⟩ := bc2_ BK111.out
          have hfz35_0 := blk_frozen BK111.out 0
          have hfz35_1 := blk_frozen BK111.out 1
          have p114 : 0 ≤ (x5_2 : Int) := od_
          have q114 : x5_2 < (l1_1.length : Int) := od_
          obtain ⟨ad114, e114, hx114_0⟩ := Kd.at_int HR1_1.out x5_2 p114 q114
          cases e114
          replace hx114_0 := lf_ HB.out hx114_0
          replace p114 := eq_true p114
          replace q114 := eq_true q114
          have p115 : 0 ≤ (x5_2 : Int) := od_
          have q115 : x5_2 < (l1_1.length : Int) := od_
          obtain ⟨ad115, e115, hx115_0⟩ := Kd.at_int HR1_1.out x5_2 p115 q115
          obtain rfl : ad114 = ad115 := (by injection e115)
          replace hx115_0 := lf_ HB.out hx115_0
          replace p115 := eq_true p115
          replace q115 := eq_true q115
          go_wp2
          go_ret
          exact ⟨er_, bk_ HB.out⟩
         ·rw [if_neg c33] at H
          have c33b0 : decide (1152921504606846976 < (rd l1_1 x5_2)) = false := decide_eq_false c33
          clear c33
          have H' := Aside0.mk H
          clear H
          have hnb36 := NB111_110.out
          have hnc36 := NB110_111.out
          obtain ⟨hcz37_0, hcz37_1⟩ := bc2_ BK111.out
          have hfz37_0 := blk_frozen BK111.out 0
          have hfz37_1 := blk_frozen BK111.out 1
          have p114 : 0 ≤ (x5_2 : Int) := od_
          have q114 : x5_2 < (l1_1.length : Int) := od_
          obtain ⟨ad114, e114, hx114_0⟩ := Kd.at_int HR1_1.out x5_2 p114 q114
          cases e114
          replace hx114_0 := lf_ HB.out hx114_0
          replace p114 := eq_true p114
          replace q114 := eq_true q114
          have p115 : 0 ≤ (x5_2 : Int) := od_
          have q115 : x5_2 < (l1_1.length : Int) := od_
          obtain ⟨ad115, e115, hx115_0⟩ := Kd.at_int HR1_1.out x5_2 p115 q115
          obtain rfl : ad114 = ad115 := (by injection e115)
          replace hx115_0 := lf_ HB.out hx115_0
          replace p115 := eq_true p115
          replace q115 := eq_true q115
          go_wp2
          go_roundg k2
          case measure => have := HJ2.out; have := HK2.out; omega
          case rel => exact ⟨(wrap64 (x5_2 + 1)), jr_, H', ⟨by have := HJ2.out; have := HK2.out; omega⟩, ⟨pk_ BK110.out⟩, ⟨pk_ BK111.out⟩, ⟨bk_ HB.out⟩⟩
       ·rw [if_neg c29] at H
        exact absurd H (by simp)
      ·rw [if_neg c28] at H
       have c28b0 : decide (x5_2 < (l1_1.length : Int)) = false := decide_eq_false c28
       clear c28
       obtain rfl := Option.some.inj H
       obtain ⟨hcz39_0, hcz39_1⟩ := bc2_ BK111.out
       have hfz39_0 := blk_frozen BK111.out 0
       have hfz39_1 := blk_frozen BK111.out 1
       go_wp2
       go_ret
       exact ⟨er_, bk_ HB.out⟩

end Go.Proofs.Ytkekehpfkfadfaa.PCounterRuns
