-- out of a turned copy of the print, by a program of this session; Lean checks it
import Derived.Test.YtkbekdjoaibhbaaPPairRunsx0
import Derived.Test.YtkbekdjoaibhbaaPPairRunsx1
import Derived.Test.YtkbekdjoaibhbaaPPairRunsx5
namespace Go.Proofs.Ytkbekdjoaibhbaa.PPairRuns
open Go.RowKit Go.Proofs.YtkbekdjoaibhbaaW.PrintWords Go.Proofs.YtkbekdjoaibhbaaW.PrintLast Go.Proofs.YtkbekdjoaibhbaaW.PrintMore
attribute [local go_sem] max2_int min2_int max_two min_two max_three min_three max_four min_four   -- for this text's walks alone
set_option linter.unusedVariables false
set_option linter.unusedSimpArgs false

attribute [local go_sem] isSome_put_
attribute [local go_sem high] eqA45
/-! ### standstillref06_Valid: function 15 -/
mutual
def standstillref06_Valid.j0 : Nat → Bool → Int → List (S45) → Option (Bool)
 | 0, _, _, _ => none
 | k + 1, x24, x132000, x132001 => if x24 = true then (some false) else (standstillref06_Valid.l0 k 0 x132000 x132001)
def standstillref06_Valid.l0 : Nat → Int → Int → List (S45) → Option (Bool)
 | 0, _, _, _ => none
 | k + 1, x3, x132000, x132001 => if x3 < (x132001.length : Int) then (if 0 ≤ x3 then (if ((rd_T45 x132001 x3).f0) = 0 then (if ((rd_T45 x132001 x3).f1) < 0 then (some false) else (if ((rd_T45 x132001 x3).f1) ≥ x132000 then (some false) else ((standstillref06_index.f x132000 x132001 ((rd_T45 x132001 x3).f2)).bind fun t134 => (if t134 = true then (if ((rd_T45 x132001 x3).f3) = 0 then (standstillref06_Valid.l0 k (wrap64 (x3 + 1)) x132000 x132001) else (some false)) else (some false))))) else (if ((rd_T45 x132001 x3).f0) = 1 then (if ((rd_T45 x132001 x3).f1) < 0 then (some false) else (if ((rd_T45 x132001 x3).f1) ≥ x132000 then (some false) else ((standstillref06_index.f x132000 x132001 ((rd_T45 x132001 x3).f2)).bind fun t135 => (if t135 = true then ((standstillref06_index.f x132000 x132001 ((rd_T45 x132001 x3).f3)).bind fun t136 => (if t136 = true then (standstillref06_Valid.l0 k (wrap64 (x3 + 1)) x132000 x132001) else (some false))) else (some false))))) else (if ((rd_T45 x132001 x3).f0) = 2 then (if (!(((rd_T45 x132001 x3).f0) == 2) || (!(((rd_T45 x132001 x3).f1) == 0) || (!(((rd_T45 x132001 x3).f2) == 0) || (!(((rd_T45 x132001 x3).f3) == 0))))) = true then (some false) else (standstillref06_Valid.l0 k (wrap64 (x3 + 1)) x132000 x132001)) else (some false)))) else (none)) else (some true)
end
def standstillref06_Valid.f (k : Nat) (a0_0 : Int) (l0_1 : List (S45)) : Option (Bool) := if a0_0 < 1 then (standstillref06_Valid.j0 k true a0_0 l0_1) else (if a0_0 > 16 then (standstillref06_Valid.j0 k true a0_0 l0_1) else (if (l0_1.length : Int) < 1 then (standstillref06_Valid.j0 k true a0_0 l0_1) else (standstillref06_Valid.j0 k (decide ((l0_1.length : Int) > 2000)) a0_0 l0_1)))
theorem standstillref06_Valid.mono_l : ∀ k, (∀ y0 y1 y2, LeO (standstillref06_Valid.j0 k y0 y1 y2) (standstillref06_Valid.j0 (k + 1) y0 y1 y2)) ∧ (∀ y0 y1 y2, LeO (standstillref06_Valid.l0 k y0 y1 y2) (standstillref06_Valid.l0 (k + 1) y0 y1 y2))
 | 0 => ⟨fun _ _ _ r h => by simp [standstillref06_Valid.j0] at h, fun _ _ _ r h => by simp [standstillref06_Valid.l0] at h⟩
 | k + 1 => by
  obtain ⟨ih0, ih1⟩ := standstillref06_Valid.mono_l k
  refine ⟨?_, ?_⟩
  ·intro y0 y1 y2
   unfold standstillref06_Valid.j0
   repeat' first
   | (with_reducible exact ih0 _ _ _)
   | (with_reducible exact ih1 _ _ _)
   | (with_reducible exact LeO.refl _)
   | (with_reducible exact LeO.none _)
   | (with_reducible refine LeO.ite ?_ ?_)
   | (with_reducible refine LeO.bind ?_ (fun _ => ?_))
   | exact ih0 _ _ _
   | exact ih1 _ _ _
   | exact LeO.none _
   | refine LeO.ite ?_ ?_
   | refine LeO.bind ?_ (fun _ => ?_)
  ·intro y0 y1 y2
   unfold standstillref06_Valid.l0
   repeat' first
   | (with_reducible exact ih0 _ _ _)
   | (with_reducible exact ih1 _ _ _)
   | (with_reducible exact LeO.refl _)
   | (with_reducible exact LeO.none _)
   | (with_reducible refine LeO.ite ?_ ?_)
   | (with_reducible refine LeO.bind ?_ (fun _ => ?_))
   | exact ih0 _ _ _
   | exact ih1 _ _ _
   | exact LeO.none _
   | refine LeO.ite ?_ ?_
   | refine LeO.bind ?_ (fun _ => ?_)
theorem standstillref06_Valid.mono : ∀ a0 a1 k, LeO (standstillref06_Valid.f k a0 a1) (standstillref06_Valid.f (k + 1) a0 a1) := by
 intro a0 a1 k
 obtain ⟨ih0, ih1⟩ := standstillref06_Valid.mono_l k
 unfold standstillref06_Valid.f
 repeat' first
   | (with_reducible exact ih0 _ _ _)
   | (with_reducible exact ih1 _ _ _)
   | (with_reducible exact LeO.refl _)
   | (with_reducible exact LeO.none _)
   | (with_reducible refine LeO.ite ?_ ?_)
   | (with_reducible refine LeO.bind ?_ (fun _ => ?_))
   | exact ih0 _ _ _
   | exact ih1 _ _ _
   | exact LeO.none _
   | refine LeO.ite ?_ ?_
   | refine LeO.bind ?_ (fun _ => ?_)
set_option maxHeartbeats 8000000 in
set_option maxRecDepth 100000 in
theorem standstillref06_Valid.calls (k : Nat) (a0_0 : Int) (A0_1 : Option Addr) (c0_1 : Nat) (l0_1 : List (S45)) (r : Bool) (w : World) (hr0_1 : Kd.C k45 w A0_1 l0_1.length l0_1) (hc0_1 : l0_1.length ≤ c0_1) (h : standstillref06_Valid.f k a0_0 l0_1 = some r) :
  Calls Try.prog 15 #[.agg #[.int .i64 a0_0, .slice A0_1 l0_1.length c0_1]] w fun e w' => e = .returned (.bool r) ∧ Below w.heap.size w w' := by
 have hu38 := Try.underlying38
 have hu45 := Try.underlying45
 have HR0_1 := Aside0.mk hr0_1
 have HC0_1 := Aside0.mk hc0_1
 clear hr0_1 hc0_1
 have HB := A_ (Below.refl w.heap.size w)
 have H : (if a0_0 < 1 then (standstillref06_Valid.j0 k true a0_0 l0_1) else (if a0_0 > 16 then (standstillref06_Valid.j0 k true a0_0 l0_1) else (if (l0_1.length : Int) < 1 then (standstillref06_Valid.j0 k true a0_0 l0_1) else (standstillref06_Valid.j0 k (decide ((l0_1.length : Int) > 2000)) a0_0 l0_1)))) = some r := h
 clear h
 have HC2 := Aside0.mk H
 clear H
 go_enter Try.func15, Try.ntmps15
 go_upto_region 1 with (first | ((with_reducible refine gate_dst (N := 1) rfl ?_); (try (refine gate_guard (by rfl) ?_; dsimp only)); refine box_event ?hg (N := 1) ?hd (cs := #[.int .i64 a0_0, .slice A0_1 l0_1.length c0_1]) (t := 38) ?hr ?_; (case hd => rfl); (case hg => rfl); (case hr => first | (go_simp; done) | (go_simp; rfl)); intro gb131 hg w3 hbox hb; have n0_ := A_ (below_step (bk_ HB.out) hb); have n1_ := A_ (hbox); have n2_ := A_ (bz_ hg (bk_ HB.out)); have n3_ := A_ (bz_ hg (bk_ HB.out)); clear HB; have HB := n0_; have BK131 := n1_; have GW131 := n2_; have GE131 := n3_; clear n0_ n1_ n2_ n3_ hb hbox hg))
 (try simp only [Act.put, List.setIfInBounds_toArray, List.set_cons_zero, List.set_cons_succ])
 go_cut [24] (fun v24 wc => ∃ (kq : Nat) (x24_1 : Bool), v24 = .bool x24_1 ∧ Aside0 (standstillref06_Valid.j0 kq x24_1 a0_0 l0_1 = some r) ∧ Aside0 (kq ≤ k) ∧ Aside0 (wc.heap[gb131]? = some (.cells #[.int .i64 a0_0, (.slice A0_1 l0_1.length c0_1)] 38 (0, 0))) ∧ Aside0 (Below w.heap.size w wc))
 case first =>
  have H := HC2.out
  clear HC2
  by_cases c4 : a0_0 < 1
  ·rw [if_pos c4] at H
   have c4b0 : decide (a0_0 < 1) = true := decide_eq_true c4
   clear c4
   (first | rw [c4b0] | (simp only [i64_w, i32_w]; rw [c4b0]) | skip)
   have H' := Aside0.mk H
   clear H
   obtain ⟨hcz5_0, hcz5_1⟩ := bc2_ BK131.out
   have hfz5_0 := blk_frozen BK131.out 0
   have hfz5_1 := blk_frozen BK131.out 1
   go_wp2
   go_meet
   case rel => exact ⟨_, (true), jr_, H', ⟨by first | omega | exact Nat.le_refl _⟩, ⟨pk_ BK131.out⟩, ⟨bk_ HB.out⟩⟩
  ·rw [if_neg c4] at H
   have c4b0 : decide (a0_0 < 1) = false := decide_eq_false c4
   clear c4
   (first | rw [c4b0] | (simp only [i64_w, i32_w]; rw [c4b0]) | skip)
   by_cases c6 : a0_0 > 16
   ·rw [if_pos c6] at H
    have c6b0 : decide (16 < a0_0) = true := decide_eq_true c6
    clear c6
    have H' := Aside0.mk H
    clear H
    obtain ⟨hcz7_0, hcz7_1⟩ := bc2_ BK131.out
    have hfz7_0 := blk_frozen BK131.out 0
    have hfz7_1 := blk_frozen BK131.out 1
    go_wp2
    go_meet
    case rel => exact ⟨_, (true), jr_, H', ⟨by first | omega | exact Nat.le_refl _⟩, ⟨pk_ BK131.out⟩, ⟨bk_ HB.out⟩⟩
   ·rw [if_neg c6] at H
    have c6b0 : decide (16 < a0_0) = false := decide_eq_false c6
    clear c6
    by_cases c8 : (l0_1.length : Int) < 1
    ·rw [if_pos c8] at H
     have c8b0 : decide ((l0_1.length : Int) < 1) = true := decide_eq_true c8
     have c8b1 : decide (l0_1.length < 1) = true := decide_eq_true (by omega)
     clear c8
     have H' := Aside0.mk H
     clear H
     obtain ⟨hcz9_0, hcz9_1⟩ := bc2_ BK131.out
     have hfz9_0 := blk_frozen BK131.out 0
     have hfz9_1 := blk_frozen BK131.out 1
     go_wp2
     go_meet
     case rel => exact ⟨_, (true), jr_, H', ⟨by first | omega | exact Nat.le_refl _⟩, ⟨pk_ BK131.out⟩, ⟨bk_ HB.out⟩⟩
    ·rw [if_neg c8] at H
     have c8b0 : decide ((l0_1.length : Int) < 1) = false := decide_eq_false c8
     have c8b1 : decide (l0_1.length < 1) = false := decide_eq_false (by omega)
     clear c8
     have H' := Aside0.mk H
     clear H
     obtain ⟨hcz10_0, hcz10_1⟩ := bc2_ BK131.out
     have hfz10_0 := blk_frozen BK131.out 0
     have hfz10_1 := blk_frozen BK131.out 1
     go_wp2
     go_meet
     case rel => exact ⟨_, (decide ((l0_1.length : Int) > 2000)), jr_, H', ⟨by first | omega | exact Nat.le_refl _⟩, ⟨pk_ BK131.out⟩, ⟨bk_ HB.out⟩⟩
 case rest =>
  clear HC2
  obtain ⟨kq, x24_1, rfl, HA, HJ1, BK131, HB⟩ := hcut
  cases kq with
  | zero => exact absurd HA.out (by simp [standstillref06_Valid.j0])
  | succ kj1 =>
   have H := HA.out
   clear HA
   simp only [standstillref06_Valid.j0] at H
   by_cases c11 : x24_1 = true
   ·subst c11
    have H1 : (some false) = some r := by rw [if_pos rfl] at H; exact H
    clear H
    have H := H1
    clear H1
    obtain rfl := Option.some.inj H
    go_wp2
    go_ret
    exact ⟨er_, bk_ HB.out⟩
   ·replace c11 := Bool.eq_false_iff.mpr c11
    subst c11
    have H1 : (standstillref06_Valid.l0 kj1 0 a0_0 l0_1) = some r := by rw [if_neg (show ¬ (false = true) by decide)] at H; exact H
    clear H
    have H := H1
    clear H1
    have H' := Aside0.mk H
    clear H
    go_wp2
    go_loopg [3] kj1 (fun kq v3 w' => ∃ (x3_2 : Int), v3 = .int .i64 x3_2 ∧ Aside0 (standstillref06_Valid.l0 kq x3_2 a0_0 l0_1 = some r) ∧ Aside0 (kq ≤ kj1) ∧ Aside0 (w'.heap[gb131]? = some (.cells #[.int .i64 a0_0, (.slice A0_1 l0_1.length c0_1)] 38 (0, 0))) ∧ Aside0 (Below w.heap.size w w'))
    case atStart => exact ⟨(0), jr_, H', ⟨Nat.le_refl _⟩, ⟨pk_ BK131.out⟩, ⟨bk_ HB.out⟩⟩
    case round =>
     clear H'
     (try clear c11)
     obtain ⟨x3_2, rfl, HA, HK2, BK131, HB⟩ := hrel
     cases gk with
     | zero => exact absurd HA.out (by simp [standstillref06_Valid.l0])
     | succ k2 =>
      have H := HA.out
      clear HA
      simp only [standstillref06_Valid.l0] at H
      by_cases c12 : x3_2 < (l0_1.length : Int)
      ·rw [if_pos c12] at H
       have c12b0 : decide (x3_2 < (l0_1.length : Int)) = true := decide_eq_true c12
       clear c12
       by_cases c13 : 0 ≤ x3_2
       ·rw [if_pos c13] at H
        have c13b0 : decide (0 ≤ x3_2) = true := decide_eq_true c13
        clear c13
        by_cases c14 : ((rd_T45 l0_1 x3_2).f0) = 0
        ·rw [if_pos c14] at H
         have c14b0 : (((rd_T45 l0_1 x3_2).f0) == 0) = true := beq_iff_eq.mpr c14
         have c14b1 : (((rd_T45 l0_1 x3_2).f0) != 0) = false := bne_eq_false_iff_eq.mpr c14
         clear c14
         by_cases c15 : ((rd_T45 l0_1 x3_2).f1) < 0
         ·rw [if_pos c15] at H
          have c15b0 : decide (((rd_T45 l0_1 x3_2).f1) < 0) = true := decide_eq_true c15
          clear c15
          obtain rfl := Option.some.inj H
          obtain ⟨hcz16_0, hcz16_1⟩ := bc2_ BK131.out
          have hfz16_0 := blk_frozen BK131.out 0
          have hfz16_1 := blk_frozen BK131.out 1
          have p132 : 0 ≤ (x3_2 : Int) := od_
          have q132 : x3_2 < (l0_1.length : Int) := od_
          obtain ⟨ad132, e132, hx132_0, hx132_1, hx132_2, hx132_3⟩ := at_T45 HR0_1.out x3_2 p132 q132
          cases e132
          replace hx132_0 := lf_ HB.out hx132_0
          replace hx132_1 := lf_ HB.out hx132_1
          replace hx132_2 := lf_ HB.out hx132_2
          replace hx132_3 := lf_ HB.out hx132_3
          replace p132 := eq_true p132
          replace q132 := eq_true q132
          go_wp2_with (first | ((with_reducible refine gate_dst (N := 4) rfl ?_); (try (refine gate_guard (by rfl) ?_; dsimp only)); refine box_event ?hg (N := 4) ?hd (cs := #[.int .i64 0, .int .i64 0, .int .i64 0, .int .i64 0]) (t := 45) ?hr ?_; (case hd => rfl); (case hg => rfl); (case hr => first | (go_simp; done) | (go_simp; rfl)); intro gb133 hg w17 hbox hb; have n0_ := A_ (blk_below (pk_ BK131.out) hb); have n1_ := A_ (below_step (bk_ HB.out) hb); have n2_ := A_ (hbox); have n3_ := A_ (bz_ hg (bk_ HB.out)); have n4_ := A_ (bz_ hg (bk_ HB.out)); have n5_ := A_ (nl_ hg (pk_ BK131.out)); have n6_ := A_ (ng_ hg (pk_ BK131.out)); clear BK131 HB; have BK131 := n0_; have HB := n1_; have BK133 := n2_; have GW133 := n3_; have GE133 := n4_; have NB131_133 := n5_; have NB133_131 := n6_; clear n0_ n1_ n2_ n3_ n4_ n5_ n6_ hb hbox hg; have hnb18 := NB133_131.out; have hnc18 := NB131_133.out; obtain ⟨hcz19_0, hcz19_1, hcz19_2, hcz19_3⟩ := bc4_ BK133.out; have hfz19_0 := blk_frozen BK133.out 0; have hfz19_1 := blk_frozen BK133.out 1; have hfz19_2 := blk_frozen BK133.out 2; have hfz19_3 := blk_frozen BK133.out 3))
          go_ret
          exact ⟨er_, bk_ HB.out⟩
         ·rw [if_neg c15] at H
          have c15b0 : decide (((rd_T45 l0_1 x3_2).f1) < 0) = false := decide_eq_false c15
          clear c15
          by_cases c20 : ((rd_T45 l0_1 x3_2).f1) ≥ a0_0
          ·rw [if_pos c20] at H
           have c20b0 : decide (a0_0 ≤ ((rd_T45 l0_1 x3_2).f1)) = true := decide_eq_true c20
           clear c20
           obtain rfl := Option.some.inj H
           obtain ⟨hcz21_0, hcz21_1⟩ := bc2_ BK131.out
           have hfz21_0 := blk_frozen BK131.out 0
           have hfz21_1 := blk_frozen BK131.out 1
           have p132 : 0 ≤ (x3_2 : Int) := od_
           have q132 : x3_2 < (l0_1.length : Int) := od_
           obtain ⟨ad132, e132, hx132_0, hx132_1, hx132_2, hx132_3⟩ := at_T45 HR0_1.out x3_2 p132 q132
           cases e132
           replace hx132_0 := lf_ HB.out hx132_0
           replace hx132_1 := lf_ HB.out hx132_1
           replace hx132_2 := lf_ HB.out hx132_2
           replace hx132_3 := lf_ HB.out hx132_3
           replace p132 := eq_true p132
           replace q132 := eq_true q132
           go_wp2_with (first | ((with_reducible refine gate_dst (N := 4) rfl ?_); (try (refine gate_guard (by rfl) ?_; dsimp only)); refine box_event ?hg (N := 4) ?hd (cs := #[.int .i64 0, .int .i64 0, .int .i64 0, .int .i64 0]) (t := 45) ?hr ?_; (case hd => rfl); (case hg => rfl); (case hr => first | (go_simp; done) | (go_simp; rfl)); intro gb133 hg w22 hbox hb; have n0_ := A_ (blk_below (pk_ BK131.out) hb); have n1_ := A_ (below_step (bk_ HB.out) hb); have n2_ := A_ (hbox); have n3_ := A_ (bz_ hg (bk_ HB.out)); have n4_ := A_ (bz_ hg (bk_ HB.out)); have n5_ := A_ (nl_ hg (pk_ BK131.out)); have n6_ := A_ (ng_ hg (pk_ BK131.out)); clear BK131 HB; have BK131 := n0_; have HB := n1_; have BK133 := n2_; have GW133 := n3_; have GE133 := n4_; have NB131_133 := n5_; have NB133_131 := n6_; clear n0_ n1_ n2_ n3_ n4_ n5_ n6_ hb hbox hg; have hnb23 := NB133_131.out; have hnc23 := NB131_133.out; obtain ⟨hcz24_0, hcz24_1, hcz24_2, hcz24_3⟩ := bc4_ BK133.out; have hfz24_0 := blk_frozen BK133.out 0; have hfz24_1 := blk_frozen BK133.out 1; have hfz24_2 := blk_frozen BK133.out 2; have hfz24_3 := blk_frozen BK133.out 3; obtain ⟨hcz25_0, hcz25_1⟩ := bc2_ BK131.out; have hfz25_0 := blk_frozen BK131.out 0; have hfz25_1 := blk_frozen BK131.out 1))
           go_ret
           exact ⟨er_, bk_ HB.out⟩
          ·rw [if_neg c20] at H
           have c20b0 : decide (a0_0 ≤ ((rd_T45 l0_1 x3_2).f1)) = false := decide_eq_false c20
           clear c20
           replace H := Option.bind_eq_some_iff.mp H
           obtain ⟨t134, A260, H⟩ := H
           replace H : (if t134 = true then (if ((rd_T45 l0_1 x3_2).f3) = 0 then (standstillref06_Valid.l0 k2 (wrap64 (x3_2 + 1)) a0_0 l0_1) else (some false)) else (some false)) = some r := H
           have A26 := Aside0.mk A260
           clear A260
           by_cases c27 : t134 = true
           ·subst c27
            have H1 : (if ((rd_T45 l0_1 x3_2).f3) = 0 then (standstillref06_Valid.l0 k2 (wrap64 (x3_2 + 1)) a0_0 l0_1) else (some false)) = some r := by rw [if_pos rfl] at H; exact H
            clear H
            have H := H1
            clear H1
            by_cases c28 : ((rd_T45 l0_1 x3_2).f3) = 0
            ·rw [if_pos c28] at H
             have c28b0 : (((rd_T45 l0_1 x3_2).f3) == 0) = true := beq_iff_eq.mpr c28
             have c28b1 : (((rd_T45 l0_1 x3_2).f3) != 0) = false := bne_eq_false_iff_eq.mpr c28
             clear c28
             have H' := Aside0.mk H
             clear H
             obtain ⟨hcz29_0, hcz29_1⟩ := bc2_ BK131.out
             have hfz29_0 := blk_frozen BK131.out 0
             have hfz29_1 := blk_frozen BK131.out 1
             have p132 : 0 ≤ (x3_2 : Int) := od_
             have q132 : x3_2 < (l0_1.length : Int) := od_
             obtain ⟨ad132, e132, hx132_0, hx132_1, hx132_2, hx132_3⟩ := at_T45 HR0_1.out x3_2 p132 q132
             cases e132
             replace hx132_0 := lf_ HB.out hx132_0
             replace hx132_1 := lf_ HB.out hx132_1
             replace hx132_2 := lf_ HB.out hx132_2
             replace hx132_3 := lf_ HB.out hx132_3
             replace p132 := eq_true p132
             replace q132 := eq_true q132
             go_wp2_with (first | ((with_reducible refine gate_dst (N := 4) rfl ?_); (try (refine gate_guard (by rfl) ?_; dsimp only)); refine box_event ?hg (N := 4) ?hd (cs := #[.int .i64 0, .int .i64 0, .int .i64 0, .int .i64 0]) (t := 45) ?hr ?_; (case hd => rfl); (case hg => rfl); (case hr => first | (go_simp; done) | (go_simp; rfl)); intro gb133 hg w30 hbox hb; have n0_ := A_ (blk_below (pk_ BK131.out) hb); have n1_ := A_ (below_step (bk_ HB.out) hb); have n2_ := A_ (hbox); have n3_ := A_ (bz_ hg (bk_ HB.out)); have n4_ := A_ (bz_ hg (bk_ HB.out)); have n5_ := A_ (nl_ hg (pk_ BK131.out)); have n6_ := A_ (ng_ hg (pk_ BK131.out)); clear BK131 HB; have BK131 := n0_; have HB := n1_; have BK133 := n2_; have GW133 := n3_; have GE133 := n4_; have NB131_133 := n5_; have NB133_131 := n6_; clear n0_ n1_ n2_ n3_ n4_ n5_ n6_ hb hbox hg; have hnb31 := NB133_131.out; have hnc31 := NB131_133.out; obtain ⟨hcz32_0, hcz32_1, hcz32_2, hcz32_3⟩ := bc4_ BK133.out; have hfz32_0 := blk_frozen BK133.out 0; have hfz32_1 := blk_frozen BK133.out 1; have hfz32_2 := blk_frozen BK133.out 2; have hfz32_3 := blk_frozen BK133.out 3; obtain ⟨hcz33_0, hcz33_1⟩ := bc2_ BK131.out; have hfz33_0 := blk_frozen BK131.out 0; have hfz33_1 := blk_frozen BK131.out 1) | (go_at_call 30; (with_reducible refine (standstillref06_index.calls a0_0 _ _ l0_1 ((rd_T45 l0_1 x3_2).f2) true _ ?side1 ?side2 A26.out).mono ?_); (case side1 => exact Kd.C_below HR0_1.out (bk_ HB.out)); (case side2 => exact HC0_1.out); rintro e w34 ⟨rfl, hb⟩; have n0_ := A_ (bf_ BK131.out NB131_133.out hb); have n1_ := A_ (blk_below (g := gb133) (o := .cells #[.int .i64 ((rd_T45 l0_1 x3_2).f0), .int .i64 ((rd_T45 l0_1 x3_2).f1), .int .i64 ((rd_T45 l0_1 x3_2).f2), .int .i64 ((rd_T45 l0_1 x3_2).f3)] 45 (0, 0)) (by refine pk_ ?_; refine blk_put (cs := #[.int .i64 ((rd_T45 l0_1 x3_2).f0), .int .i64 ((rd_T45 l0_1 x3_2).f1), .int .i64 ((rd_T45 l0_1 x3_2).f2), .int .i64 0]) ?_ 3 _ rfl; refine pk_ ?_; refine blk_put (cs := #[.int .i64 ((rd_T45 l0_1 x3_2).f0), .int .i64 ((rd_T45 l0_1 x3_2).f1), .int .i64 0, .int .i64 0]) ?_ 2 _ rfl; refine pk_ ?_; refine blk_put (cs := #[.int .i64 ((rd_T45 l0_1 x3_2).f0), .int .i64 0, .int .i64 0, .int .i64 0]) ?_ 1 _ rfl; refine pk_ ?_; refine blk_put (cs := #[.int .i64 0, .int .i64 0, .int .i64 0, .int .i64 0]) ?_ 0 _ rfl; exact pk_ BK133.out) hb); have n2_ := A_ (below_step (bk_ HB.out) hb); clear BK131 BK133 HB; have BK131 := n0_; have BK133 := n1_; have HB := n2_; clear n0_ n1_ n2_; (try clear hb); (try clear hb2); (try clear hk); (try clear hi); obtain ⟨hcz35_0, hcz35_1, hcz35_2, hcz35_3⟩ := bc4_ BK133.out; have hfz35_0 := blk_frozen BK133.out 0; have hfz35_1 := blk_frozen BK133.out 1; have hfz35_2 := blk_frozen BK133.out 2; have hfz35_3 := blk_frozen BK133.out 3))
             go_roundg k2
             case measure => have := HJ1.out; have := HK2.out; omega
             case rel => exact ⟨(wrap64 (x3_2 + 1)), jr_, H', ⟨by have := HJ1.out; have := HK2.out; omega⟩, ⟨pk_ BK131.out⟩, ⟨bk_ HB.out⟩⟩
            ·rw [if_neg c28] at H
             have c28b0 : (((rd_T45 l0_1 x3_2).f3) == 0) = false := beq_eq_false_iff_ne.mpr c28
             have c28b1 : (((rd_T45 l0_1 x3_2).f3) != 0) = true := bne_iff_ne.mpr c28
             obtain rfl := Option.some.inj H
             obtain ⟨hcz36_0, hcz36_1⟩ := bc2_ BK131.out
             have hfz36_0 := blk_frozen BK131.out 0
             have hfz36_1 := blk_frozen BK131.out 1
             have p132 : 0 ≤ (x3_2 : Int) := od_
             have q132 : x3_2 < (l0_1.length : Int) := od_
             obtain ⟨ad132, e132, hx132_0, hx132_1, hx132_2, hx132_3⟩ := at_T45 HR0_1.out x3_2 p132 q132
             cases e132
             replace hx132_0 := lf_ HB.out hx132_0
             replace hx132_1 := lf_ HB.out hx132_1
             replace hx132_2 := lf_ HB.out hx132_2
             replace hx132_3 := lf_ HB.out hx132_3
             replace p132 := eq_true p132
             replace q132 := eq_true q132
             go_wp2_with (first | ((with_reducible refine gate_dst (N := 4) rfl ?_); (try (refine gate_guard (by rfl) ?_; dsimp only)); refine box_event ?hg (N := 4) ?hd (cs := #[.int .i64 0, .int .i64 0, .int .i64 0, .int .i64 0]) (t := 45) ?hr ?_; (case hd => rfl); (case hg => rfl); (case hr => first | (go_simp; done) | (go_simp; rfl)); intro gb133 hg w37 hbox hb; have n0_ := A_ (blk_below (pk_ BK131.out) hb); have n1_ := A_ (below_step (bk_ HB.out) hb); have n2_ := A_ (hbox); have n3_ := A_ (bz_ hg (bk_ HB.out)); have n4_ := A_ (bz_ hg (bk_ HB.out)); have n5_ := A_ (nl_ hg (pk_ BK131.out)); have n6_ := A_ (ng_ hg (pk_ BK131.out)); clear BK131 HB; have BK131 := n0_; have HB := n1_; have BK133 := n2_; have GW133 := n3_; have GE133 := n4_; have NB131_133 := n5_; have NB133_131 := n6_; clear n0_ n1_ n2_ n3_ n4_ n5_ n6_ hb hbox hg; have hnb38 := NB133_131.out; have hnc38 := NB131_133.out; obtain ⟨hcz39_0, hcz39_1, hcz39_2, hcz39_3⟩ := bc4_ BK133.out; have hfz39_0 := blk_frozen BK133.out 0; have hfz39_1 := blk_frozen BK133.out 1; have hfz39_2 := blk_frozen BK133.out 2; have hfz39_3 := blk_frozen BK133.out 3; obtain ⟨hcz40_0, hcz40_1⟩ := bc2_ BK131.out; have hfz40_0 := blk_frozen BK131.out 0; have hfz40_1 := blk_frozen BK131.out 1) | (go_at_call 30; (with_reducible refine (standstillref06_index.calls a0_0 _ _ l0_1 ((rd_T45 l0_1 x3_2).f2) true _ ?side1 ?side2 A26.out).mono ?_); (case side1 => exact Kd.C_below HR0_1.out (bk_ HB.out)); (case side2 => exact HC0_1.out); rintro e w41 ⟨rfl, hb⟩; have n0_ := A_ (bf_ BK131.out NB131_133.out hb); have n1_ := A_ (blk_below (g := gb133) (o := .cells #[.int .i64 ((rd_T45 l0_1 x3_2).f0), .int .i64 ((rd_T45 l0_1 x3_2).f1), .int .i64 ((rd_T45 l0_1 x3_2).f2), .int .i64 ((rd_T45 l0_1 x3_2).f3)] 45 (0, 0)) (by refine pk_ ?_; refine blk_put (cs := #[.int .i64 ((rd_T45 l0_1 x3_2).f0), .int .i64 ((rd_T45 l0_1 x3_2).f1), .int .i64 ((rd_T45 l0_1 x3_2).f2), .int .i64 0]) ?_ 3 _ rfl; refine pk_ ?_; refine blk_put (cs := #[.int .i64 ((rd_T45 l0_1 x3_2).f0), .int .i64 ((rd_T45 l0_1 x3_2).f1), .int .i64 0, .int .i64 0]) ?_ 2 _ rfl; refine pk_ ?_; refine blk_put (cs := #[.int .i64 ((rd_T45 l0_1 x3_2).f0), .int .i64 0, .int .i64 0, .int .i64 0]) ?_ 1 _ rfl; refine pk_ ?_; refine blk_put (cs := #[.int .i64 0, .int .i64 0, .int .i64 0, .int .i64 0]) ?_ 0 _ rfl; exact pk_ BK133.out) hb); have n2_ := A_ (below_step (bk_ HB.out) hb); clear BK131 BK133 HB; have BK131 := n0_; have BK133 := n1_; have HB := n2_; clear n0_ n1_ n2_; (try clear hb); (try clear hb2); (try clear hk); (try clear hi); obtain ⟨hcz42_0, hcz42_1, hcz42_2, hcz42_3⟩ := bc4_ BK133.out; have hfz42_0 := blk_frozen BK133.out 0; have hfz42_1 := blk_frozen BK133.out 1; have hfz42_2 := blk_frozen BK133.out 2; have hfz42_3 := blk_frozen BK133.out 3))
             go_ret
             exact ⟨er_, bk_ HB.out⟩
           ·replace c27 := Bool.eq_false_iff.mpr c27
            subst c27
            have H1 : (some false) = some r := by rw [if_neg (show ¬ (false = true) by decide)] at H; exact H
            clear H
            have H := H1
            clear H1
            obtain rfl := Option.some.inj H
            obtain ⟨hcz43_0, hcz43_1⟩ := bc2_ BK131.out
            have hfz43_0 := blk_frozen BK131.out 0
            have hfz43_1 := blk_frozen BK131.out 1
            have p132 : 0 ≤ (x3_2 : Int) := od_
            have q132 : x3_2 < (l0_1.length : Int) := od_
            obtain ⟨ad132, e132, hx132_0, hx132_1, hx132_2, hx132_3⟩ := at_T45 HR0_1.out x3_2 p132 q132
            cases e132
            replace hx132_0 := lf_ HB.out hx132_0
            replace hx132_1 := lf_ HB.out hx132_1
            replace hx132_2 := lf_ HB.out hx132_2
            replace hx132_3 := lf_ HB.out hx132_3
            replace p132 := eq_true p132
            replace q132 := eq_true q132
            go_wp2_with (first | ((with_reducible refine gate_dst (N := 4) rfl ?_); (try (refine gate_guard (by rfl) ?_; dsimp only)); refine box_event ?hg (N := 4) ?hd (cs := #[.int .i64 0, .int .i64 0, .int .i64 0, .int .i64 0]) (t := 45) ?hr ?_; (case hd => rfl); (case hg => rfl); (case hr => first | (go_simp; done) | (go_simp; rfl)); intro gb133 hg w44 hbox hb; have n0_ := A_ (blk_below (pk_ BK131.out) hb); have n1_ := A_ (below_step (bk_ HB.out) hb); have n2_ := A_ (hbox); have n3_ := A_ (bz_ hg (bk_ HB.out)); have n4_ := A_ (bz_ hg (bk_ HB.out)); have n5_ := A_ (nl_ hg (pk_ BK131.out)); have n6_ := A_ (ng_ hg (pk_ BK131.out)); clear BK131 HB; have BK131 := n0_; have HB := n1_; have BK133 := n2_; have GW133 := n3_; have GE133 := n4_; have NB131_133 := n5_; have NB133_131 := n6_; clear n0_ n1_ n2_ n3_ n4_ n5_ n6_ hb hbox hg; have hnb45 := NB133_131.out; have hnc45 := NB131_133.out; obtain ⟨hcz46_0, hcz46_1, hcz46_2, hcz46_3⟩ := bc4_ BK133.out; have hfz46_0 := blk_frozen BK133.out 0; have hfz46_1 := blk_frozen BK133.out 1; have hfz46_2 := blk_frozen BK133.out 2; have hfz46_3 := blk_frozen BK133.out 3; obtain ⟨hcz47_0, hcz47_1⟩ := bc2_ BK131.out; have hfz47_0 := blk_frozen BK131.out 0; have hfz47_1 := blk_frozen BK131.out 1) | (go_at_call 30; (with_reducible refine (standstillref06_index.calls a0_0 _ _ l0_1 ((rd_T45 l0_1 x3_2).f2) false _ ?side1 ?side2 A26.out).mono ?_); (case side1 => exact Kd.C_below HR0_1.out (bk_ HB.out)); (case side2 => exact HC0_1.out); rintro e w48 ⟨rfl, hb⟩; have n0_ := A_ (bf_ BK131.out NB131_133.out hb); have n1_ := A_ (blk_below (g := gb133) (o := .cells #[.int .i64 ((rd_T45 l0_1 x3_2).f0), .int .i64 ((rd_T45 l0_1 x3_2).f1), .int .i64 ((rd_T45 l0_1 x3_2).f2), .int .i64 ((rd_T45 l0_1 x3_2).f3)] 45 (0, 0)) (by refine pk_ ?_; refine blk_put (cs := #[.int .i64 ((rd_T45 l0_1 x3_2).f0), .int .i64 ((rd_T45 l0_1 x3_2).f1), .int .i64 ((rd_T45 l0_1 x3_2).f2), .int .i64 0]) ?_ 3 _ rfl; refine pk_ ?_; refine blk_put (cs := #[.int .i64 ((rd_T45 l0_1 x3_2).f0), .int .i64 ((rd_T45 l0_1 x3_2).f1), .int .i64 0, .int .i64 0]) ?_ 2 _ rfl; refine pk_ ?_; refine blk_put (cs := #[.int .i64 ((rd_T45 l0_1 x3_2).f0), .int .i64 0, .int .i64 0, .int .i64 0]) ?_ 1 _ rfl; refine pk_ ?_; refine blk_put (cs := #[.int .i64 0, .int .i64 0, .int .i64 0, .int .i64 0]) ?_ 0 _ rfl; exact pk_ BK133.out) hb); have n2_ := A_ (below_step (bk_ HB.out) hb); clear BK131 BK133 HB; have BK131 := n0_; have BK133 := n1_; have HB := n2_; clear n0_ n1_ n2_; (try clear hb); (try clear hb2); (try clear hk); (try clear hi)))
            go_ret
            exact ⟨er_, bk_ HB.out⟩
        ·rw [if_neg c14] at H
         have c14b0 : (((rd_T45 l0_1 x3_2).f0) == 0) = false := beq_eq_false_iff_ne.mpr c14
         have c14b1 : (((rd_T45 l0_1 x3_2).f0) != 0) = true := bne_iff_ne.mpr c14
         by_cases c49 : ((rd_T45 l0_1 x3_2).f0) = 1
         ·rw [if_pos c49] at H
          have c49b0 : (((rd_T45 l0_1 x3_2).f0) == 1) = true := beq_iff_eq.mpr c49
          have c49b1 : (((rd_T45 l0_1 x3_2).f0) != 1) = false := bne_eq_false_iff_eq.mpr c49
          clear c49
          by_cases c50 : ((rd_T45 l0_1 x3_2).f1) < 0
          ·rw [if_pos c50] at H
           have c50b0 : decide (((rd_T45 l0_1 x3_2).f1) < 0) = true := decide_eq_true c50
           clear c50
           obtain rfl := Option.some.inj H
           obtain ⟨hcz51_0, hcz51_1⟩ := bc2_ BK131.out
           have hfz51_0 := blk_frozen BK131.out 0
           have hfz51_1 := blk_frozen BK131.out 1
           have p132 : 0 ≤ (x3_2 : Int) := od_
           have q132 : x3_2 < (l0_1.length : Int) := od_
           obtain ⟨ad132, e132, hx132_0, hx132_1, hx132_2, hx132_3⟩ := at_T45 HR0_1.out x3_2 p132 q132
           cases e132
           replace hx132_0 := lf_ HB.out hx132_0
           replace hx132_1 := lf_ HB.out hx132_1
           replace hx132_2 := lf_ HB.out hx132_2
           replace hx132_3 := lf_ HB.out hx132_3
           replace p132 := eq_true p132
           replace q132 := eq_true q132
           go_wp2_with (first | ((with_reducible refine gate_dst (N := 4) rfl ?_); (try (refine gate_guard (by rfl) ?_; dsimp only)); refine box_event ?hg (N := 4) ?hd (cs := #[.int .i64 0, .int .i64 0, .int .i64 0, .int .i64 0]) (t := 45) ?hr ?_; (case hd => rfl); (case hg => rfl); (case hr => first | (go_simp; done) | (go_simp; rfl)); intro gb133 hg w52 hbox hb; have n0_ := A_ (blk_below (pk_ BK131.out) hb); have n1_ := A_ (below_step (bk_ HB.out) hb); have n2_ := A_ (hbox); have n3_ := A_ (bz_ hg (bk_ HB.out)); have n4_ := A_ (bz_ hg (bk_ HB.out)); have n5_ := A_ (nl_ hg (pk_ BK131.out)); have n6_ := A_ (ng_ hg (pk_ BK131.out)); clear BK131 HB; have BK131 := n0_; have HB := n1_; have BK133 := n2_; have GW133 := n3_; have GE133 := n4_; have NB131_133 := n5_; have NB133_131 := n6_; clear n0_ n1_ n2_ n3_ n4_ n5_ n6_ hb hbox hg; have hnb53 := NB133_131.out; have hnc53 := NB131_133.out; obtain ⟨hcz54_0, hcz54_1, hcz54_2, hcz54_3⟩ := bc4_ BK133.out; have hfz54_0 := blk_frozen BK133.out 0; have hfz54_1 := blk_frozen BK133.out 1; have hfz54_2 := blk_frozen BK133.out 2; have hfz54_3 := blk_frozen BK133.out 3))
           go_ret
           exact ⟨er_, bk_ HB.out⟩
          ·rw [if_neg c50] at H
           have c50b0 : decide (((rd_T45 l0_1 x3_2).f1) < 0) = false := decide_eq_false c50
           clear c50
           by_cases c55 : ((rd_T45 l0_1 x3_2).f1) ≥ a0_0
           ·rw [if_pos c55] at H
            have c55b0 : decide (a0_0 ≤ ((rd_T45 l0_1 x3_2).f1)) = true := decide_eq_true c55
            clear c55
            obtain rfl := Option.some.inj H
            obtain ⟨hcz56_0, hcz56_1⟩ := bc2_ BK131.out
            have hfz56_0 := blk_frozen BK131.out 0
            have hfz56_1 := blk_frozen BK131.out 1
            have p132 : 0 ≤ (x3_2 : Int) := od_
            have q132 : x3_2 < (l0_1.length : Int) := od_
            obtain ⟨ad132, e132, hx132_0, hx132_1, hx132_2, hx132_3⟩ := at_T45 HR0_1.out x3_2 p132 q132
            cases e132
            replace hx132_0 := lf_ HB.out hx132_0
            replace hx132_1 := lf_ HB.out hx132_1
            replace hx132_2 := lf_ HB.out hx132_2
            replace hx132_3 := lf_ HB.out hx132_3
            replace p132 := eq_true p132
            replace q132 := eq_true q132
            go_wp2_with (first | ((with_reducible refine gate_dst (N := 4) rfl ?_); (try (refine gate_guard (by rfl) ?_; dsimp only)); refine box_event ?hg (N := 4) ?hd (cs := #[.int .i64 0, .int .i64 0, .int .i64 0, .int .i64 0]) (t := 45) ?hr ?_; (case hd => rfl); (case hg => rfl); (case hr => first | (go_simp; done) | (go_simp; rfl)); intro gb133 hg w57 hbox hb; have n0_ := A_ (blk_below (pk_ BK131.out) hb); have n1_ := A_ (below_step (bk_ HB.out) hb); have n2_ := A_ (hbox); have n3_ := A_ (bz_ hg (bk_ HB.out)); have n4_ := A_ (bz_ hg (bk_ HB.out)); have n5_ := A_ (nl_ hg (pk_ BK131.out)); have n6_ := A_ (ng_ hg (pk_ BK131.out)); clear BK131 HB; have BK131 := n0_; have HB := n1_; have BK133 := n2_; have GW133 := n3_; have GE133 := n4_; have NB131_133 := n5_; have NB133_131 := n6_; clear n0_ n1_ n2_ n3_ n4_ n5_ n6_ hb hbox hg; have hnb58 := NB133_131.out; have hnc58 := NB131_133.out; obtain ⟨hcz59_0, hcz59_1, hcz59_2, hcz59_3⟩ := bc4_ BK133.out; have hfz59_0 := blk_frozen BK133.out 0; have hfz59_1 := blk_frozen BK133.out 1; have hfz59_2 := blk_frozen BK133.out 2; have hfz59_3 := blk_frozen BK133.out 3; obtain ⟨hcz60_0, hcz60_1⟩ := bc2_ BK131.out; have hfz60_0 := blk_frozen BK131.out 0; have hfz60_1 := blk_frozen BK131.out 1))
            go_ret
            exact ⟨er_, bk_ HB.out⟩
           ·rw [if_neg c55] at H
            have c55b0 : decide (a0_0 ≤ ((rd_T45 l0_1 x3_2).f1)) = false := decide_eq_false c55
            clear c55
            replace H := Option.bind_eq_some_iff.mp H
            obtain ⟨t135, A610, H⟩ := H
            replace H : (if t135 = true then ((standstillref06_index.f a0_0 l0_1 ((rd_T45 l0_1 x3_2).f3)).bind fun t136 => (if t136 = true then (standstillref06_Valid.l0 k2 (wrap64 (x3_2 + 1)) a0_0 l0_1) else (some false))) else (some false)) = some r := H
            have A61 := Aside0.mk A610
            clear A610
            by_cases c62 : t135 = true
            ·subst c62
             have H1 : ((standstillref06_index.f a0_0 l0_1 ((rd_T45 l0_1 x3_2).f3)).bind fun t136 => (if t136 = true then (standstillref06_Valid.l0 k2 (wrap64 (x3_2 + 1)) a0_0 l0_1) else (some false))) = some r := by rw [if_pos rfl] at H; exact H
             clear H
             have H := H1
             clear H1
             replace H := Option.bind_eq_some_iff.mp H
             obtain ⟨t136, A630, H⟩ := H
             replace H : (if t136 = true then (standstillref06_Valid.l0 k2 (wrap64 (x3_2 + 1)) a0_0 l0_1) else (some false)) = some r := H
             have A63 := Aside0.mk A630
             clear A630
             by_cases c64 : t136 = true
             ·subst c64
              have H1 : (standstillref06_Valid.l0 k2 (wrap64 (x3_2 + 1)) a0_0 l0_1) = some r := by rw [if_pos rfl] at H; exact H
              clear H
              have H := H1
              clear H1
              have H' := Aside0.mk H
              clear H
              obtain ⟨hcz65_0, hcz65_1⟩ := bc2_ BK131.out
              have hfz65_0 := blk_frozen BK131.out 0
              have hfz65_1 := blk_frozen BK131.out 1
              have p132 : 0 ≤ (x3_2 : Int) := od_
              have q132 : x3_2 < (l0_1.length : Int) := od_
              obtain ⟨ad132, e132, hx132_0, hx132_1, hx132_2, hx132_3⟩ := at_T45 HR0_1.out x3_2 p132 q132
              cases e132
              replace hx132_0 := lf_ HB.out hx132_0
              replace hx132_1 := lf_ HB.out hx132_1
              replace hx132_2 := lf_ HB.out hx132_2
              replace hx132_3 := lf_ HB.out hx132_3
              replace p132 := eq_true p132
              replace q132 := eq_true q132
              go_wp2_with (first | ((with_reducible refine gate_dst (N := 4) rfl ?_); (try (refine gate_guard (by rfl) ?_; dsimp only)); refine box_event ?hg (N := 4) ?hd (cs := #[.int .i64 0, .int .i64 0, .int .i64 0, .int .i64 0]) (t := 45) ?hr ?_; (case hd => rfl); (case hg => rfl); (case hr => first | (go_simp; done) | (go_simp; rfl)); intro gb133 hg w66 hbox hb; have n0_ := A_ (blk_below (pk_ BK131.out) hb); have n1_ := A_ (below_step (bk_ HB.out) hb); have n2_ := A_ (hbox); have n3_ := A_ (bz_ hg (bk_ HB.out)); have n4_ := A_ (bz_ hg (bk_ HB.out)); have n5_ := A_ (nl_ hg (pk_ BK131.out)); have n6_ := A_ (ng_ hg (pk_ BK131.out)); clear BK131 HB; have BK131 := n0_; have HB := n1_; have BK133 := n2_; have GW133 := n3_; have GE133 := n4_; have NB131_133 := n5_; have NB133_131 := n6_; clear n0_ n1_ n2_ n3_ n4_ n5_ n6_ hb hbox hg; have hnb67 := NB133_131.out; have hnc67 := NB131_133.out; obtain ⟨hcz68_0, hcz68_1, hcz68_2, hcz68_3⟩ := bc4_ BK133.out; have hfz68_0 := blk_frozen BK133.out 0; have hfz68_1 := blk_frozen BK133.out 1; have hfz68_2 := blk_frozen BK133.out 2; have hfz68_3 := blk_frozen BK133.out 3; obtain ⟨hcz69_0, hcz69_1⟩ := bc2_ BK131.out; have hfz69_0 := blk_frozen BK131.out 0; have hfz69_1 := blk_frozen BK131.out 1) | (go_at_call 30; (with_reducible refine (standstillref06_index.calls a0_0 _ _ l0_1 ((rd_T45 l0_1 x3_2).f2) true _ ?side1 ?side2 A61.out).mono ?_); (case side1 => exact Kd.C_below HR0_1.out (bk_ HB.out)); (case side2 => exact HC0_1.out); rintro e w70 ⟨rfl, hb⟩; have n0_ := A_ (bf_ BK131.out NB131_133.out hb); have n1_ := A_ (blk_below (g := gb133) (o := .cells #[.int .i64 ((rd_T45 l0_1 x3_2).f0), .int .i64 ((rd_T45 l0_1 x3_2).f1), .int .i64 ((rd_T45 l0_1 x3_2).f2), .int .i64 ((rd_T45 l0_1 x3_2).f3)] 45 (0, 0)) (by refine pk_ ?_; refine blk_put (cs := #[.int .i64 ((rd_T45 l0_1 x3_2).f0), .int .i64 ((rd_T45 l0_1 x3_2).f1), .int .i64 ((rd_T45 l0_1 x3_2).f2), .int .i64 0]) ?_ 3 _ rfl; refine pk_ ?_; refine blk_put (cs := #[.int .i64 ((rd_T45 l0_1 x3_2).f0), .int .i64 ((rd_T45 l0_1 x3_2).f1), .int .i64 0, .int .i64 0]) ?_ 2 _ rfl; refine pk_ ?_; refine blk_put (cs := #[.int .i64 ((rd_T45 l0_1 x3_2).f0), .int .i64 0, .int .i64 0, .int .i64 0]) ?_ 1 _ rfl; refine pk_ ?_; refine blk_put (cs := #[.int .i64 0, .int .i64 0, .int .i64 0, .int .i64 0]) ?_ 0 _ rfl; exact pk_ BK133.out) hb); have n2_ := A_ (below_step (bk_ HB.out) hb); clear BK131 BK133 HB; have BK131 := n0_; have BK133 := n1_; have HB := n2_; clear n0_ n1_ n2_; (try clear hb); (try clear hb2); (try clear hk); (try clear hi); obtain ⟨hcz71_0, hcz71_1⟩ := bc2_ BK131.out; have hfz71_0 := blk_frozen BK131.out 0; have hfz71_1 := blk_frozen BK131.out 1; obtain ⟨hcz72_0, hcz72_1, hcz72_2, hcz72_3⟩ := bc4_ BK133.out; have hfz72_0 := blk_frozen BK133.out 0; have hfz72_1 := blk_frozen BK133.out 1; have hfz72_2 := blk_frozen BK133.out 2; have hfz72_3 := blk_frozen BK133.out 3) | (go_at_call 30; (with_reducible refine (standstillref06_index.calls a0_0 _ _ l0_1 ((rd_T45 l0_1 x3_2).f3) true _ ?side1 ?side2 A63.out).mono ?_); (case side1 => exact ck_ (Kd.C_below HR0_1.out HB.out)); (case side2 => exact HC0_1.out); rintro e w73 ⟨rfl, hb⟩; have n0_ := A_ (blk_below (pk_ BK131.out) hb); have n1_ := A_ (blk_below (pk_ BK133.out) hb); have n2_ := A_ (below_step (bk_ HB.out) hb); clear BK131 BK133 HB; have BK131 := n0_; have BK133 := n1_; have HB := n2_; clear n0_ n1_ n2_; (try clear hb); (try clear hb2); (try clear hk); (try clear hi)))
              go_roundg k2
              case measure => have := HJ1.out; have := HK2.out; omega
              case rel => exact ⟨(wrap64 (x3_2 + 1)), jr_, H', ⟨by have := HJ1.out; have := HK2.out; omega⟩, ⟨pk_ BK131.out⟩, ⟨bk_ HB.out⟩⟩
             ·replace c64 := Bool.eq_false_iff.mpr c64
              subst c64
              have H1 : (some false) = some r := by rw [if_neg (show ¬ (false = true) by decide)] at H; exact H
              clear H
              have H := H1
              clear H1
              obtain rfl := Option.some.inj H
              obtain ⟨hcz74_0, hcz74_1⟩ := bc2_ BK131.out
              have hfz74_0 := blk_frozen BK131.out 0
              have hfz74_1 := blk_frozen BK131.out 1
              have p132 : 0 ≤ (x3_2 : Int) := od_
              have q132 : x3_2 < (l0_1.length : Int) := od_
              obtain ⟨ad132, e132, hx132_0, hx132_1, hx132_2, hx132_3⟩ := at_T45 HR0_1.out x3_2 p132 q132
              cases e132
              replace hx132_0 := lf_ HB.out hx132_0
              replace hx132_1 := lf_ HB.out hx132_1
              replace hx132_2 := lf_ HB.out hx132_2
              replace hx132_3 := lf_ HB.out hx132_3
              replace p132 := eq_true p132
              replace q132 := eq_true q132
              go_wp2_with (first | ((with_reducible refine gate_dst (N := 4) rfl ?_); (try (refine gate_guard (by rfl) ?_; dsimp only)); refine box_event ?hg (N := 4) ?hd (cs := #[.int .i64 0, .int .i64 0, .int .i64 0, .int .i64 0]) (t := 45) ?hr ?_; (case hd => rfl); (case hg => rfl); (case hr => first | (go_simp; done) | (go_simp; rfl)); intro gb133 hg w75 hbox hb; have n0_ := A_ (blk_below (pk_ BK131.out) hb); have n1_ := A_ (below_step (bk_ HB.out) hb); have n2_ := A_ (hbox); have n3_ := A_ (bz_ hg (bk_ HB.out)); have n4_ := A_ (bz_ hg (bk_ HB.out)); have n5_ := A_ (nl_ hg (pk_ BK131.out)); have n6_ := A_ (ng_ hg (pk_ BK131.out)); clear BK131 HB; have BK131 := n0_; have HB := n1_; have BK133 := n2_; have GW133 := n3_; have GE133 := n4_; have NB131_133 := n5_; have NB133_131 := n6_; clear n0_ n1_ n2_ n3_ n4_ n5_ n6_ hb hbox hg; have hnb76 := NB133_131.out; have hnc76 := NB131_133.out; obtain ⟨hcz77_0, hcz77_1, hcz77_2, hcz77_3⟩ := bc4_ BK133.out; have hfz77_0 := blk_frozen BK133.out 0; have hfz77_1 := blk_frozen BK133.out 1; have hfz77_2 := blk_frozen BK133.out 2; have hfz77_3 := blk_frozen BK133.out 3; obtain ⟨hcz78_0, hcz78_1⟩ := bc2_ BK131.out; have hfz78_0 := blk_frozen BK131.out 0; have hfz78_1 := blk_frozen BK131.out 1) | (go_at_call 30; (with_reducible refine (standstillref06_index.calls a0_0 _ _ l0_1 ((rd_T45 l0_1 x3_2).f2) true _ ?side1 ?side2 A61.out).mono ?_); (case side1 => exact Kd.C_below HR0_1.out (bk_ HB.out)); (case side2 => exact HC0_1.out); rintro e w79 ⟨rfl, hb⟩; have n0_ := A_ (bf_ BK131.out NB131_133.out hb); have n1_ := A_ (blk_below (g := gb133) (o := .cells #[.int .i64 ((rd_T45 l0_1 x3_2).f0), .int .i64 ((rd_T45 l0_1 x3_2).f1), .int .i64 ((rd_T45 l0_1 x3_2).f2), .int .i64 ((rd_T45 l0_1 x3_2).f3)] 45 (0, 0)) (by refine pk_ ?_; refine blk_put (cs := #[.int .i64 ((rd_T45 l0_1 x3_2).f0), .int .i64 ((rd_T45 l0_1 x3_2).f1), .int .i64 ((rd_T45 l0_1 x3_2).f2), .int .i64 0]) ?_ 3 _ rfl; refine pk_ ?_; refine blk_put (cs := #[.int .i64 ((rd_T45 l0_1 x3_2).f0), .int .i64 ((rd_T45 l0_1 x3_2).f1), .int .i64 0, .int .i64 0]) ?_ 2 _ rfl; refine pk_ ?_; refine blk_put (cs := #[.int .i64 ((rd_T45 l0_1 x3_2).f0), .int .i64 0, .int .i64 0, .int .i64 0]) ?_ 1 _ rfl; refine pk_ ?_; refine blk_put (cs := #[.int .i64 0, .int .i64 0, .int .i64 0, .int .i64 0]) ?_ 0 _ rfl; exact pk_ BK133.out) hb); have n2_ := A_ (below_step (bk_ HB.out) hb); clear BK131 BK133 HB; have BK131 := n0_; have BK133 := n1_; have HB := n2_; clear n0_ n1_ n2_; (try clear hb); (try clear hb2); (try clear hk); (try clear hi); obtain ⟨hcz80_0, hcz80_1⟩ := bc2_ BK131.out; have hfz80_0 := blk_frozen BK131.out 0; have hfz80_1 := blk_frozen BK131.out 1; obtain ⟨hcz81_0, hcz81_1, hcz81_2, hcz81_3⟩ := bc4_ BK133.out; have hfz81_0 := blk_frozen BK133.out 0; have hfz81_1 := blk_frozen BK133.out 1; have hfz81_2 := blk_frozen BK133.out 2; have hfz81_3 := blk_frozen BK133.out 3) | (go_at_call 30; (with_reducible refine (standstillref06_index.calls a0_0 _ _ l0_1 ((rd_T45 l0_1 x3_2).f3) false _ ?side1 ?side2 A63.out).mono ?_); (case side1 => exact ck_ (Kd.C_below HR0_1.out HB.out)); (case side2 => exact HC0_1.out); rintro e w82 ⟨rfl, hb⟩; have n0_ := A_ (blk_below (pk_ BK131.out) hb); have n1_ := A_ (blk_below (pk_ BK133.out) hb); have n2_ := A_ (below_step (bk_ HB.out) hb); clear BK131 BK133 HB; have BK131 := n0_; have BK133 := n1_; have HB := n2_; clear n0_ n1_ n2_; (try clear hb); (try clear hb2); (try clear hk); (try clear hi)))
              go_ret
              exact ⟨er_, bk_ HB.out⟩
            ·replace c62 := Bool.eq_false_iff.mpr c62
             subst c62
             have H1 : (some false) = some r := by rw [if_neg (show ¬ (false = true) by decide)] at H; exact H
             clear H
             have H := H1
             clear H1
             obtain rfl := Option.some.inj H
             obtain ⟨hcz83_0, hcz83_1⟩ := bc2_ BK131.out
             have hfz83_0 := blk_frozen BK131.out 0
             have hfz83_1 := blk_frozen BK131.out 1
             have p132 : 0 ≤ (x3_2 : Int) := od_
             have q132 : x3_2 < (l0_1.length : Int) := od_
             obtain ⟨ad132, e132, hx132_0, hx132_1, hx132_2, hx132_3⟩ := at_T45 HR0_1.out x3_2 p132 q132
             cases e132
             replace hx132_0 := lf_ HB.out hx132_0
             replace hx132_1 := lf_ HB.out hx132_1
             replace hx132_2 := lf_ HB.out hx132_2
             replace hx132_3 := lf_ HB.out hx132_3
             replace p132 := eq_true p132
             replace q132 := eq_true q132
             go_wp2_with (first | ((with_reducible refine gate_dst (N := 4) rfl ?_); (try (refine gate_guard (by rfl) ?_; dsimp only)); refine box_event ?hg (N := 4) ?hd (cs := #[.int .i64 0, .int .i64 0, .int .i64 0, .int .i64 0]) (t := 45) ?hr ?_; (case hd => rfl); (case hg => rfl); (case hr => first | (go_simp; done) | (go_simp; rfl)); intro gb133 hg w84 hbox hb; have n0_ := A_ (blk_below (pk_ BK131.out) hb); have n1_ := A_ (below_step (bk_ HB.out) hb); have n2_ := A_ (hbox); have n3_ := A_ (bz_ hg (bk_ HB.out)); have n4_ := A_ (bz_ hg (bk_ HB.out)); have n5_ := A_ (nl_ hg (pk_ BK131.out)); have n6_ := A_ (ng_ hg (pk_ BK131.out)); clear BK131 HB; have BK131 := n0_; have HB := n1_; have BK133 := n2_; have GW133 := n3_; have GE133 := n4_; have NB131_133 := n5_; have NB133_131 := n6_; clear n0_ n1_ n2_ n3_ n4_ n5_ n6_ hb hbox hg; have hnb85 := NB133_131.out; have hnc85 := NB131_133.out; obtain ⟨hcz86_0, hcz86_1, hcz86_2, hcz86_3⟩ := bc4_ BK133.out; have hfz86_0 := blk_frozen BK133.out 0; have hfz86_1 := blk_frozen BK133.out 1; have hfz86_2 := blk_frozen BK133.out 2; have hfz86_3 := blk_frozen BK133.out 3; obtain ⟨hcz87_0, hcz87_1⟩ := bc2_ BK131.out; have hfz87_0 := blk_frozen BK131.out 0; have hfz87_1 := blk_frozen BK131.out 1) | (go_at_call 30; (with_reducible refine (standstillref06_index.calls a0_0 _ _ l0_1 ((rd_T45 l0_1 x3_2).f2) false _ ?side1 ?side2 A61.out).mono ?_); (case side1 => exact Kd.C_below HR0_1.out (bk_ HB.out)); (case side2 => exact HC0_1.out); rintro e w88 ⟨rfl, hb⟩; have n0_ := A_ (bf_ BK131.out NB131_133.out hb); have n1_ := A_ (blk_below (g := gb133) (o := .cells #[.int .i64 ((rd_T45 l0_1 x3_2).f0), .int .i64 ((rd_T45 l0_1 x3_2).f1), .int .i64 ((rd_T45 l0_1 x3_2).f2), .int .i64 ((rd_T45 l0_1 x3_2).f3)] 45 (0, 0)) (by refine pk_ ?_; refine blk_put (cs := #[.int .i64 ((rd_T45 l0_1 x3_2).f0), .int .i64 ((rd_T45 l0_1 x3_2).f1), .int .i64 ((rd_T45 l0_1 x3_2).f2), .int .i64 0]) ?_ 3 _ rfl; refine pk_ ?_; refine blk_put (cs := #[.int .i64 ((rd_T45 l0_1 x3_2).f0), .int .i64 ((rd_T45 l0_1 x3_2).f1), .int .i64 0, .int .i64 0]) ?_ 2 _ rfl; refine pk_ ?_; refine blk_put (cs := #[.int .i64 ((rd_T45 l0_1 x3_2).f0), .int .i64 0, .int .i64 0, .int .i64 0]) ?_ 1 _ rfl; refine pk_ ?_; refine blk_put (cs := #[.int .i64 0, .int .i64 0, .int .i64 0, .int .i64 0]) ?_ 0 _ rfl; exact pk_ BK133.out) hb); have n2_ := A_ (below_step (bk_ HB.out) hb); clear BK131 BK133 HB; have BK131 := n0_; have BK133 := n1_; have HB := n2_; clear n0_ n1_ n2_; (try clear hb); (try clear hb2); (try clear hk); (try clear hi)))
             go_ret
             exact ⟨er_, bk_ HB.out⟩
         ·rw [if_neg c49] at H
          have c49b0 : (((rd_T45 l0_1 x3_2).f0) == 1) = false := beq_eq_false_iff_ne.mpr c49
          have c49b1 : (((rd_T45 l0_1 x3_2).f0) != 1) = true := bne_iff_ne.mpr c49
          by_cases c89 : ((rd_T45 l0_1 x3_2).f0) = 2
          ·rw [if_pos c89] at H
           have c89b0 : (((rd_T45 l0_1 x3_2).f0) == 2) = true := beq_iff_eq.mpr c89
           have c89b1 : (((rd_T45 l0_1 x3_2).f0) != 2) = false := bne_eq_false_iff_eq.mpr c89
           clear c89
           by_cases c90 : (!(((rd_T45 l0_1 x3_2).f0) == 2) || (!(((rd_T45 l0_1 x3_2).f1) == 0) || (!(((rd_T45 l0_1 x3_2).f2) == 0) || (!(((rd_T45 l0_1 x3_2).f3) == 0))))) = true
           ·rw [if_pos c90] at H
            have c90b0 : (!(((rd_T45 l0_1 x3_2).f0) == 2) || (!(((rd_T45 l0_1 x3_2).f1) == 0) || (!(((rd_T45 l0_1 x3_2).f2) == 0) || (!(((rd_T45 l0_1 x3_2).f3) == 0))))) = true := c90
            clear c90
            (try (have c90bs := c90b0; simp only [c14b0, c49b0, c89b0, Bool.not_true, Bool.not_false, Bool.false_or, Bool.true_or, Bool.false_and, Bool.true_and] at c90bs))
            obtain rfl := Option.some.inj H
            obtain ⟨hcz91_0, hcz91_1⟩ := bc2_ BK131.out
            have hfz91_0 := blk_frozen BK131.out 0
            have hfz91_1 := blk_frozen BK131.out 1
            have p132 : 0 ≤ (x3_2 : Int) := od_
            have q132 : x3_2 < (l0_1.length : Int) := od_
            obtain ⟨ad132, e132, hx132_0, hx132_1, hx132_2, hx132_3⟩ := at_T45 HR0_1.out x3_2 p132 q132
            cases e132
            replace hx132_0 := lf_ HB.out hx132_0
            replace hx132_1 := lf_ HB.out hx132_1
            replace hx132_2 := lf_ HB.out hx132_2
            replace hx132_3 := lf_ HB.out hx132_3
            replace p132 := eq_true p132
            replace q132 := eq_true q132
            go_wp2_with (first | ((with_reducible refine gate_dst (N := 4) rfl ?_); (try (refine gate_guard (by rfl) ?_; dsimp only)); refine box_event ?hg (N := 4) ?hd (cs := #[.int .i64 0, .int .i64 0, .int .i64 0, .int .i64 0]) (t := 45) ?hr ?_; (case hd => rfl); (case hg => rfl); (case hr => first | (go_simp; done) | (go_simp; rfl)); intro gb133 hg w92 hbox hb; have n0_ := A_ (blk_below (pk_ BK131.out) hb); have n1_ := A_ (below_step (bk_ HB.out) hb); have n2_ := A_ (hbox); have n3_ := A_ (bz_ hg (bk_ HB.out)); have n4_ := A_ (bz_ hg (bk_ HB.out)); have n5_ := A_ (nl_ hg (pk_ BK131.out)); have n6_ := A_ (ng_ hg (pk_ BK131.out)); clear BK131 HB; have BK131 := n0_; have HB := n1_; have BK133 := n2_; have GW133 := n3_; have GE133 := n4_; have NB131_133 := n5_; have NB133_131 := n6_; clear n0_ n1_ n2_ n3_ n4_ n5_ n6_ hb hbox hg; have hnb93 := NB133_131.out; have hnc93 := NB131_133.out; obtain ⟨hcz94_0, hcz94_1, hcz94_2, hcz94_3⟩ := bc4_ BK133.out; have hfz94_0 := blk_frozen BK133.out 0; have hfz94_1 := blk_frozen BK133.out 1; have hfz94_2 := blk_frozen BK133.out 2; have hfz94_3 := blk_frozen BK133.out 3))
            go_ret
            exact ⟨er_, bk_ HB.out⟩
           ·rw [if_neg c90] at H
            have c90b0 : (!(((rd_T45 l0_1 x3_2).f0) == 2) || (!(((rd_T45 l0_1 x3_2).f1) == 0) || (!(((rd_T45 l0_1 x3_2).f2) == 0) || (!(((rd_T45 l0_1 x3_2).f3) == 0))))) = false := by simpa using c90
            clear c90
            (try (have c90bs := c90b0; simp only [c14b0, c49b0, c89b0, Bool.not_true, Bool.not_false, Bool.false_or, Bool.true_or, Bool.false_and, Bool.true_and] at c90bs))
            have H' := Aside0.mk H
            clear H
            obtain ⟨hcz95_0, hcz95_1⟩ := bc2_ BK131.out
            have hfz95_0 := blk_frozen BK131.out 0
            have hfz95_1 := blk_frozen BK131.out 1
            have p132 : 0 ≤ (x3_2 : Int) := od_
            have q132 : x3_2 < (l0_1.length : Int) := od_
            obtain ⟨ad132, e132, hx132_0, hx132_1, hx132_2, hx132_3⟩ := at_T45 HR0_1.out x3_2 p132 q132
            cases e132
            replace hx132_0 := lf_ HB.out hx132_0
            replace hx132_1 := lf_ HB.out hx132_1
            replace hx132_2 := lf_ HB.out hx132_2
            replace hx132_3 := lf_ HB.out hx132_3
            replace p132 := eq_true p132
            replace q132 := eq_true q132
            go_wp2_with (first | ((with_reducible refine gate_dst (N := 4) rfl ?_); (try (refine gate_guard (by rfl) ?_; dsimp only)); refine box_event ?hg (N := 4) ?hd (cs := #[.int .i64 0, .int .i64 0, .int .i64 0, .int .i64 0]) (t := 45) ?hr ?_; (case hd => rfl); (case hg => rfl); (case hr => first | (go_simp; done) | (go_simp; rfl)); intro gb133 hg w96 hbox hb; have n0_ := A_ (blk_below (pk_ BK131.out) hb); have n1_ := A_ (below_step (bk_ HB.out) hb); have n2_ := A_ (hbox); have n3_ := A_ (bz_ hg (bk_ HB.out)); have n4_ := A_ (bz_ hg (bk_ HB.out)); have n5_ := A_ (nl_ hg (pk_ BK131.out)); have n6_ := A_ (ng_ hg (pk_ BK131.out)); clear BK131 HB; have BK131 := n0_; have HB := n1_; have BK133 := n2_; have GW133 := n3_; have GE133 := n4_; have NB131_133 := n5_; have NB133_131 := n6_; clear n0_ n1_ n2_ n3_ n4_ n5_ n6_ hb hbox hg; have hnb97 := NB133_131.out; have hnc97 := NB131_133.out; obtain ⟨hcz98_0, hcz98_1, hcz98_2, hcz98_3⟩ := bc4_ BK133.out; have hfz98_0 := blk_frozen BK133.out 0; have hfz98_1 := blk_frozen BK133.out 1; have hfz98_2 := blk_frozen BK133.out 2; have hfz98_3 := blk_frozen BK133.out 3))
            go_roundg k2
            case measure => have := HJ1.out; have := HK2.out; omega
            case rel => exact ⟨(wrap64 (x3_2 + 1)), jr_, H', ⟨by have := HJ1.out; have := HK2.out; omega⟩, ⟨by (iterate 4 (refine pk_ ?_; refine blk_far ?_ NB131_133.out _)); exact pk_ BK131.out⟩, ⟨bk_ HB.out⟩⟩
          ·rw [if_neg c89] at H
           have c89b0 : (((rd_T45 l0_1 x3_2).f0) == 2) = false := beq_eq_false_iff_ne.mpr c89
           have c89b1 : (((rd_T45 l0_1 x3_2).f0) != 2) = true := bne_iff_ne.mpr c89
           obtain rfl := Option.some.inj H
           obtain ⟨hcz99_0, hcz99_1⟩ := bc2_ BK131.out
           have hfz99_0 := blk_frozen BK131.out 0
           have hfz99_1 := blk_frozen BK131.out 1
           have p132 : 0 ≤ (x3_2 : Int) := od_
           have q132 : x3_2 < (l0_1.length : Int) := od_
           obtain ⟨ad132, e132, hx132_0, hx132_1, hx132_2, hx132_3⟩ := at_T45 HR0_1.out x3_2 p132 q132
           cases e132
           replace hx132_0 := lf_ HB.out hx132_0
           replace hx132_1 := lf_ HB.out hx132_1
           replace hx132_2 := lf_ HB.out hx132_2
           replace hx132_3 := lf_ HB.out hx132_3
           replace p132 := eq_true p132
           replace q132 := eq_true q132
           go_wp2_with (first | ((with_reducible refine gate_dst (N := 4) rfl ?_); (try (refine gate_guard (by rfl) ?_; dsimp only)); refine box_event ?hg (N := 4) ?hd (cs := #[.int .i64 0, .int .i64 0, .int .i64 0, .int .i64 0]) (t := 45) ?hr ?_; (case hd => rfl); (case hg => rfl); (case hr => first | (go_simp; done) | (go_simp; rfl)); intro gb133 hg w100 hbox hb; have n0_ := A_ (blk_below (pk_ BK131.out) hb); have n1_ := A_ (below_step (bk_ HB.out) hb); have n2_ := A_ (hbox); have n3_ := A_ (bz_ hg (bk_ HB.out)); have n4_ := A_ (bz_ hg (bk_ HB.out)); have n5_ := A_ (nl_ hg (pk_ BK131.out)); have n6_ := A_ (ng_ hg (pk_ BK131.out)); clear BK131 HB; have BK131 := n0_; have HB := n1_; have BK133 := n2_; have GW133 := n3_; have GE133 := n4_; have NB131_133 := n5_; have NB133_131 := n6_; clear n0_ n1_ n2_ n3_ n4_ n5_ n6_ hb hbox hg; have hnb101 := NB133_131.out; have hnc101 := NB131_133.out; obtain ⟨hcz102_0, hcz102_1, hcz102_2, hcz102_3⟩ := bc4_ BK133.out; have hfz102_0 := blk_frozen BK133.out 0; have hfz102_1 := blk_frozen BK133.out 1; have hfz102_2 := blk_frozen BK133.out 2; have hfz102_3 := blk_frozen BK133.out 3))
           go_ret
           exact ⟨er_, bk_ HB.out⟩
       ·rw [if_neg c13] at H
        exact absurd H (by simp)
      ·rw [if_neg c12] at H
       have c12b0 : decide (x3_2 < (l0_1.length : Int)) = false := decide_eq_false c12
       clear c12
       obtain rfl := Option.some.inj H
       obtain ⟨hcz103_0, hcz103_1⟩ := bc2_ BK131.out
       have hfz103_0 := blk_frozen BK131.out 0
       have hfz103_1 := blk_frozen BK131.out 1
       go_wp2
       go_ret
       exact ⟨er_, bk_ HB.out⟩

end Go.Proofs.Ytkbekdjoaibhbaa.PPairRuns
