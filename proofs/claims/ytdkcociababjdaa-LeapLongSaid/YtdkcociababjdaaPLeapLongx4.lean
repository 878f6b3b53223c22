-- out of a turned copy of the print, by a program of this session; Lean checks it
import Derived.Test.YtdkcociababjdaaPLeapLongx0
namespace Go.Proofs.Ytdkcociababjdaa.PLeapLong
open Go.RowKit Go.Proofs.YtdkcociababjdaaW.PrintWords Go.Proofs.YtdkcociababjdaaW.PrintLast Go.Proofs.YtdkcociababjdaaW.PrintMore
attribute [local go_sem] max2_int min2_int max_two min_two max_three min_three max_four min_four   -- for this text's walks alone
set_option linter.unusedVariables false
set_option linter.unusedSimpArgs false

attribute [local go_sem] isSome_put_
/-! ### leap_side: function 58 -/
mutual
def leap_side.j0 : Nat → Int → List (S75) → Bool → Option (Bool)
 | 0, _, _, _ => none
 | k + 1, x0, x1, x24 => if x24 = true then (some false) else (leap_side.l0 k x0 x1 x1 (x1.length : Int) 0)
def leap_side.l0 : Nat → Int → List (S75) → List (S75) → Int → Int → Option (Bool)
 | 0, _, _, _, _, _ => none
 | k + 1, x0, x1, x25, x26, x27 => if x27 < x26 then (if 0 ≤ x27 then (if x27 < (x25.length : Int) then (if ((rd_T75 x25 x27).f0) < 0 then (some false) else (if ((rd_T75 x25 x27).f0) ≥ x0 then (some false) else (if ((rd_T75 x25 x27).f1) < 1 then (some false) else (if ((rd_T75 x25 x27).f1) > 1152921504606846976 then (some false) else (if x27 > 0 then (if 0 ≤ (wrap64 (x27 - 1)) then (if (wrap64 (x27 - 1)) < (x1.length : Int) then (if ((rd_T75 x1 (wrap64 (x27 - 1))).f0) = ((rd_T75 x25 x27).f0) then (some false) else (leap_side.l0 k x0 x1 x25 x26 (wrap64 (x27 + 1)))) else (none)) else (none)) else (leap_side.l0 k x0 x1 x25 x26 (wrap64 (x27 + 1)))))))) else (none)) else (none)) else (some true)
end
def leap_side.f (k : Nat) (a0 : Int) (l1 : List (S75)) : Option (Bool) := if (l1.length : Int) > 2000 then (leap_side.j0 k a0 l1 true) else (if (l1.length : Int) > 0 then (if 0 ≤ (wrap64 ((l1.length : Int) - 1)) then (if (wrap64 ((l1.length : Int) - 1)) < (l1.length : Int) then (leap_side.j0 k a0 l1 (((rd_T75 l1 (wrap64 ((l1.length : Int) - 1))).f0) == 0)) else (none)) else (none)) else (leap_side.j0 k a0 l1 false))
theorem leap_side.mono_l : ∀ k, (∀ y0 y1 y2, LeO (leap_side.j0 k y0 y1 y2) (leap_side.j0 (k + 1) y0 y1 y2)) ∧ (∀ y0 y1 y2 y3 y4, LeO (leap_side.l0 k y0 y1 y2 y3 y4) (leap_side.l0 (k + 1) y0 y1 y2 y3 y4))
 | 0 => ⟨fun _ _ _ r h => by simp [leap_side.j0] at h, fun _ _ _ _ _ r h => by simp [leap_side.l0] at h⟩
 | k + 1 => by
  obtain ⟨ih0, ih1⟩ := leap_side.mono_l k
  refine ⟨?_, ?_⟩
  ·intro y0 y1 y2
   unfold leap_side.j0
   repeat' first
   | (with_reducible exact ih0 _ _ _)
   | (with_reducible exact ih1 _ _ _ _ _)
   | (with_reducible exact LeO.refl _)
   | (with_reducible exact LeO.none _)
   | (with_reducible refine LeO.ite ?_ ?_)
   | (with_reducible refine LeO.bind ?_ (fun _ => ?_))
   | exact ih0 _ _ _
   | exact ih1 _ _ _ _ _
   | exact LeO.none _
   | refine LeO.ite ?_ ?_
   | refine LeO.bind ?_ (fun _ => ?_)
  ·intro y0 y1 y2 y3 y4
   unfold leap_side.l0
   repeat' first
   | (with_reducible exact ih0 _ _ _)
   | (with_reducible exact ih1 _ _ _ _ _)
   | (with_reducible exact LeO.refl _)
   | (with_reducible exact LeO.none _)
   | (with_reducible refine LeO.ite ?_ ?_)
   | (with_reducible refine LeO.bind ?_ (fun _ => ?_))
   | exact ih0 _ _ _
   | exact ih1 _ _ _ _ _
   | exact LeO.none _
   | refine LeO.ite ?_ ?_
   | refine LeO.bind ?_ (fun _ => ?_)
theorem leap_side.mono : ∀ a0 a1 k, LeO (leap_side.f k a0 a1) (leap_side.f (k + 1) a0 a1) := by
 intro a0 a1 k
 obtain ⟨ih0, ih1⟩ := leap_side.mono_l k
 unfold leap_side.f
 repeat' first
   | (with_reducible exact ih0 _ _ _)
   | (with_reducible exact ih1 _ _ _ _ _)
   | (with_reducible exact LeO.refl _)
   | (with_reducible exact LeO.none _)
   | (with_reducible refine LeO.ite ?_ ?_)
   | (with_reducible refine LeO.bind ?_ (fun _ => ?_))
   | exact ih0 _ _ _
   | exact ih1 _ _ _ _ _
   | exact LeO.none _
   | refine LeO.ite ?_ ?_
   | refine LeO.bind ?_ (fun _ => ?_)
set_option maxHeartbeats 8000000 in
set_option maxRecDepth 100000 in
theorem leap_side.calls (k : Nat) (a0 : Int) (A1 : Option Addr) (c1 : Nat) (l1 : List (S75)) (r : Bool) (w : World) (hr1 : Kd.C k75 w A1 l1.length l1) (hc1 : l1.length ≤ c1) (h : leap_side.f k a0 l1 = some r) :
  Calls Try.prog 58 #[.int .i64 a0, .slice A1 l1.length c1] w fun e w' => e = .returned (.bool r) ∧ Below w.heap.size w w' := by
 have hu75 := Try.underlying75
 have HR1 := Aside0.mk hr1
 have HC1 := Aside0.mk hc1
 clear hr1 hc1
 have HB := A_ (Below.refl w.heap.size w)
 have H : (if (l1.length : Int) > 2000 then (leap_side.j0 k a0 l1 true) else (if (l1.length : Int) > 0 then (if 0 ≤ (wrap64 ((l1.length : Int) - 1)) then (if (wrap64 ((l1.length : Int) - 1)) < (l1.length : Int) then (leap_side.j0 k a0 l1 (((rd_T75 l1 (wrap64 ((l1.length : Int) - 1))).f0) == 0)) else (none)) else (none)) else (leap_side.j0 k a0 l1 false))) = some r := h
 clear h
 have HC3 := Aside0.mk H
 clear H
 go_enter Try.func58, Try.ntmps58
 go_upto_region 1 with (fail)
 repeat (go_quiet (fail); go_upto_region 1 with (fail))
 go_cut [24] (fun v24 wc => ∃ (kq : Nat) (x24_2 : Bool), v24 = .bool x24_2 ∧ Aside0 (leap_side.j0 kq a0 l1 x24_2 = some r) ∧ Aside0 (kq ≤ k) ∧ Aside0 (Below w.heap.size w wc))
 case first =>
  have H := HC3.out
  clear HC3
  by_cases c4 : (l1.length : Int) > 2000
  ·rw [if_pos c4] at H
   have c4b0 : decide (2000 < (l1.length : Int)) = true := decide_eq_true c4
   have c4b1 : decide (2000 < l1.length) = true := decide_eq_true (by omega)
   clear c4
   (first | rw [c4b0] | (simp only [i64_w, i32_w]; rw [c4b0]) | skip)
   have H' := Aside0.mk H
   clear H
   go_wp2
   repeat (go_quiet (fail); try go_wp2)
   go_meet
   case rel => exact ⟨_, (true), jr_, H', ⟨by first | omega | exact Nat.le_refl _⟩, ⟨bk_ HB.out⟩⟩
  ·rw [if_neg c4] at H
   have c4b0 : decide (2000 < (l1.length : Int)) = false := decide_eq_false c4
   have c4b1 : decide (2000 < l1.length) = false := decide_eq_false (by omega)
   clear c4
   (first | rw [c4b0] | (simp only [i64_w, i32_w]; rw [c4b0]) | skip)
   by_cases c5 : (l1.length : Int) > 0
   ·rw [if_pos c5] at H
    have c5b0 : decide (0 < (l1.length : Int)) = true := decide_eq_true c5
    have c5b1 : decide (0 < l1.length) = true := decide_eq_true (by omega)
    clear c5
    obtain ⟨ji6, hji6⟩ : ∃ j_ : Int, (wrap64 ((l1.length : Int) - 1)) = j_ := ⟨_, rfl⟩
    replace H : (if 0 ≤ (ji6) then (if (ji6) < (l1.length : Int) then (leap_side.j0 k a0 l1 (((rd_T75 l1 (ji6)).f0) == 0)) else (none)) else (none)) = some r := by first | (rw [hji6] at H; exact H) | (simp only [hji6] at H ⊢; exact H)
    have hji6w : (IntKind.i64.wrap ((l1.length : Int) - 1)) = ji6 := (i64_w _).trans hji6
    by_cases c7 : 0 ≤ (ji6)
    ·rw [if_pos c7] at H
     have c7b0 : decide (0 ≤ (ji6)) = true := decide_eq_true c7
     clear c7
     by_cases c8 : (ji6) < (l1.length : Int)
     ·rw [if_pos c8] at H
      have c8b0 : decide ((ji6) < (l1.length : Int)) = true := decide_eq_true c8
      clear c8
      have H' := Aside0.mk H
      clear H
      have p135 : 0 ≤ ((ji6) : Int) := od_
      have q135 : (ji6) < (l1.length : Int) := od_
      obtain ⟨ad135, e135, hx135_0, hx135_1⟩ := at_T75 HR1.out (ji6) p135 q135
      cases e135
      replace hx135_0 := lf_ HB.out hx135_0
      replace hx135_1 := lf_ HB.out hx135_1
      replace p135 := eq_true p135
      replace q135 := eq_true q135
      go_wp2
      repeat (go_quiet (fail); try go_wp2)
      go_meet
      case rel => exact ⟨_, ((((rd_T75 l1 (ji6)).f0) == 0)), (by first | rfl | (simp; done) | (simp only [← hji6] <;> (first | rfl | simp)) | (simp [*]; done)), H', ⟨by first | omega | exact Nat.le_refl _⟩, ⟨bk_ HB.out⟩⟩
     ·rw [if_neg c8] at H
      exact absurd H (by simp)
    ·rw [if_neg c7] at H
     exact absurd H (by simp)
   ·rw [if_neg c5] at H
    have c5b0 : decide (0 < (l1.length : Int)) = false := decide_eq_false c5
    have c5b1 : decide (0 < l1.length) = false := decide_eq_false (by omega)
    clear c5
    have H' := Aside0.mk H
    clear H
    go_wp2
    repeat (go_quiet (fail); try go_wp2)
    go_meet
    case rel => exact ⟨_, (false), jr_, H', ⟨by first | omega | exact Nat.le_refl _⟩, ⟨bk_ HB.out⟩⟩
 case rest =>
  clear HC3
  (try clear c1)
  obtain ⟨kq, x24_2, rfl, HA, HJ2, HB⟩ := hcut
  cases kq with
  | zero => exact absurd HA.out (by simp [leap_side.j0])
  | succ kj2 =>
   have H := HA.out
   clear HA
   simp only [leap_side.j0] at H
   by_cases c9 : x24_2 = true
   ·subst c9
    have H1 : (some false) = some r := by rw [if_pos rfl] at H; exact H
    clear H
    have H := H1
    clear H1
    obtain rfl := Option.some.inj H
    go_wp2
    repeat (go_quiet (fail); try go_wp2)
    go_ret
    exact ⟨er_, bk_ HB.out⟩
   ·replace c9 := Bool.eq_false_iff.mpr c9
    subst c9
    have H1 : (leap_side.l0 kj2 a0 l1 l1 (l1.length : Int) 0) = some r := by rw [if_neg (show ¬ (false = true) by decide)] at H; exact H
    clear H
    have H := H1
    clear H1
    have H' := Aside0.mk H
    clear H
    go_wp2
    repeat (go_quiet (fail); try go_wp2)
    go_loopg [27] kj2 (fun kq v27 w' => ∃ (x27_2 : Int), v27 = .int .i64 x27_2 ∧ Aside0 (leap_side.l0 kq a0 l1 l1 (l1.length : Int) x27_2 = some r) ∧ Aside0 (kq ≤ kj2) ∧ Aside0 (Below w.heap.size w w'))
    case atStart => exact ⟨(0), jr_, H', ⟨Nat.le_refl _⟩, ⟨bk_ HB.out⟩⟩
    case round =>
     clear H'
     (try clear c1); (try clear c9)
     obtain ⟨x27_2, rfl, HA, HK2, HB⟩ := hrel
     cases gk with
     | zero => exact absurd HA.out (by simp [leap_side.l0])
     | succ k2 =>
      have H := HA.out
      clear HA
      simp only [leap_side.l0] at H
      by_cases c10 : x27_2 < (l1.length : Int)
      ·rw [if_pos c10] at H
       have c10b0 : decide (x27_2 < (l1.length : Int)) = true := decide_eq_true c10
       clear c10
       by_cases c11 : 0 ≤ x27_2
       ·rw [if_pos c11] at H
        have c11b0 : decide (0 ≤ x27_2) = true := decide_eq_true c11
        clear c11
        by_cases c12 : x27_2 < (l1.length : Int)
        ·rw [if_pos c12] at H
         have c12b0 : decide (x27_2 < (l1.length : Int)) = true := decide_eq_true c12
         clear c12
         by_cases c13 : ((rd_T75 l1 x27_2).f0) < 0
         ·rw [if_pos c13] at H
          have c13b0 : decide (((rd_T75 l1 x27_2).f0) < 0) = true := decide_eq_true c13
          clear c13
          obtain rfl := Option.some.inj H
          have p136 : 0 ≤ (x27_2 : Int) := od_
          have q136 : x27_2 < (l1.length : Int) := od_
          obtain ⟨ad136, e136, hx136_0, hx136_1⟩ := at_T75 HR1.out x27_2 p136 q136
          cases e136
          replace hx136_0 := lf_ HB.out hx136_0
          replace hx136_1 := lf_ HB.out hx136_1
          replace p136 := eq_true p136
          replace q136 := eq_true q136
          go_wp2_with (first | ((with_reducible refine gate_dst (N := 6) rfl ?_); (try (refine gate_guard (by rfl) ?_; dsimp only)); refine box_event ?hg (N := 6) ?hd (cs := #[.int .i64 0, .int .i64 0]) (t := 75) ?hr ?_; (case hd => rfl); (case hg => rfl); (case hr => first | (go_simp; done) | (go_simp; rfl)); intro gb137 hg w14 hbox hb; have n0_ := A_ (below_step (bk_ HB.out) hb); have n1_ := A_ (hbox); have n2_ := A_ (bz_ hg (bk_ HB.out)); have n3_ := A_ (bz_ hg (bk_ HB.out)); clear HB; have HB := n0_; have BK137 := n1_; have GW137 := n2_; have GE137 := n3_; clear n0_ n1_ n2_ n3_ hb hbox hg; obtain ⟨hcz15_0, hcz15_1⟩ := bc2_ BK137.out; have hfz15_0 := blk_frozen BK137.out 0; have hfz15_1 := blk_frozen BK137.out 1))
          repeat (go_quiet (first | ((with_reducible refine gate_dst (N := 6) rfl ?_); (try (refine gate_guard (by rfl) ?_; dsimp only)); refine box_event ?hg (N := 6) ?hd (cs := #[.int .i64 0, .int .i64 0]) (t := 75) ?hr ?_; (case hd => rfl); (case hg => rfl); (case hr => first | (go_simp; done) | (go_simp; rfl)); intro gb137 hg w14 hbox hb; have n0_ := A_ (below_step (bk_ HB.out) hb); have n1_ := A_ (hbox); have n2_ := A_ (bz_ hg (bk_ HB.out)); have n3_ := A_ (bz_ hg (bk_ HB.out)); clear HB; have HB := n0_; have BK137 := n1_; have GW137 := n2_; have GE137 := n3_; clear n0_ n1_ n2_ n3_ hb hbox hg; obtain ⟨hcz15_0, hcz15_1⟩ := bc2_ BK137.out; have hfz15_0 := blk_frozen BK137.out 0; have hfz15_1 := blk_frozen BK137.out 1)); try go_wp2_with (first | ((with_reducible refine gate_dst (N := 6) rfl ?_); (try (refine gate_guard (by rfl) ?_; dsimp only)); refine box_event ?hg (N := 6) ?hd (cs := #[.int .i64 0, .int .i64 0]) (t := 75) ?hr ?_; (case hd => rfl); (case hg => rfl); (case hr => first | (go_simp; done) | (go_simp; rfl)); intro gb137 hg w14 hbox hb; have n0_ := A_ (below_step (bk_ HB.out) hb); have n1_ := A_ (hbox); have n2_ := A_ (bz_ hg (bk_ HB.out)); have n3_ := A_ (bz_ hg (bk_ HB.out)); clear HB; have HB := n0_; have BK137 := n1_; have GW137 := n2_; have GE137 := n3_; clear n0_ n1_ n2_ n3_ hb hbox hg; obtain ⟨hcz15_0, hcz15_1⟩ := bc2_ BK137.out; have hfz15_0 := blk_frozen BK137.out 0; have hfz15_1 := blk_frozen BK137.out 1)))
          go_ret
          exact ⟨er_, bk_ HB.out⟩
         ·rw [if_neg c13] at H
          have c13b0 : decide (((rd_T75 l1 x27_2).f0) < 0) = false := decide_eq_false c13
          clear c13
          by_cases c16 : ((rd_T75 l1 x27_2).f0) ≥ a0
          ·rw [if_pos c16] at H
           have c16b0 : decide (a0 ≤ ((rd_T75 l1 x27_2).f0)) = true := decide_eq_true c16
           clear c16
           obtain rfl := Option.some.inj H
           have p136 : 0 ≤ (x27_2 : Int) := od_
           have q136 : x27_2 < (l1.length : Int) := od_
           obtain ⟨ad136, e136, hx136_0, hx136_1⟩ := at_T75 HR1.out x27_2 p136 q136
           cases e136
           replace hx136_0 := lf_ HB.out hx136_0
           replace hx136_1 := lf_ HB.out hx136_1
           replace p136 := eq_true p136
           replace q136 := eq_true q136
           go_wp2_with (first | ((with_reducible refine gate_dst (N := 6) rfl ?_); (try (refine gate_guard (by rfl) ?_; dsimp only)); refine box_event ?hg (N := 6) ?hd (cs := #[.int .i64 0, .int .i64 0]) (t := 75) ?hr ?_; (case hd => rfl); (case hg => rfl); (case hr => first | (go_simp; done) | (go_simp; rfl)); intro gb137 hg w17 hbox hb; have n0_ := A_ (below_step (bk_ HB.out) hb); have n1_ := A_ (hbox); have n2_ := A_ (bz_ hg (bk_ HB.out)); have n3_ := A_ (bz_ hg (bk_ HB.out)); clear HB; have HB := n0_; have BK137 := n1_; have GW137 := n2_; have GE137 := n3_; clear n0_ n1_ n2_ n3_ hb hbox hg; obtain ⟨hcz18_0, hcz18_1⟩ := bc2_ BK137.out; have hfz18_0 := blk_frozen BK137.out 0; have hfz18_1 := blk_frozen BK137.out 1))
           repeat (go_quiet (first | ((with_reducible refine gate_dst (N := 6) rfl ?_); (try (refine gate_guard (by rfl) ?_; dsimp only)); refine box_event ?hg (N := 6) ?hd (cs := #[.int .i64 0, .int .i64 0]) (t := 75) ?hr ?_; (case hd => rfl); (case hg => rfl); (case hr => first | (go_simp; done) | (go_simp; rfl)); intro gb137 hg w17 hbox hb; have n0_ := A_ (below_step (bk_ HB.out) hb); have n1_ := A_ (hbox); have n2_ := A_ (bz_ hg (bk_ HB.out)); have n3_ := A_ (bz_ hg (bk_ HB.out)); clear HB; have HB := n0_; have BK137 := n1_; have GW137 := n2_; have GE137 := n3_; clear n0_ n1_ n2_ n3_ hb hbox hg; obtain ⟨hcz18_0, hcz18_1⟩ := bc2_ BK137.out; have hfz18_0 := blk_frozen BK137.out 0; have hfz18_1 := blk_frozen BK137.out 1)); try go_wp2_with (first | ((with_reducible refine gate_dst (N := 6) rfl ?_); (try (refine gate_guard (by rfl) ?_; dsimp only)); refine box_event ?hg (N := 6) ?hd (cs := #[.int .i64 0, .int .i64 0]) (t := 75) ?hr ?_; (case hd => rfl); (case hg => rfl); (case hr => first | (go_simp; done) | (go_simp; rfl)); intro gb137 hg w17 hbox hb; have n0_ := A_ (below_step (bk_ HB.out) hb); have n1_ := A_ (hbox); have n2_ := A_ (bz_ hg (bk_ HB.out)); have n3_ := A_ (bz_ hg (bk_ HB.out)); clear HB; have HB := n0_; have BK137 := n1_; have GW137 := n2_; have GE137 := n3_; clear n0_ n1_ n2_ n3_ hb hbox hg; obtain ⟨hcz18_0, hcz18_1⟩ := bc2_ BK137.out; have hfz18_0 := blk_frozen BK137.out 0; have hfz18_1 := blk_frozen BK137.out 1)))
           go_ret
           exact ⟨er_, bk_ HB.out⟩
          ·rw [if_neg c16] at H
           have c16b0 : decide (a0 ≤ ((rd_T75 l1 x27_2).f0)) = false := decide_eq_false c16
           clear c16
           by_cases c19 : ((rd_T75 l1 x27_2).f1) < 1
           ·rw [if_pos c19] at H
            have c19b0 : decide (((rd_T75 l1 x27_2).f1) < 1) = true := decide_eq_true c19
            clear c19
            obtain rfl := Option.some.inj H
            have p136 : 0 ≤ (x27_2 : Int) := od_
            have q136 : x27_2 < (l1.length : Int) := od_
            obtain ⟨ad136, e136, hx136_0, hx136_1⟩ := at_T75 HR1.out x27_2 p136 q136
            cases e136
            replace hx136_0 := lf_ HB.out hx136_0
            replace hx136_1 := lf_ HB.out hx136_1
            replace p136 := eq_true p136
            replace q136 := eq_true q136
            go_wp2_with (first | ((with_reducible refine gate_dst (N := 6) rfl ?_); (try (refine gate_guard (by rfl) ?_; dsimp only)); refine box_event ?hg (N := 6) ?hd (cs := #[.int .i64 0, .int .i64 0]) (t := 75) ?hr ?_; (case hd => rfl); (case hg => rfl); (case hr => first | (go_simp; done) | (go_simp; rfl)); intro gb137 hg w20 hbox hb; have n0_ := A_ (below_step (bk_ HB.out) hb); have n1_ := A_ (hbox); have n2_ := A_ (bz_ hg (bk_ HB.out)); have n3_ := A_ (bz_ hg (bk_ HB.out)); clear HB; have HB := n0_; have BK137 := n1_; have GW137 := n2_; have GE137 := n3_; clear n0_ n1_ n2_ n3_ hb hbox hg; obtain ⟨hcz21_0, hcz21_1⟩ := bc2_ BK137.out; have hfz21_0 := blk_frozen BK137.out 0; have hfz21_1 := blk_frozen BK137.out 1))
            repeat (go_quiet (first | ((with_reducible refine gate_dst (N := 6) rfl ?_); (try (refine gate_guard (by rfl) ?_; dsimp only)); refine box_event ?hg (N := 6) ?hd (cs := #[.int .i64 0, .int .i64 0]) (t := 75) ?hr ?_; (case hd => rfl); (case hg => rfl); (case hr => first | (go_simp; done) | (go_simp; rfl)); intro gb137 hg w20 hbox hb; have n0_ := A_ (below_step (bk_ HB.out) hb); have n1_ := A_ (hbox); have n2_ := A_ (bz_ hg (bk_ HB.out)); have n3_ := A_ (bz_ hg (bk_ HB.out)); clear HB; have HB := n0_; have BK137 := n1_; have GW137 := n2_; have GE137 := n3_; clear n0_ n1_ n2_ n3_ hb hbox hg; obtain ⟨hcz21_0, hcz21_1⟩ := bc2_ BK137.out; have hfz21_0 := blk_frozen BK137.out 0; have hfz21_1 := blk_frozen BK137.out 1)); try go_wp2_with (first | ((with_reducible refine gate_dst (N := 6) rfl ?_); (try (refine gate_guard (by rfl) ?_; dsimp only)); refine box_event ?hg (N := 6) ?hd (cs := #[.int .i64 0, .int .i64 0]) (t := 75) ?hr ?_; (case hd => rfl); (case hg => rfl); (case hr => first | (go_simp; done) | (go_simp; rfl)); intro gb137 hg w20 hbox hb; have n0_ := A_ (below_step (bk_ HB.out) hb); have n1_ := A_ (hbox); have n2_ := A_ (bz_ hg (bk_ HB.out)); have n3_ := A_ (bz_ hg (bk_ HB.out)); clear HB; have HB := n0_; have BK137 := n1_; have GW137 := n2_; have GE137 := n3_; clear n0_ n1_ n2_ n3_ hb hbox hg; obtain ⟨hcz21_0, hcz21_1⟩ := bc2_ BK137.out; have hfz21_0 := blk_frozen BK137.out 0; have hfz21_1 := blk_frozen BK137.out 1)))
            go_ret
            exact ⟨er_, bk_ HB.out⟩
           ·rw [if_neg c19] at H
            have c19b0 : decide (((rd_T75 l1 x27_2).f1) < 1) = false := decide_eq_false c19
            clear c19
            by_cases c22 : ((rd_T75 l1 x27_2).f1) > 1152921504606846976
            ·rw [if_pos c22] at H
             have c22b0 : decide (1152921504606846976 < ((rd_T75 l1 x27_2).f1)) = true := decide_eq_true c22
             clear c22
             obtain rfl := Option.some.inj H
             have p136 : 0 ≤ (x27_2 : Int) := od_
             have q136 : x27_2 < (l1.length : Int) := od_
             obtain ⟨ad136, e136, hx136_0, hx136_1⟩ := at_T75 HR1.out x27_2 p136 q136
             cases e136
             replace hx136_0 := lf_ HB.out hx136_0
             replace hx136_1 := lf_ HB.out hx136_1
             replace p136 := eq_true p136
             replace q136 := eq_true q136
             go_wp2_with (first | ((with_reducible refine gate_dst (N := 6) rfl ?_); (try (refine gate_guard (by rfl) ?_; dsimp only)); refine box_event ?hg (N := 6) ?hd (cs := #[.int .i64 0, .int .i64 0]) (t := 75) ?hr ?_; (case hd => rfl); (case hg => rfl); (case hr => first | (go_simp; done) | (go_simp; rfl)); intro gb137 hg w23 hbox hb; have n0_ := A_ (below_step (bk_ HB.out) hb); have n1_ := A_ (hbox); have n2_ := A_ (bz_ hg (bk_ HB.out)); have n3_ := A_ (bz_ hg (bk_ HB.out)); clear HB; have HB := n0_; have BK137 := n1_; have GW137 := n2_; have GE137 := n3_; clear n0_ n1_ n2_ n3_ hb hbox hg; obtain ⟨hcz24_0, hcz24_1⟩ := bc2_ BK137.out; have hfz24_0 := blk_frozen BK137.out 0; have hfz24_1 := blk_frozen BK137.out 1))
             repeat (go_quiet (first | ((with_reducible refine gate_dst (N := 6) rfl ?_); (try (refine gate_guard (by rfl) ?_; dsimp only)); refine box_event ?hg (N := 6) ?hd (cs := #[.int .i64 0, .int .i64 0]) (t := 75) ?hr ?_; (case hd => rfl); (case hg => rfl); (case hr => first | (go_simp; done) | (go_simp; rfl)); intro gb137 hg w23 hbox hb; have n0_ := A_ (below_step (bk_ HB.out) hb); have n1_ := A_ (hbox); have n2_ := A_ (bz_ hg (bk_ HB.out)); have n3_ := A_ (bz_ hg (bk_ HB.out)); clear HB; have HB := n0_; have BK137 := n1_; have GW137 := n2_; have GE137 := n3_; clear n0_ n1_ n2_ n3_ hb hbox hg; obtain ⟨hcz24_0, hcz24_1⟩ := bc2_ BK137.out; have hfz24_0 := blk_frozen BK137.out 0; have hfz24_1 := blk_frozen BK137.out 1)); try go_wp2_with (first | ((with_reducible refine gate_dst (N := 6) rfl ?_); (try (refine gate_guard (by rfl) ?_; dsimp only)); refine box_event ?hg (N := 6) ?hd (cs := #[.int .i64 0, .int .i64 0]) (t := 75) ?hr ?_; (case hd => rfl); (case hg => rfl); (case hr => first | (go_simp; done) | (go_simp; rfl)); intro gb137 hg w23 hbox hb; have n0_ := A_ (below_step (bk_ HB.out) hb); have n1_ := A_ (hbox); have n2_ := A_ (bz_ hg (bk_ HB.out)); have n3_ := A_ (bz_ hg (bk_ HB.out)); clear HB; have HB := n0_; have BK137 := n1_; have GW137 := n2_; have GE137 := n3_; clear n0_ n1_ n2_ n3_ hb hbox hg; obtain ⟨hcz24_0, hcz24_1⟩ := bc2_ BK137.out; have hfz24_0 := blk_frozen BK137.out 0; have hfz24_1 := blk_frozen BK137.out 1)))
             go_ret
             exact ⟨er_, bk_ HB.out⟩
            ·rw [if_neg c22] at H
             have c22b0 : decide (1152921504606846976 < ((rd_T75 l1 x27_2).f1)) = false := decide_eq_false c22
             clear c22
             by_cases c25 : x27_2 > 0
             ·rw [if_pos c25] at H
              have c25b0 : decide (0 < x27_2) = true := decide_eq_true c25
              clear c25
              obtain ⟨ji26, hji26⟩ : ∃ j_ : Int, (wrap64 (x27_2 - 1)) = j_ := ⟨_, rfl⟩
              replace H : (if 0 ≤ (ji26) then (if (ji26) < (l1.length : Int) then (if ((rd_T75 l1 (ji26)).f0) = ((rd_T75 l1 x27_2).f0) then (some false) else (leap_side.l0 k2 a0 l1 l1 (l1.length : Int) (wrap64 (x27_2 + 1)))) else (none)) else (none)) = some r := by first | (rw [hji26] at H; exact H) | (simp only [hji26] at H ⊢; exact H)
              have hji26w : (IntKind.i64.wrap (x27_2 - 1)) = ji26 := (i64_w _).trans hji26
              by_cases c27 : 0 ≤ (ji26)
              ·rw [if_pos c27] at H
               have c27b0 : decide (0 ≤ (ji26)) = true := decide_eq_true c27
               clear c27
               by_cases c28 : (ji26) < (l1.length : Int)
               ·rw [if_pos c28] at H
                have c28b0 : decide ((ji26) < (l1.length : Int)) = true := decide_eq_true c28
                clear c28
                by_cases c29 : ((rd_T75 l1 (ji26)).f0) = ((rd_T75 l1 x27_2).f0)
                ·rw [if_pos c29] at H
                 have c29b0 : (((rd_T75 l1 (ji26)).f0) == ((rd_T75 l1 x27_2).f0)) = true := beq_iff_eq.mpr c29
                 have c29b1 : (((rd_T75 l1 (ji26)).f0) != ((rd_T75 l1 x27_2).f0)) = false := bne_eq_false_iff_eq.mpr c29
                 clear c29
                 obtain rfl := Option.some.inj H
                 have p136 : 0 ≤ (x27_2 : Int) := od_
                 have q136 : x27_2 < (l1.length : Int) := od_
                 obtain ⟨ad136, e136, hx136_0, hx136_1⟩ := at_T75 HR1.out x27_2 p136 q136
                 cases e136
                 replace hx136_0 := lf_ HB.out hx136_0
                 replace hx136_1 := lf_ HB.out hx136_1
                 replace p136 := eq_true p136
                 replace q136 := eq_true q136
                 go_wp2_with (first | ((with_reducible refine gate_dst (N := 6) rfl ?_); (try (refine gate_guard (by rfl) ?_; dsimp only)); refine box_event ?hg (N := 6) ?hd (cs := #[.int .i64 0, .int .i64 0]) (t := 75) ?hr ?_; (case hd => rfl); (case hg => rfl); (case hr => first | (go_simp; done) | (go_simp; rfl)); intro gb137 hg w30 hbox hb; have n0_ := A_ (below_step (bk_ HB.out) hb); have n1_ := A_ (hbox); have n2_ := A_ (bz_ hg (bk_ HB.out)); have n3_ := A_ (bz_ hg (bk_ HB.out)); clear HB; have HB := n0_; have BK137 := n1_; have GW137 := n2_; have GE137 := n3_; clear n0_ n1_ n2_ n3_ hb hbox hg; obtain ⟨hcz31_0, hcz31_1⟩ := bc2_ BK137.out; have hfz31_0 := blk_frozen BK137.out 0; have hfz31_1 := blk_frozen BK137.out 1; have p138 : 0 ≤ ((ji26) : Int) := od_; have q138 : (ji26) < (l1.length : Int) := od_; obtain ⟨ad138, e138, hx138_0, hx138_1⟩ := at_T75 HR1.out (ji26) p138 q138; obtain rfl : ad136 = ad138 := (by injection e138); have hn138_0 : ad136.block ≠ gb137 := Nat.ne_of_lt (Nat.lt_of_lt_of_le (by have := World.block_lt_of_cell? _ _ hx138_0; first | rwa [add_block] at this | exact this) GW137.out); have hn138_1 : ad136.block ≠ gb137 := Nat.ne_of_lt (Nat.lt_of_lt_of_le (by have := World.block_lt_of_cell? _ _ hx138_0; first | rwa [add_block] at this | exact this) GW137.out); replace hx138_0 := lf_ HB.out hx138_0; replace hx138_1 := lf_ HB.out hx138_1; replace hx138_0 := (cell_far (p := ⟨gb137, 0, none⟩) (by first | (rw [add_block]; exact hn138_0) | (show (Addr.add _ _).block ≠ _; rw [add_block]; exact hn138_0) | exact hn138_0) (.int .i64 ((rd_T75 l1 x27_2).f0))).trans hx138_0; replace hx138_1 := (cell_far (p := ⟨gb137, 0, none⟩) (by first | (rw [add_block]; exact hn138_0) | (show (Addr.add _ _).block ≠ _; rw [add_block]; exact hn138_0) | exact hn138_0) (.int .i64 ((rd_T75 l1 x27_2).f0))).trans hx138_1; replace hx138_0 := (cell_far (p := ⟨gb137, 1, none⟩) (by first | (rw [add_block]; exact hn138_1) | (show (Addr.add _ _).block ≠ _; rw [add_block]; exact hn138_1) | exact hn138_1) (.int .i64 ((rd_T75 l1 x27_2).f1))).trans hx138_0; replace hx138_1 := (cell_far (p := ⟨gb137, 1, none⟩) (by first | (rw [add_block]; exact hn138_1) | (show (Addr.add _ _).block ≠ _; rw [add_block]; exact hn138_1) | exact hn138_1) (.int .i64 ((rd_T75 l1 x27_2).f1))).trans hx138_1; (try have hy138_0 := fun (n_ : Nat) => (show ((((w30.drewN n_).setCell ⟨gb137, 0, none⟩ (.int .i64 ((rd_T75 l1 x27_2).f0))).setCell ⟨gb137, 1, none⟩ (.int .i64 ((rd_T75 l1 x27_2).f1)))).cell? _ = some _ from hx138_0)); (try have hy138_1 := fun (n_ : Nat) => (show ((((w30.drewN n_).setCell ⟨gb137, 0, none⟩ (.int .i64 ((rd_T75 l1 x27_2).f0))).setCell ⟨gb137, 1, none⟩ (.int .i64 ((rd_T75 l1 x27_2).f1)))).cell? _ = some _ from hx138_1)); clear hn138_0 hn138_1; replace p138 := eq_true p138; replace q138 := eq_true q138))
                 repeat (go_quiet (first | ((with_reducible refine gate_dst (N := 6) rfl ?_); (try (refine gate_guard (by rfl) ?_; dsimp only)); refine box_event ?hg (N := 6) ?hd (cs := #[.int .i64 0, .int .i64 0]) (t := 75) ?hr ?_; (case hd => rfl); (case hg => rfl); (case hr => first | (go_simp; done) | (go_simp; rfl)); intro gb137 hg w30 hbox hb; have n0_ := A_ (below_step (bk_ HB.out) hb); have n1_ := A_ (hbox); have n2_ := A_ (bz_ hg (bk_ HB.out)); have n3_ := A_ (bz_ hg (bk_ HB.out)); clear HB; have HB := n0_; have BK137 := n1_; have GW137 := n2_; have GE137 := n3_; clear n0_ n1_ n2_ n3_ hb hbox hg; obtain ⟨hcz31_0, hcz31_1⟩ := bc2_ BK137.out; have hfz31_0 := blk_frozen BK137.out 0; have hfz31_1 := blk_frozen BK137.out 1; have p138 : 0 ≤ ((ji26) : Int) := od_; have q138 : (ji26) < (l1.length : Int) := od_; obtain ⟨ad138, e138, hx138_0, hx138_1⟩ := at_T75 HR1.out (ji26) p138 q138; obtain rfl : ad136 = ad138 := (by injection e138); have hn138_0 : ad136.block ≠ gb137 := Nat.ne_of_lt (Nat.lt_of_lt_of_le (by have := World.block_lt_of_cell? _ _ hx138_0; first | rwa [add_block] at this | exact this) GW137.out); have hn138_1 : ad136.block ≠ gb137 := Nat.ne_of_lt (Nat.lt_of_lt_of_le (by have := World.block_lt_of_cell? _ _ hx138_0; first | rwa [add_block] at this | exact this) GW137.out); replace hx138_0 := lf_ HB.out hx138_0; replace hx138_1 := lf_ HB.out hx138_1; replace hx138_0 := (cell_far (p := ⟨gb137, 0, none⟩) (by first | (rw [add_block]; exact hn138_0) | (show (Addr.add _ _).block ≠ _; rw [add_block]; exact hn138_0) | exact hn138_0) (.int .i64 ((rd_T75 l1 x27_2).f0))).trans hx138_0; replace hx138_1 := (cell_far (p := ⟨gb137, 0, none⟩) (by first | (rw [add_block]; exact hn138_0) | (show (Addr.add _ _).block ≠ _; rw [add_block]; exact hn138_0) | exact hn138_0) (.int .i64 ((rd_T75 l1 x27_2).f0))).trans hx138_1; replace hx138_0 := (cell_far (p := ⟨gb137, 1, none⟩) (by first | (rw [add_block]; exact hn138_1) | (show (Addr.add _ _).block ≠ _; rw [add_block]; exact hn138_1) | exact hn138_1) (.int .i64 ((rd_T75 l1 x27_2).f1))).trans hx138_0; replace hx138_1 := (cell_far (p := ⟨gb137, 1, none⟩) (by first | (rw [add_block]; exact hn138_1) | (show (Addr.add _ _).block ≠ _; rw [add_block]; exact hn138_1) | exact hn138_1) (.int .i64 ((rd_T75 l1 x27_2).f1))).trans hx138_1; (try have hy138_0 := fun (n_ : Nat) => (show ((((w30.drewN n_).setCell ⟨gb137, 0, none⟩ (.int .i64 ((rd_T75 l1 x27_2).f0))).setCell ⟨gb137, 1, none⟩ (.int .i64 ((rd_T75 l1 x27_2).f1)))).cell? _ = some _ from hx138_0)); (try have hy138_1 := fun (n_ : Nat) => (show ((((w30.drewN n_).setCell ⟨gb137, 0, none⟩ (.int .i64 ((rd_T75 l1 x27_2).f0))).setCell ⟨gb137, 1, none⟩ (.int .i64 ((rd_T75 l1 x27_2).f1)))).cell? _ = some _ from hx138_1)); clear hn138_0 hn138_1; replace p138 := eq_true p138; replace q138 := eq_true q138)); try go_wp2_with (first | ((with_reducible refine gate_dst (N := 6) rfl ?_); (try (refine gate_guard (by rfl) ?_; dsimp only)); refine box_event ?hg (N := 6) ?hd (cs := #[.int .i64 0, .int .i64 0]) (t := 75) ?hr ?_; (case hd => rfl); (case hg => rfl); (case hr => first | (go_simp; done) | (go_simp; rfl)); intro gb137 hg w30 hbox hb; have n0_ := A_ (below_step (bk_ HB.out) hb); have n1_ := A_ (hbox); have n2_ := A_ (bz_ hg (bk_ HB.out)); have n3_ := A_ (bz_ hg (bk_ HB.out)); clear HB; have HB := n0_; have BK137 := n1_; have GW137 := n2_; have GE137 := n3_; clear n0_ n1_ n2_ n3_ hb hbox hg; obtain ⟨hcz31_0, hcz31_1⟩ := bc2_ BK137.out; have hfz31_0 := blk_frozen BK137.out 0; have hfz31_1 := blk_frozen BK137.out 1; have p138 : 0 ≤ ((ji26) : Int) := od_; have q138 : (ji26) < (l1.length : Int) := od_; obtain ⟨ad138, e138, hx138_0, hx138_1⟩ := at_T75 HR1.out (ji26) p138 q138; obtain rfl : ad136 = ad138 := (by injection e138); have hn138_0 : ad136.block ≠ gb137 := Nat.ne_of_lt (Nat.lt_of_lt_of_le (by have := World.block_lt_of_cell? _ _ hx138_0; first | rwa [add_block] at this | exact this) GW137.out); have hn138_1 : ad136.block ≠ gb137 := Nat.ne_of_lt (Nat.lt_of_lt_of_le (by have := World.block_lt_of_cell? _ _ hx138_0; first | rwa [add_block] at this | exact this) GW137.out); replace hx138_0 := lf_ HB.out hx138_0; replace hx138_1 := lf_ HB.out hx138_1; replace hx138_0 := (cell_far (p := ⟨gb137, 0, none⟩) (by first | (rw [add_block]; exact hn138_0) | (show (Addr.add _ _).block ≠ _; rw [add_block]; exact hn138_0) | exact hn138_0) (.int .i64 ((rd_T75 l1 x27_2).f0))).trans hx138_0; replace hx138_1 := (cell_far (p := ⟨gb137, 0, none⟩) (by first | (rw [add_block]; exact hn138_0) | (show (Addr.add _ _).block ≠ _; rw [add_block]; exact hn138_0) | exact hn138_0) (.int .i64 ((rd_T75 l1 x27_2).f0))).trans hx138_1; replace hx138_0 := (cell_far (p := ⟨gb137, 1, none⟩) (by first | (rw [add_block]; exact hn138_1) | (show (Addr.add _ _).block ≠ _; rw [add_block]; exact hn138_1) | exact hn138_1) (.int .i64 ((rd_T75 l1 x27_2).f1))).trans hx138_0; replace hx138_1 := (cell_far (p := ⟨gb137, 1, none⟩) (by first | (rw [add_block]; exact hn138_1) | (show (Addr.add _ _).block ≠ _; rw [add_block]; exact hn138_1) | exact hn138_1) (.int .i64 ((rd_T75 l1 x27_2).f1))).trans hx138_1; (try have hy138_0 := fun (n_ : Nat) => (show ((((w30.drewN n_).setCell ⟨gb137, 0, none⟩ (.int .i64 ((rd_T75 l1 x27_2).f0))).setCell ⟨gb137, 1, none⟩ (.int .i64 ((rd_T75 l1 x27_2).f1)))).cell? _ = some _ from hx138_0)); (try have hy138_1 := fun (n_ : Nat) => (show ((((w30.drewN n_).setCell ⟨gb137, 0, none⟩ (.int .i64 ((rd_T75 l1 x27_2).f0))).setCell ⟨gb137, 1, none⟩ (.int .i64 ((rd_T75 l1 x27_2).f1)))).cell? _ = some _ from hx138_1)); clear hn138_0 hn138_1; replace p138 := eq_true p138; replace q138 := eq_true q138)))
                 go_ret
                 exact ⟨by first | rfl | (simp [errW_none, errW_some] <;> rfl) | (simp only [← hji26]; first | rfl | (simp [errW_none, errW_some] <;> rfl)) | (simp [*, errW_none, errW_some] <;> rfl), bk_ HB.out⟩
                ·rw [if_neg c29] at H
                 have c29b0 : (((rd_T75 l1 (ji26)).f0) == ((rd_T75 l1 x27_2).f0)) = false := beq_eq_false_iff_ne.mpr c29
                 have c29b1 : (((rd_T75 l1 (ji26)).f0) != ((rd_T75 l1 x27_2).f0)) = true := bne_iff_ne.mpr c29
                 have H' := Aside0.mk H
                 clear H
                 have p136 : 0 ≤ (x27_2 : Int) := od_
                 have q136 : x27_2 < (l1.length : Int) := od_
                 obtain ⟨ad136, e136, hx136_0, hx136_1⟩ := at_T75 HR1.out x27_2 p136 q136
                 cases e136
                 replace hx136_0 := lf_ HB.out hx136_0
                 replace hx136_1 := lf_ HB.out hx136_1
                 replace p136 := eq_true p136
                 replace q136 := eq_true q136
                 go_wp2_with (first | ((with_reducible refine gate_dst (N := 6) rfl ?_); (try (refine gate_guard (by rfl) ?_; dsimp only)); refine box_event ?hg (N := 6) ?hd (cs := #[.int .i64 0, .int .i64 0]) (t := 75) ?hr ?_; (case hd => rfl); (case hg => rfl); (case hr => first | (go_simp; done) | (go_simp; rfl)); intro gb137 hg w32 hbox hb; have n0_ := A_ (below_step (bk_ HB.out) hb); have n1_ := A_ (hbox); have n2_ := A_ (bz_ hg (bk_ HB.out)); have n3_ := A_ (bz_ hg (bk_ HB.out)); clear HB; have HB := n0_; have BK137 := n1_; have GW137 := n2_; have GE137 := n3_; clear n0_ n1_ n2_ n3_ hb hbox hg; obtain ⟨hcz33_0, hcz33_1⟩ := bc2_ BK137.out; have hfz33_0 := blk_frozen BK137.out 0; have hfz33_1 := blk_frozen BK137.out 1; have p138 : 0 ≤ ((ji26) : Int) := od_; have q138 : (ji26) < (l1.length : Int) := od_; obtain ⟨ad138, e138, hx138_0, hx138_1⟩ := at_T75 HR1.out (ji26) p138 q138; obtain rfl : ad136 = ad138 := (by injection e138); have hn138_0 : ad136.block ≠ gb137 := Nat.ne_of_lt (Nat.lt_of_lt_of_le (by have := World.block_lt_of_cell? _ _ hx138_0; first | rwa [add_block] at this | exact this) GW137.out); have hn138_1 : ad136.block ≠ gb137 := Nat.ne_of_lt (Nat.lt_of_lt_of_le (by have := World.block_lt_of_cell? _ _ hx138_0; first | rwa [add_block] at this | exact this) GW137.out); replace hx138_0 := lf_ HB.out hx138_0; replace hx138_1 := lf_ HB.out hx138_1; replace hx138_0 := (cell_far (p := ⟨gb137, 0, none⟩) (by first | (rw [add_block]; exact hn138_0) | (show (Addr.add _ _).block ≠ _; rw [add_block]; exact hn138_0) | exact hn138_0) (.int .i64 ((rd_T75 l1 x27_2).f0))).trans hx138_0; replace hx138_1 := (cell_far (p := ⟨gb137, 0, none⟩) (by first | (rw [add_block]; exact hn138_0) | (show (Addr.add _ _).block ≠ _; rw [add_block]; exact hn138_0) | exact hn138_0) (.int .i64 ((rd_T75 l1 x27_2).f0))).trans hx138_1; replace hx138_0 := (cell_far (p := ⟨gb137, 1, none⟩) (by first | (rw [add_block]; exact hn138_1) | (show (Addr.add _ _).block ≠ _; rw [add_block]; exact hn138_1) | exact hn138_1) (.int .i64 ((rd_T75 l1 x27_2).f1))).trans hx138_0; replace hx138_1 := (cell_far (p := ⟨gb137, 1, none⟩) (by first | (rw [add_block]; exact hn138_1) | (show (Addr.add _ _).block ≠ _; rw [add_block]; exact hn138_1) | exact hn138_1) (.int .i64 ((rd_T75 l1 x27_2).f1))).trans hx138_1; (try have hy138_0 := fun (n_ : Nat) => (show ((((w32.drewN n_).setCell ⟨gb137, 0, none⟩ (.int .i64 ((rd_T75 l1 x27_2).f0))).setCell ⟨gb137, 1, none⟩ (.int .i64 ((rd_T75 l1 x27_2).f1)))).cell? _ = some _ from hx138_0)); (try have hy138_1 := fun (n_ : Nat) => (show ((((w32.drewN n_).setCell ⟨gb137, 0, none⟩ (.int .i64 ((rd_T75 l1 x27_2).f0))).setCell ⟨gb137, 1, none⟩ (.int .i64 ((rd_T75 l1 x27_2).f1)))).cell? _ = some _ from hx138_1)); clear hn138_0 hn138_1; replace p138 := eq_true p138; replace q138 := eq_true q138))
                 repeat (go_quiet (first | ((with_reducible refine gate_dst (N := 6) rfl ?_); (try (refine gate_guard (by rfl) ?_; dsimp only)); refine box_event ?hg (N := 6) ?hd (cs := #[.int .i64 0, .int .i64 0]) (t := 75) ?hr ?_; (case hd => rfl); (case hg => rfl); (case hr => first | (go_simp; done) | (go_simp; rfl)); intro gb137 hg w32 hbox hb; have n0_ := A_ (below_step (bk_ HB.out) hb); have n1_ := A_ (hbox); have n2_ := A_ (bz_ hg (bk_ HB.out)); have n3_ := A_ (bz_ hg (bk_ HB.out)); clear HB; have HB := n0_; have BK137 := n1_; have GW137 := n2_; have GE137 := n3_; clear n0_ n1_ n2_ n3_ hb hbox hg; obtain ⟨hcz33_0, hcz33_1⟩ := bc2_ BK137.out; have hfz33_0 := blk_frozen BK137.out 0; have hfz33_1 := blk_frozen BK137.out 1; have p138 : 0 ≤ ((ji26) : Int) := od_; have q138 : (ji26) < (l1.length : Int) := od_; obtain ⟨ad138, e138, hx138_0, hx138_1⟩ := at_T75 HR1.out (ji26) p138 q138; obtain rfl : ad136 = ad138 := (by injection e138); have hn138_0 : ad136.block ≠ gb137 := Nat.ne_of_lt (Nat.lt_of_lt_of_le (by have := World.block_lt_of_cell? _ _ hx138_0; first | rwa [add_block] at this | exact this) GW137.out); have hn138_1 : ad136.block ≠ gb137 := Nat.ne_of_lt (Nat.lt_of_lt_of_le (by have := World.block_lt_of_cell? _ _ hx138_0; first | rwa [add_block] at this | exact this) GW137.out); replace hx138_0 := lf_ HB.out hx138_0; replace hx138_1 := lf_ HB.out hx138_1; replace hx138_0 := (cell_far (p := ⟨gb137, 0, none⟩) (by first | (rw [add_block]; exact hn138_0) | (show (Addr.add _ _).block ≠ _; rw [add_block]; exact hn138_0) | exact hn138_0) (.int .i64 ((rd_T75 l1 x27_2).f0))).trans hx138_0; replace hx138_1 := (cell_far (p := ⟨gb137, 0, none⟩) (by first | (rw [add_block]; exact hn138_0) | (show (Addr.add _ _).block ≠ _; rw [add_block]; exact hn138_0) | exact hn138_0) (.int .i64 ((rd_T75 l1 x27_2).f0))).trans hx138_1; replace hx138_0 := (cell_far (p := ⟨gb137, 1, none⟩) (by first | (rw [add_block]; exact hn138_1) | (show (Addr.add _ _).block ≠ _; rw [add_block]; exact hn138_1) | exact hn138_1) (.int .i64 ((rd_T75 l1 x27_2).f1))).trans hx138_0; replace hx138_1 := (cell_far (p := ⟨gb137, 1, none⟩) (by first | (rw [add_block]; exact hn138_1) | (show (Addr.add _ _).block ≠ _; rw [add_block]; exact hn138_1) | exact hn138_1) (.int .i64 ((rd_T75 l1 x27_2).f1))).trans hx138_1; (try have hy138_0 := fun (n_ : Nat) => (show ((((w32.drewN n_).setCell ⟨gb137, 0, none⟩ (.int .i64 ((rd_T75 l1 x27_2).f0))).setCell ⟨gb137, 1, none⟩ (.int .i64 ((rd_T75 l1 x27_2).f1)))).cell? _ = some _ from hx138_0)); (try have hy138_1 := fun (n_ : Nat) => (show ((((w32.drewN n_).setCell ⟨gb137, 0, none⟩ (.int .i64 ((rd_T75 l1 x27_2).f0))).setCell ⟨gb137, 1, none⟩ (.int .i64 ((rd_T75 l1 x27_2).f1)))).cell? _ = some _ from hx138_1)); clear hn138_0 hn138_1; replace p138 := eq_true p138; replace q138 := eq_true q138)); try go_wp2_with (first | ((with_reducible refine gate_dst (N := 6) rfl ?_); (try (refine gate_guard (by rfl) ?_; dsimp only)); refine box_event ?hg (N := 6) ?hd (cs := #[.int .i64 0, .int .i64 0]) (t := 75) ?hr ?_; (case hd => rfl); (case hg => rfl); (case hr => first | (go_simp; done) | (go_simp; rfl)); intro gb137 hg w32 hbox hb; have n0_ := A_ (below_step (bk_ HB.out) hb); have n1_ := A_ (hbox); have n2_ := A_ (bz_ hg (bk_ HB.out)); have n3_ := A_ (bz_ hg (bk_ HB.out)); clear HB; have HB := n0_; have BK137 := n1_; have GW137 := n2_; have GE137 := n3_; clear n0_ n1_ n2_ n3_ hb hbox hg; obtain ⟨hcz33_0, hcz33_1⟩ := bc2_ BK137.out; have hfz33_0 := blk_frozen BK137.out 0; have hfz33_1 := blk_frozen BK137.out 1; have p138 : 0 ≤ ((ji26) : Int) := od_; have q138 : (ji26) < (l1.length : Int) := od_; obtain ⟨ad138, e138, hx138_0, hx138_1⟩ := at_T75 HR1.out (ji26) p138 q138; obtain rfl : ad136 = ad138 := (by injection e138); have hn138_0 : ad136.block ≠ gb137 := Nat.ne_of_lt (Nat.lt_of_lt_of_le (by have := World.block_lt_of_cell? _ _ hx138_0; first | rwa [add_block] at this | exact this) GW137.out); have hn138_1 : ad136.block ≠ gb137 := Nat.ne_of_lt (Nat.lt_of_lt_of_le (by have := World.block_lt_of_cell? _ _ hx138_0; first | rwa [add_block] at this | exact this) GW137.out); replace hx138_0 := lf_ HB.out hx138_0; replace hx138_1 := lf_ HB.out hx138_1; replace hx138_0 := (cell_far (p := ⟨gb137, 0, none⟩) (by first | (rw [add_block]; exact hn138_0) | (show (Addr.add _ _).block ≠ _; rw [add_block]; exact hn138_0) | exact hn138_0) (.int .i64 ((rd_T75 l1 x27_2).f0))).trans hx138_0; replace hx138_1 := (cell_far (p := ⟨gb137, 0, none⟩) (by first | (rw [add_block]; exact hn138_0) | (show (Addr.add _ _).block ≠ _; rw [add_block]; exact hn138_0) | exact hn138_0) (.int .i64 ((rd_T75 l1 x27_2).f0))).trans hx138_1; replace hx138_0 := (cell_far (p := ⟨gb137, 1, none⟩) (by first | (rw [add_block]; exact hn138_1) | (show (Addr.add _ _).block ≠ _; rw [add_block]; exact hn138_1) | exact hn138_1) (.int .i64 ((rd_T75 l1 x27_2).f1))).trans hx138_0; replace hx138_1 := (cell_far (p := ⟨gb137, 1, none⟩) (by first | (rw [add_block]; exact hn138_1) | (show (Addr.add _ _).block ≠ _; rw [add_block]; exact hn138_1) | exact hn138_1) (.int .i64 ((rd_T75 l1 x27_2).f1))).trans hx138_1; (try have hy138_0 := fun (n_ : Nat) => (show ((((w32.drewN n_).setCell ⟨gb137, 0, none⟩ (.int .i64 ((rd_T75 l1 x27_2).f0))).setCell ⟨gb137, 1, none⟩ (.int .i64 ((rd_T75 l1 x27_2).f1)))).cell? _ = some _ from hx138_0)); (try have hy138_1 := fun (n_ : Nat) => (show ((((w32.drewN n_).setCell ⟨gb137, 0, none⟩ (.int .i64 ((rd_T75 l1 x27_2).f0))).setCell ⟨gb137, 1, none⟩ (.int .i64 ((rd_T75 l1 x27_2).f1)))).cell? _ = some _ from hx138_1)); clear hn138_0 hn138_1; replace p138 := eq_true p138; replace q138 := eq_true q138)))
                 go_roundg k2
                 case measure => have := HJ2.out; have := HK2.out; omega
                 case rel => exact ⟨(wrap64 (x27_2 + 1)), jr_, H', ⟨by have := HJ2.out; have := HK2.out; omega⟩, ⟨bk_ HB.out⟩⟩
               ·rw [if_neg c28] at H
                exact absurd H (by simp)
              ·rw [if_neg c27] at H
               exact absurd H (by simp)
             ·rw [if_neg c25] at H
              have c25b0 : decide (0 < x27_2) = false := decide_eq_false c25
              clear c25
              have H' := Aside0.mk H
              clear H
              have p136 : 0 ≤ (x27_2 : Int) := od_
              have q136 : x27_2 < (l1.length : Int) := od_
              obtain ⟨ad136, e136, hx136_0, hx136_1⟩ := at_T75 HR1.out x27_2 p136 q136
              cases e136
              replace hx136_0 := lf_ HB.out hx136_0
              replace hx136_1 := lf_ HB.out hx136_1
              replace p136 := eq_true p136
              replace q136 := eq_true q136
              go_wp2_with (first | ((with_reducible refine gate_dst (N := 6) rfl ?_); (try (refine gate_guard (by rfl) ?_; dsimp only)); refine box_event ?hg (N := 6) ?hd (cs := #[.int .i64 0, .int .i64 0]) (t := 75) ?hr ?_; (case hd => rfl); (case hg => rfl); (case hr => first | (go_simp; done) | (go_simp; rfl)); intro gb137 hg w34 hbox hb; have n0_ := A_ (below_step (bk_ HB.out) hb); have n1_ := A_ (hbox); have n2_ := A_ (bz_ hg (bk_ HB.out)); have n3_ := A_ (bz_ hg (bk_ HB.out)); clear HB; have HB := n0_; have BK137 := n1_; have GW137 := n2_; have GE137 := n3_; clear n0_ n1_ n2_ n3_ hb hbox hg; obtain ⟨hcz35_0, hcz35_1⟩ := bc2_ BK137.out; have hfz35_0 := blk_frozen BK137.out 0; have hfz35_1 := blk_frozen BK137.out 1))
              repeat (go_quiet (first | ((with_reducible refine gate_dst (N := 6) rfl ?_); (try (refine gate_guard (by rfl) ?_; dsimp only)); refine box_event ?hg (N := 6) ?hd (cs := #[.int .i64 0, .int .i64 0]) (t := 75) ?hr ?_; (case hd => rfl); (case hg => rfl); (case hr => first | (go_simp; done) | (go_simp; rfl)); intro gb137 hg w34 hbox hb; have n0_ := A_ (below_step (bk_ HB.out) hb); have n1_ := A_ (hbox); have n2_ := A_ (bz_ hg (bk_ HB.out)); have n3_ := A_ (bz_ hg (bk_ HB.out)); clear HB; have HB := n0_; have BK137 := n1_; have GW137 := n2_; have GE137 := n3_; clear n0_ n1_ n2_ n3_ hb hbox hg; obtain ⟨hcz35_0, hcz35_1⟩ := bc2_ BK137.out; have hfz35_0 := blk_frozen BK137.out 0; have hfz35_1 := blk_frozen BK137.out 1)); try go_wp2_with (first | ((with_reducible refine gate_dst (N := 6) rfl ?_); (try (refine gate_guard (by rfl) ?_; dsimp only)); refine box_event ?hg (N := 6) ?hd (cs := #[.int .i64 0, .int .i64 0]) (t := 75) ?hr ?_; (case hd => rfl); (case hg => rfl); (case hr => first | (go_simp; done) | (go_simp; rfl)); intro gb137 hg w34 hbox hb; have n0_ := A_ (below_step (bk_ HB.out) hb); have n1_ := A_ (hbox); have n2_ := A_ (bz_ hg (bk_ HB.out)); have n3_ := A_ (bz_ hg (bk_ HB.out)); clear HB; have HB := n0_; have BK137 := n1_; have GW137 := n2_; have GE137 := n3_; clear n0_ n1_ n2_ n3_ hb hbox hg; obtain ⟨hcz35_0, hcz35_1⟩ := bc2_ BK137.out; have hfz35_0 := blk_frozen BK137.out 0; have hfz35_1 := blk_frozen BK137.out 1)))
              go_roundg k2
              case measure => have := HJ2.out; have := HK2.out; omega
              case rel => exact ⟨(wrap64 (x27_2 + 1)), jr_, H', ⟨by have := HJ2.out; have := HK2.out; omega⟩, ⟨bk_ HB.out⟩⟩
        ·rw [if_neg c12] at H
         exact absurd H (by simp)
       ·rw [if_neg c11] at H
        exact absurd H (by simp)
      ·rw [if_neg c10] at H
       have c10b0 : decide (x27_2 < (l1.length : Int)) = false := decide_eq_false c10
       clear c10
       obtain rfl := Option.some.inj H
       go_wp2
       repeat (go_quiet (fail); try go_wp2)
       go_ret
       exact ⟨er_, bk_ HB.out⟩

/-! ### leap_fits: function 35 -/
def leap_fits.j0 : Nat → Int → Bool → Int → Int → Int → List (S75) → List (S75) → Option (Bool)
 | 0, _, _, _, _, _, _, _ => none
 | k + 1, x1, x36, x140000, x140001, x140002, x140003, x140004 => if x36 = true then (some false) else ((leap_side.f k x1 x140003).bind fun t140 => (if t140 = true then ((leap_side.f k x1 x140004).bind fun t141 => (some t141)) else (some false)))
def leap_fits.f (k : Nat) (a0 : Int) (a1 : Int) (a2_0 : Int) (a2_1 : Int) (a2_2 : Int) (l2_3 : List (S75)) (l2_4 : List (S75)) : Option (Bool) := if a2_0 < (-1) then (leap_fits.j0 k a1 true a2_0 a2_1 a2_2 l2_3 l2_4) else (if a2_0 ≥ a0 then (leap_fits.j0 k a1 true a2_0 a2_1 a2_2 l2_3 l2_4) else (if a2_2 < 0 then (leap_fits.j0 k a1 true a2_0 a2_1 a2_2 l2_3 l2_4) else (if a2_2 ≥ a1 then (leap_fits.j0 k a1 true a2_0 a2_1 a2_2 l2_3 l2_4) else (if a2_1 < (-1152921504606846976) then (leap_fits.j0 k a1 true a2_0 a2_1 a2_2 l2_3 l2_4) else (leap_fits.j0 k a1 (decide (a2_1 > 1152921504606846976)) a2_0 a2_1 a2_2 l2_3 l2_4)))))
theorem leap_fits.mono_l : ∀ k, (∀ y0 y1 y2 y3 y4 y5 y6, LeO (leap_fits.j0 k y0 y1 y2 y3 y4 y5 y6) (leap_fits.j0 (k + 1) y0 y1 y2 y3 y4 y5 y6))
 | 0 => fun _ _ _ _ _ _ _ r h => by simp [leap_fits.j0] at h
 | k + 1 => by
  have ih0 := leap_fits.mono_l k
  ·intro y0 y1 y2 y3 y4 y5 y6
   unfold leap_fits.j0
   repeat' first
   | (with_reducible exact ih0 _ _ _ _ _ _ _)
   | (with_reducible exact leap_side.mono _ _ _)
   | (with_reducible exact LeO.refl _)
   | (with_reducible exact LeO.none _)
   | (with_reducible refine LeO.ite ?_ ?_)
   | (with_reducible refine LeO.bind ?_ (fun _ => ?_))
   | exact ih0 _ _ _ _ _ _ _
   | exact leap_side.mono _ _ _
   | exact LeO.none _
   | refine LeO.ite ?_ ?_
   | refine LeO.bind ?_ (fun _ => ?_)
theorem leap_fits.mono : ∀ a0 a1 a2 a3 a4 a5 a6 k, LeO (leap_fits.f k a0 a1 a2 a3 a4 a5 a6) (leap_fits.f (k + 1) a0 a1 a2 a3 a4 a5 a6) := by
 intro a0 a1 a2 a3 a4 a5 a6 k
 have ih0 := leap_fits.mono_l k
 unfold leap_fits.f
 repeat' first
   | (with_reducible exact ih0 _ _ _ _ _ _ _)
   | (with_reducible exact leap_side.mono _ _ _)
   | (with_reducible exact LeO.refl _)
   | (with_reducible exact LeO.none _)
   | (with_reducible refine LeO.ite ?_ ?_)
   | (with_reducible refine LeO.bind ?_ (fun _ => ?_))
   | exact ih0 _ _ _ _ _ _ _
   | exact leap_side.mono _ _ _
   | exact LeO.none _
   | refine LeO.ite ?_ ?_
   | refine LeO.bind ?_ (fun _ => ?_)
set_option maxHeartbeats 8000000 in
set_option maxRecDepth 100000 in
theorem leap_fits.calls (k : Nat) (a0 : Int) (a1 : Int) (a2_0 : Int) (a2_1 : Int) (a2_2 : Int) (A2_3 : Option Addr) (c2_3 : Nat) (l2_3 : List (S75)) (A2_4 : Option Addr) (c2_4 : Nat) (l2_4 : List (S75)) (r : Bool) (w : World) (hr2_3 : Kd.C k75 w A2_3 l2_3.length l2_3) (hc2_3 : l2_3.length ≤ c2_3) (hr2_4 : Kd.C k75 w A2_4 l2_4.length l2_4) (hc2_4 : l2_4.length ≤ c2_4) (h : leap_fits.f k a0 a1 a2_0 a2_1 a2_2 l2_3 l2_4 = some r) :
  Calls Try.prog 35 #[.int .i64 a0, .int .i64 a1, .agg #[.int .i64 a2_0, .int .i64 a2_1, .int .i64 a2_2, .slice A2_3 l2_3.length c2_3, .slice A2_4 l2_4.length c2_4]] w fun e w' => e = .returned (.bool r) ∧ Below w.heap.size w w' := by
 have hu27 := Try.underlying27
 have HR2_3 := Aside0.mk hr2_3
 have HC2_3 := Aside0.mk hc2_3
 clear hr2_3 hc2_3
 have HR2_4 := Aside0.mk hr2_4
 have HC2_4 := Aside0.mk hc2_4
 clear hr2_4 hc2_4
 have HB := A_ (Below.refl w.heap.size w)
 have H : (if a2_0 < (-1) then (leap_fits.j0 k a1 true a2_0 a2_1 a2_2 l2_3 l2_4) else (if a2_0 ≥ a0 then (leap_fits.j0 k a1 true a2_0 a2_1 a2_2 l2_3 l2_4) else (if a2_2 < 0 then (leap_fits.j0 k a1 true a2_0 a2_1 a2_2 l2_3 l2_4) else (if a2_2 ≥ a1 then (leap_fits.j0 k a1 true a2_0 a2_1 a2_2 l2_3 l2_4) else (if a2_1 < (-1152921504606846976) then (leap_fits.j0 k a1 true a2_0 a2_1 a2_2 l2_3 l2_4) else (leap_fits.j0 k a1 (decide (a2_1 > 1152921504606846976)) a2_0 a2_1 a2_2 l2_3 l2_4)))))) = some r := h
 clear h
 have HC4 := Aside0.mk H
 clear H
 go_enter Try.func35, Try.ntmps35
 go_upto_region 1 with (first | ((with_reducible refine gate_dst (N := 5) rfl ?_); refine box_event ?hg (N := 5) ?hd (cs := #[.int .i64 a2_0, .int .i64 a2_1, .int .i64 a2_2, .slice A2_3 l2_3.length c2_3, .slice A2_4 l2_4.length c2_4]) (t := 27) ?hr ?_; (case hd => rfl); (case hg => rfl); (case hr => first | (go_simp; done) | (go_simp; rfl)); intro gb139 hg w5 hbox hb; have n0_ := A_ (below_step (bk_ HB.out) hb); have n1_ := A_ (hbox); have n2_ := A_ (bz_ hg (bk_ HB.out)); have n3_ := A_ (bz_ hg (bk_ HB.out)); clear HB; have HB := n0_; have BK139 := n1_; have GW139 := n2_; have GE139 := n3_; clear n0_ n1_ n2_ n3_ hb hbox hg))
 (try simp only [Act.put, List.setIfInBounds_toArray, List.set_cons_zero, List.set_cons_succ])
 go_cut [36] (fun v36 wc => ∃ (kq : Nat) (x36_3 : Bool), v36 = .bool x36_3 ∧ Aside0 (leap_fits.j0 kq a1 x36_3 a2_0 a2_1 a2_2 l2_3 l2_4 = some r) ∧ Aside0 (kq ≤ k) ∧ Aside0 (wc.heap[gb139]? = some (.cells #[.int .i64 a2_0, .int .i64 a2_1, .int .i64 a2_2, (.slice A2_3 l2_3.length c2_3), (.slice A2_4 l2_4.length c2_4)] 27 (0, 0))) ∧ Aside0 (Below w.heap.size w wc))
 case first =>
  have H := HC4.out
  clear HC4
  by_cases c6 : a2_0 < (-1)
  ·rw [if_pos c6] at H
   have c6b0 : decide (a2_0 < (-1)) = true := decide_eq_true c6
   clear c6
   (first | rw [c6b0] | (simp only [i64_w, i32_w]; rw [c6b0]) | skip)
   have H' := Aside0.mk H
   clear H
   obtain ⟨hcz7_0, hcz7_1, hcz7_2, hcz7_3, hcz7_4⟩ := bc5_ BK139.out
   have hfz7_0 := blk_frozen BK139.out 0
   have hfz7_1 := blk_frozen BK139.out 1
   have hfz7_2 := blk_frozen BK139.out 2
   have hfz7_3 := blk_frozen BK139.out 3
   have hfz7_4 := blk_frozen BK139.out 4
   go_wp2
   go_meet
   case rel => exact ⟨_, (true), jr_, H', ⟨by first | omega | exact Nat.le_refl _⟩, ⟨pk_ BK139.out⟩, ⟨bk_ HB.out⟩⟩
  ·rw [if_neg c6] at H
   have c6b0 : decide (a2_0 < (-1)) = false := decide_eq_false c6
   clear c6
   (first | rw [c6b0] | (simp only [i64_w, i32_w]; rw [c6b0]) | skip)
   by_cases c8 : a2_0 ≥ a0
   ·rw [if_pos c8] at H
    have c8b0 : decide (a0 ≤ a2_0) = true := decide_eq_true c8
    clear c8
    have H' := Aside0.mk H
    clear H
    obtain ⟨hcz9_0, hcz9_1, hcz9_2, hcz9_3, hcz9_4⟩ := bc5_ BK139.out
    have hfz9_0 := blk_frozen BK139.out 0
    have hfz9_1 := blk_frozen BK139.out 1
    have hfz9_2 := blk_frozen BK139.out 2
    have hfz9_3 := blk_frozen BK139.out 3
    have hfz9_4 := blk_frozen BK139.out 4
    go_wp2
    go_meet
    case rel => exact ⟨_, (true), jr_, H', ⟨by first | omega | exact Nat.le_refl _⟩, ⟨pk_ BK139.out⟩, ⟨bk_ HB.out⟩⟩
   ·rw [if_neg c8] at H
    have c8b0 : decide (a0 ≤ a2_0) = false := decide_eq_false c8
    clear c8
    by_cases c10 : a2_2 < 0
    ·rw [if_pos c10] at H
     have c10b0 : decide (a2_2 < 0) = true := decide_eq_true c10
     clear c10
     have H' := Aside0.mk H
     clear H
     obtain ⟨hcz11_0, hcz11_1, hcz11_2, hcz11_3, hcz11_4⟩ := bc5_ BK139.out
     have hfz11_0 := blk_frozen BK139.out 0
     have hfz11_1 := blk_frozen BK139.out 1
     have hfz11_2 := blk_frozen BK139.out 2
     have hfz11_3 := blk_frozen BK139.out 3
     have hfz11_4 := blk_frozen BK139.out 4
     go_wp2
     go_meet
     case rel => exact ⟨_, (true), jr_, H', ⟨by first | omega | exact Nat.le_refl _⟩, ⟨pk_ BK139.out⟩, ⟨bk_ HB.out⟩⟩
    ·rw [if_neg c10] at H
     have c10b0 : decide (a2_2 < 0) = false := decide_eq_false c10
     clear c10
     by_cases c12 : a2_2 ≥ a1
     ·rw [if_pos c12] at H
      have c12b0 : decide (a1 ≤ a2_2) = true := decide_eq_true c12
      clear c12
      have H' := Aside0.mk H
      clear H
      obtain ⟨hcz13_0, hcz13_1, hcz13_2, hcz13_3, hcz13_4⟩ := bc5_ BK139.out
      have hfz13_0 := blk_frozen BK139.out 0
      have hfz13_1 := blk_frozen BK139.out 1
      have hfz13_2 := blk_frozen BK139.out 2
      have hfz13_3 := blk_frozen BK139.out 3
      have hfz13_4 := blk_frozen BK139.out 4
      go_wp2
      go_meet
      case rel => exact ⟨_, (true), jr_, H', ⟨by first | omega | exact Nat.le_refl _⟩, ⟨pk_ BK139.out⟩, ⟨bk_ HB.out⟩⟩
     ·rw [if_neg c12] at H
      have c12b0 : decide (a1 ≤ a2_2) = false := decide_eq_false c12
      clear c12
      by_cases c14 : a2_1 < (-1152921504606846976)
      ·rw [if_pos c14] at H
       have c14b0 : decide (a2_1 < (-1152921504606846976)) = true := decide_eq_true c14
       clear c14
       have H' := Aside0.mk H
       clear H
       obtain ⟨hcz15_0, hcz15_1, hcz15_2, hcz15_3, hcz15_4⟩ := bc5_ BK139.out
       have hfz15_0 := blk_frozen BK139.out 0
       have hfz15_1 := blk_frozen BK139.out 1
       have hfz15_2 := blk_frozen BK139.out 2
       have hfz15_3 := blk_frozen BK139.out 3
       have hfz15_4 := blk_frozen BK139.out 4
       go_wp2
       go_meet
       case rel => exact ⟨_, (true), jr_, H', ⟨by first | omega | exact Nat.le_refl _⟩, ⟨pk_ BK139.out⟩, ⟨bk_ HB.out⟩⟩
      ·rw [if_neg c14] at H
       have c14b0 : decide (a2_1 < (-1152921504606846976)) = false := decide_eq_false c14
       clear c14
       have H' := Aside0.mk H
       clear H
       obtain ⟨hcz16_0, hcz16_1, hcz16_2, hcz16_3, hcz16_4⟩ := bc5_ BK139.out
       have hfz16_0 := blk_frozen BK139.out 0
       have hfz16_1 := blk_frozen BK139.out 1
       have hfz16_2 := blk_frozen BK139.out 2
       have hfz16_3 := blk_frozen BK139.out 3
       have hfz16_4 := blk_frozen BK139.out 4
       go_wp2
       go_meet
       case rel => exact ⟨_, (decide (a2_1 > 1152921504606846976)), jr_, H', ⟨by first | omega | exact Nat.le_refl _⟩, ⟨pk_ BK139.out⟩, ⟨bk_ HB.out⟩⟩
 case rest =>
  clear HC4
  obtain ⟨kq, x36_3, rfl, HA, HJ3, BK139, HB⟩ := hcut
  cases kq with
  | zero => exact absurd HA.out (by simp [leap_fits.j0])
  | succ kj3 =>
   have H := HA.out
   clear HA
   simp only [leap_fits.j0] at H
   by_cases c17 : x36_3 = true
   ·subst c17
    have H1 : (some false) = some r := by rw [if_pos rfl] at H; exact H
    clear H
    have H := H1
    clear H1
    obtain rfl := Option.some.inj H
    go_wp2
    go_ret
    exact ⟨er_, bk_ HB.out⟩
   ·replace c17 := Bool.eq_false_iff.mpr c17
    subst c17
    have H1 : ((leap_side.f kj3 a1 l2_3).bind fun t140 => (if t140 = true then ((leap_side.f kj3 a1 l2_4).bind fun t141 => (some t141)) else (some false))) = some r := by rw [if_neg (show ¬ (false = true) by decide)] at H; exact H
    clear H
    have H := H1
    clear H1
    replace H := Option.bind_eq_some_iff.mp H
    obtain ⟨t140, A180, H⟩ := H
    replace H : (if t140 = true then ((leap_side.f kj3 a1 l2_4).bind fun t141 => (some t141)) else (some false)) = some r := H
    have A18 := Aside0.mk A180
    clear A180
    by_cases c19 : t140 = true
    ·subst c19
     have H1 : ((leap_side.f kj3 a1 l2_4).bind fun t141 => (some t141)) = some r := by rw [if_pos rfl] at H; exact H
     clear H
     have H := H1
     clear H1
     replace H := Option.bind_eq_some_iff.mp H
     obtain ⟨t141, A200, H⟩ := H
     replace H : (some t141) = some r := H
     have A20 := Aside0.mk A200
     clear A200
     obtain rfl := Option.some.inj H
     obtain ⟨hcz21_0, hcz21_1, hcz21_2, hcz21_3, hcz21_4⟩ := bc5_ BK139.out
     have hfz21_0 := blk_frozen BK139.out 0
     have hfz21_1 := blk_frozen BK139.out 1
     have hfz21_2 := blk_frozen BK139.out 2
     have hfz21_3 := blk_frozen BK139.out 3
     have hfz21_4 := blk_frozen BK139.out 4
     go_wp2_with (first | ((with_reducible refine gate_callee (f := 58) rfl ?_); refine goesL_ (some 40) rfl rfl Try.func58 (by kernel_rfl) rfl #[.int .i64 a1, .slice A2_3 l2_3.length c2_3] rfl gl_ ?_; (with_reducible refine (leap_side.calls kj3 a1 _ _ l2_3 true _ ?side1 ?side2 A18.out).mono ?_); (case side1 => exact ck_ (Kd.C_below HR2_3.out HB.out)); (case side2 => exact HC2_3.out); rintro e w22 ⟨rfl, hb⟩; refine ⟨_, rfl, ?_⟩; have n0_ := A_ (blk_below (pk_ BK139.out) hb); have n1_ := A_ (below_step (bk_ HB.out) hb); clear BK139 HB; have BK139 := n0_; have HB := n1_; clear n0_ n1_; (try clear hb); (try clear hb2); (try clear hk); (try clear hi); obtain ⟨hcz23_0, hcz23_1, hcz23_2, hcz23_3, hcz23_4⟩ := bc5_ BK139.out; have hfz23_0 := blk_frozen BK139.out 0; have hfz23_1 := blk_frozen BK139.out 1; have hfz23_2 := blk_frozen BK139.out 2; have hfz23_3 := blk_frozen BK139.out 3; have hfz23_4 := blk_frozen BK139.out 4) | (go_at_call 58; (with_reducible refine (leap_side.calls kj3 a1 _ _ l2_4 t141 _ ?side1 ?side2 A20.out).mono ?_); (case side1 => exact ck_ (Kd.C_below HR2_4.out HB.out)); (case side2 => exact HC2_4.out); rintro e w24 ⟨rfl, hb⟩; have n0_ := A_ (blk_below (pk_ BK139.out) hb); have n1_ := A_ (below_step (bk_ HB.out) hb); clear BK139 HB; have BK139 := n0_; have HB := n1_; clear n0_ n1_; (try clear hb); (try clear hb2); (try clear hk); (try clear hi)))
     go_ret
     exact ⟨er_, bk_ HB.out⟩
    ·replace c19 := Bool.eq_false_iff.mpr c19
     subst c19
     have H1 : (some false) = some r := by rw [if_neg (show ¬ (false = true) by decide)] at H; exact H
     clear H
     have H := H1
     clear H1
     obtain rfl := Option.some.inj H
     obtain ⟨hcz25_0, hcz25_1, hcz25_2, hcz25_3, hcz25_4⟩ := bc5_ BK139.out
     have hfz25_0 := blk_frozen BK139.out 0
     have hfz25_1 := blk_frozen BK139.out 1
     have hfz25_2 := blk_frozen BK139.out 2
     have hfz25_3 := blk_frozen BK139.out 3
     have hfz25_4 := blk_frozen BK139.out 4
     go_wp2_with (first | ((with_reducible refine gate_callee (f := 58) rfl ?_); refine goesL_ (some 40) rfl rfl Try.func58 (by kernel_rfl) rfl #[.int .i64 a1, .slice A2_3 l2_3.length c2_3] rfl gl_ ?_; (with_reducible refine (leap_side.calls kj3 a1 _ _ l2_3 false _ ?side1 ?side2 A18.out).mono ?_); (case side1 => exact ck_ (Kd.C_below HR2_3.out HB.out)); (case side2 => exact HC2_3.out); rintro e w26 ⟨rfl, hb⟩; refine ⟨_, rfl, ?_⟩; have n1_ := A_ (below_step (bk_ HB.out) hb); clear HB; have HB := n1_; clear n1_; (try clear hb); (try clear hb2); (try clear hk); (try clear hi)))
     go_ret
     exact ⟨er_, bk_ HB.out⟩

end Go.Proofs.Ytdkcociababjdaa.PLeapLong
