-- out of a turned copy of the print, by a program of this session; Lean checks it
import Derived.Test.YtdkcociababjdaaPLeapLongx0
import Derived.Test.YtdkcociababjdaaPLeapLongx2
namespace Go.Proofs.Ytdkcociababjdaa.PLeapLong
open Go.RowKit Go.Proofs.YtdkcociababjdaaW.PrintWords Go.Proofs.YtdkcociababjdaaW.PrintLast Go.Proofs.YtdkcociababjdaaW.PrintMore
attribute [local go_sem] max2_int min2_int max_two min_two max_three min_three max_four min_four   -- for this text's walks alone
set_option linter.unusedVariables false
set_option linter.unusedSimpArgs false

attribute [local go_sem] isSome_put_
/-! ### standstillref04_list: function 49 -/
def standstillref04_list.l0 : Nat → List (S75) → Int → Int → Option (Bool)
 | 0, _, _, _ => none
 | k + 1, x0, x1, x5 => if x5 < (x0.length : Int) then (if 0 ≤ x5 then (if ((rd_T75 x0 x5).f0) < 0 then (some false) else (if ((rd_T75 x0 x5).f0) ≥ x1 then (some false) else (if ((rd_T75 x0 x5).f1) < 1 then (some false) else (if ((rd_T75 x0 x5).f1) > 1152921504606846976 then (some false) else (if x5 > 0 then (if 0 ≤ (wrap64 (x5 - 1)) then (if (wrap64 (x5 - 1)) < (x0.length : Int) then (if ((rd_T75 x0 x5).f0) = ((rd_T75 x0 (wrap64 (x5 - 1))).f0) then (some false) else (standstillref04_list.l0 k x0 x1 (wrap64 (x5 + 1)))) else (none)) else (none)) else (standstillref04_list.l0 k x0 x1 (wrap64 (x5 + 1)))))))) else (none)) else (if (x0.length : Int) = 0 then (some true) else (if 0 ≤ (wrap64 ((x0.length : Int) - 1)) then (if (wrap64 ((x0.length : Int) - 1)) < (x0.length : Int) then (some (((rd_T75 x0 (wrap64 ((x0.length : Int) - 1))).f0) != 0)) else (none)) else (none)))
def standstillref04_list.f (k : Nat) (l0 : List (S75)) (a1 : Int) : Option (Bool) := if (l0.length : Int) > 2000 then (some false) else (standstillref04_list.l0 k l0 a1 0)
theorem standstillref04_list.mono_l : ∀ k, (∀ y0 y1 y2, LeO (standstillref04_list.l0 k y0 y1 y2) (standstillref04_list.l0 (k + 1) y0 y1 y2))
 | 0 => fun _ _ _ r h => by simp [standstillref04_list.l0] at h
 | k + 1 => by
  have ih0 := standstillref04_list.mono_l k
  ·intro y0 y1 y2
   unfold standstillref04_list.l0
   repeat' first
   | (with_reducible exact ih0 _ _ _)
   | (with_reducible exact LeO.refl _)
   | (with_reducible exact LeO.none _)
   | (with_reducible refine LeO.ite ?_ ?_)
   | (with_reducible refine LeO.bind ?_ (fun _ => ?_))
   | exact ih0 _ _ _
   | exact LeO.none _
   | refine LeO.ite ?_ ?_
   | refine LeO.bind ?_ (fun _ => ?_)
theorem standstillref04_list.mono : ∀ a0 a1 k, LeO (standstillref04_list.f k a0 a1) (standstillref04_list.f (k + 1) a0 a1) := by
 intro a0 a1 k
 have ih0 := standstillref04_list.mono_l k
 unfold standstillref04_list.f
 repeat' first
   | (with_reducible exact ih0 _ _ _)
   | (with_reducible exact LeO.refl _)
   | (with_reducible exact LeO.none _)
   | (with_reducible refine LeO.ite ?_ ?_)
   | (with_reducible refine LeO.bind ?_ (fun _ => ?_))
   | exact ih0 _ _ _
   | exact LeO.none _
   | refine LeO.ite ?_ ?_
   | refine LeO.bind ?_ (fun _ => ?_)
set_option maxHeartbeats 8000000 in
set_option maxRecDepth 100000 in
theorem standstillref04_list.calls (k : Nat) (A0 : Option Addr) (c0 : Nat) (l0 : List (S75)) (a1 : Int) (r : Bool) (w : World) (hr0 : Kd.C k75 w A0 l0.length l0) (hc0 : l0.length ≤ c0) (h : standstillref04_list.f k l0 a1 = some r) :
  Calls Try.prog 49 #[.slice A0 l0.length c0, .int .i64 a1] w fun e w' => e = .returned (.bool r) ∧ Drawn0 w w' := by
 have HR0 := Aside0.mk hr0
 have HC0 := Aside0.mk hc0
 clear hr0 hc0
 have H : (if (l0.length : Int) > 2000 then (some false) else (standstillref04_list.l0 k l0 a1 0)) = some r := h
 clear h
 by_cases c3 : (l0.length : Int) > 2000
 ·rw [if_pos c3] at H
  have c3b0 : decide (2000 < (l0.length : Int)) = true := decide_eq_true c3
  have c3b1 : decide (2000 < l0.length) = true := decide_eq_true (by omega)
  clear c3
  obtain rfl := Option.some.inj H
  go_enter Try.func49, Try.ntmps49
  go_wp2
  repeat (go_quiet (fail); try go_wp2)
  go_ret
  exact ⟨by first | rfl | (simp; done) | (simp [*]; done), by repeat (first | exact Drawn0.refl _ | apply Drawn0.step)⟩
 ·rw [if_neg c3] at H
  have c3b0 : decide (2000 < (l0.length : Int)) = false := decide_eq_false c3
  have c3b1 : decide (2000 < l0.length) = false := decide_eq_false (by omega)
  clear c3
  have H' := Aside0.mk H
  clear H
  go_enter Try.func49, Try.ntmps49
  go_wp2
  repeat (go_quiet (fail); try go_wp2)
  go_loopg [5] k (fun kq v5 w' => ∃ (x5_1 : Int), v5 = .int .i64 x5_1 ∧ Aside0 (standstillref04_list.l0 kq l0 a1 x5_1 = some r) ∧ Aside0 (kq ≤ k) ∧ Drawn0 w w')
  case atStart => exact ⟨(0), jr_, H', ⟨Nat.le_refl _⟩, by repeat (first | exact Drawn0.refl _ | apply Drawn0.step)⟩
  case round =>
   clear H'
   (try clear c3); (try clear c3b0); (try clear c3b1)
   obtain ⟨x5_1, rfl, HA, HK1, ⟨m1, rfl⟩⟩ := hrel
   cases gk with
   | zero => exact absurd HA.out (by simp [standstillref04_list.l0])
   | succ k1 =>
    have H := HA.out
    clear HA
    simp only [standstillref04_list.l0] at H
    by_cases c4 : x5_1 < (l0.length : Int)
    ·rw [if_pos c4] at H
     have c4b0 : decide (x5_1 < (l0.length : Int)) = true := decide_eq_true c4
     clear c4
     by_cases c5 : 0 ≤ x5_1
     ·rw [if_pos c5] at H
      have c5b0 : decide (0 ≤ x5_1) = true := decide_eq_true c5
      clear c5
      by_cases c6 : ((rd_T75 l0 x5_1).f0) < 0
      ·rw [if_pos c6] at H
       have c6b0 : decide (((rd_T75 l0 x5_1).f0) < 0) = true := decide_eq_true c6
       clear c6
       obtain rfl := Option.some.inj H
       have p110 : 0 ≤ (x5_1 : Int) := od_
       have q110 : x5_1 < (l0.length : Int) := od_
       obtain ⟨ad110, e110, hx110_0, hx110_1⟩ := at_T75 HR0.out x5_1 p110 q110
       cases e110
       replace p110 := eq_true p110
       replace q110 := eq_true q110
       go_wp2
       repeat (go_quiet (fail); try go_wp2)
       go_ret
       exact ⟨by first | rfl | (simp; done) | (simp [*]; done), by repeat (first | exact Drawn0.refl _ | apply Drawn0.step)⟩
      ·rw [if_neg c6] at H
       have c6b0 : decide (((rd_T75 l0 x5_1).f0) < 0) = false := decide_eq_false c6
       clear c6
       by_cases c7 : ((rd_T75 l0 x5_1).f0) ≥ a1
       ·rw [if_pos c7] at H
        have c7b0 : decide (a1 ≤ ((rd_T75 l0 x5_1).f0)) = true := decide_eq_true c7
        clear c7
        obtain rfl := Option.some.inj H
        have p110 : 0 ≤ (x5_1 : Int) := od_
        have q110 : x5_1 < (l0.length : Int) := od_
        obtain ⟨ad110, e110, hx110_0, hx110_1⟩ := at_T75 HR0.out x5_1 p110 q110
        cases e110
        replace p110 := eq_true p110
        replace q110 := eq_true q110
        have p111 : 0 ≤ (x5_1 : Int) := od_
        have q111 : x5_1 < (l0.length : Int) := od_
        obtain ⟨ad111, e111, hx111_0, hx111_1⟩ := at_T75 HR0.out x5_1 p111 q111
        obtain rfl : ad110 = ad111 := (by injection e111)
        replace p111 := eq_true p111
        replace q111 := eq_true q111
        go_wp2
        repeat (go_quiet (fail); try go_wp2)
        go_ret
        exact ⟨by first | rfl | (simp; done) | (simp [*]; done), by repeat (first | exact Drawn0.refl _ | apply Drawn0.step)⟩
       ·rw [if_neg c7] at H
        have c7b0 : decide (a1 ≤ ((rd_T75 l0 x5_1).f0)) = false := decide_eq_false c7
        clear c7
        by_cases c8 : ((rd_T75 l0 x5_1).f1) < 1
        ·rw [if_pos c8] at H
         have c8b0 : decide (((rd_T75 l0 x5_1).f1) < 1) = true := decide_eq_true c8
         clear c8
         obtain rfl := Option.some.inj H
         have p110 : 0 ≤ (x5_1 : Int) := od_
         have q110 : x5_1 < (l0.length : Int) := od_
         obtain ⟨ad110, e110, hx110_0, hx110_1⟩ := at_T75 HR0.out x5_1 p110 q110
         cases e110
         replace p110 := eq_true p110
         replace q110 := eq_true q110
         have p111 : 0 ≤ (x5_1 : Int) := od_
         have q111 : x5_1 < (l0.length : Int) := od_
         obtain ⟨ad111, e111, hx111_0, hx111_1⟩ := at_T75 HR0.out x5_1 p111 q111
         obtain rfl : ad110 = ad111 := (by injection e111)
         replace p111 := eq_true p111
         replace q111 := eq_true q111
         have p112 : 0 ≤ (x5_1 : Int) := od_
         have q112 : x5_1 < (l0.length : Int) := od_
         obtain ⟨ad112, e112, hx112_0, hx112_1⟩ := at_T75 HR0.out x5_1 p112 q112
         obtain rfl : ad110 = ad112 := (by injection e112)
         replace p112 := eq_true p112
         replace q112 := eq_true q112
         go_wp2
         repeat (go_quiet (fail); try go_wp2)
         go_ret
         exact ⟨by first | rfl | (simp; done) | (simp [*]; done), by repeat (first | exact Drawn0.refl _ | apply Drawn0.step)⟩
        ·rw [if_neg c8] at H
         have c8b0 : decide (((rd_T75 l0 x5_1).f1) < 1) = false := decide_eq_false c8
         clear c8
         by_cases c9 : ((rd_T75 l0 x5_1).f1) > 1152921504606846976
         ·rw [if_pos c9] at H
          have c9b0 : decide (1152921504606846976 < ((rd_T75 l0 x5_1).f1)) = true := decide_eq_true c9
          clear c9
          obtain rfl := Option.some.inj H
          have p110 : 0 ≤ (x5_1 : Int) := od_
          have q110 : x5_1 < (l0.length : Int) := od_
          obtain ⟨ad110, e110, hx110_0, hx110_1⟩ := at_T75 HR0.out x5_1 p110 q110
          cases e110
          replace p110 := eq_true p110
          replace q110 := eq_true q110
          have p111 : 0 ≤ (x5_1 : Int) := od_
          have q111 : x5_1 < (l0.length : Int) := od_
          obtain ⟨ad111, e111, hx111_0, hx111_1⟩ := at_T75 HR0.out x5_1 p111 q111
          obtain rfl : ad110 = ad111 := (by injection e111)
          replace p111 := eq_true p111
          replace q111 := eq_true q111
          have p112 : 0 ≤ (x5_1 : Int) := od_
          have q112 : x5_1 < (l0.length : Int) := od_
          obtain ⟨ad112, e112, hx112_0, hx112_1⟩ := at_T75 HR0.out x5_1 p112 q112
          obtain rfl : ad110 = ad112 := (by injection e112)
          replace p112 := eq_true p112
          replace q112 := eq_true q112
          have p113 : 0 ≤ (x5_1 : Int) := od_
          have q113 : x5_1 < (l0.length : Int) := od_
          obtain ⟨ad113, e113, hx113_0, hx113_1⟩ := at_T75 HR0.out x5_1 p113 q113
          obtain rfl : ad110 = ad113 := (by injection e113)
          replace p113 := eq_true p113
          replace q113 := eq_true q113
          go_wp2
          repeat (go_quiet (fail); try go_wp2)
          go_ret
          exact ⟨by first | rfl | (simp; done) | (simp [*]; done), by repeat (first | exact Drawn0.refl _ | apply Drawn0.step)⟩
         ·rw [if_neg c9] at H
          have c9b0 : decide (1152921504606846976 < ((rd_T75 l0 x5_1).f1)) = false := decide_eq_false c9
          clear c9
          by_cases c10 : x5_1 > 0
          ·rw [if_pos c10] at H
           have c10b0 : decide (0 < x5_1) = true := decide_eq_true c10
           clear c10
           obtain ⟨ji11, hji11⟩ : ∃ j_ : Int, (wrap64 (x5_1 - 1)) = j_ := ⟨_, rfl⟩
           replace H : (if 0 ≤ (ji11) then (if (ji11) < (l0.length : Int) then (if ((rd_T75 l0 x5_1).f0) = ((rd_T75 l0 (ji11)).f0) then (some false) else (standstillref04_list.l0 k1 l0 a1 (wrap64 (x5_1 + 1)))) else (none)) else (none)) = some r := by first | (rw [hji11] at H; exact H) | (simp only [hji11] at H ⊢; exact H)
           have hji11w : (IntKind.i64.wrap (x5_1 - 1)) = ji11 := (i64_w _).trans hji11
           by_cases c12 : 0 ≤ (ji11)
           ·rw [if_pos c12] at H
            have c12b0 : decide (0 ≤ (ji11)) = true := decide_eq_true c12
            clear c12
            by_cases c13 : (ji11) < (l0.length : Int)
            ·rw [if_pos c13] at H
             have c13b0 : decide ((ji11) < (l0.length : Int)) = true := decide_eq_true c13
             clear c13
             by_cases c14 : ((rd_T75 l0 x5_1).f0) = ((rd_T75 l0 (ji11)).f0)
             ·rw [if_pos c14] at H
              have c14b0 : (((rd_T75 l0 x5_1).f0) == ((rd_T75 l0 (ji11)).f0)) = true := beq_iff_eq.mpr c14
              have c14b1 : (((rd_T75 l0 x5_1).f0) != ((rd_T75 l0 (ji11)).f0)) = false := bne_eq_false_iff_eq.mpr c14
              clear c14
              obtain rfl := Option.some.inj H
              have p110 : 0 ≤ (x5_1 : Int) := od_
              have q110 : x5_1 < (l0.length : Int) := od_
              obtain ⟨ad110, e110, hx110_0, hx110_1⟩ := at_T75 HR0.out x5_1 p110 q110
              cases e110
              replace p110 := eq_true p110
              replace q110 := eq_true q110
              have p111 : 0 ≤ (x5_1 : Int) := od_
              have q111 : x5_1 < (l0.length : Int) := od_
              obtain ⟨ad111, e111, hx111_0, hx111_1⟩ := at_T75 HR0.out x5_1 p111 q111
              obtain rfl : ad110 = ad111 := (by injection e111)
              replace p111 := eq_true p111
              replace q111 := eq_true q111
              have p112 : 0 ≤ (x5_1 : Int) := od_
              have q112 : x5_1 < (l0.length : Int) := od_
              obtain ⟨ad112, e112, hx112_0, hx112_1⟩ := at_T75 HR0.out x5_1 p112 q112
              obtain rfl : ad110 = ad112 := (by injection e112)
              replace p112 := eq_true p112
              replace q112 := eq_true q112
              have p113 : 0 ≤ (x5_1 : Int) := od_
              have q113 : x5_1 < (l0.length : Int) := od_
              obtain ⟨ad113, e113, hx113_0, hx113_1⟩ := at_T75 HR0.out x5_1 p113 q113
              obtain rfl : ad110 = ad113 := (by injection e113)
              replace p113 := eq_true p113
              replace q113 := eq_true q113
              have p114 : 0 ≤ (x5_1 : Int) := od_
              have q114 : x5_1 < (l0.length : Int) := od_
              obtain ⟨ad114, e114, hx114_0, hx114_1⟩ := at_T75 HR0.out x5_1 p114 q114
              obtain rfl : ad110 = ad114 := (by injection e114)
              replace p114 := eq_true p114
              replace q114 := eq_true q114
              have p115 : 0 ≤ ((ji11) : Int) := od_
              have q115 : (ji11) < (l0.length : Int) := od_
              obtain ⟨ad115, e115, hx115_0, hx115_1⟩ := at_T75 HR0.out (ji11) p115 q115
              obtain rfl : ad110 = ad115 := (by injection e115)
              replace p115 := eq_true p115
              replace q115 := eq_true q115
              go_wp2
              repeat (go_quiet (fail); try go_wp2)
              go_ret
              exact ⟨by first | rfl | (simp; done) | (simp only [← hji11] <;> (first | rfl | simp)) | (simp [*]; done), by repeat (first | exact Drawn0.refl _ | apply Drawn0.step)⟩
             ·rw [if_neg c14] at H
              have c14b0 : (((rd_T75 l0 x5_1).f0) == ((rd_T75 l0 (ji11)).f0)) = false := beq_eq_false_iff_ne.mpr c14
              have c14b1 : (((rd_T75 l0 x5_1).f0) != ((rd_T75 l0 (ji11)).f0)) = true := bne_iff_ne.mpr c14
              have H' := Aside0.mk H
              clear H
              have p110 : 0 ≤ (x5_1 : Int) := od_
              have q110 : x5_1 < (l0.length : Int) := od_
              obtain ⟨ad110, e110, hx110_0, hx110_1⟩ := at_T75 HR0.out x5_1 p110 q110
              cases e110
              replace p110 := eq_true p110
              replace q110 := eq_true q110
              have p111 : 0 ≤ (x5_1 : Int) := od_
              have q111 : x5_1 < (l0.length : Int) := od_
              obtain ⟨ad111, e111, hx111_0, hx111_1⟩ := at_T75 HR0.out x5_1 p111 q111
              obtain rfl : ad110 = ad111 := (by injection e111)
              replace p111 := eq_true p111
              replace q111 := eq_true q111
              have p112 : 0 ≤ (x5_1 : Int) := od_
              have q112 : x5_1 < (l0.length : Int) := od_
              obtain ⟨ad112, e112, hx112_0, hx112_1⟩ := at_T75 HR0.out x5_1 p112 q112
              obtain rfl : ad110 = ad112 := (by injection e112)
              replace p112 := eq_true p112
              replace q112 := eq_true q112
              have p113 : 0 ≤ (x5_1 : Int) := od_
              have q113 : x5_1 < (l0.length : Int) := od_
              obtain ⟨ad113, e113, hx113_0, hx113_1⟩ := at_T75 HR0.out x5_1 p113 q113
              obtain rfl : ad110 = ad113 := (by injection e113)
              replace p113 := eq_true p113
              replace q113 := eq_true q113
              have p114 : 0 ≤ (x5_1 : Int) := od_
              have q114 : x5_1 < (l0.length : Int) := od_
              obtain ⟨ad114, e114, hx114_0, hx114_1⟩ := at_T75 HR0.out x5_1 p114 q114
              obtain rfl : ad110 = ad114 := (by injection e114)
              replace p114 := eq_true p114
              replace q114 := eq_true q114
              have p115 : 0 ≤ ((ji11) : Int) := od_
              have q115 : (ji11) < (l0.length : Int) := od_
              obtain ⟨ad115, e115, hx115_0, hx115_1⟩ := at_T75 HR0.out (ji11) p115 q115
              obtain rfl : ad110 = ad115 := (by injection e115)
              replace p115 := eq_true p115
              replace q115 := eq_true q115
              go_wp2
              repeat (go_quiet (fail); try go_wp2)
              go_roundg k1
              case measure => have := HK1.out; omega
              case rel => exact ⟨(wrap64 (x5_1 + 1)), jr_, H', ⟨by have := HK1.out; omega⟩, by repeat (first | exact Drawn0.refl _ | apply Drawn0.step)⟩
            ·rw [if_neg c13] at H
             exact absurd H (by simp)
           ·rw [if_neg c12] at H
            exact absurd H (by simp)
          ·rw [if_neg c10] at H
           have c10b0 : decide (0 < x5_1) = false := decide_eq_false c10
           clear c10
           have H' := Aside0.mk H
           clear H
           have p110 : 0 ≤ (x5_1 : Int) := od_
           have q110 : x5_1 < (l0.length : Int) := od_
           obtain ⟨ad110, e110, hx110_0, hx110_1⟩ := at_T75 HR0.out x5_1 p110 q110
           cases e110
           replace p110 := eq_true p110
           replace q110 := eq_true q110
           have p111 : 0 ≤ (x5_1 : Int) := od_
           have q111 : x5_1 < (l0.length : Int) := od_
           obtain ⟨ad111, e111, hx111_0, hx111_1⟩ := at_T75 HR0.out x5_1 p111 q111
           obtain rfl : ad110 = ad111 := (by injection e111)
           replace p111 := eq_true p111
           replace q111 := eq_true q111
           have p112 : 0 ≤ (x5_1 : Int) := od_
           have q112 : x5_1 < (l0.length : Int) := od_
           obtain ⟨ad112, e112, hx112_0, hx112_1⟩ := at_T75 HR0.out x5_1 p112 q112
           obtain rfl : ad110 = ad112 := (by injection e112)
           replace p112 := eq_true p112
           replace q112 := eq_true q112
           have p113 : 0 ≤ (x5_1 : Int) := od_
           have q113 : x5_1 < (l0.length : Int) := od_
           obtain ⟨ad113, e113, hx113_0, hx113_1⟩ := at_T75 HR0.out x5_1 p113 q113
           obtain rfl : ad110 = ad113 := (by injection e113)
           replace p113 := eq_true p113
           replace q113 := eq_true q113
           go_wp2
           repeat (go_quiet (fail); try go_wp2)
           go_roundg k1
           case measure => have := HK1.out; omega
           case rel => exact ⟨(wrap64 (x5_1 + 1)), jr_, H', ⟨by have := HK1.out; omega⟩, by repeat (first | exact Drawn0.refl _ | apply Drawn0.step)⟩
     ·rw [if_neg c5] at H
      exact absurd H (by simp)
    ·rw [if_neg c4] at H
     have c4b0 : decide (x5_1 < (l0.length : Int)) = false := decide_eq_false c4
     clear c4
     by_cases c15 : (l0.length : Int) = 0
     ·rw [if_pos c15] at H
      have c15b0 : ((l0.length : Int) == 0) = true := beq_iff_eq.mpr c15
      have c15b1 : ((l0.length : Int) != 0) = false := bne_eq_false_iff_eq.mpr c15
      clear c15
      obtain rfl := Option.some.inj H
      go_wp2
      repeat (go_quiet (fail); try go_wp2)
      go_ret
      exact ⟨by first | rfl | (simp; done) | (simp [*]; done), by repeat (first | exact Drawn0.refl _ | apply Drawn0.step)⟩
     ·rw [if_neg c15] at H
      have c15b0 : ((l0.length : Int) == 0) = false := beq_eq_false_iff_ne.mpr c15
      have c15b1 : ((l0.length : Int) != 0) = true := bne_iff_ne.mpr c15
      have c15b2 : ¬ (l0 = []) := fun h_ => c15 (by rw [h_]; rfl)
      obtain ⟨ji16, hji16⟩ : ∃ j_ : Int, (wrap64 ((l0.length : Int) - 1)) = j_ := ⟨_, rfl⟩
      replace H : (if 0 ≤ (ji16) then (if (ji16) < (l0.length : Int) then (some (((rd_T75 l0 (ji16)).f0) != 0)) else (none)) else (none)) = some r := by first | (rw [hji16] at H; exact H) | (simp only [hji16] at H ⊢; exact H)
      have hji16w : (IntKind.i64.wrap ((l0.length : Int) - 1)) = ji16 := (i64_w _).trans hji16
      by_cases c17 : 0 ≤ (ji16)
      ·rw [if_pos c17] at H
       have c17b0 : decide (0 ≤ (ji16)) = true := decide_eq_true c17
       clear c17
       by_cases c18 : (ji16) < (l0.length : Int)
       ·rw [if_pos c18] at H
        have c18b0 : decide ((ji16) < (l0.length : Int)) = true := decide_eq_true c18
        clear c18
        obtain rfl := Option.some.inj H
        have p116 : 0 ≤ ((ji16) : Int) := od_
        have q116 : (ji16) < (l0.length : Int) := od_
        obtain ⟨ad116, e116, hx116_0, hx116_1⟩ := at_T75 HR0.out (ji16) p116 q116
        cases e116
        replace p116 := eq_true p116
        replace q116 := eq_true q116
        go_wp2
        repeat (go_quiet (fail); try go_wp2)
        go_ret
        exact ⟨by first | rfl | (simp; done) | (simp only [← hji16] <;> (first | rfl | simp)) | (simp [*]; done), by repeat (first | exact Drawn0.refl _ | apply Drawn0.step)⟩
       ·rw [if_neg c18] at H
        exact absurd H (by simp)
      ·rw [if_neg c17] at H
       exact absurd H (by simp)

/-! ### standstillref04_Within: function 30 -/
def standstillref04_Within.f (k : Nat) (a0_0 : Int) (a0_1 : Int) (a0_2 : Int) (l0_3 : List (S75)) (l0_4 : List (S75)) (a1 : Int) (a2 : Int) : Option (Bool) := if a0_0 ≥ (-1) then (if a0_0 < a1 then (if a0_2 ≥ 0 then (if a0_2 < a2 then (if a0_1 ≥ (-1152921504606846976) then (if a0_1 ≤ 1152921504606846976 then ((standstillref04_list.f k l0_3 a2).bind fun t118 => (if t118 = true then ((standstillref04_list.f k l0_4 a2).bind fun t119 => (some t119)) else (some false))) else (some false)) else (some false)) else (some false)) else (some false)) else (some false)) else (some false)
theorem standstillref04_Within.mono : ∀ a0 a1 a2 a3 a4 a5 a6 k, LeO (standstillref04_Within.f k a0 a1 a2 a3 a4 a5 a6) (standstillref04_Within.f (k + 1) a0 a1 a2 a3 a4 a5 a6) := by
 intro a0 a1 a2 a3 a4 a5 a6 k
 unfold standstillref04_Within.f
 repeat' first
   | (with_reducible exact standstillref04_list.mono _ _ _)
   | (with_reducible exact LeO.refl _)
   | (with_reducible exact LeO.none _)
   | (with_reducible refine LeO.ite ?_ ?_)
   | (with_reducible refine LeO.bind ?_ (fun _ => ?_))
   | exact standstillref04_list.mono _ _ _
   | exact LeO.none _
   | refine LeO.ite ?_ ?_
   | refine LeO.bind ?_ (fun _ => ?_)
set_option maxHeartbeats 8000000 in
set_option maxRecDepth 100000 in
theorem standstillref04_Within.calls (k : Nat) (a0_0 : Int) (a0_1 : Int) (a0_2 : Int) (A0_3 : Option Addr) (c0_3 : Nat) (l0_3 : List (S75)) (A0_4 : Option Addr) (c0_4 : Nat) (l0_4 : List (S75)) (a1 : Int) (a2 : Int) (r : Bool) (w : World) (hr0_3 : Kd.C k75 w A0_3 l0_3.length l0_3) (hc0_3 : l0_3.length ≤ c0_3) (hr0_4 : Kd.C k75 w A0_4 l0_4.length l0_4) (hc0_4 : l0_4.length ≤ c0_4) (h : standstillref04_Within.f k a0_0 a0_1 a0_2 l0_3 l0_4 a1 a2 = some r) :
  Calls Try.prog 30 #[.agg #[.int .i64 a0_0, .int .i64 a0_1, .int .i64 a0_2, .slice A0_3 l0_3.length c0_3, .slice A0_4 l0_4.length c0_4], .int .i64 a1, .int .i64 a2] w fun e w' => e = .returned (.bool r) ∧ Below w.heap.size w w' := by
 have hu27 := Try.underlying27
 have HR0_3 := Aside0.mk hr0_3
 have HC0_3 := Aside0.mk hc0_3
 clear hr0_3 hc0_3
 have HR0_4 := Aside0.mk hr0_4
 have HC0_4 := Aside0.mk hc0_4
 clear hr0_4 hc0_4
 have HB := A_ (Below.refl w.heap.size w)
 have H : (if a0_0 ≥ (-1) then (if a0_0 < a1 then (if a0_2 ≥ 0 then (if a0_2 < a2 then (if a0_1 ≥ (-1152921504606846976) then (if a0_1 ≤ 1152921504606846976 then ((standstillref04_list.f k l0_3 a2).bind fun t118 => (if t118 = true then ((standstillref04_list.f k l0_4 a2).bind fun t119 => (some t119)) else (some false))) else (some false)) else (some false)) else (some false)) else (some false)) else (some false)) else (some false)) = some r := h
 clear h
 by_cases c4 : a0_0 ≥ (-1)
 ·rw [if_pos c4] at H
  have c4b0 : decide ((-1) ≤ a0_0) = true := decide_eq_true c4
  clear c4
  by_cases c5 : a0_0 < a1
  ·rw [if_pos c5] at H
   have c5b0 : decide (a0_0 < a1) = true := decide_eq_true c5
   clear c5
   by_cases c6 : a0_2 ≥ 0
   ·rw [if_pos c6] at H
    have c6b0 : decide (0 ≤ a0_2) = true := decide_eq_true c6
    clear c6
    by_cases c7 : a0_2 < a2
    ·rw [if_pos c7] at H
     have c7b0 : decide (a0_2 < a2) = true := decide_eq_true c7
     clear c7
     by_cases c8 : a0_1 ≥ (-1152921504606846976)
     ·rw [if_pos c8] at H
      have c8b0 : decide ((-1152921504606846976) ≤ a0_1) = true := decide_eq_true c8
      clear c8
      by_cases c9 : a0_1 ≤ 1152921504606846976
      ·rw [if_pos c9] at H
       have c9b0 : decide (a0_1 ≤ 1152921504606846976) = true := decide_eq_true c9
       clear c9
       replace H := Option.bind_eq_some_iff.mp H
       obtain ⟨t118, A100, H⟩ := H
       replace H : (if t118 = true then ((standstillref04_list.f k l0_4 a2).bind fun t119 => (some t119)) else (some false)) = some r := H
       have A10 := Aside0.mk A100
       clear A100
       by_cases c11 : t118 = true
       ·subst c11
        have H1 : ((standstillref04_list.f k l0_4 a2).bind fun t119 => (some t119)) = some r := by rw [if_pos rfl] at H; exact H
        clear H
        have H := H1
        clear H1
        replace H := Option.bind_eq_some_iff.mp H
        obtain ⟨t119, A120, H⟩ := H
        replace H : (some t119) = some r := H
        have A12 := Aside0.mk A120
        clear A120
        obtain rfl := Option.some.inj H
        go_enter Try.func30, Try.ntmps30
        go_wp2_with (first | ((with_reducible refine gate_dst (N := 3) rfl ?_); refine box_event ?hg (N := 3) ?hd (cs := #[.int .i64 a0_0, .int .i64 a0_1, .int .i64 a0_2, .slice A0_3 l0_3.length c0_3, .slice A0_4 l0_4.length c0_4]) (t := 27) ?hr ?_; (case hd => rfl); (case hg => rfl); (case hr => first | (go_simp; done) | (go_simp; rfl)); intro gb117 hg w13 hbox hb; have n0_ := A_ (below_step (bk_ HB.out) hb); have n1_ := A_ (hbox); have n2_ := A_ (bz_ hg (bk_ HB.out)); have n3_ := A_ (bz_ hg (bk_ HB.out)); clear HB; have HB := n0_; have BK117 := n1_; have GW117 := n2_; have GE117 := n3_; clear n0_ n1_ n2_ n3_ hb hbox hg; obtain ⟨hcz14_0, hcz14_1, hcz14_2, hcz14_3, hcz14_4⟩ := bc5_ BK117.out; have hfz14_0 := blk_frozen BK117.out 0; have hfz14_1 := blk_frozen BK117.out 1; have hfz14_2 := blk_frozen BK117.out 2; have hfz14_3 := blk_frozen BK117.out 3; have hfz14_4 := blk_frozen BK117.out 4) | (go_at_call 49; (with_reducible refine (standstillref04_list.calls k _ _ l0_3 a2 true _ ?side1 ?side2 A10.out).mono ?_); (case side1 => exact ck_ (Kd.C_below HR0_3.out HB.out)); (case side2 => exact HC0_3.out); rintro e w' ⟨rfl, ⟨nd, rfl⟩⟩) | (go_at_call 49; (with_reducible refine (standstillref04_list.calls k _ _ l0_4 a2 t119 _ ?side1 ?side2 A12.out).mono ?_); (case side1 => exact ck_ (Kd.C_below HR0_4.out (bk_ HB.out))); (case side2 => exact HC0_4.out); rintro e w' ⟨rfl, ⟨nd, rfl⟩⟩))
        go_ret
        exact ⟨er_, bk_ HB.out⟩
       ·replace c11 := Bool.eq_false_iff.mpr c11
        subst c11
        have H1 : (some false) = some r := by rw [if_neg (show ¬ (false = true) by decide)] at H; exact H
        clear H
        have H := H1
        clear H1
        obtain rfl := Option.some.inj H
        go_enter Try.func30, Try.ntmps30
        go_wp2_with (first | ((with_reducible refine gate_dst (N := 3) rfl ?_); refine box_event ?hg (N := 3) ?hd (cs := #[.int .i64 a0_0, .int .i64 a0_1, .int .i64 a0_2, .slice A0_3 l0_3.length c0_3, .slice A0_4 l0_4.length c0_4]) (t := 27) ?hr ?_; (case hd => rfl); (case hg => rfl); (case hr => first | (go_simp; done) | (go_simp; rfl)); intro gb117 hg w15 hbox hb; have n0_ := A_ (below_step (bk_ HB.out) hb); have n1_ := A_ (hbox); have n2_ := A_ (bz_ hg (bk_ HB.out)); have n3_ := A_ (bz_ hg (bk_ HB.out)); clear HB; have HB := n0_; have BK117 := n1_; have GW117 := n2_; have GE117 := n3_; clear n0_ n1_ n2_ n3_ hb hbox hg; obtain ⟨hcz16_0, hcz16_1, hcz16_2, hcz16_3, hcz16_4⟩ := bc5_ BK117.out; have hfz16_0 := blk_frozen BK117.out 0; have hfz16_1 := blk_frozen BK117.out 1; have hfz16_2 := blk_frozen BK117.out 2; have hfz16_3 := blk_frozen BK117.out 3; have hfz16_4 := blk_frozen BK117.out 4) | (go_at_call 49; (with_reducible refine (standstillref04_list.calls k _ _ l0_3 a2 false _ ?side1 ?side2 A10.out).mono ?_); (case side1 => exact ck_ (Kd.C_below HR0_3.out HB.out)); (case side2 => exact HC0_3.out); rintro e w' ⟨rfl, ⟨nd, rfl⟩⟩))
        go_ret
        exact ⟨er_, bk_ HB.out⟩
      ·rw [if_neg c9] at H
       have c9b0 : decide (a0_1 ≤ 1152921504606846976) = false := decide_eq_false c9
       clear c9
       obtain rfl := Option.some.inj H
       go_enter Try.func30, Try.ntmps30
       go_wp2_with (first | ((with_reducible refine gate_dst (N := 3) rfl ?_); refine box_event ?hg (N := 3) ?hd (cs := #[.int .i64 a0_0, .int .i64 a0_1, .int .i64 a0_2, .slice A0_3 l0_3.length c0_3, .slice A0_4 l0_4.length c0_4]) (t := 27) ?hr ?_; (case hd => rfl); (case hg => rfl); (case hr => first | (go_simp; done) | (go_simp; rfl)); intro gb117 hg w17 hbox hb; have n0_ := A_ (below_step (bk_ HB.out) hb); have n1_ := A_ (hbox); have n2_ := A_ (bz_ hg (bk_ HB.out)); have n3_ := A_ (bz_ hg (bk_ HB.out)); clear HB; have HB := n0_; have BK117 := n1_; have GW117 := n2_; have GE117 := n3_; clear n0_ n1_ n2_ n3_ hb hbox hg; obtain ⟨hcz18_0, hcz18_1, hcz18_2, hcz18_3, hcz18_4⟩ := bc5_ BK117.out; have hfz18_0 := blk_frozen BK117.out 0; have hfz18_1 := blk_frozen BK117.out 1; have hfz18_2 := blk_frozen BK117.out 2; have hfz18_3 := blk_frozen BK117.out 3; have hfz18_4 := blk_frozen BK117.out 4))
       go_ret
       exact ⟨er_, bk_ HB.out⟩
     ·rw [if_neg c8] at H
      have c8b0 : decide ((-1152921504606846976) ≤ a0_1) = false := decide_eq_false c8
      clear c8
      obtain rfl := Option.some.inj H
      go_enter Try.func30, Try.ntmps30
      go_wp2_with (first | ((with_reducible refine gate_dst (N := 3) rfl ?_); refine box_event ?hg (N := 3) ?hd (cs := #[.int .i64 a0_0, .int .i64 a0_1, .int .i64 a0_2, .slice A0_3 l0_3.length c0_3, .slice A0_4 l0_4.length c0_4]) (t := 27) ?hr ?_; (case hd => rfl); (case hg => rfl); (case hr => first | (go_simp; done) | (go_simp; rfl)); intro gb117 hg w19 hbox hb; have n0_ := A_ (below_step (bk_ HB.out) hb); have n1_ := A_ (hbox); have n2_ := A_ (bz_ hg (bk_ HB.out)); have n3_ := A_ (bz_ hg (bk_ HB.out)); clear HB; have HB := n0_; have BK117 := n1_; have GW117 := n2_; have GE117 := n3_; clear n0_ n1_ n2_ n3_ hb hbox hg; obtain ⟨hcz20_0, hcz20_1, hcz20_2, hcz20_3, hcz20_4⟩ := bc5_ BK117.out; have hfz20_0 := blk_frozen BK117.out 0; have hfz20_1 := blk_frozen BK117.out 1; have hfz20_2 := blk_frozen BK117.out 2; have hfz20_3 := blk_frozen BK117.out 3; have hfz20_4 := blk_frozen BK117.out 4))
      go_ret
      exact ⟨er_, bk_ HB.out⟩
    ·rw [if_neg c7] at H
     have c7b0 : decide (a0_2 < a2) = false := decide_eq_false c7
     clear c7
     obtain rfl := Option.some.inj H
     go_enter Try.func30, Try.ntmps30
     go_wp2_with (first | ((with_reducible refine gate_dst (N := 3) rfl ?_); refine box_event ?hg (N := 3) ?hd (cs := #[.int .i64 a0_0, .int .i64 a0_1, .int .i64 a0_2, .slice A0_3 l0_3.length c0_3, .slice A0_4 l0_4.length c0_4]) (t := 27) ?hr ?_; (case hd => rfl); (case hg => rfl); (case hr => first | (go_simp; done) | (go_simp; rfl)); intro gb117 hg w21 hbox hb; have n0_ := A_ (below_step (bk_ HB.out) hb); have n1_ := A_ (hbox); have n2_ := A_ (bz_ hg (bk_ HB.out)); have n3_ := A_ (bz_ hg (bk_ HB.out)); clear HB; have HB := n0_; have BK117 := n1_; have GW117 := n2_; have GE117 := n3_; clear n0_ n1_ n2_ n3_ hb hbox hg; obtain ⟨hcz22_0, hcz22_1, hcz22_2, hcz22_3, hcz22_4⟩ := bc5_ BK117.out; have hfz22_0 := blk_frozen BK117.out 0; have hfz22_1 := blk_frozen BK117.out 1; have hfz22_2 := blk_frozen BK117.out 2; have hfz22_3 := blk_frozen BK117.out 3; have hfz22_4 := blk_frozen BK117.out 4))
     go_ret
     exact ⟨er_, bk_ HB.out⟩
   ·rw [if_neg c6] at H
    have c6b0 : decide (0 ≤ a0_2) = false := decide_eq_false c6
    clear c6
    obtain rfl := Option.some.inj H
    go_enter Try.func30, Try.ntmps30
    go_wp2_with (first | ((with_reducible refine gate_dst (N := 3) rfl ?_); refine box_event ?hg (N := 3) ?hd (cs := #[.int .i64 a0_0, .int .i64 a0_1, .int .i64 a0_2, .slice A0_3 l0_3.length c0_3, .slice A0_4 l0_4.length c0_4]) (t := 27) ?hr ?_; (case hd => rfl); (case hg => rfl); (case hr => first | (go_simp; done) | (go_simp; rfl)); intro gb117 hg w23 hbox hb; have n0_ := A_ (below_step (bk_ HB.out) hb); have n1_ := A_ (hbox); have n2_ := A_ (bz_ hg (bk_ HB.out)); have n3_ := A_ (bz_ hg (bk_ HB.out)); clear HB; have HB := n0_; have BK117 := n1_; have GW117 := n2_; have GE117 := n3_; clear n0_ n1_ n2_ n3_ hb hbox hg; obtain ⟨hcz24_0, hcz24_1, hcz24_2, hcz24_3, hcz24_4⟩ := bc5_ BK117.out; have hfz24_0 := blk_frozen BK117.out 0; have hfz24_1 := blk_frozen BK117.out 1; have hfz24_2 := blk_frozen BK117.out 2; have hfz24_3 := blk_frozen BK117.out 3; have hfz24_4 := blk_frozen BK117.out 4))
    go_ret
    exact ⟨er_, bk_ HB.out⟩
  ·rw [if_neg c5] at H
   have c5b0 : decide (a0_0 < a1) = false := decide_eq_false c5
   clear c5
   obtain rfl := Option.some.inj H
   go_enter Try.func30, Try.ntmps30
   go_wp2_with (first | ((with_reducible refine gate_dst (N := 3) rfl ?_); refine box_event ?hg (N := 3) ?hd (cs := #[.int .i64 a0_0, .int .i64 a0_1, .int .i64 a0_2, .slice A0_3 l0_3.length c0_3, .slice A0_4 l0_4.length c0_4]) (t := 27) ?hr ?_; (case hd => rfl); (case hg => rfl); (case hr => first | (go_simp; done) | (go_simp; rfl)); intro gb117 hg w25 hbox hb; have n0_ := A_ (below_step (bk_ HB.out) hb); have n1_ := A_ (hbox); have n2_ := A_ (bz_ hg (bk_ HB.out)); have n3_ := A_ (bz_ hg (bk_ HB.out)); clear HB; have HB := n0_; have BK117 := n1_; have GW117 := n2_; have GE117 := n3_; clear n0_ n1_ n2_ n3_ hb hbox hg; obtain ⟨hcz26_0, hcz26_1, hcz26_2, hcz26_3, hcz26_4⟩ := bc5_ BK117.out; have hfz26_0 := blk_frozen BK117.out 0; have hfz26_1 := blk_frozen BK117.out 1; have hfz26_2 := blk_frozen BK117.out 2; have hfz26_3 := blk_frozen BK117.out 3; have hfz26_4 := blk_frozen BK117.out 4))
   go_ret
   exact ⟨er_, bk_ HB.out⟩
 ·rw [if_neg c4] at H
  have c4b0 : decide ((-1) ≤ a0_0) = false := decide_eq_false c4
  clear c4
  obtain rfl := Option.some.inj H
  go_enter Try.func30, Try.ntmps30
  go_wp2_with (first | ((with_reducible refine gate_dst (N := 3) rfl ?_); refine box_event ?hg (N := 3) ?hd (cs := #[.int .i64 a0_0, .int .i64 a0_1, .int .i64 a0_2, .slice A0_3 l0_3.length c0_3, .slice A0_4 l0_4.length c0_4]) (t := 27) ?hr ?_; (case hd => rfl); (case hg => rfl); (case hr => first | (go_simp; done) | (go_simp; rfl)); intro gb117 hg w27 hbox hb; have n0_ := A_ (below_step (bk_ HB.out) hb); have n1_ := A_ (hbox); have n2_ := A_ (bz_ hg (bk_ HB.out)); have n3_ := A_ (bz_ hg (bk_ HB.out)); clear HB; have HB := n0_; have BK117 := n1_; have GW117 := n2_; have GE117 := n3_; clear n0_ n1_ n2_ n3_ hb hbox hg; obtain ⟨hcz28_0, hcz28_1, hcz28_2, hcz28_3, hcz28_4⟩ := bc5_ BK117.out; have hfz28_0 := blk_frozen BK117.out 0; have hfz28_1 := blk_frozen BK117.out 1; have hfz28_2 := blk_frozen BK117.out 2; have hfz28_3 := blk_frozen BK117.out 3; have hfz28_4 := blk_frozen BK117.out 4))
  go_ret
  exact ⟨er_, bk_ HB.out⟩

/-! ### standstillref04_Fits: function 8 -/
def standstillref04_Fits.f (k : Nat) (a0_0 : Int) (a0_1 : Int) (l0_2 : List (List (S37))) (a1_0 : Int) (a1_1 : Int) (a1_2 : Int) (l1_3 : List (S75)) (l1_4 : List (S75)) : Option (Bool) := (standstillref01_Valid.f k a0_0 a0_1 l0_2).bind fun t122 => (if t122 = true then ((standstillref04_Within.f k a1_0 a1_1 a1_2 l1_3 l1_4 a0_0 a0_1).bind fun t123 => (some t123)) else (some false))
theorem standstillref04_Fits.mono : ∀ a0 a1 a2 a3 a4 a5 a6 a7 k, LeO (standstillref04_Fits.f k a0 a1 a2 a3 a4 a5 a6 a7) (standstillref04_Fits.f (k + 1) a0 a1 a2 a3 a4 a5 a6 a7) := by
 intro a0 a1 a2 a3 a4 a5 a6 a7 k
 unfold standstillref04_Fits.f
 repeat' first
   | (with_reducible exact standstillref01_Valid.mono _ _ _ _)
   | (with_reducible exact standstillref04_Within.mono _ _ _ _ _ _ _ _)
   | (with_reducible exact LeO.refl _)
   | (with_reducible exact LeO.none _)
   | (with_reducible refine LeO.ite ?_ ?_)
   | (with_reducible refine LeO.bind ?_ (fun _ => ?_))
   | exact standstillref01_Valid.mono _ _ _ _
   | exact standstillref04_Within.mono _ _ _ _ _ _ _ _
   | exact LeO.none _
   | refine LeO.ite ?_ ?_
   | refine LeO.bind ?_ (fun _ => ?_)
set_option maxHeartbeats 8000000 in
set_option maxRecDepth 100000 in
theorem standstillref04_Fits.calls (k : Nat) (a0_0 : Int) (a0_1 : Int) (A0_2 : Option Addr) (c0_2 : Nat) (l0_2 : List (List (S37))) (a1_0 : Int) (a1_1 : Int) (a1_2 : Int) (A1_3 : Option Addr) (c1_3 : Nat) (l1_3 : List (S75)) (A1_4 : Option Addr) (c1_4 : Nat) (l1_4 : List (S75)) (r : Bool) (w : World) (hr0_2 : Kd.C (Kd.slice 37 k37) w A0_2 l0_2.length l0_2) (hc0_2 : l0_2.length ≤ c0_2) (hr1_3 : Kd.C k75 w A1_3 l1_3.length l1_3) (hc1_3 : l1_3.length ≤ c1_3) (hr1_4 : Kd.C k75 w A1_4 l1_4.length l1_4) (hc1_4 : l1_4.length ≤ c1_4) (h : standstillref04_Fits.f k a0_0 a0_1 l0_2 a1_0 a1_1 a1_2 l1_3 l1_4 = some r) :
  Calls Try.prog 8 #[.agg #[.int .i64 a0_0, .int .i64 a0_1, .slice A0_2 l0_2.length c0_2], .agg #[.int .i64 a1_0, .int .i64 a1_1, .int .i64 a1_2, .slice A1_3 l1_3.length c1_3, .slice A1_4 l1_4.length c1_4]] w fun e w' => e = .returned (.bool r) ∧ Below w.heap.size w w' := by
 have hu24 := Try.underlying24
 have hu27 := Try.underlying27
 have HR0_2 := Aside0.mk hr0_2
 have HC0_2 := Aside0.mk hc0_2
 clear hr0_2 hc0_2
 have HR1_3 := Aside0.mk hr1_3
 have HC1_3 := Aside0.mk hc1_3
 clear hr1_3 hc1_3
 have HR1_4 := Aside0.mk hr1_4
 have HC1_4 := Aside0.mk hc1_4
 clear hr1_4 hc1_4
 have HB := A_ (Below.refl w.heap.size w)
 have H : ((standstillref01_Valid.f k a0_0 a0_1 l0_2).bind fun t122 => (if t122 = true then ((standstillref04_Within.f k a1_0 a1_1 a1_2 l1_3 l1_4 a0_0 a0_1).bind fun t123 => (some t123)) else (some false))) = some r := h
 clear h
 replace H := Option.bind_eq_some_iff.mp H
 obtain ⟨t122, A30, H⟩ := H
 replace H : (if t122 = true then ((standstillref04_Within.f k a1_0 a1_1 a1_2 l1_3 l1_4 a0_0 a0_1).bind fun t123 => (some t123)) else (some false)) = some r := H
 have A3 := Aside0.mk A30
 clear A30
 by_cases c4 : t122 = true
 ·subst c4
  have H1 : ((standstillref04_Within.f k a1_0 a1_1 a1_2 l1_3 l1_4 a0_0 a0_1).bind fun t123 => (some t123)) = some r := by rw [if_pos rfl] at H; exact H
  clear H
  have H := H1
  clear H1
  replace H := Option.bind_eq_some_iff.mp H
  obtain ⟨t123, A50, H⟩ := H
  replace H : (some t123) = some r := H
  have A5 := Aside0.mk A50
  clear A50
  obtain rfl := Option.some.inj H
  go_enter Try.func8, Try.ntmps8
  go_wp2_with (first | ((with_reducible refine gate_dst (N := 2) rfl ?_); refine box_event ?hg (N := 2) ?hd (cs := #[.int .i64 a0_0, .int .i64 a0_1, .slice A0_2 l0_2.length c0_2]) (t := 24) ?hr ?_; (case hd => rfl); (case hg => rfl); (case hr => first | (go_simp; done) | (go_simp; rfl)); intro gb120 hg w6 hbox hb; have n0_ := A_ (below_step (bk_ HB.out) hb); have n1_ := A_ (hbox); have n2_ := A_ (bz_ hg (bk_ HB.out)); have n3_ := A_ (bz_ hg (bk_ HB.out)); clear HB; have HB := n0_; have BK120 := n1_; have GW120 := n2_; have GE120 := n3_; clear n0_ n1_ n2_ n3_ hb hbox hg) | ((with_reducible refine gate_dst (N := 3) rfl ?_); refine box_event ?hg (N := 3) ?hd (cs := #[.int .i64 a1_0, .int .i64 a1_1, .int .i64 a1_2, .slice A1_3 l1_3.length c1_3, .slice A1_4 l1_4.length c1_4]) (t := 27) ?hr ?_; (case hd => rfl); (case hg => rfl); (case hr => first | (go_simp; done) | (go_simp; rfl)); intro gb121 hg w7 hbox hb; have n0_ := A_ (blk_below (pk_ BK120.out) hb); have n1_ := A_ (below_step (bk_ HB.out) hb); have n2_ := A_ (hbox); have n3_ := A_ (bz_ hg (bk_ HB.out)); have n4_ := A_ (bz_ hg (bk_ HB.out)); have n5_ := A_ (nl_ hg (pk_ BK120.out)); have n6_ := A_ (ng_ hg (pk_ BK120.out)); clear BK120 HB; have BK120 := n0_; have HB := n1_; have BK121 := n2_; have GW121 := n3_; have GE121 := n4_; have NB120_121 := n5_; have NB121_120 := n6_; clear n0_ n1_ n2_ n3_ n4_ n5_ n6_ hb hbox hg; have hnb8 := NB120_121.out; have hnc8 := NB121_120.out; obtain ⟨hcz9_0, hcz9_1, hcz9_2⟩ := bc3_ BK120.out; have hfz9_0 := blk_frozen BK120.out 0; have hfz9_1 := blk_frozen BK120.out 1; have hfz9_2 := blk_frozen BK120.out 2) | ((with_reducible refine gate_callee (f := 19) rfl ?_); refine goesL_ (some 6) rfl rfl Try.func19 (by kernel_rfl) rfl #[.agg #[.int .i64 a0_0, .int .i64 a0_1, .slice A0_2 l0_2.length c0_2]] rfl gl_ ?_; (with_reducible refine (standstillref01_Valid.calls k a0_0 a0_1 _ _ l0_2 true _ ?side1 ?side2 A3.out).mono ?_); (case side1 => exact ck_ (Kd.C_below HR0_2.out HB.out)); (case side2 => exact HC0_2.out); rintro e w10 ⟨rfl, hb⟩; refine ⟨_, rfl, ?_⟩; have n0_ := A_ (blk_below (pk_ BK120.out) hb); have n1_ := A_ (blk_below (pk_ BK121.out) hb); have n2_ := A_ (below_step (bk_ HB.out) hb); clear BK120 BK121 HB; have BK120 := n0_; have BK121 := n1_; have HB := n2_; clear n0_ n1_ n2_; (try clear hb); (try clear hb2); (try clear hk); (try clear hi); obtain ⟨hcz11_0, hcz11_1, hcz11_2, hcz11_3, hcz11_4⟩ := bc5_ BK121.out; have hfz11_0 := blk_frozen BK121.out 0; have hfz11_1 := blk_frozen BK121.out 1; have hfz11_2 := blk_frozen BK121.out 2; have hfz11_3 := blk_frozen BK121.out 3; have hfz11_4 := blk_frozen BK121.out 4; obtain ⟨hcz12_0, hcz12_1, hcz12_2⟩ := bc3_ BK120.out; have hfz12_0 := blk_frozen BK120.out 0; have hfz12_1 := blk_frozen BK120.out 1; have hfz12_2 := blk_frozen BK120.out 2) | (go_at_call 30; (with_reducible refine (standstillref04_Within.calls k a1_0 a1_1 a1_2 _ _ l1_3 _ _ l1_4 a0_0 a0_1 t123 _ ?side1 ?side2 ?side3 ?side4 A5.out).mono ?_); (case side1 => exact ck_ (Kd.C_below HR1_3.out HB.out)); (case side2 => exact HC1_3.out); (case side3 => exact ck_ (Kd.C_below HR1_4.out HB.out)); (case side4 => exact HC1_4.out); rintro e w13 ⟨rfl, hb⟩; have n0_ := A_ (blk_below (pk_ BK120.out) hb); have n2_ := A_ (below_step (bk_ HB.out) hb); clear BK120 HB; have BK120 := n0_; have HB := n2_; clear n0_ n2_; (try clear hb); (try clear hb2); (try clear hk); (try clear hi)))
  go_ret
  exact ⟨er_, bk_ HB.out⟩
 ·replace c4 := Bool.eq_false_iff.mpr c4
  subst c4
  have H1 : (some false) = some r := by rw [if_neg (show ¬ (false = true) by decide)] at H; exact H
  clear H
  have H := H1
  clear H1
  obtain rfl := Option.some.inj H
  go_enter Try.func8, Try.ntmps8
  go_wp2_with (first | ((with_reducible refine gate_dst (N := 2) rfl ?_); refine box_event ?hg (N := 2) ?hd (cs := #[.int .i64 a0_0, .int .i64 a0_1, .slice A0_2 l0_2.length c0_2]) (t := 24) ?hr ?_; (case hd => rfl); (case hg => rfl); (case hr => first | (go_simp; done) | (go_simp; rfl)); intro gb120 hg w14 hbox hb; have n0_ := A_ (below_step (bk_ HB.out) hb); have n1_ := A_ (hbox); have n2_ := A_ (bz_ hg (bk_ HB.out)); have n3_ := A_ (bz_ hg (bk_ HB.out)); clear HB; have HB := n0_; have BK120 := n1_; have GW120 := n2_; have GE120 := n3_; clear n0_ n1_ n2_ n3_ hb hbox hg) | ((with_reducible refine gate_dst (N := 3) rfl ?_); refine box_event ?hg (N := 3) ?hd (cs := #[.int .i64 a1_0, .int .i64 a1_1, .int .i64 a1_2, .slice A1_3 l1_3.length c1_3, .slice A1_4 l1_4.length c1_4]) (t := 27) ?hr ?_; (case hd => rfl); (case hg => rfl); (case hr => first | (go_simp; done) | (go_simp; rfl)); intro gb121 hg w15 hbox hb; have n0_ := A_ (blk_below (pk_ BK120.out) hb); have n1_ := A_ (below_step (bk_ HB.out) hb); have n3_ := A_ (bz_ hg (bk_ HB.out)); have n4_ := A_ (bz_ hg (bk_ HB.out)); clear BK120 HB; have BK120 := n0_; have HB := n1_; have GW121 := n3_; have GE121 := n4_; clear n0_ n1_ n3_ n4_ hb hbox hg; obtain ⟨hcz17_0, hcz17_1, hcz17_2⟩ := bc3_ BK120.out; have hfz17_0 := blk_frozen BK120.out 0; have hfz17_1 := blk_frozen BK120.out 1; have hfz17_2 := blk_frozen BK120.out 2) | ((with_reducible refine gate_callee (f := 19) rfl ?_); refine goesL_ (some 6) rfl rfl Try.func19 (by kernel_rfl) rfl #[.agg #[.int .i64 a0_0, .int .i64 a0_1, .slice A0_2 l0_2.length c0_2]] rfl gl_ ?_; (with_reducible refine (standstillref01_Valid.calls k a0_0 a0_1 _ _ l0_2 false _ ?side1 ?side2 A3.out).mono ?_); (case side1 => exact ck_ (Kd.C_below HR0_2.out HB.out)); (case side2 => exact HC0_2.out); rintro e w18 ⟨rfl, hb⟩; refine ⟨_, rfl, ?_⟩; have n2_ := A_ (below_step (bk_ HB.out) hb); clear HB; have HB := n2_; clear n2_; (try clear hb); (try clear hb2); (try clear hk); (try clear hi)))
  go_ret
  exact ⟨er_, bk_ HB.out⟩

/-! ### standstilllaw04_modest: function 9 -/
def standstilllaw04_modest.l0 : Nat → List (S75) → Int → Int → Int → Int → List (S75) → List (S75) → Option (Bool)
 | 0, _, _, _, _, _, _, _ => none
 | k + 1, x3, x4, x125000, x125001, x125002, x125003, x125004 => if x4 < (x3.length : Int) then (if 0 ≤ x4 then (if ((rd_T75 x3 x4).f1) > 36028797018963968 then (some false) else (standstilllaw04_modest.l0 k x3 (wrap64 (x4 + 1)) x125000 x125001 x125002 x125003 x125004)) else (none)) else (if x125001 ≥ (-36028797018963968) then (some (decide (x125001 ≤ 36028797018963968))) else (some false))
def standstilllaw04_modest.f (k : Nat) (a0_0 : Int) (a0_1 : Int) (a0_2 : Int) (l0_3 : List (S75)) (l0_4 : List (S75)) : Option (Bool) := (some (([] : List (S75)) : List (S75))).bind fun y125 => (if y125.length + l0_3.length < 8796093022208 then ((some (y125 ++ l0_3 : List (S75))).bind fun y128 => (if y128.length + l0_4.length < 8796093022208 then (standstilllaw04_modest.l0 k (y128 ++ l0_4) 0 a0_0 a0_1 a0_2 l0_3 l0_4) else (none))) else (none))
theorem standstilllaw04_modest.mono_l : ∀ k, (∀ y0 y1 y2 y3 y4 y5 y6, LeO (standstilllaw04_modest.l0 k y0 y1 y2 y3 y4 y5 y6) (standstilllaw04_modest.l0 (k + 1) y0 y1 y2 y3 y4 y5 y6))
 | 0 => fun _ _ _ _ _ _ _ r h => by simp [standstilllaw04_modest.l0] at h
 | k + 1 => by
  have ih0 := standstilllaw04_modest.mono_l k
  ·intro y0 y1 y2 y3 y4 y5 y6
   unfold standstilllaw04_modest.l0
   repeat' first
   | (with_reducible exact ih0 _ _ _ _ _ _ _)
   | (with_reducible exact LeO.refl _)
   | (with_reducible exact LeO.none _)
   | (with_reducible refine LeO.ite ?_ ?_)
   | (with_reducible refine LeO.bind ?_ (fun _ => ?_))
   | exact ih0 _ _ _ _ _ _ _
   | exact LeO.none _
   | refine LeO.ite ?_ ?_
   | refine LeO.bind ?_ (fun _ => ?_)
theorem standstilllaw04_modest.mono : ∀ a0 a1 a2 a3 a4 k, LeO (standstilllaw04_modest.f k a0 a1 a2 a3 a4) (standstilllaw04_modest.f (k + 1) a0 a1 a2 a3 a4) := by
 intro a0 a1 a2 a3 a4 k
 have ih0 := standstilllaw04_modest.mono_l k
 unfold standstilllaw04_modest.f
 repeat' first
   | (with_reducible exact ih0 _ _ _ _ _ _ _)
   | (with_reducible exact LeO.refl _)
   | (with_reducible exact LeO.none _)
   | (with_reducible refine LeO.ite ?_ ?_)
   | (with_reducible refine LeO.bind ?_ (fun _ => ?_))
   | exact ih0 _ _ _ _ _ _ _
   | exact LeO.none _
   | refine LeO.ite ?_ ?_
   | refine LeO.bind ?_ (fun _ => ?_)
def standstilllaw04_modest.T1 : Bool × List (List Nat × List Nat) := (true, [([], []), ([], []), ([1], [1]), ([0, 2], [0, 2]), ([], []), ([4], [4]), ([3, 5, 3], [3, 5]), ([6, 6, 0, 1, 2, 3, 4, 5, 6], [6])])
def standstilllaw04_modest.B1 : List Nat := [0, 0, 2, 7, 0, 16, 63, 127]
theorem standstilllaw04_modest.tab1 : rtab .any (opsOf Try.f9 1) = standstilllaw04_modest.T1 := by kernel_rfl
theorem standstilllaw04_modest.bits1 : waitsOk standstilllaw04_modest.T1.2 standstilllaw04_modest.B1 = true := by kernel_rfl
set_option maxHeartbeats 8000000 in
set_option maxRecDepth 100000 in
theorem standstilllaw04_modest.calls (k : Nat) (a0_0 : Int) (a0_1 : Int) (a0_2 : Int) (A0_3 : Option Addr) (c0_3 : Nat) (l0_3 : List (S75)) (A0_4 : Option Addr) (c0_4 : Nat) (l0_4 : List (S75)) (r : Bool) (w : World) (hr0_3 : Kd.C k75 w A0_3 l0_3.length l0_3) (hc0_3 : l0_3.length ≤ c0_3) (hr0_4 : Kd.C k75 w A0_4 l0_4.length l0_4) (hc0_4 : l0_4.length ≤ c0_4) (h : standstilllaw04_modest.f k a0_0 a0_1 a0_2 l0_3 l0_4 = some r) :
  Calls Try.prog 9 #[.agg #[.int .i64 a0_0, .int .i64 a0_1, .int .i64 a0_2, .slice A0_3 l0_3.length c0_3, .slice A0_4 l0_4.length c0_4]] w fun e w' => e = .returned (.bool r) ∧ Below w.heap.size w w' := by
 have hu27 := Try.underlying27
 have HR0_3 := Aside0.mk hr0_3
 have HC0_3 := Aside0.mk hc0_3
 clear hr0_3 hc0_3
 have HR0_4 := Aside0.mk hr0_4
 have HC0_4 := Aside0.mk hc0_4
 clear hr0_4 hc0_4
 have HB := A_ (Below.refl w.heap.size w)
 have H : ((some (([] : List (S75)) : List (S75))).bind fun y125 => (if y125.length + l0_3.length < 8796093022208 then ((some (y125 ++ l0_3 : List (S75))).bind fun y128 => (if y128.length + l0_4.length < 8796093022208 then (standstilllaw04_modest.l0 k (y128 ++ l0_4) 0 a0_0 a0_1 a0_2 l0_3 l0_4) else (none))) else (none))) = some r := h
 clear h
 obtain ⟨y125, hy125⟩ : ∃ y_ : List (S75), y_ = (([] : List (S75))) := ⟨_, rfl⟩
 replace H : (if y125.length + l0_3.length < 8796093022208 then ((some (y125 ++ l0_3 : List (S75))).bind fun y128 => (if y128.length + l0_4.length < 8796093022208 then (standstilllaw04_modest.l0 k (y128 ++ l0_4) 0 a0_0 a0_1 a0_2 l0_3 l0_4) else (none))) else (none)) = some r := by first | (rw [hy125]; with_reducible exact H) | (have H2_ := (Option.bind_some _ _).symm.trans H; rw [hy125]; with_reducible exact H2_) | (have H2_ := (Option.bind_some _ _).symm.trans H; with_reducible exact H2_) | with_reducible exact H | (rw [hy125]; exact H) | exact H
 have Ny125 := Aside0.mk hy125
 clear hy125
 by_cases c2 : y125.length + l0_3.length < 8796093022208
 ·rw [if_pos c2] at H
  have LMc2 := Aside0.mk c2
  clear c2
  obtain ⟨y128, hy128⟩ : ∃ y_ : List (S75), y_ = (y125 ++ l0_3) := ⟨_, rfl⟩
  replace H : (if y128.length + l0_4.length < 8796093022208 then (standstilllaw04_modest.l0 k (y128 ++ l0_4) 0 a0_0 a0_1 a0_2 l0_3 l0_4) else (none)) = some r := by first | (rw [hy128]; with_reducible exact H) | (have H2_ := (Option.bind_some _ _).symm.trans H; rw [hy128]; with_reducible exact H2_) | (have H2_ := (Option.bind_some _ _).symm.trans H; with_reducible exact H2_) | with_reducible exact H | (rw [hy128]; exact H) | exact H
  have Ny128 := Aside0.mk hy128
  clear hy128
  by_cases c3 : y128.length + l0_4.length < 8796093022208
  ·rw [if_pos c3] at H
   have LMc3 := Aside0.mk c3
   clear c3
   obtain ⟨y131, hy131⟩ : ∃ y_ : List (S75), y_ = (y128 ++ l0_4) := ⟨_, rfl⟩
   replace H : (standstilllaw04_modest.l0 k y131 0 a0_0 a0_1 a0_2 l0_3 l0_4) = some r := by first | (rw [hy131]; with_reducible exact H) | (have H2_ := (Option.bind_some _ _).symm.trans H; rw [hy131]; with_reducible exact H2_) | (have H2_ := (Option.bind_some _ _).symm.trans H; with_reducible exact H2_) | with_reducible exact H | (rw [hy131]; exact H) | exact H
   have Ny131 := Aside0.mk hy131
   clear hy131
   have H' := Aside0.mk H
   clear H
   go_enter Try.func9, Try.ntmps9
   try go_wp2_with (first | ((with_reducible refine gate_dst (N := 1) rfl ?_); refine box_event ?hg (N := 1) ?hd (cs := #[.int .i64 a0_0, .int .i64 a0_1, .int .i64 a0_2, .slice A0_3 l0_3.length c0_3, .slice A0_4 l0_4.length c0_4]) (t := 27) ?hr ?_; (case hd => rfl); (case hg => rfl); (case hr => first | (go_simp; done) | (go_simp; rfl)); intro gb124 hg w4 hbox hb; have n0_ := A_ (below_step (bk_ HB.out) hb); have n1_ := A_ (hbox); have n2_ := A_ (bz_ hg (bk_ HB.out)); have n3_ := A_ (bz_ hg (bk_ HB.out)); clear HB; have HB := n0_; have BK124 := n1_; have GW124 := n2_; have GE124 := n3_; clear n0_ n1_ n2_ n3_ hb hbox hg))
   have n0_ := A_ (blk_drew BK124.out)
   have n1_ := A_ (below_drew1 HB.out)
   clear BK124 HB
   have BK124 := n0_
   have HB := n1_
   clear n0_ n1_
   refine start_ (n := 8) (S := fun w' => w'.cell? ⟨gb124, 0, none⟩ = some (.int .i64 a0_0) ∧ w'.cell? ⟨gb124, 1, none⟩ = some (.int .i64 a0_1) ∧ w'.cell? ⟨gb124, 2, none⟩ = some (.int .i64 a0_2) ∧ w'.cell? ⟨gb124, 3, none⟩ = some (.slice A0_3 l0_3.length c0_3) ∧ w'.cell? ⟨gb124, 4, none⟩ = some (.slice A0_4 l0_4.length c0_4)) (ds := []) #[false, false, false, false, false, false, false, false] (by kernel_rfl) rfl rfl ⟨(blk_cell BK124.out 0).trans rfl, (blk_cell BK124.out 1).trans rfl, (blk_cell BK124.out 2).trans rfl, (blk_cell BK124.out 3).trans rfl, (blk_cell BK124.out 4).trans rfl⟩ (fun hHeld => ?_); refine with_tabW standstilllaw04_modest.tab1 standstilllaw04_modest.bits1 (fun HT_ HW_ => ?_)
   generalize w4.drew = w5 at BK124 HB hHeld ⊢
   refine pure_ (i := 1) (N := some 6) (v := ?_) (a' := ?_) #[false, true, false, false, false, false, false, false] rfl rfl (any_of HT_.out (by kernel_rfl)) (fun _ _ _ h => h) (Or.inl ⟨by rfl, ?_⟩) ?_ ?_
   rotate_left
   ·intro w'
    go_simp
    with_reducible rfl
   rotate_left
   ·simp only [Act.put, sa_, sz_, ss_, i64_w, i32_w]
    rfl
   refine pure_ (i := 4) (N := some 9) (v := ?_) (a' := ?_) #[false, true, false, false, true, false, false, false] rfl rfl (any_of HT_.out (by kernel_rfl)) (fun _ _ _ h => h) (Or.inl ⟨by rfl, ?_⟩) ?_ ?_
   rotate_left
   ·intro w'
    go_simp
    with_reducible rfl
   rotate_left
   ·simp only [Act.put, sa_, sz_, ss_, i64_w, i32_w]
    rfl
   refine take_ (i := 2) (N := some 7) (v := ?_) (a' := ?_) #[false, true, true, false, true, false, false, false] rfl rfl (take_ofW HT_.out HW_.out (by kernel_rfl)) (fun _ _ _ h => h) (Or.inl ⟨by rfl, ?_⟩) hHeld ?_ ?_
   rotate_left
   ·rintro w' ⟨s0, s1, s2, s3, s4⟩
    go_simp
    with_reducible rfl
   rotate_left
   ·simp only [Act.put, sa_, sz_, ss_, i64_w, i32_w]
    rfl
   refine take_ (i := 5) (N := some 10) (v := ?_) (a' := ?_) #[false, true, true, false, true, true, false, false] rfl rfl (take_ofW HT_.out HW_.out (by kernel_rfl)) (fun _ _ _ h => h) (Or.inl ⟨by rfl, ?_⟩) hHeld ?_ ?_
   rotate_left
   ·rintro w' ⟨s0, s1, s2, s3, s4⟩
    go_simp
    with_reducible rfl
   rotate_left
   ·simp only [Act.put, sa_, sz_, ss_, i64_w, i32_w]
    rfl
   refine one_ (i := 0) (N := some 5) #[true, true, true, false, true, true, false, false] rfl rfl (one_of HT_.out (by kernel_rfl)) (by decide) (fun K hK => ?_)
   refine Kd.R_lit_step k75 _ 75 ?hg (N := 5) ?hd (xs := ([] : List (S75))) (inner := []) (ok := fun _ => True) (okp := fun _ => True) ?hr ?hp (fun _ hk => hk) trivial (Below.refl _ _) (Nat.le_refl _) (by simp) ?_; (case hd => rfl); (case hg => rfl); (case hr => first | (go_simp; done) | (go_simp; rfl)); (case hp => exact (Reps.none _ _))
   intro v126 w6 ho7 hb hg_ hnew_
   clear hg_ hnew_
   (first | rw [← Ny125.out] at ho7 | (simp only [Int.reduceToNat] at ho7; rw [← Ny125.out] at ho7))
   have n0_ := A_ (Kd.R_lower ho7 (below_size (bk_ HB.out)))
   have n1_ := A_ (blk_below (pk_ BK124.out) hb)
   have n2_ := A_ (below_step (bk_ HB.out) hb)
   clear BK124 HB
   have HO127 := n0_
   have BK124 := n1_
   have HB := n2_
   clear n0_ n1_ n2_ hb ho7
   refine hK.out _ _ ⟨(blk_cell BK124.out 0).trans rfl, (blk_cell BK124.out 1).trans rfl, (blk_cell BK124.out 2).trans rfl, (blk_cell BK124.out 3).trans rfl, (blk_cell BK124.out 4).trans rfl⟩ (fun hHeld => ?_)
   clear hK K
   refine norm_ (a' := ?_) ?_ ?_
   rotate_left
   ·show Act.put _ (some 5) _ = _
    simp only [Act.put, sa_, sz_, ss_, i64_w, i32_w]
    rfl
   refine one_ (i := 3) (N := some 8) #[true, true, true, true, true, true, false, false] rfl rfl (one_of HT_.out (by kernel_rfl)) (by decide) (fun K hK => ?_)
   refine Kd.R_append_rows_step k75 (w0 := w) w.heap.size (by rfl) (.tmp 5) (.tmp 7) 25 75 (.agg #[(.int .i64 0), (.int .i64 0)]) 16 rfl Try.underlying25 info75 rfl (by decide) (by omega) v126 y125 l0_3 _ _ _ (fun _ => True) (fun _ => False) rfl rfl ?aO ?aR (fun _ _ h => h) (fun _ h => h.elim) ?aF ?aB ?aS ?aL ?_
   (case aR => repeat (first | exact (Kd.C_below HR0_3.out HB.out) | (with_reducible refine Kd.C_alloc ?_ _) | (with_reducible refine Kd.C_drewN ?_ _) | (with_reducible refine Kd.C_drew ?_)))
   (case aB => exact (bk_ HB.out))
   (case aF => exact (fun _ _ => trivial))
   (case aO => exact (rk_ HO127.out))
   (case aS => exact (below_size (bk_ HB.out)))
   (case aL => have := LMc2.out; omega)
   intro v129 w8 ho hb hg hat
   rw [← Ny128.out] at ho
   have n0_ := A_ (blk_grown (pk_ BK124.out) hg (Kd.R_ne HO127.out BK124.out (by decide)))
   have n1_ := A_ (hb)
   have n2_ := A_ (ho)
   clear BK124 HB HO127
   have BK124 := n0_
   have HB := n1_
   have HO130 := n2_
   clear n0_ n1_ n2_ ho hb hg hat
   refine hK.out _ _ ⟨(blk_cell BK124.out 0).trans rfl, (blk_cell BK124.out 1).trans rfl, (blk_cell BK124.out 2).trans rfl, (blk_cell BK124.out 3).trans rfl, (blk_cell BK124.out 4).trans rfl⟩ (fun hHeld => ?_)
   clear hK K
   refine norm_ (a' := ?_) ?_ ?_
   rotate_left
   ·show Act.put _ (some 8) _ = _
    simp only [Act.put, sa_, sz_, ss_, i64_w, i32_w]
    rfl
   refine one_ (i := 6) (N := some 11) #[true, true, true, true, true, true, true, false] rfl rfl (one_of HT_.out (by kernel_rfl)) (by decide) (fun K hK => ?_)
   refine Kd.R_append_rows_step k75 (w0 := w) w.heap.size (by rfl) (.tmp 8) (.tmp 10) 25 75 (.agg #[(.int .i64 0), (.int .i64 0)]) 16 rfl Try.underlying25 info75 rfl (by decide) (by omega) v129 y128 l0_4 _ _ _ (fun _ => True) (fun _ => False) rfl rfl ?aO ?aR (fun _ _ h => h) (fun _ h => h.elim) ?aF ?aB ?aS ?aL ?_
   (case aR => repeat (first | exact (Kd.C_below HR0_4.out HB.out) | (with_reducible refine Kd.C_alloc ?_ _) | (with_reducible refine Kd.C_drewN ?_ _) | (with_reducible refine Kd.C_drew ?_)))
   (case aB => exact (bk_ HB.out))
   (case aF => exact (fun _ _ => trivial))
   (case aO => exact (rk_ HO130.out))
   (case aS => exact (below_size (bk_ HB.out)))
   (case aL => have := LMc3.out; omega)
   intro v132 w9 ho hb hg hat
   rw [← Ny131.out] at ho
   have n0_ := A_ (blk_grown (pk_ BK124.out) hg (Kd.R_ne HO130.out BK124.out (by decide)))
   have n1_ := A_ (hb)
   have n2_ := A_ (ho)
   clear BK124 HB HO130
   have BK124 := n0_
   have HB := n1_
   have HO133 := n2_
   clear n0_ n1_ n2_ ho hb hg hat
   refine hK.out _ _ ⟨(blk_cell BK124.out 0).trans rfl, (blk_cell BK124.out 1).trans rfl, (blk_cell BK124.out 2).trans rfl, (blk_cell BK124.out 3).trans rfl, (blk_cell BK124.out 4).trans rfl⟩ (fun hHeld => ?_)
   clear hK K
   refine norm_ (a' := ?_) ?_ ?_
   rotate_left
   ·show Act.put _ (some 11) _ = _
    simp only [Act.put, sa_, sz_, ss_, i64_w, i32_w]
    rfl
   refine pure_ (i := 7) (N := some 3) (v := ?_) (a' := ?_) #[true, true, true, true, true, true, true, true] rfl rfl (any_of HT_.out (by kernel_rfl)) (fun _ _ _ h => h) (Or.inl ⟨by rfl, ?_⟩) ?_ ?_
   rotate_left
   ·intro w'
    go_simp
    with_reducible rfl
   rotate_left
   ·simp only [Act.put, sa_, sz_, ss_, i64_w, i32_w]
    rfl
   refine done_ (done_of HT_.out (by kernel_rfl)) ?_
   try go_wp2
   go_loopg [4] k (fun kq v4 w' => ∃ (x4_1 : Int), v4 = .int .i64 x4_1 ∧ Aside0 (standstilllaw04_modest.l0 kq y131 x4_1 a0_0 a0_1 a0_2 l0_3 l0_4 = some r) ∧ Aside0 (kq ≤ k) ∧ Aside0 (Kd.R k75 75 w' w.heap.size (fun _ => True) v132 y131) ∧ Aside0 (w'.heap[gb124]? = some (.cells #[.int .i64 a0_0, .int .i64 a0_1, .int .i64 a0_2, (.slice A0_3 l0_3.length c0_3), (.slice A0_4 l0_4.length c0_4)] 27 (0, 0))) ∧ Aside0 (Below w.heap.size w w'))
   case atStart => exact ⟨(0), jr_, H', ⟨Nat.le_refl _⟩, ⟨rk_ HO133.out⟩, ⟨pk_ BK124.out⟩, ⟨bk_ HB.out⟩⟩
   case round =>
    clear H'
    (try clear c2); (try clear c3)
    obtain ⟨x4_1, rfl, HA, HK1, HO_3, BK124, HB⟩ := hrel
    cases gk with
    | zero => exact absurd HA.out (by simp [standstilllaw04_modest.l0])
    | succ k1 =>
     have H := HA.out
     clear HA
     simp only [standstilllaw04_modest.l0] at H
     by_cases c10 : x4_1 < (y131.length : Int)
     ·rw [if_pos c10] at H
      have c10b0 : decide (x4_1 < (y131.length : Int)) = true := decide_eq_true c10
      clear c10
      by_cases c11 : 0 ≤ x4_1
      ·rw [if_pos c11] at H
       have c11b0 : decide (0 ≤ x4_1) = true := decide_eq_true c11
       clear c11
       by_cases c12 : ((rd_T75 y131 x4_1).f1) > 36028797018963968
       ·rw [if_pos c12] at H
        have c12b0 : decide (36028797018963968 < ((rd_T75 y131 x4_1).f1)) = true := decide_eq_true c12
        clear c12
        obtain rfl := Option.some.inj H
        obtain ⟨Ao13, co13, eo13⟩ := Kd.R_slice HO_3.out
        subst eo13
        have p134 : 0 ≤ (x4_1 : Int) := od_
        have q134 : x4_1 < (y131.length : Int) := od_
        obtain ⟨ad134, e134, hx134_0, hx134_1⟩ := at_T75 (Kd.R_reads' HO_3.out).2.2 x4_1 p134 q134
        cases e134
        replace p134 := eq_true p134
        replace q134 := eq_true q134
        go_wp2
        go_ret
        exact ⟨er_, bk_ HB.out⟩
       ·rw [if_neg c12] at H
        have c12b0 : decide (36028797018963968 < ((rd_T75 y131 x4_1).f1)) = false := decide_eq_false c12
        clear c12
        have H' := Aside0.mk H
        clear H
        obtain ⟨Ao14, co14, eo14⟩ := Kd.R_slice HO_3.out
        subst eo14
        have p134 : 0 ≤ (x4_1 : Int) := od_
        have q134 : x4_1 < (y131.length : Int) := od_
        obtain ⟨ad134, e134, hx134_0, hx134_1⟩ := at_T75 (Kd.R_reads' HO_3.out).2.2 x4_1 p134 q134
        cases e134
        replace p134 := eq_true p134
        replace q134 := eq_true q134
        go_wp2
        go_roundg k1
        case measure => have := HK1.out; omega
        case rel => exact ⟨(wrap64 (x4_1 + 1)), jr_, H', ⟨by have := HK1.out; omega⟩, ⟨rk_ HO_3.out⟩, ⟨pk_ BK124.out⟩, ⟨bk_ HB.out⟩⟩
      ·rw [if_neg c11] at H
       exact absurd H (by simp)
     ·rw [if_neg c10] at H
      have c10b0 : decide (x4_1 < (y131.length : Int)) = false := decide_eq_false c10
      clear c10
      by_cases c15 : a0_1 ≥ (-36028797018963968)
      ·rw [if_pos c15] at H
       have c15b0 : decide ((-36028797018963968) ≤ a0_1) = true := decide_eq_true c15
       clear c15
       obtain rfl := Option.some.inj H
       obtain ⟨Ao16, co16, eo16⟩ := Kd.R_slice HO_3.out
       subst eo16
       obtain ⟨hcz17_0, hcz17_1, hcz17_2, hcz17_3, hcz17_4⟩ := bc5_ BK124.out
       have hfz17_0 := blk_frozen BK124.out 0
       have hfz17_1 := blk_frozen BK124.out 1
       have hfz17_2 := blk_frozen BK124.out 2
       have hfz17_3 := blk_frozen BK124.out 3
       have hfz17_4 := blk_frozen BK124.out 4
       go_wp2
       go_ret
       exact ⟨er_, bk_ HB.out⟩
      ·rw [if_neg c15] at H
       have c15b0 : decide ((-36028797018963968) ≤ a0_1) = false := decide_eq_false c15
       clear c15
       obtain rfl := Option.some.inj H
       obtain ⟨Ao18, co18, eo18⟩ := Kd.R_slice HO_3.out
       subst eo18
       obtain ⟨hcz19_0, hcz19_1, hcz19_2, hcz19_3, hcz19_4⟩ := bc5_ BK124.out
       have hfz19_0 := blk_frozen BK124.out 0
       have hfz19_1 := blk_frozen BK124.out 1
       have hfz19_2 := blk_frozen BK124.out 2
       have hfz19_3 := blk_frozen BK124.out 3
       have hfz19_4 := blk_frozen BK124.out 4
       go_wp2
       go_ret
       exact ⟨er_, bk_ HB.out⟩
  ·rw [if_neg c3] at H
   exact absurd H (by simp)
 ·rw [if_neg c2] at H
  exact absurd H (by simp)

end Go.Proofs.Ytdkcociababjdaa.PLeapLong
