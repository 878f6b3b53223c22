-- out of a turned copy of the print, by a program of this session; Lean checks it
import Derived.Test.YtkbekdjoaibhbaaPPairRunsx0
import Derived.Test.YtkbekdjoaibhbaaPPairRunsx1
namespace Go.Proofs.Ytkbekdjoaibhbaa.PPairRuns
open Go.RowKit Go.Proofs.YtkbekdjoaibhbaaW.PrintWords Go.Proofs.YtkbekdjoaibhbaaW.PrintLast Go.Proofs.YtkbekdjoaibhbaaW.PrintMore
attribute [local go_sem] max2_int min2_int max_two min_two max_three min_three max_four min_four   -- for this text's walks alone
set_option linter.unusedVariables false
set_option linter.unusedSimpArgs false

attribute [local go_sem] isSome_put_
attribute [local go_sem high] eqA45
/-! ### counter_Valid: function 26 -/
mutual
def counter_Valid.j0 : Nat → Int → Bool → Int → List (S45) → Option (Bool)
 | 0, _, _, _, _ => none
 | k + 1, x3, x24, x128000, x128001 => if x24 = true then (some false) else (counter_Valid.l0 k x3 x128001 (x128001.length : Int) 0 x128000 x128001)
def counter_Valid.l0 : Nat → Int → List (S45) → Int → Int → Int → List (S45) → Option (Bool)
 | 0, _, _, _, _, _, _ => none
 | k + 1, x3, x26, x27, x28, x128000, x128001 => if x28 < x27 then (if 0 ≤ x28 then (if x28 < (x26.length : Int) then (if ((rd_T45 x26 x28).f0) = 2 then (counter_Valid.j2 k x3 x26 x27 x28 (!(((rd_T45 x26 x28).f0) == 2) || (!(((rd_T45 x26 x28).f1) == 0) || (!(((rd_T45 x26 x28).f2) == 0) || (!(((rd_T45 x26 x28).f3) == 0))))) x128000 x128001 ((rd_T45 x26 x28).f0) ((rd_T45 x26 x28).f1) ((rd_T45 x26 x28).f2) ((rd_T45 x26 x28).f3)) else (counter_Valid.j2 k x3 x26 x27 x28 false x128000 x128001 ((rd_T45 x26 x28).f0) ((rd_T45 x26 x28).f1) ((rd_T45 x26 x28).f2) ((rd_T45 x26 x28).f3))) else (none)) else (none)) else (some true)
def counter_Valid.j2 : Nat → Int → List (S45) → Int → Int → Bool → Int → List (S45) → Int → Int → Int → Int → Option (Bool)
 | 0, _, _, _, _, _, _, _, _, _, _, _ => none
 | k + 1, x3, x26, x27, x28, x32, x128000, x128001, x130000, x130001, x130002, x130003 => if x32 = true then (some false) else (if x130000 = 2 then (counter_Valid.l0 k x3 x26 x27 (wrap64 (x28 + 1)) x128000 x128001) else (if x130000 = 0 then (if x130001 < 0 then (counter_Valid.j3 k x3 x26 x27 x28 true x128000 x128001 x130000 x130001 x130002 x130003) else (if x130001 ≥ x128000 then (counter_Valid.j3 k x3 x26 x27 x28 true x128000 x128001 x130000 x130001 x130002 x130003) else (if x130002 < 0 then (counter_Valid.j3 k x3 x26 x27 x28 true x128000 x128001 x130000 x130001 x130002 x130003) else (counter_Valid.j3 k x3 x26 x27 x28 (decide (x130002 ≥ x3)) x128000 x128001 x130000 x130001 x130002 x130003)))) else (if x130000 = 1 then (if x130001 < 0 then (counter_Valid.j3 k x3 x26 x27 x28 true x128000 x128001 x130000 x130001 x130002 x130003) else (if x130001 ≥ x128000 then (counter_Valid.j3 k x3 x26 x27 x28 true x128000 x128001 x130000 x130001 x130002 x130003) else (if x130002 < 0 then (counter_Valid.j3 k x3 x26 x27 x28 true x128000 x128001 x130000 x130001 x130002 x130003) else (counter_Valid.j3 k x3 x26 x27 x28 (decide (x130002 ≥ x3)) x128000 x128001 x130000 x130001 x130002 x130003)))) else (counter_Valid.j3 k x3 x26 x27 x28 true x128000 x128001 x130000 x130001 x130002 x130003))))
def counter_Valid.j3 : Nat → Int → List (S45) → Int → Int → Bool → Int → List (S45) → Int → Int → Int → Int → Option (Bool)
 | 0, _, _, _, _, _, _, _, _, _, _, _ => none
 | k + 1, x3, x26, x27, x28, x45, x128000, x128001, x130000, x130001, x130002, x130003 => if x45 = true then (some false) else (if x130000 = 0 then (if x130003 = 0 then (if x130003 < 0 then (some false) else (if x130003 ≥ x3 then (some false) else (counter_Valid.l0 k x3 x26 x27 (wrap64 (x28 + 1)) x128000 x128001))) else (some false)) else (if x130003 < 0 then (some false) else (if x130003 ≥ x3 then (some false) else (counter_Valid.l0 k x3 x26 x27 (wrap64 (x28 + 1)) x128000 x128001))))
end
def counter_Valid.f (k : Nat) (a0_0 : Int) (l0_1 : List (S45)) : Option (Bool) := if a0_0 < 1 then (counter_Valid.j0 k (l0_1.length : Int) true a0_0 l0_1) else (if a0_0 > 16 then (counter_Valid.j0 k (l0_1.length : Int) true a0_0 l0_1) else (if (l0_1.length : Int) < 1 then (counter_Valid.j0 k (l0_1.length : Int) true a0_0 l0_1) else (counter_Valid.j0 k (l0_1.length : Int) (decide ((l0_1.length : Int) > 2000)) a0_0 l0_1)))
theorem counter_Valid.mono_l : ∀ k, (∀ y0 y1 y2 y3, LeO (counter_Valid.j0 k y0 y1 y2 y3) (counter_Valid.j0 (k + 1) y0 y1 y2 y3)) ∧ (∀ y0 y1 y2 y3 y4 y5, LeO (counter_Valid.l0 k y0 y1 y2 y3 y4 y5) (counter_Valid.l0 (k + 1) y0 y1 y2 y3 y4 y5)) ∧ (∀ y0 y1 y2 y3 y4 y5 y6 y7 y8 y9 y10, LeO (counter_Valid.j2 k y0 y1 y2 y3 y4 y5 y6 y7 y8 y9 y10) (counter_Valid.j2 (k + 1) y0 y1 y2 y3 y4 y5 y6 y7 y8 y9 y10)) ∧ (∀ y0 y1 y2 y3 y4 y5 y6 y7 y8 y9 y10, LeO (counter_Valid.j3 k y0 y1 y2 y3 y4 y5 y6 y7 y8 y9 y10) (counter_Valid.j3 (k + 1) y0 y1 y2 y3 y4 y5 y6 y7 y8 y9 y10))
 | 0 => ⟨fun _ _ _ _ r h => by simp [counter_Valid.j0] at h, fun _ _ _ _ _ _ r h => by simp [counter_Valid.l0] at h, fun _ _ _ _ _ _ _ _ _ _ _ r h => by simp [counter_Valid.j2] at h, fun _ _ _ _ _ _ _ _ _ _ _ r h => by simp [counter_Valid.j3] at h⟩
 | k + 1 => by
  obtain ⟨ih0, ih1, ih2, ih3⟩ := counter_Valid.mono_l k
  refine ⟨?_, ?_, ?_, ?_⟩
  ·intro y0 y1 y2 y3
   unfold counter_Valid.j0
   repeat' first
   | (with_reducible exact ih0 _ _ _ _)
   | (with_reducible exact ih1 _ _ _ _ _ _)
   | (with_reducible exact ih2 _ _ _ _ _ _ _ _ _ _ _)
   | (with_reducible exact ih3 _ _ _ _ _ _ _ _ _ _ _)
   | (with_reducible exact LeO.refl _)
   | (with_reducible exact LeO.none _)
   | (with_reducible refine LeO.ite ?_ ?_)
   | (with_reducible refine LeO.bind ?_ (fun _ => ?_))
   | exact ih0 _ _ _ _
   | exact ih1 _ _ _ _ _ _
   | exact ih2 _ _ _ _ _ _ _ _ _ _ _
   | exact ih3 _ _ _ _ _ _ _ _ _ _ _
   | exact LeO.none _
   | refine LeO.ite ?_ ?_
   | refine LeO.bind ?_ (fun _ => ?_)
  ·intro y0 y1 y2 y3 y4 y5
   unfold counter_Valid.l0
   repeat' first
   | (with_reducible exact ih0 _ _ _ _)
   | (with_reducible exact ih1 _ _ _ _ _ _)
   | (with_reducible exact ih2 _ _ _ _ _ _ _ _ _ _ _)
   | (with_reducible exact ih3 _ _ _ _ _ _ _ _ _ _ _)
   | (with_reducible exact LeO.refl _)
   | (with_reducible exact LeO.none _)
   | (with_reducible refine LeO.ite ?_ ?_)
   | (with_reducible refine LeO.bind ?_ (fun _ => ?_))
   | exact ih0 _ _ _ _
   | exact ih1 _ _ _ _ _ _
   | exact ih2 _ _ _ _ _ _ _ _ _ _ _
   | exact ih3 _ _ _ _ _ _ _ _ _ _ _
   | exact LeO.none _
   | refine LeO.ite ?_ ?_
   | refine LeO.bind ?_ (fun _ => ?_)
  ·intro y0 y1 y2 y3 y4 y5 y6 y7 y8 y9 y10
   unfold counter_Valid.j2
   repeat' first
   | (with_reducible exact ih0 _ _ _ _)
   | (with_reducible exact ih1 _ _ _ _ _ _)
   | (with_reducible exact ih2 _ _ _ _ _ _ _ _ _ _ _)
   | (with_reducible exact ih3 _ _ _ _ _ _ _ _ _ _ _)
   | (with_reducible exact LeO.refl _)
   | (with_reducible exact LeO.none _)
   | (with_reducible refine LeO.ite ?_ ?_)
   | (with_reducible refine LeO.bind ?_ (fun _ => ?_))
   | exact ih0 _ _ _ _
   | exact ih1 _ _ _ _ _ _
   | exact ih2 _ _ _ _ _ _ _ _ _ _ _
   | exact ih3 _ _ _ _ _ _ _ _ _ _ _
   | exact LeO.none _
   | refine LeO.ite ?_ ?_
   | refine LeO.bind ?_ (fun _ => ?_)
  ·intro y0 y1 y2 y3 y4 y5 y6 y7 y8 y9 y10
   unfold counter_Valid.j3
   repeat' first
   | (with_reducible exact ih0 _ _ _ _)
   | (with_reducible exact ih1 _ _ _ _ _ _)
   | (with_reducible exact ih2 _ _ _ _ _ _ _ _ _ _ _)
   | (with_reducible exact ih3 _ _ _ _ _ _ _ _ _ _ _)
   | (with_reducible exact LeO.refl _)
   | (with_reducible exact LeO.none _)
   | (with_reducible refine LeO.ite ?_ ?_)
   | (with_reducible refine LeO.bind ?_ (fun _ => ?_))
   | exact ih0 _ _ _ _
   | exact ih1 _ _ _ _ _ _
   | exact ih2 _ _ _ _ _ _ _ _ _ _ _
   | exact ih3 _ _ _ _ _ _ _ _ _ _ _
   | exact LeO.none _
   | refine LeO.ite ?_ ?_
   | refine LeO.bind ?_ (fun _ => ?_)
theorem counter_Valid.mono : ∀ a0 a1 k, LeO (counter_Valid.f k a0 a1) (counter_Valid.f (k + 1) a0 a1) := by
 intro a0 a1 k
 obtain ⟨ih0, ih1, ih2, ih3⟩ := counter_Valid.mono_l k
 unfold counter_Valid.f
 repeat' first
   | (with_reducible exact ih0 _ _ _ _)
   | (with_reducible exact ih1 _ _ _ _ _ _)
   | (with_reducible exact ih2 _ _ _ _ _ _ _ _ _ _ _)
   | (with_reducible exact ih3 _ _ _ _ _ _ _ _ _ _ _)
   | (with_reducible exact LeO.refl _)
   | (with_reducible exact LeO.none _)
   | (with_reducible refine LeO.ite ?_ ?_)
   | (with_reducible refine LeO.bind ?_ (fun _ => ?_))
   | exact ih0 _ _ _ _
   | exact ih1 _ _ _ _ _ _
   | exact ih2 _ _ _ _ _ _ _ _ _ _ _
   | exact ih3 _ _ _ _ _ _ _ _ _ _ _
   | exact LeO.none _
   | refine LeO.ite ?_ ?_
   | refine LeO.bind ?_ (fun _ => ?_)
set_option maxHeartbeats 8000000 in
set_option maxRecDepth 100000 in
theorem counter_Valid.calls (k : Nat) (a0_0 : Int) (A0_1 : Option Addr) (c0_1 : Nat) (l0_1 : List (S45)) (r : Bool) (w : World) (hr0_1 : Kd.C k45 w A0_1 l0_1.length l0_1) (hc0_1 : l0_1.length ≤ c0_1) (h : counter_Valid.f k a0_0 l0_1 = some r) :
  Calls Try.prog 26 #[.agg #[.int .i64 a0_0, .slice A0_1 l0_1.length c0_1]] w fun e w' => e = .returned (.bool r) ∧ Below w.heap.size w w' := by
 have hu38 := Try.underlying38
 have hu45 := Try.underlying45
 have HR0_1 := Aside0.mk hr0_1
 have HC0_1 := Aside0.mk hc0_1
 clear hr0_1 hc0_1
 have HB := A_ (Below.refl w.heap.size w)
 have H : (if a0_0 < 1 then (counter_Valid.j0 k (l0_1.length : Int) true a0_0 l0_1) else (if a0_0 > 16 then (counter_Valid.j0 k (l0_1.length : Int) true a0_0 l0_1) else (if (l0_1.length : Int) < 1 then (counter_Valid.j0 k (l0_1.length : Int) true a0_0 l0_1) else (counter_Valid.j0 k (l0_1.length : Int) (decide ((l0_1.length : Int) > 2000)) a0_0 l0_1)))) = some r := h
 clear h
 have HC2 := Aside0.mk H
 clear H
 go_enter Try.func26, Try.ntmps26
 go_upto_region 2 with (first | ((with_reducible refine gate_dst (N := 1) rfl ?_); refine box_event ?hg (N := 1) ?hd (cs := #[.int .i64 a0_0, .slice A0_1 l0_1.length c0_1]) (t := 38) ?hr ?_; (case hd => rfl); (case hg => rfl); (case hr => first | (go_simp; done) | (go_simp; rfl)); intro gb127 hg w3 hbox hb; have n0_ := A_ (below_step (bk_ HB.out) hb); have n1_ := A_ (hbox); have n2_ := A_ (bz_ hg (bk_ HB.out)); have n3_ := A_ (bz_ hg (bk_ HB.out)); clear HB; have HB := n0_; have BK127 := n1_; have GW127 := n2_; have GE127 := n3_; clear n0_ n1_ n2_ n3_ hb hbox hg; obtain ⟨hcz4_0, hcz4_1⟩ := bc2_ BK127.out; have hfz4_0 := blk_frozen BK127.out 0; have hfz4_1 := blk_frozen BK127.out 1))
 (try simp only [Act.put, List.setIfInBounds_toArray, List.set_cons_zero, List.set_cons_succ])
 go_cut [24] (fun v24 wc => ∃ (kq : Nat) (x24_1 : Bool), v24 = .bool x24_1 ∧ Aside0 (counter_Valid.j0 kq (l0_1.length : Int) x24_1 a0_0 l0_1 = some r) ∧ Aside0 (kq ≤ k) ∧ Aside0 (wc.heap[gb127]? = some (.cells #[.int .i64 a0_0, (.slice A0_1 l0_1.length c0_1)] 38 (0, 0))) ∧ Aside0 (Below w.heap.size w wc))
 case first =>
  have H := HC2.out
  clear HC2
  by_cases c5 : a0_0 < 1
  ·rw [if_pos c5] at H
   have c5b0 : decide (a0_0 < 1) = true := decide_eq_true c5
   clear c5
   (first | rw [c5b0] | (simp only [i64_w, i32_w]; rw [c5b0]) | skip)
   have H' := Aside0.mk H
   clear H
   obtain ⟨hcz6_0, hcz6_1⟩ := bc2_ BK127.out
   have hfz6_0 := blk_frozen BK127.out 0
   have hfz6_1 := blk_frozen BK127.out 1
   go_wp2
   go_meet
   case rel => exact ⟨_, (true), jr_, H', ⟨by first | omega | exact Nat.le_refl _⟩, ⟨pk_ BK127.out⟩, ⟨bk_ HB.out⟩⟩
  ·rw [if_neg c5] at H
   have c5b0 : decide (a0_0 < 1) = false := decide_eq_false c5
   clear c5
   (first | rw [c5b0] | (simp only [i64_w, i32_w]; rw [c5b0]) | skip)
   by_cases c7 : a0_0 > 16
   ·rw [if_pos c7] at H
    have c7b0 : decide (16 < a0_0) = true := decide_eq_true c7
    clear c7
    have H' := Aside0.mk H
    clear H
    obtain ⟨hcz8_0, hcz8_1⟩ := bc2_ BK127.out
    have hfz8_0 := blk_frozen BK127.out 0
    have hfz8_1 := blk_frozen BK127.out 1
    go_wp2
    go_meet
    case rel => exact ⟨_, (true), jr_, H', ⟨by first | omega | exact Nat.le_refl _⟩, ⟨pk_ BK127.out⟩, ⟨bk_ HB.out⟩⟩
   ·rw [if_neg c7] at H
    have c7b0 : decide (16 < a0_0) = false := decide_eq_false c7
    clear c7
    by_cases c9 : (l0_1.length : Int) < 1
    ·rw [if_pos c9] at H
     have c9b0 : decide ((l0_1.length : Int) < 1) = true := decide_eq_true c9
     have c9b1 : decide (l0_1.length < 1) = true := decide_eq_true (by omega)
     clear c9
     have H' := Aside0.mk H
     clear H
     obtain ⟨hcz10_0, hcz10_1⟩ := bc2_ BK127.out
     have hfz10_0 := blk_frozen BK127.out 0
     have hfz10_1 := blk_frozen BK127.out 1
     go_wp2
     go_meet
     case rel => exact ⟨_, (true), jr_, H', ⟨by first | omega | exact Nat.le_refl _⟩, ⟨pk_ BK127.out⟩, ⟨bk_ HB.out⟩⟩
    ·rw [if_neg c9] at H
     have c9b0 : decide ((l0_1.length : Int) < 1) = false := decide_eq_false c9
     have c9b1 : decide (l0_1.length < 1) = false := decide_eq_false (by omega)
     clear c9
     have H' := Aside0.mk H
     clear H
     obtain ⟨hcz11_0, hcz11_1⟩ := bc2_ BK127.out
     have hfz11_0 := blk_frozen BK127.out 0
     have hfz11_1 := blk_frozen BK127.out 1
     go_wp2
     go_meet
     case rel => exact ⟨_, (decide ((l0_1.length : Int) > 2000)), jr_, H', ⟨by first | omega | exact Nat.le_refl _⟩, ⟨pk_ BK127.out⟩, ⟨bk_ HB.out⟩⟩
 case rest =>
  clear HC2
  (try clear hcz4_0); (try clear hcz4_1); (try clear hfz4_0); (try clear hfz4_1)
  obtain ⟨kq, x24_1, rfl, HA, HJ1, BK127, HB⟩ := hcut
  cases kq with
  | zero => exact absurd HA.out (by simp [counter_Valid.j0])
  | succ kj1 =>
   have H := HA.out
   clear HA
   simp only [counter_Valid.j0] at H
   by_cases c12 : x24_1 = true
   ·subst c12
    have H1 : (some false) = some r := by rw [if_pos rfl] at H; exact H
    clear H
    have H := H1
    clear H1
    obtain rfl := Option.some.inj H
    go_wp2
    go_ret
    exact ⟨er_, bk_ HB.out⟩
   ·replace c12 := Bool.eq_false_iff.mpr c12
    subst c12
    have H1 : (counter_Valid.l0 kj1 (l0_1.length : Int) l0_1 (l0_1.length : Int) 0 a0_0 l0_1) = some r := by rw [if_neg (show ¬ (false = true) by decide)] at H; exact H
    clear H
    have H := H1
    clear H1
    have H' := Aside0.mk H
    clear H
    obtain ⟨hcz13_0, hcz13_1⟩ := bc2_ BK127.out
    have hfz13_0 := blk_frozen BK127.out 0
    have hfz13_1 := blk_frozen BK127.out 1
    go_wp2
    go_loopg [28] kj1 (fun kq v28 w' => ∃ (x28_2 : Int), v28 = .int .i64 x28_2 ∧ Aside0 (counter_Valid.l0 kq (l0_1.length : Int) l0_1 (l0_1.length : Int) x28_2 a0_0 l0_1 = some r) ∧ Aside0 (kq ≤ kj1) ∧ Aside0 (w'.heap[gb127]? = some (.cells #[.int .i64 a0_0, (.slice A0_1 l0_1.length c0_1)] 38 (0, 0))) ∧ Aside0 (Below w.heap.size w w'))
    case atStart => exact ⟨(0), jr_, H', ⟨Nat.le_refl _⟩, ⟨pk_ BK127.out⟩, ⟨bk_ HB.out⟩⟩
    case round =>
     clear H'
     (try clear c12); (try clear hcz13_0); (try clear hcz13_1); (try clear hcz4_0); (try clear hcz4_1); (try clear hfz13_0); (try clear hfz13_1); (try clear hfz4_0); (try clear hfz4_1)
     obtain ⟨x28_2, rfl, HA, HK2, BK127, HB⟩ := hrel
     cases gk with
     | zero => exact absurd HA.out (by simp [counter_Valid.l0])
     | succ k2 =>
      have H := HA.out
      clear HA
      simp only [counter_Valid.l0] at H
      by_cases c14 : x28_2 < (l0_1.length : Int)
      ·rw [if_pos c14] at H
       have c14b0 : decide (x28_2 < (l0_1.length : Int)) = true := decide_eq_true c14
       clear c14
       by_cases c15 : 0 ≤ x28_2
       ·rw [if_pos c15] at H
        have c15b0 : decide (0 ≤ x28_2) = true := decide_eq_true c15
        clear c15
        by_cases c16 : x28_2 < (l0_1.length : Int)
        ·rw [if_pos c16] at H
         have c16b0 : decide (x28_2 < (l0_1.length : Int)) = true := decide_eq_true c16
         clear c16
         have HC17 := Aside0.mk H
         clear H
         have p128 : 0 ≤ (x28_2 : Int) := od_
         have q128 : x28_2 < (l0_1.length : Int) := od_
         obtain ⟨ad128, e128, hx128_0, hx128_1, hx128_2, hx128_3⟩ := at_T45 HR0_1.out x28_2 p128 q128
         cases e128
         replace hx128_0 := lf_ HB.out hx128_0
         replace hx128_1 := lf_ HB.out hx128_1
         replace hx128_2 := lf_ HB.out hx128_2
         replace hx128_3 := lf_ HB.out hx128_3
         replace p128 := eq_true p128
         replace q128 := eq_true q128
         go_upto_region 7 with (first | ((with_reducible refine gate_dst (N := 5) rfl ?_); refine box_event ?hg (N := 5) ?hd (cs := #[.int .i64 0, .int .i64 0, .int .i64 0, .int .i64 0]) (t := 45) ?hr ?_; (case hd => rfl); (case hg => rfl); (case hr => first | (go_simp; done) | (go_simp; rfl)); intro gb129 hg w18 hbox hb; have n0_ := A_ (blk_below (pk_ BK127.out) hb); have n1_ := A_ (below_step (bk_ HB.out) hb); have n2_ := A_ (hbox); have n3_ := A_ (bz_ hg (bk_ HB.out)); have n4_ := A_ (bz_ hg (bk_ HB.out)); have n5_ := A_ (nl_ hg (pk_ BK127.out)); have n6_ := A_ (ng_ hg (pk_ BK127.out)); clear BK127 HB; have BK127 := n0_; have HB := n1_; have BK129 := n2_; have GW129 := n3_; have GE129 := n4_; have NB127_129 := n5_; have NB129_127 := n6_; clear n0_ n1_ n2_ n3_ n4_ n5_ n6_ hb hbox hg; have hnb19 := NB129_127.out; have hnc19 := NB127_129.out; obtain ⟨hcz20_0, hcz20_1, hcz20_2, hcz20_3⟩ := bc4_ BK129.out; have hfz20_0 := blk_frozen BK129.out 0; have hfz20_1 := blk_frozen BK129.out 1; have hfz20_2 := blk_frozen BK129.out 2; have hfz20_3 := blk_frozen BK129.out 3))
         (try simp only [Act.put, List.setIfInBounds_toArray, List.set_cons_zero, List.set_cons_succ])
         go_cut [32] (fun v32 wc => ∃ (kq : Nat) (x32_16 : Bool), v32 = .bool x32_16 ∧ Aside0 (counter_Valid.j2 kq (l0_1.length : Int) l0_1 (l0_1.length : Int) x28_2 x32_16 a0_0 l0_1 ((rd_T45 l0_1 x28_2).f0) ((rd_T45 l0_1 x28_2).f1) ((rd_T45 l0_1 x28_2).f2) ((rd_T45 l0_1 x28_2).f3) = some r) ∧ Aside0 (kq ≤ k2) ∧ Aside0 (wc.heap[gb127]? = some (.cells #[.int .i64 a0_0, (.slice (some ad128) l0_1.length c0_1)] 38 (0, 0))) ∧ Aside0 (wc.heap[gb129]? = some (.cells #[.int .i64 ((rd_T45 l0_1 x28_2).f0), .int .i64 ((rd_T45 l0_1 x28_2).f1), .int .i64 ((rd_T45 l0_1 x28_2).f2), .int .i64 ((rd_T45 l0_1 x28_2).f3)] 45 (0, 0))) ∧ Aside0 (Below w.heap.size w wc))
         case first =>
          have H := HC17.out
          clear HC17
          by_cases c21 : ((rd_T45 l0_1 x28_2).f0) = 2
          ·rw [if_pos c21] at H
           have c21b0 : (((rd_T45 l0_1 x28_2).f0) == 2) = true := beq_iff_eq.mpr c21
           have c21b1 : (((rd_T45 l0_1 x28_2).f0) != 2) = false := bne_eq_false_iff_eq.mpr c21
           clear c21
           (first | rw [c21b0] | (simp only [i64_w, i32_w]; rw [c21b0]) | skip)
           have H' := Aside0.mk H
           clear H
           have hnb22 := NB129_127.out
           have hnc22 := NB127_129.out
           obtain ⟨hcz23_0, hcz23_1, hcz23_2, hcz23_3⟩ := bc4_ BK129.out
           have hfz23_0 := blk_frozen BK129.out 0
           have hfz23_1 := blk_frozen BK129.out 1
           have hfz23_2 := blk_frozen BK129.out 2
           have hfz23_3 := blk_frozen BK129.out 3
           go_wp2
           go_meet
           case rel => exact ⟨_, ((!(((rd_T45 l0_1 x28_2).f0) == 2) || (!(((rd_T45 l0_1 x28_2).f1) == 0) || (!(((rd_T45 l0_1 x28_2).f2) == 0) || (!(((rd_T45 l0_1 x28_2).f3) == 0)))))), jr_, H', ⟨by have := HJ1.out; have := HK2.out; first | omega | exact Nat.le_refl _⟩, ⟨by (iterate 4 (refine pk_ ?_; refine blk_far ?_ NB127_129.out _)); exact pk_ BK127.out⟩, ⟨by refine pk_ ?_; refine blk_put (cs := #[.int .i64 ((rd_T45 l0_1 x28_2).f0), .int .i64 ((rd_T45 l0_1 x28_2).f1), .int .i64 ((rd_T45 l0_1 x28_2).f2), .int .i64 0]) ?_ 3 _ rfl; refine pk_ ?_; refine blk_put (cs := #[.int .i64 ((rd_T45 l0_1 x28_2).f0), .int .i64 ((rd_T45 l0_1 x28_2).f1), .int .i64 0, .int .i64 0]) ?_ 2 _ rfl; refine pk_ ?_; refine blk_put (cs := #[.int .i64 ((rd_T45 l0_1 x28_2).f0), .int .i64 0, .int .i64 0, .int .i64 0]) ?_ 1 _ rfl; refine pk_ ?_; refine blk_put (cs := #[.int .i64 0, .int .i64 0, .int .i64 0, .int .i64 0]) ?_ 0 _ rfl; exact pk_ BK129.out⟩, ⟨bk_ HB.out⟩⟩
          ·rw [if_neg c21] at H
           have c21b0 : (((rd_T45 l0_1 x28_2).f0) == 2) = false := beq_eq_false_iff_ne.mpr c21
           have c21b1 : (((rd_T45 l0_1 x28_2).f0) != 2) = true := bne_iff_ne.mpr c21
           (first | rw [c21b0] | (simp only [i64_w, i32_w]; rw [c21b0]) | skip)
           have H' := Aside0.mk H
           clear H
           have hnb24 := NB129_127.out
           have hnc24 := NB127_129.out
           obtain ⟨hcz25_0, hcz25_1, hcz25_2, hcz25_3⟩ := bc4_ BK129.out
           have hfz25_0 := blk_frozen BK129.out 0
           have hfz25_1 := blk_frozen BK129.out 1
           have hfz25_2 := blk_frozen BK129.out 2
           have hfz25_3 := blk_frozen BK129.out 3
           go_wp2
           go_meet
           case rel => exact ⟨_, (false), jr_, H', ⟨by have := HJ1.out; have := HK2.out; first | omega | exact Nat.le_refl _⟩, ⟨by (iterate 4 (refine pk_ ?_; refine blk_far ?_ NB127_129.out _)); exact pk_ BK127.out⟩, ⟨by refine pk_ ?_; refine blk_put (cs := #[.int .i64 ((rd_T45 l0_1 x28_2).f0), .int .i64 ((rd_T45 l0_1 x28_2).f1), .int .i64 ((rd_T45 l0_1 x28_2).f2), .int .i64 0]) ?_ 3 _ rfl; refine pk_ ?_; refine blk_put (cs := #[.int .i64 ((rd_T45 l0_1 x28_2).f0), .int .i64 ((rd_T45 l0_1 x28_2).f1), .int .i64 0, .int .i64 0]) ?_ 2 _ rfl; refine pk_ ?_; refine blk_put (cs := #[.int .i64 ((rd_T45 l0_1 x28_2).f0), .int .i64 0, .int .i64 0, .int .i64 0]) ?_ 1 _ rfl; refine pk_ ?_; refine blk_put (cs := #[.int .i64 0, .int .i64 0, .int .i64 0, .int .i64 0]) ?_ 0 _ rfl; exact pk_ BK129.out⟩, ⟨bk_ HB.out⟩⟩
         case rest =>
          clear HC17
          (try clear c12); (try clear c14); (try clear c14b0); (try clear c15); (try clear c15b0); (try clear c16); (try clear c16b0); (try clear hcz13_0); (try clear hcz13_1); (try clear hcz20_0); (try clear hcz20_1); (try clear hcz20_2); (try clear hcz20_3); (try clear hcz4_0); (try clear hcz4_1); (try clear hfz13_0); (try clear hfz13_1); (try clear hfz20_0); (try clear hfz20_1); (try clear hfz20_2); (try clear hfz20_3); (try clear hfz4_0); (try clear hfz4_1); (try clear hx128_0); (try clear hx128_1); (try clear hx128_2); (try clear hx128_3); (try clear p128); (try clear q128)
          obtain ⟨kq, x32_16, rfl, HA, HJ16, BK127, BK129, HB⟩ := hcut
          cases kq with
          | zero => exact absurd HA.out (by simp [counter_Valid.j2])
          | succ kj16 =>
           have H := HA.out
           clear HA
           simp only [counter_Valid.j2] at H
           by_cases c26 : x32_16 = true
           ·subst c26
            have H1 : (some false) = some r := by rw [if_pos rfl] at H; exact H
            clear H
            have H := H1
            clear H1
            obtain rfl := Option.some.inj H
            go_wp2
            go_ret
            exact ⟨er_, bk_ HB.out⟩
           ·replace c26 := Bool.eq_false_iff.mpr c26
            subst c26
            have H1 : (if ((rd_T45 l0_1 x28_2).f0) = 2 then (counter_Valid.l0 kj16 (l0_1.length : Int) l0_1 (l0_1.length : Int) (wrap64 (x28_2 + 1)) a0_0 l0_1) else (if ((rd_T45 l0_1 x28_2).f0) = 0 then (if ((rd_T45 l0_1 x28_2).f1) < 0 then (counter_Valid.j3 kj16 (l0_1.length : Int) l0_1 (l0_1.length : Int) x28_2 true a0_0 l0_1 ((rd_T45 l0_1 x28_2).f0) ((rd_T45 l0_1 x28_2).f1) ((rd_T45 l0_1 x28_2).f2) ((rd_T45 l0_1 x28_2).f3)) else (if ((rd_T45 l0_1 x28_2).f1) ≥ a0_0 then (counter_Valid.j3 kj16 (l0_1.length : Int) l0_1 (l0_1.length : Int) x28_2 true a0_0 l0_1 ((rd_T45 l0_1 x28_2).f0) ((rd_T45 l0_1 x28_2).f1) ((rd_T45 l0_1 x28_2).f2) ((rd_T45 l0_1 x28_2).f3)) else (if ((rd_T45 l0_1 x28_2).f2) < 0 then (counter_Valid.j3 kj16 (l0_1.length : Int) l0_1 (l0_1.length : Int) x28_2 true a0_0 l0_1 ((rd_T45 l0_1 x28_2).f0) ((rd_T45 l0_1 x28_2).f1) ((rd_T45 l0_1 x28_2).f2) ((rd_T45 l0_1 x28_2).f3)) else (counter_Valid.j3 kj16 (l0_1.length : Int) l0_1 (l0_1.length : Int) x28_2 (decide (((rd_T45 l0_1 x28_2).f2) ≥ (l0_1.length : Int))) a0_0 l0_1 ((rd_T45 l0_1 x28_2).f0) ((rd_T45 l0_1 x28_2).f1) ((rd_T45 l0_1 x28_2).f2) ((rd_T45 l0_1 x28_2).f3))))) else (if ((rd_T45 l0_1 x28_2).f0) = 1 then (if ((rd_T45 l0_1 x28_2).f1) < 0 then (counter_Valid.j3 kj16 (l0_1.length : Int) l0_1 (l0_1.length : Int) x28_2 true a0_0 l0_1 ((rd_T45 l0_1 x28_2).f0) ((rd_T45 l0_1 x28_2).f1) ((rd_T45 l0_1 x28_2).f2) ((rd_T45 l0_1 x28_2).f3)) else (if ((rd_T45 l0_1 x28_2).f1) ≥ a0_0 then (counter_Valid.j3 kj16 (l0_1.length : Int) l0_1 (l0_1.length : Int) x28_2 true a0_0 l0_1 ((rd_T45 l0_1 x28_2).f0) ((rd_T45 l0_1 x28_2).f1) ((rd_T45 l0_1 x28_2).f2) ((rd_T45 l0_1 x28_2).f3)) else (if ((rd_T45 l0_1 x28_2).f2) < 0 then (counter_Valid.j3 kj16 (l0_1.length : Int) l0_1 (l0_1.length : Int) x28_2 true a0_0 l0_1 ((rd_T45 l0_1 x28_2).f0) ((rd_T45 l0_1 x28_2).f1) ((rd_T45 l0_1 x28_2).f2) ((rd_T45 l0_1 x28_2).f3)) else (counter_Valid.j3 kj16 (l0_1.length : Int) l0_1 (l0_1.length : Int) x28_2 (decide (((rd_T45 l0_1 x28_2).f2) ≥ (l0_1.length : Int))) a0_0 l0_1 ((rd_T45 l0_1 x28_2).f0) ((rd_T45 l0_1 x28_2).f1) ((rd_T45 l0_1 x28_2).f2) ((rd_T45 l0_1 x28_2).f3))))) else (counter_Valid.j3 kj16 (l0_1.length : Int) l0_1 (l0_1.length : Int) x28_2 true a0_0 l0_1 ((rd_T45 l0_1 x28_2).f0) ((rd_T45 l0_1 x28_2).f1) ((rd_T45 l0_1 x28_2).f2) ((rd_T45 l0_1 x28_2).f3))))) = some r := by rw [if_neg (show ¬ (false = true) by decide)] at H; exact H
            clear H
            have H := H1
            clear H1
            by_cases c27 : ((rd_T45 l0_1 x28_2).f0) = 2
            ·rw [if_pos c27] at H
             have c27b0 : (((rd_T45 l0_1 x28_2).f0) == 2) = true := beq_iff_eq.mpr c27
             have c27b1 : (((rd_T45 l0_1 x28_2).f0) != 2) = false := bne_eq_false_iff_eq.mpr c27
             clear c27
             have H' := Aside0.mk H
             clear H
             have hnb28 := NB129_127.out
             have hnc28 := NB127_129.out
             obtain ⟨hcz29_0, hcz29_1, hcz29_2, hcz29_3⟩ := bc4_ BK129.out
             have hfz29_0 := blk_frozen BK129.out 0
             have hfz29_1 := blk_frozen BK129.out 1
             have hfz29_2 := blk_frozen BK129.out 2
             have hfz29_3 := blk_frozen BK129.out 3
             go_wp2
             go_roundg kj16
             case measure => have := HJ1.out; have := HK2.out; have := HJ16.out; omega
             case rel => exact ⟨(wrap64 (x28_2 + 1)), jr_, H', ⟨by have := HJ1.out; have := HK2.out; have := HJ16.out; omega⟩, ⟨pk_ BK127.out⟩, ⟨bk_ HB.out⟩⟩
            ·rw [if_neg c27] at H
             have c27b0 : (((rd_T45 l0_1 x28_2).f0) == 2) = false := beq_eq_false_iff_ne.mpr c27
             have c27b1 : (((rd_T45 l0_1 x28_2).f0) != 2) = true := bne_iff_ne.mpr c27
             have HC30 := Aside0.mk H
             clear H
             have hnb31 := NB129_127.out
             have hnc31 := NB127_129.out
             obtain ⟨hcz32_0, hcz32_1, hcz32_2, hcz32_3⟩ := bc4_ BK129.out
             have hfz32_0 := blk_frozen BK129.out 0
             have hfz32_1 := blk_frozen BK129.out 1
             have hfz32_2 := blk_frozen BK129.out 2
             have hfz32_3 := blk_frozen BK129.out 3
             go_upto_region 10 with (fail)
             go_cut [45] (fun v45 wc => ∃ (kq : Nat) (x45_29 : Bool), v45 = .bool x45_29 ∧ Aside0 (counter_Valid.j3 kq (l0_1.length : Int) l0_1 (l0_1.length : Int) x28_2 x45_29 a0_0 l0_1 ((rd_T45 l0_1 x28_2).f0) ((rd_T45 l0_1 x28_2).f1) ((rd_T45 l0_1 x28_2).f2) ((rd_T45 l0_1 x28_2).f3) = some r) ∧ Aside0 (kq ≤ kj16) ∧ Aside0 (wc.heap[gb127]? = some (.cells #[.int .i64 a0_0, (.slice (some ad128) l0_1.length c0_1)] 38 (0, 0))) ∧ Aside0 (wc.heap[gb129]? = some (.cells #[.int .i64 ((rd_T45 l0_1 x28_2).f0), .int .i64 ((rd_T45 l0_1 x28_2).f1), .int .i64 ((rd_T45 l0_1 x28_2).f2), .int .i64 ((rd_T45 l0_1 x28_2).f3)] 45 (0, 0))) ∧ Aside0 (Below w.heap.size w wc))
             case first =>
              have H := HC30.out
              clear HC30
              by_cases c33 : ((rd_T45 l0_1 x28_2).f0) = 0
              ·rw [if_pos c33] at H
               have c33b0 : (((rd_T45 l0_1 x28_2).f0) == 0) = true := beq_iff_eq.mpr c33
               have c33b1 : (((rd_T45 l0_1 x28_2).f0) != 0) = false := bne_eq_false_iff_eq.mpr c33
               clear c33
               (first | rw [c33b0] | (simp only [i64_w, i32_w]; rw [c33b0]) | skip)
               by_cases c34 : ((rd_T45 l0_1 x28_2).f1) < 0
               ·rw [if_pos c34] at H
                have c34b0 : decide (((rd_T45 l0_1 x28_2).f1) < 0) = true := decide_eq_true c34
                clear c34
                have H' := Aside0.mk H
                clear H
                have hnb35 := NB129_127.out
                have hnc35 := NB127_129.out
                obtain ⟨hcz36_0, hcz36_1, hcz36_2, hcz36_3⟩ := bc4_ BK129.out
                have hfz36_0 := blk_frozen BK129.out 0
                have hfz36_1 := blk_frozen BK129.out 1
                have hfz36_2 := blk_frozen BK129.out 2
                have hfz36_3 := blk_frozen BK129.out 3
                go_wp2
                go_meet
                case rel => exact ⟨_, (true), jr_, H', ⟨by have := HJ1.out; have := HK2.out; have := HJ16.out; first | omega | exact Nat.le_refl _⟩, ⟨pk_ BK127.out⟩, ⟨pk_ BK129.out⟩, ⟨bk_ HB.out⟩⟩
               ·rw [if_neg c34] at H
                have c34b0 : decide (((rd_T45 l0_1 x28_2).f1) < 0) = false := decide_eq_false c34
                clear c34
                by_cases c37 : ((rd_T45 l0_1 x28_2).f1) ≥ a0_0
                ·rw [if_pos c37] at H
                 have c37b0 : decide (a0_0 ≤ ((rd_T45 l0_1 x28_2).f1)) = true := decide_eq_true c37
                 clear c37
                 have H' := Aside0.mk H
                 clear H
                 have hnb38 := NB129_127.out
                 have hnc38 := NB127_129.out
                 obtain ⟨hcz39_0, hcz39_1, hcz39_2, hcz39_3⟩ := bc4_ BK129.out
                 have hfz39_0 := blk_frozen BK129.out 0
                 have hfz39_1 := blk_frozen BK129.out 1
                 have hfz39_2 := blk_frozen BK129.out 2
                 have hfz39_3 := blk_frozen BK129.out 3
                 obtain ⟨hcz40_0, hcz40_1⟩ := bc2_ BK127.out
                 have hfz40_0 := blk_frozen BK127.out 0
                 have hfz40_1 := blk_frozen BK127.out 1
                 go_wp2
                 go_meet
                 case rel => exact ⟨_, (true), jr_, H', ⟨by have := HJ1.out; have := HK2.out; have := HJ16.out; first | omega | exact Nat.le_refl _⟩, ⟨pk_ BK127.out⟩, ⟨pk_ BK129.out⟩, ⟨bk_ HB.out⟩⟩
                ·rw [if_neg c37] at H
                 have c37b0 : decide (a0_0 ≤ ((rd_T45 l0_1 x28_2).f1)) = false := decide_eq_false c37
                 clear c37
                 by_cases c41 : ((rd_T45 l0_1 x28_2).f2) < 0
                 ·rw [if_pos c41] at H
                  have c41b0 : decide (((rd_T45 l0_1 x28_2).f2) < 0) = true := decide_eq_true c41
                  clear c41
                  have H' := Aside0.mk H
                  clear H
                  have hnb42 := NB129_127.out
                  have hnc42 := NB127_129.out
                  obtain ⟨hcz43_0, hcz43_1, hcz43_2, hcz43_3⟩ := bc4_ BK129.out
                  have hfz43_0 := blk_frozen BK129.out 0
                  have hfz43_1 := blk_frozen BK129.out 1
                  have hfz43_2 := blk_frozen BK129.out 2
                  have hfz43_3 := blk_frozen BK129.out 3
                  obtain ⟨hcz44_0, hcz44_1⟩ := bc2_ BK127.out
                  have hfz44_0 := blk_frozen BK127.out 0
                  have hfz44_1 := blk_frozen BK127.out 1
                  go_wp2
                  go_meet
                  case rel => exact ⟨_, (true), jr_, H', ⟨by have := HJ1.out; have := HK2.out; have := HJ16.out; first | omega | exact Nat.le_refl _⟩, ⟨pk_ BK127.out⟩, ⟨pk_ BK129.out⟩, ⟨bk_ HB.out⟩⟩
                 ·rw [if_neg c41] at H
                  have c41b0 : decide (((rd_T45 l0_1 x28_2).f2) < 0) = false := decide_eq_false c41
                  clear c41
                  have H' := Aside0.mk H
                  clear H
                  have hnb45 := NB129_127.out
                  have hnc45 := NB127_129.out
                  obtain ⟨hcz46_0, hcz46_1, hcz46_2, hcz46_3⟩ := bc4_ BK129.out
                  have hfz46_0 := blk_frozen BK129.out 0
                  have hfz46_1 := blk_frozen BK129.out 1
                  have hfz46_2 := blk_frozen BK129.out 2
                  have hfz46_3 := blk_frozen BK129.out 3
                  obtain ⟨hcz47_0, hcz47_1⟩ := bc2_ BK127.out
                  have hfz47_0 := blk_frozen BK127.out 0
                  have hfz47_1 := blk_frozen BK127.out 1
                  go_wp2
                  go_meet
                  case rel => exact ⟨_, (decide (((rd_T45 l0_1 x28_2).f2) ≥ (l0_1.length : Int))), jr_, H', ⟨by have := HJ1.out; have := HK2.out; have := HJ16.out; first | omega | exact Nat.le_refl _⟩, ⟨pk_ BK127.out⟩, ⟨pk_ BK129.out⟩, ⟨bk_ HB.out⟩⟩
              ·rw [if_neg c33] at H
               have c33b0 : (((rd_T45 l0_1 x28_2).f0) == 0) = false := beq_eq_false_iff_ne.mpr c33
               have c33b1 : (((rd_T45 l0_1 x28_2).f0) != 0) = true := bne_iff_ne.mpr c33
               (first | rw [c33b0] | (simp only [i64_w, i32_w]; rw [c33b0]) | skip)
               by_cases c48 : ((rd_T45 l0_1 x28_2).f0) = 1
               ·rw [if_pos c48] at H
                have c48b0 : (((rd_T45 l0_1 x28_2).f0) == 1) = true := beq_iff_eq.mpr c48
                have c48b1 : (((rd_T45 l0_1 x28_2).f0) != 1) = false := bne_eq_false_iff_eq.mpr c48
                clear c48
                by_cases c49 : ((rd_T45 l0_1 x28_2).f1) < 0
                ·rw [if_pos c49] at H
                 have c49b0 : decide (((rd_T45 l0_1 x28_2).f1) < 0) = true := decide_eq_true c49
                 clear c49
                 have H' := Aside0.mk H
                 clear H
                 have hnb50 := NB129_127.out
                 have hnc50 := NB127_129.out
                 obtain ⟨hcz51_0, hcz51_1, hcz51_2, hcz51_3⟩ := bc4_ BK129.out
                 have hfz51_0 := blk_frozen BK129.out 0
                 have hfz51_1 := blk_frozen BK129.out 1
                 have hfz51_2 := blk_frozen BK129.out 2
                 have hfz51_3 := blk_frozen BK129.out 3
                 go_wp2
                 go_meet
                 case rel => exact ⟨_, (true), jr_, H', ⟨by have := HJ1.out; have := HK2.out; have := HJ16.out; first | omega | exact Nat.le_refl _⟩, ⟨pk_ BK127.out⟩, ⟨pk_ BK129.out⟩, ⟨bk_ HB.out⟩⟩
                ·rw [if_neg c49] at H
                 have c49b0 : decide (((rd_T45 l0_1 x28_2).f1) < 0) = false := decide_eq_false c49
                 clear c49
                 by_cases c52 : ((rd_T45 l0_1 x28_2).f1) ≥ a0_0
                 ·rw [if_pos c52] at H
                  have c52b0 : decide (a0_0 ≤ ((rd_T45 l0_1 x28_2).f1)) = true := decide_eq_true c52
                  clear c52
                  have H' := Aside0.mk H
                  clear H
                  have hnb53 := NB129_127.out
                  have hnc53 := NB127_129.out
                  obtain ⟨hcz54_0, hcz54_1, hcz54_2, hcz54_3⟩ := bc4_ BK129.out
                  have hfz54_0 := blk_frozen BK129.out 0
                  have hfz54_1 := blk_frozen BK129.out 1
                  have hfz54_2 := blk_frozen BK129.out 2
                  have hfz54_3 := blk_frozen BK129.out 3
                  obtain ⟨hcz55_0, hcz55_1⟩ := bc2_ BK127.out
                  have hfz55_0 := blk_frozen BK127.out 0
                  have hfz55_1 := blk_frozen BK127.out 1
                  go_wp2
                  go_meet
                  case rel => exact ⟨_, (true), jr_, H', ⟨by have := HJ1.out; have := HK2.out; have := HJ16.out; first | omega | exact Nat.le_refl _⟩, ⟨pk_ BK127.out⟩, ⟨pk_ BK129.out⟩, ⟨bk_ HB.out⟩⟩
                 ·rw [if_neg c52] at H
                  have c52b0 : decide (a0_0 ≤ ((rd_T45 l0_1 x28_2).f1)) = false := decide_eq_false c52
                  clear c52
                  by_cases c56 : ((rd_T45 l0_1 x28_2).f2) < 0
                  ·rw [if_pos c56] at H
                   have c56b0 : decide (((rd_T45 l0_1 x28_2).f2) < 0) = true := decide_eq_true c56
                   clear c56
                   have H' := Aside0.mk H
                   clear H
                   have hnb57 := NB129_127.out
                   have hnc57 := NB127_129.out
                   obtain ⟨hcz58_0, hcz58_1, hcz58_2, hcz58_3⟩ := bc4_ BK129.out
                   have hfz58_0 := blk_frozen BK129.out 0
                   have hfz58_1 := blk_frozen BK129.out 1
                   have hfz58_2 := blk_frozen BK129.out 2
                   have hfz58_3 := blk_frozen BK129.out 3
                   obtain ⟨hcz59_0, hcz59_1⟩ := bc2_ BK127.out
                   have hfz59_0 := blk_frozen BK127.out 0
                   have hfz59_1 := blk_frozen BK127.out 1
                   go_wp2
                   go_meet
                   case rel => exact ⟨_, (true), jr_, H', ⟨by have := HJ1.out; have := HK2.out; have := HJ16.out; first | omega | exact Nat.le_refl _⟩, ⟨pk_ BK127.out⟩, ⟨pk_ BK129.out⟩, ⟨bk_ HB.out⟩⟩
                  ·rw [if_neg c56] at H
                   have c56b0 : decide (((rd_T45 l0_1 x28_2).f2) < 0) = false := decide_eq_false c56
                   clear c56
                   have H' := Aside0.mk H
                   clear H
                   have hnb60 := NB129_127.out
                   have hnc60 := NB127_129.out
                   obtain ⟨hcz61_0, hcz61_1, hcz61_2, hcz61_3⟩ := bc4_ BK129.out
                   have hfz61_0 := blk_frozen BK129.out 0
                   have hfz61_1 := blk_frozen BK129.out 1
                   have hfz61_2 := blk_frozen BK129.out 2
                   have hfz61_3 := blk_frozen BK129.out 3
                   obtain ⟨hcz62_0, hcz62_1⟩ := bc2_ BK127.out
                   have hfz62_0 := blk_frozen BK127.out 0
                   have hfz62_1 := blk_frozen BK127.out 1
                   go_wp2
                   go_meet
                   case rel => exact ⟨_, (decide (((rd_T45 l0_1 x28_2).f2) ≥ (l0_1.length : Int))), jr_, H', ⟨by have := HJ1.out; have := HK2.out; have := HJ16.out; first | omega | exact Nat.le_refl _⟩, ⟨pk_ BK127.out⟩, ⟨pk_ BK129.out⟩, ⟨bk_ HB.out⟩⟩
               ·rw [if_neg c48] at H
                have c48b0 : (((rd_T45 l0_1 x28_2).f0) == 1) = false := beq_eq_false_iff_ne.mpr c48
                have c48b1 : (((rd_T45 l0_1 x28_2).f0) != 1) = true := bne_iff_ne.mpr c48
                have H' := Aside0.mk H
                clear H
                have hnb63 := NB129_127.out
                have hnc63 := NB127_129.out
                obtain ⟨hcz64_0, hcz64_1, hcz64_2, hcz64_3⟩ := bc4_ BK129.out
                have hfz64_0 := blk_frozen BK129.out 0
                have hfz64_1 := blk_frozen BK129.out 1
                have hfz64_2 := blk_frozen BK129.out 2
                have hfz64_3 := blk_frozen BK129.out 3
                go_wp2
                go_meet
                case rel => exact ⟨_, (true), jr_, H', ⟨by have := HJ1.out; have := HK2.out; have := HJ16.out; first | omega | exact Nat.le_refl _⟩, ⟨pk_ BK127.out⟩, ⟨pk_ BK129.out⟩, ⟨bk_ HB.out⟩⟩
             case rest =>
              clear HC30
              (try clear c12); (try clear c14); (try clear c14b0); (try clear c15); (try clear c15b0); (try clear c16); (try clear c16b0); (try clear c26); (try clear c27); (try clear c27b0); (try clear c27b1); (try clear hcz13_0); (try clear hcz13_1); (try clear hcz20_0); (try clear hcz20_1); (try clear hcz20_2); (try clear hcz20_3); (try clear hcz32_0); (try clear hcz32_1); (try clear hcz32_2); (try clear hcz32_3); (try clear hcz4_0); (try clear hcz4_1); (try clear hfz13_0); (try clear hfz13_1); (try clear hfz20_0); (try clear hfz20_1); (try clear hfz20_2); (try clear hfz20_3); (try clear hfz32_0); (try clear hfz32_1); (try clear hfz32_2); (try clear hfz32_3); (try clear hfz4_0); (try clear hfz4_1); (try clear hx128_0); (try clear hx128_1); (try clear hx128_2); (try clear hx128_3); (try clear p128); (try clear q128)
              obtain ⟨kq, x45_29, rfl, HA, HJ29, BK127, BK129, HB⟩ := hcut
              cases kq with
              | zero => exact absurd HA.out (by simp [counter_Valid.j3])
              | succ kj29 =>
               have H := HA.out
               clear HA
               simp only [counter_Valid.j3] at H
               by_cases c65 : x45_29 = true
               ·subst c65
                have H1 : (some false) = some r := by rw [if_pos rfl] at H; exact H
                clear H
                have H := H1
                clear H1
                obtain rfl := Option.some.inj H
                go_wp2
                go_ret
                exact ⟨er_, bk_ HB.out⟩
               ·replace c65 := Bool.eq_false_iff.mpr c65
                subst c65
                have H1 : (if ((rd_T45 l0_1 x28_2).f0) = 0 then (if ((rd_T45 l0_1 x28_2).f3) = 0 then (if ((rd_T45 l0_1 x28_2).f3) < 0 then (some false) else (if ((rd_T45 l0_1 x28_2).f3) ≥ (l0_1.length : Int) then (some false) else (counter_Valid.l0 kj29 (l0_1.length : Int) l0_1 (l0_1.length : Int) (wrap64 (x28_2 + 1)) a0_0 l0_1))) else (some false)) else (if ((rd_T45 l0_1 x28_2).f3) < 0 then (some false) else (if ((rd_T45 l0_1 x28_2).f3) ≥ (l0_1.length : Int) then (some false) else (counter_Valid.l0 kj29 (l0_1.length : Int) l0_1 (l0_1.length : Int) (wrap64 (x28_2 + 1)) a0_0 l0_1)))) = some r := by rw [if_neg (show ¬ (false = true) by decide)] at H; exact H
                clear H
                have H := H1
                clear H1
                by_cases c66 : ((rd_T45 l0_1 x28_2).f0) = 0
                ·rw [if_pos c66] at H
                 have c66b0 : (((rd_T45 l0_1 x28_2).f0) == 0) = true := beq_iff_eq.mpr c66
                 have c66b1 : (((rd_T45 l0_1 x28_2).f0) != 0) = false := bne_eq_false_iff_eq.mpr c66
                 clear c66
                 by_cases c67 : ((rd_T45 l0_1 x28_2).f3) = 0
                 ·rw [if_pos c67] at H
                  have c67b0 : (((rd_T45 l0_1 x28_2).f3) == 0) = true := beq_iff_eq.mpr c67
                  have c67b1 : (((rd_T45 l0_1 x28_2).f3) != 0) = false := bne_eq_false_iff_eq.mpr c67
                  clear c67
                  by_cases c68 : ((rd_T45 l0_1 x28_2).f3) < 0
                  ·rw [if_pos c68] at H
                   have c68b0 : decide (((rd_T45 l0_1 x28_2).f3) < 0) = true := decide_eq_true c68
                   clear c68
                   obtain rfl := Option.some.inj H
                   have hnb69 := NB129_127.out
                   have hnc69 := NB127_129.out
                   obtain ⟨hcz70_0, hcz70_1, hcz70_2, hcz70_3⟩ := bc4_ BK129.out
                   have hfz70_0 := blk_frozen BK129.out 0
                   have hfz70_1 := blk_frozen BK129.out 1
                   have hfz70_2 := blk_frozen BK129.out 2
                   have hfz70_3 := blk_frozen BK129.out 3
                   go_wp2
                   go_ret
                   exact ⟨er_, bk_ HB.out⟩
                  ·rw [if_neg c68] at H
                   have c68b0 : decide (((rd_T45 l0_1 x28_2).f3) < 0) = false := decide_eq_false c68
                   clear c68
                   by_cases c71 : ((rd_T45 l0_1 x28_2).f3) ≥ (l0_1.length : Int)
                   ·rw [if_pos c71] at H
                    have c71b0 : decide ((l0_1.length : Int) ≤ ((rd_T45 l0_1 x28_2).f3)) = true := decide_eq_true c71
                    clear c71
                    obtain rfl := Option.some.inj H
                    have hnb72 := NB129_127.out
                    have hnc72 := NB127_129.out
                    obtain ⟨hcz73_0, hcz73_1, hcz73_2, hcz73_3⟩ := bc4_ BK129.out
                    have hfz73_0 := blk_frozen BK129.out 0
                    have hfz73_1 := blk_frozen BK129.out 1
                    have hfz73_2 := blk_frozen BK129.out 2
                    have hfz73_3 := blk_frozen BK129.out 3
                    go_wp2
                    go_ret
                    exact ⟨er_, bk_ HB.out⟩
                   ·rw [if_neg c71] at H
                    have c71b0 : decide ((l0_1.length : Int) ≤ ((rd_T45 l0_1 x28_2).f3)) = false := decide_eq_false c71
                    clear c71
                    have H' := Aside0.mk H
                    clear H
                    have hnb74 := NB129_127.out
                    have hnc74 := NB127_129.out
                    obtain ⟨hcz75_0, hcz75_1, hcz75_2, hcz75_3⟩ := bc4_ BK129.out
                    have hfz75_0 := blk_frozen BK129.out 0
                    have hfz75_1 := blk_frozen BK129.out 1
                    have hfz75_2 := blk_frozen BK129.out 2
                    have hfz75_3 := blk_frozen BK129.out 3
                    go_wp2
                    go_roundg kj29
                    case measure => have := HJ1.out; have := HK2.out; have := HJ16.out; have := HJ29.out; omega
                    case rel => exact ⟨(wrap64 (x28_2 + 1)), jr_, H', ⟨by have := HJ1.out; have := HK2.out; have := HJ16.out; have := HJ29.out; omega⟩, ⟨pk_ BK127.out⟩, ⟨bk_ HB.out⟩⟩
                 ·rw [if_neg c67] at H
                  have c67b0 : (((rd_T45 l0_1 x28_2).f3) == 0) = false := beq_eq_false_iff_ne.mpr c67
                  have c67b1 : (((rd_T45 l0_1 x28_2).f3) != 0) = true := bne_iff_ne.mpr c67
                  obtain rfl := Option.some.inj H
                  have hnb76 := NB129_127.out
                  have hnc76 := NB127_129.out
                  obtain ⟨hcz77_0, hcz77_1, hcz77_2, hcz77_3⟩ := bc4_ BK129.out
                  have hfz77_0 := blk_frozen BK129.out 0
                  have hfz77_1 := blk_frozen BK129.out 1
                  have hfz77_2 := blk_frozen BK129.out 2
                  have hfz77_3 := blk_frozen BK129.out 3
                  go_wp2
                  go_ret
                  exact ⟨er_, bk_ HB.out⟩
                ·rw [if_neg c66] at H
                 have c66b0 : (((rd_T45 l0_1 x28_2).f0) == 0) = false := beq_eq_false_iff_ne.mpr c66
                 have c66b1 : (((rd_T45 l0_1 x28_2).f0) != 0) = true := bne_iff_ne.mpr c66
                 by_cases c78 : ((rd_T45 l0_1 x28_2).f3) < 0
                 ·rw [if_pos c78] at H
                  have c78b0 : decide (((rd_T45 l0_1 x28_2).f3) < 0) = true := decide_eq_true c78
                  clear c78
                  obtain rfl := Option.some.inj H
                  have hnb79 := NB129_127.out
                  have hnc79 := NB127_129.out
                  obtain ⟨hcz80_0, hcz80_1, hcz80_2, hcz80_3⟩ := bc4_ BK129.out
                  have hfz80_0 := blk_frozen BK129.out 0
                  have hfz80_1 := blk_frozen BK129.out 1
                  have hfz80_2 := blk_frozen BK129.out 2
                  have hfz80_3 := blk_frozen BK129.out 3
                  go_wp2
                  go_ret
                  exact ⟨er_, bk_ HB.out⟩
                 ·rw [if_neg c78] at H
                  have c78b0 : decide (((rd_T45 l0_1 x28_2).f3) < 0) = false := decide_eq_false c78
                  clear c78
                  by_cases c81 : ((rd_T45 l0_1 x28_2).f3) ≥ (l0_1.length : Int)
                  ·rw [if_pos c81] at H
                   have c81b0 : decide ((l0_1.length : Int) ≤ ((rd_T45 l0_1 x28_2).f3)) = true := decide_eq_true c81
                   clear c81
                   obtain rfl := Option.some.inj H
                   have hnb82 := NB129_127.out
                   have hnc82 := NB127_129.out
                   obtain ⟨hcz83_0, hcz83_1, hcz83_2, hcz83_3⟩ := bc4_ BK129.out
                   have hfz83_0 := blk_frozen BK129.out 0
                   have hfz83_1 := blk_frozen BK129.out 1
                   have hfz83_2 := blk_frozen BK129.out 2
                   have hfz83_3 := blk_frozen BK129.out 3
                   go_wp2
                   go_ret
                   exact ⟨er_, bk_ HB.out⟩
                  ·rw [if_neg c81] at H
                   have c81b0 : decide ((l0_1.length : Int) ≤ ((rd_T45 l0_1 x28_2).f3)) = false := decide_eq_false c81
                   clear c81
                   have H' := Aside0.mk H
                   clear H
                   have hnb84 := NB129_127.out
                   have hnc84 := NB127_129.out
                   obtain ⟨hcz85_0, hcz85_1, hcz85_2, hcz85_3⟩ := bc4_ BK129.out
                   have hfz85_0 := blk_frozen BK129.out 0
                   have hfz85_1 := blk_frozen BK129.out 1
                   have hfz85_2 := blk_frozen BK129.out 2
                   have hfz85_3 := blk_frozen BK129.out 3
                   go_wp2
                   go_roundg kj29
                   case measure => have := HJ1.out; have := HK2.out; have := HJ16.out; have := HJ29.out; omega
                   case rel => exact ⟨(wrap64 (x28_2 + 1)), jr_, H', ⟨by have := HJ1.out; have := HK2.out; have := HJ16.out; have := HJ29.out; omega⟩, ⟨pk_ BK127.out⟩, ⟨bk_ HB.out⟩⟩
        ·rw [if_neg c16] at H
         exact absurd H (by simp)
       ·rw [if_neg c15] at H
        exact absurd H (by simp)
      ·rw [if_neg c14] at H
       have c14b0 : decide (x28_2 < (l0_1.length : Int)) = false := decide_eq_false c14
       clear c14
       obtain rfl := Option.some.inj H
       go_wp2
       go_ret
       exact ⟨er_, bk_ HB.out⟩

end Go.Proofs.Ytkbekdjoaibhbaa.PPairRuns
