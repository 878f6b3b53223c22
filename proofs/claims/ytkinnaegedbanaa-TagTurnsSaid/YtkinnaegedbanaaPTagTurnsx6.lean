-- out of a turned copy of the print, by a program of this session; Lean checks it
import Derived.Test.YtkinnaegedbanaaPTagTurnsx0
namespace Go.Proofs.Ytkinnaegedbanaa.PTagTurns
open Go.RowKit Go.Proofs.YtkinnaegedbanaaW.PrintWords Go.Proofs.YtkinnaegedbanaaW.PrintLast Go.Proofs.YtkinnaegedbanaaW.PrintMore
attribute [local go_sem] max2_int min2_int max_two min_two max_three min_three max_four min_four   -- for this text's walks alone
set_option linter.unusedVariables false
set_option linter.unusedSimpArgs false

attribute [local go_sem] isSome_put_
/-! ### standstillref07_Turn: function 31 -/
def standstillref07_Turn.f (l0_0 : List (List Int)) (a1_0 : Int) (l1_1 : List Int) : Option (Int × List Int × Bool) := if (l0_0.length : Int) = 0 then (none) else ((some (([] : List Int) : List Int)).bind fun y224 => (if 1 ≤ (l1_1.length : Int) then (if y224.length + (l1_1.drop 1).length < 17592186044416 then ((some (y224 ++ (l1_1.drop 1) : List Int)).bind fun y228 => (if 0 < (l1_1.length : Int) then (if (rd l1_1 0) = 1 then (if 0 ≤ a1_0 then (if a1_0 < (l0_0.length : Int) then (if y228.length + (rd_L1 l0_0 a1_0).length < 17592186044416 then ((some (y228 ++ (rd_L1 l0_0 a1_0) : List Int)).bind fun y234 => (if (y234.length : Int) > 1000000 then (some (0, ([] : List Int), false)) else (some (Int.tmod (wrap64 (a1_0 + 1)) (l0_0.length : Int), y234, true)))) else (none)) else (none)) else (none)) else (if (y228.length : Int) > 1000000 then (some (0, ([] : List Int), false)) else (some (Int.tmod (wrap64 (a1_0 + 1)) (l0_0.length : Int), y228, true)))) else (none))) else (none)) else (none)))
def standstillref07_Turn.T1 : Bool × List (List Nat × List Nat) := (true, [([], []), ([0], [0]), ([1], [1]), ([], []), ([3], [3]), ([4], [4]), ([2, 5], [2, 5]), ([], []), ([], []), ([8], [8]), ([9], [9]), ([7, 10], [7, 10]), ([6, 11], [6, 11]), ([], []), ([13, 12, 11, 0, 1, 2, 3, 4, 5, 6, 7, 8, 9, 10, 11, 12, 13], [12, 13])])
def standstillref07_Turn.B1 : List Nat := [0, 1, 3, 0, 8, 24, 63, 0, 0, 256, 768, 1920, 4095, 0, 16383]
theorem standstillref07_Turn.tab1 : rtab .any (opsOf Try.f31 1) = standstillref07_Turn.T1 := by kernel_rfl
theorem standstillref07_Turn.bits1 : waitsOk standstillref07_Turn.T1.2 standstillref07_Turn.B1 = true := by kernel_rfl
def standstillref07_Turn.T3 : Bool × List (List Nat × List Nat) := (true, [([], []), ([0], [0]), ([], []), ([2], [2]), ([], []), ([4], [4]), ([3, 5], [3, 5]), ([6], [6]), ([1, 7], [1, 7]), ([0, 1, 2, 3, 4, 5, 6, 7, 8], []), ([9, 8, 8, 0, 1, 2, 3, 4, 5, 6, 7, 8], [8, 9])])
def standstillref07_Turn.B3 : List Nat := [0, 1, 0, 4, 0, 16, 60, 124, 255, 511, 1023]
theorem standstillref07_Turn.tab3 : rtab .any (opsOf Try.f31 3) = standstillref07_Turn.T3 := by kernel_rfl
theorem standstillref07_Turn.bits3 : waitsOk standstillref07_Turn.T3.2 standstillref07_Turn.B3 = true := by kernel_rfl
set_option maxHeartbeats 8000000 in
set_option maxRecDepth 100000 in
theorem standstillref07_Turn.calls (A0_0 : Option Addr) (c0_0 : Nat) (l0_0 : List (List Int)) (a1_0 : Int) (A1_1 : Option Addr) (c1_1 : Nat) (l1_1 : List Int) (r1 : Int) (r2 : List Int) (r3 : Bool) (w : World) (hr0_0 : Kd.C (Kd.slice 3 (Kd.int .i64)) w A0_0 l0_0.length l0_0) (hc0_0 : l0_0.length ≤ c0_0) (hr1_1 : Kd.C (Kd.int .i64) w A1_1 l1_1.length l1_1) (hc1_1 : l1_1.length ≤ c1_1) (h : standstillref07_Turn.f l0_0 a1_0 l1_1 = some (r1, r2, r3)) :
  Calls Try.prog 31 #[.agg #[.slice A0_0 l0_0.length c0_0], .agg #[.int .i64 a1_0, .slice A1_1 l1_1.length c1_1]] w fun e w' => ∃ v1_ : Value, e = .returned (.tuple #[.agg #[.int .i64 r1, v1_], .bool r3]) ∧ Kd.R (Kd.int .i64) 3 w' w.heap.size (fun _ => True) v1_ r2 ∧ Below w.heap.size w w' := by
 have hu45 := Try.underlying45
 have hu47 := Try.underlying47
 have HR0_0 := Aside0.mk hr0_0
 have HC0_0 := Aside0.mk hc0_0
 clear hr0_0 hc0_0
 have HR1_1 := Aside0.mk hr1_1
 have HC1_1 := Aside0.mk hc1_1
 clear hr1_1 hc1_1
 have HB := A_ (Below.refl w.heap.size w)
 have H : (if (l0_0.length : Int) = 0 then (none) else ((some (([] : List Int) : List Int)).bind fun y224 => (if 1 ≤ (l1_1.length : Int) then (if y224.length + (l1_1.drop 1).length < 17592186044416 then ((some (y224 ++ (l1_1.drop 1) : List Int)).bind fun y228 => (if 0 < (l1_1.length : Int) then (if (rd l1_1 0) = 1 then (if 0 ≤ a1_0 then (if a1_0 < (l0_0.length : Int) then (if y228.length + (rd_L1 l0_0 a1_0).length < 17592186044416 then ((some (y228 ++ (rd_L1 l0_0 a1_0) : List Int)).bind fun y234 => (if (y234.length : Int) > 1000000 then (some (0, ([] : List Int), false)) else (some (Int.tmod (wrap64 (a1_0 + 1)) (l0_0.length : Int), y234, true)))) else (none)) else (none)) else (none)) else (if (y228.length : Int) > 1000000 then (some (0, ([] : List Int), false)) else (some (Int.tmod (wrap64 (a1_0 + 1)) (l0_0.length : Int), y228, true)))) else (none))) else (none)) else (none)))) = some (r1, r2, r3) := h
 clear h
 by_cases c3 : (l0_0.length : Int) = 0
 ·rw [if_pos c3] at H
  exact absurd H (by simp)
 ·rw [if_neg c3] at H
  have c3b0 : ((l0_0.length : Int) == 0) = false := beq_eq_false_iff_ne.mpr c3
  have c3b1 : ((l0_0.length : Int) != 0) = true := bne_iff_ne.mpr c3
  have c3b2 : ¬ (l0_0 = []) := fun h_ => c3 (by rw [h_]; rfl)
  obtain ⟨y224, hy224⟩ : ∃ y_ : List Int, y_ = (([] : List Int)) := ⟨_, rfl⟩
  replace H : (if 1 ≤ (l1_1.length : Int) then (if y224.length + (l1_1.drop 1).length < 17592186044416 then ((some (y224 ++ (l1_1.drop 1) : List Int)).bind fun y228 => (if 0 < (l1_1.length : Int) then (if (rd l1_1 0) = 1 then (if 0 ≤ a1_0 then (if a1_0 < (l0_0.length : Int) then (if y228.length + (rd_L1 l0_0 a1_0).length < 17592186044416 then ((some (y228 ++ (rd_L1 l0_0 a1_0) : List Int)).bind fun y234 => (if (y234.length : Int) > 1000000 then (some (0, ([] : List Int), false)) else (some (Int.tmod (wrap64 (a1_0 + 1)) (l0_0.length : Int), y234, true)))) else (none)) else (none)) else (none)) else (if (y228.length : Int) > 1000000 then (some (0, ([] : List Int), false)) else (some (Int.tmod (wrap64 (a1_0 + 1)) (l0_0.length : Int), y228, true)))) else (none))) else (none)) else (none)) = some (r1, r2, r3) := by first | (rw [hy224]; with_reducible exact H) | (have H2_ := (Option.bind_some _ _).symm.trans H; rw [hy224]; with_reducible exact H2_) | (have H2_ := (Option.bind_some _ _).symm.trans H; with_reducible exact H2_) | with_reducible exact H | (rw [hy224]; exact H) | exact H
  have Ny224 := Aside0.mk hy224
  clear hy224
  by_cases c4 : 1 ≤ (l1_1.length : Int)
  ·rw [if_pos c4] at H
   have c4b0 := eq_true c4
   have c4b1 : decide (1 ≤ (l1_1.length : Int)) = true := decide_eq_true c4
   clear c4
   by_cases c5 : y224.length + (l1_1.drop 1).length < 17592186044416
   ·rw [if_pos c5] at H
    have LMc5 := Aside0.mk c5
    clear c5
    obtain ⟨y228, hy228⟩ : ∃ y_ : List Int, y_ = (y224 ++ (l1_1.drop 1)) := ⟨_, rfl⟩
    replace H : (if 0 < (l1_1.length : Int) then (if (rd l1_1 0) = 1 then (if 0 ≤ a1_0 then (if a1_0 < (l0_0.length : Int) then (if y228.length + (rd_L1 l0_0 a1_0).length < 17592186044416 then ((some (y228 ++ (rd_L1 l0_0 a1_0) : List Int)).bind fun y234 => (if (y234.length : Int) > 1000000 then (some (0, ([] : List Int), false)) else (some (Int.tmod (wrap64 (a1_0 + 1)) (l0_0.length : Int), y234, true)))) else (none)) else (none)) else (none)) else (if (y228.length : Int) > 1000000 then (some (0, ([] : List Int), false)) else (some (Int.tmod (wrap64 (a1_0 + 1)) (l0_0.length : Int), y228, true)))) else (none)) = some (r1, r2, r3) := by first | (rw [hy228]; with_reducible exact H) | (have H2_ := (Option.bind_some _ _).symm.trans H; rw [hy228]; with_reducible exact H2_) | (have H2_ := (Option.bind_some _ _).symm.trans H; with_reducible exact H2_) | with_reducible exact H | (rw [hy228]; exact H) | exact H
    have Ny228 := Aside0.mk hy228
    clear hy228
    by_cases c6 : 0 < (l1_1.length : Int)
    ·rw [if_pos c6] at H
     have c6b0 : decide (0 < (l1_1.length : Int)) = true := decide_eq_true c6
     have c6b1 : decide (0 < l1_1.length) = true := decide_eq_true (by omega)
     clear c6
     by_cases c7 : (rd l1_1 0) = 1
     ·rw [if_pos c7] at H
      have c7b0 : ((rd l1_1 0) == 1) = true := beq_iff_eq.mpr c7
      have c7b1 : ((rd l1_1 0) != 1) = false := bne_eq_false_iff_eq.mpr c7
      clear c7
      by_cases c8 : 0 ≤ a1_0
      ·rw [if_pos c8] at H
       have c8b0 : decide (0 ≤ a1_0) = true := decide_eq_true c8
       clear c8
       by_cases c9 : a1_0 < (l0_0.length : Int)
       ·rw [if_pos c9] at H
        have c9b0 : decide (a1_0 < (l0_0.length : Int)) = true := decide_eq_true c9
        clear c9
        by_cases c10 : y228.length + (rd_L1 l0_0 a1_0).length < 17592186044416
        ·rw [if_pos c10] at H
         have LMc10 := Aside0.mk c10
         clear c10
         obtain ⟨y234, hy234⟩ : ∃ y_ : List Int, y_ = (y228 ++ (rd_L1 l0_0 a1_0)) := ⟨_, rfl⟩
         replace H : (if (y234.length : Int) > 1000000 then (some (0, ([] : List Int), false)) else (some (Int.tmod (wrap64 (a1_0 + 1)) (l0_0.length : Int), y234, true))) = some (r1, r2, r3) := by first | (rw [hy234]; with_reducible exact H) | (have H2_ := (Option.bind_some _ _).symm.trans H; rw [hy234]; with_reducible exact H2_) | (have H2_ := (Option.bind_some _ _).symm.trans H; with_reducible exact H2_) | with_reducible exact H | (rw [hy234]; exact H) | exact H
         have Ny234 := Aside0.mk hy234
         clear hy234
         by_cases c11 : (y234.length : Int) > 1000000
         ·rw [if_pos c11] at H
          have c11b0 : decide (1000000 < (y234.length : Int)) = true := decide_eq_true c11
          have c11b1 : decide (1000000 < y234.length) = true := decide_eq_true (by omega)
          clear c11
          simp only [Option.some.injEq, Prod.mk.injEq] at H
          obtain ⟨rfl, rfl, rfl⟩ := H
          go_enter Try.func31, Try.ntmps31
          try go_wp2_with (first | ((with_reducible refine gate_dst (N := 2) rfl ?_); refine box_event ?hg (N := 2) ?hd (cs := #[.slice A0_0 l0_0.length c0_0]) (t := 45) ?hr ?_; (case hd => rfl); (case hg => rfl); (case hr => first | (go_simp; done) | (go_simp; rfl)); intro gb221 hg w12 hbox hb; have n0_ := A_ (below_step (bk_ HB.out) hb); have n1_ := A_ (hbox); have n2_ := A_ ((by rw [hg]; exact (below_size (bk_ HB.out)) : w.heap.size ≤ gb221)); have n3_ := A_ ((by rw [hg]; exact (below_size (bk_ HB.out)) : w.heap.size ≤ gb221)); clear HB; have HB := n0_; have BK221 := n1_; have GW221 := n2_; have GE221 := n3_; clear n0_ n1_ n2_ n3_ hb hbox hg) | ((with_reducible refine gate_dst (N := 3) rfl ?_); refine box_event ?hg (N := 3) ?hd (cs := #[.int .i64 a1_0, .slice A1_1 l1_1.length c1_1]) (t := 47) ?hr ?_; (case hd => rfl); (case hg => rfl); (case hr => first | (go_simp; done) | (go_simp; rfl)); intro gb222 hg w13 hbox hb; have n0_ := A_ (blk_below (pk_ BK221.out) hb); have n1_ := A_ (below_step (bk_ HB.out) hb); have n2_ := A_ (hbox); have n3_ := A_ ((by rw [hg]; exact (below_size (bk_ HB.out)) : w.heap.size ≤ gb222)); have n4_ := A_ ((by rw [hg]; exact (below_size (bk_ HB.out)) : w.heap.size ≤ gb222)); have n5_ := A_ ((by rw [hg]; exact Nat.ne_of_lt (blk_lt (pk_ BK221.out)) : gb221 ≠ gb222)); have n6_ := A_ ((by rw [hg]; exact Nat.ne_of_gt (blk_lt (pk_ BK221.out)) : gb222 ≠ gb221)); clear BK221 HB; have BK221 := n0_; have HB := n1_; have BK222 := n2_; have GW222 := n3_; have GE222 := n4_; have NB221_222 := n5_; have NB222_221 := n6_; clear n0_ n1_ n2_ n3_ n4_ n5_ n6_ hb hbox hg) | ((with_reducible refine gate_dst (N := 4) rfl ?_); refine box_event ?hg (N := 4) ?hd (cs := #[.int .i64 0, .slice none 0 0]) (t := 47) ?hr ?_; (case hd => rfl); (case hg => rfl); (case hr => first | (go_simp; done) | (go_simp; rfl)); intro gb223 hg w14 hbox hb; have n0_ := A_ (blk_below (pk_ BK221.out) hb); have n1_ := A_ (blk_below (pk_ BK222.out) hb); have n2_ := A_ (below_step (bk_ HB.out) hb); have n3_ := A_ (hbox); have n4_ := A_ ((by rw [hg]; exact (below_size (bk_ HB.out)) : w.heap.size ≤ gb223)); have n5_ := A_ ((by rw [hg]; exact (below_size (bk_ HB.out)) : w.heap.size ≤ gb223)); have n6_ := A_ ((by rw [hg]; exact Nat.ne_of_lt (blk_lt (pk_ BK221.out)) : gb221 ≠ gb223)); have n7_ := A_ ((by rw [hg]; exact Nat.ne_of_gt (blk_lt (pk_ BK221.out)) : gb223 ≠ gb221)); have n8_ := A_ ((by rw [hg]; exact Nat.ne_of_lt (blk_lt (pk_ BK222.out)) : gb222 ≠ gb223)); have n9_ := A_ ((by rw [hg]; exact Nat.ne_of_gt (blk_lt (pk_ BK222.out)) : gb223 ≠ gb222)); clear BK221 BK222 HB; have BK221 := n0_; have BK222 := n1_; have HB := n2_; have BK223 := n3_; have GW223 := n4_; have GE223 := n5_; have NB221_223 := n6_; have NB223_221 := n7_; have NB222_223 := n8_; have NB223_222 := n9_; clear n0_ n1_ n2_ n3_ n4_ n5_ n6_ n7_ n8_ n9_ hb hbox hg))
          have n0_ := A_ (blk_drew BK221.out)
          have n1_ := A_ (blk_drew BK222.out)
          have n2_ := A_ (blk_drew BK223.out)
          have n3_ := A_ (below_drew1 HB.out)
          clear BK221 BK222 BK223 HB
          have BK221 := n0_
          have BK222 := n1_
          have BK223 := n2_
          have HB := n3_
          clear n0_ n1_ n2_ n3_
          obtain ⟨i016, hi016, _, hsz16, _⟩ := info_parts info3
          obtain ⟨A16, hcut16, hA16, hC16⟩ := print_drop_of (P := Try.prog) (Value.int .i64) 0 26 3 .i64 Try.underlying26 hi016 hsz16 A1_1 c1_1 l1_1 1 (by omega) (od_) HC1_1.out
          have HR227 := A_ (Kd.C_of_reads (h1 := fun _ => rfl) (hA16 _ (Kd.reads_of_C HR1_1.out)))
          have HC227 := Aside0.mk hC16
          clear hA16 hC16 hi016 hsz16
          refine start_ (n := 15) (S := fun w' => w'.cell? ⟨gb222, 0, none⟩ = some (.int .i64 a1_0) ∧ w'.cell? ⟨gb222, 1, none⟩ = some (.slice A1_1 l1_1.length c1_1) ∧ w'.cell? ⟨gb221, 0, none⟩ = some (.slice A0_0 l0_0.length c0_0)) (ds := []) #[false, false, false, false, false, false, false, false, false, false, false, false, false, false, false] (by kernel_rfl) rfl rfl ⟨(blk_cell BK222.out 0).trans rfl, (blk_cell BK222.out 1).trans rfl, (blk_cell BK221.out 0).trans rfl⟩ (fun hHeld => ?_); refine with_tabW standstillref07_Turn.tab1 standstillref07_Turn.bits1 (fun HT_ HW_ => ?_)
          generalize w14.drew = w15 at BK221 BK222 BK223 HB HR227 hHeld ⊢
          refine pure_ (i := 0) (N := some 7) (v := ?_) (a' := ?_) #[true, false, false, false, false, false, false, false, false, false, false, false, false, false, false] rfl rfl (any_of HT_.out (by kernel_rfl)) (fun _ _ _ h => h) (Or.inl ⟨by rfl, ?_⟩) ?_ ?_
          rotate_left
          ·intro w'
           go_simp
           with_reducible rfl
          rotate_left
          ·simp only [Act.put, sa_, sz_, ss_, i64_w, i32_w]
           rfl
          refine pure_ (i := 3) (N := some 10) (v := ?_) (a' := ?_) #[true, false, false, true, false, false, false, false, false, false, false, false, false, false, false] rfl rfl (any_of HT_.out (by kernel_rfl)) (fun _ _ _ h => h) (Or.inl ⟨by rfl, ?_⟩) ?_ ?_
          rotate_left
          ·intro w'
           go_simp
           with_reducible rfl
          rotate_left
          ·simp only [Act.put, sa_, sz_, ss_, i64_w, i32_w]
           rfl
          refine pure_ (i := 8) (N := some 15) (v := ?_) (a' := ?_) #[true, false, false, true, false, false, false, false, true, false, false, false, false, false, false] rfl rfl (any_of HT_.out (by kernel_rfl)) (fun _ _ _ h => h) (Or.inl ⟨by rfl, ?_⟩) ?_ ?_
          rotate_left
          ·intro w'
           go_simp
           with_reducible rfl
          rotate_left
          ·simp only [Act.put, sa_, sz_, ss_, i64_w, i32_w]
           rfl
          refine take_ (i := 1) (N := some 8) (v := ?_) (a' := ?_) #[true, true, false, true, false, false, false, false, true, false, false, false, false, false, false] rfl rfl (take_ofW HT_.out HW_.out (by kernel_rfl)) (fun _ _ _ h => h) (Or.inl ⟨by rfl, ?_⟩) hHeld ?_ ?_
          rotate_left
          ·rintro w' ⟨s0, s1, s2⟩
           go_simp
           with_reducible rfl
          rotate_left
          ·simp only [Act.put, sa_, sz_, ss_, i64_w, i32_w]
           rfl
          refine pure_ (i := 2) (N := some 9) (v := ?_) (a' := ?_) #[true, true, true, true, false, false, false, false, true, false, false, false, false, false, false] rfl rfl (any_of HT_.out (by kernel_rfl)) (fun _ _ _ h => h) (Or.inl ⟨by rfl, ?_⟩) ?_ ?_
          rotate_left
          ·intro w'
           go_simp
           with_reducible rfl
          rotate_left
          ·simp only [Act.put, sa_, sz_, ss_, i64_w, i32_w]
           rfl
          refine take_ (i := 4) (N := some 11) (v := ?_) (a' := ?_) #[true, true, true, true, true, false, false, false, true, false, false, false, false, false, false] rfl rfl (take_ofW HT_.out HW_.out (by kernel_rfl)) (fun _ _ _ h => h) (Or.inl ⟨by rfl, ?_⟩) hHeld ?_ ?_
          rotate_left
          ·rintro w' ⟨s0, s1, s2⟩
           go_simp
           with_reducible rfl
          rotate_left
          ·simp only [Act.put, sa_, sz_, ss_, i64_w, i32_w]
           rfl
          refine pure_ (i := 5) (N := some 12) (v := ?_) (a' := ?_) #[true, true, true, true, true, true, false, false, true, false, false, false, false, false, false] rfl rfl (any_of HT_.out (by kernel_rfl)) (fun _ _ _ h => h) (Or.inl ⟨by rfl, ?_⟩) ?_ ?_
          rotate_left
          ·intro w'
           go_simp
           with_reducible rfl
          rotate_left
          ·simp only [Act.put, sa_, sz_, ss_, i64_w, i32_w]
           rfl
          refine pure_ (i := 6) (N := some 13) (v := ?_) (a' := ?_) #[true, true, true, true, true, true, true, false, true, false, false, false, false, false, false] rfl rfl (any_of HT_.out (by kernel_rfl)) (fun _ _ _ h => h) (Or.inl ⟨by rfl, ?_⟩) ?_ ?_
          rotate_left
          ·intro w'
           go_simp
           with_reducible rfl
          rotate_left
          ·simp only [Act.put, sa_, sz_, ss_, i64_w, i32_w]
           rfl
          refine take_ (i := 9) (N := some 16) (v := ?_) (a' := ?_) #[true, true, true, true, true, true, true, false, true, true, false, false, false, false, false] rfl rfl (take_ofW HT_.out HW_.out (by kernel_rfl)) (fun _ _ _ h => h) (Or.inl ⟨by rfl, ?_⟩) hHeld ?_ ?_
          rotate_left
          ·rintro w' ⟨s0, s1, s2⟩
           go_simp
           with_reducible rfl
          rotate_left
          ·simp only [Act.put, sa_, sz_, ss_, i64_w, i32_w]
           rfl
          refine pure_ (i := 10) (N := some 17) (v := ?_) (a' := ?_) #[true, true, true, true, true, true, true, false, true, true, true, false, false, false, false] rfl rfl (any_of HT_.out (by kernel_rfl)) (fun _ _ _ h => h) (Or.inl ⟨by rfl, ?_⟩) ?_ ?_
          rotate_left
          ·intro w'
           go_simp
           with_reducible rfl
          rotate_left
          ·simp only [Act.put, sa_, sz_, ss_, i64_w, i32_w]
           rfl
          refine join_ (σ := Value × Value × Nat) 1 #[true, true, true, true, true, true, true, true, true, true, true, true, true, true, false] (fun s_ => [(14, s_.1), (18, s_.2.1), (6, .pointer (some ⟨s_.2.2, 0, none⟩)), (19, .agg #[.int .i64 (Int.tmod (wrap64 (a1_0 + 1)) (l0_0.length : Int)), s_.2.1])]) (fun s_ w' => (w'.cell? ⟨gb222, 0, none⟩ = some (.int .i64 a1_0) ∧ w'.cell? ⟨gb222, 1, none⟩ = some (.slice A1_1 l1_1.length c1_1) ∧ w'.cell? ⟨gb221, 0, none⟩ = some (.slice A0_0 l0_0.length c0_0)) ∧ (Kd.R (Kd.int .i64) 3 w' w.heap.size (fun _ => True) s_.2.1 y228) ∧ (w'.heap[gb221]? = some (.cells #[.slice A0_0 l0_0.length c0_0] 45 (0, 0))) ∧ (w'.heap[gb222]? = some (.cells #[.int .i64 a1_0, .slice A1_1 l1_1.length c1_1] 47 (0, 0))) ∧ (w'.heap[gb223]? = some (.cells #[.int .i64 0, .slice none 0 0] 47 (0, 0))) ∧ (w'.heap[s_.2.2]? = some (.cells #[.int .i64 0, .slice none 0 0] 47 (0, 0))) ∧ (w.heap.size ≤ s_.2.2) ∧ (w.heap.size ≤ s_.2.2) ∧ (gb221 ≠ s_.2.2) ∧ (s_.2.2 ≠ gb221) ∧ (gb222 ≠ s_.2.2) ∧ (s_.2.2 ≠ gb222) ∧ (gb223 ≠ s_.2.2) ∧ (s_.2.2 ≠ gb223) ∧ (Below w.heap.size w w')) ?_ ?_
          rotate_left
          ·intro hCont
           refine two_ (i := 7) (j := 13) (Ni := some 14) (Nj := some 6) #[true, true, true, true, true, true, true, true, true, true, true, false, false, false, false] #[true, true, true, true, true, true, true, false, true, true, true, false, false, true, false] rfl rfl rfl rfl (two_of HT_.out (by kernel_rfl)) (by decide) (by decide) (fun K hK => ?_) (fun K hK => ?_)
           ·skip
            refine Kd.R_lit_step (Kd.int .i64) _ 3 ?hg (N := 14) ?hd (xs := ([] : List Int)) (inner := []) (ok := fun _ => True) (okp := fun _ => True) ?hr ?hp (fun _ hk => hk) trivial (Below.refl _ _) (Nat.le_refl _) (by simp) ?_; (case hd => rfl); (case hg => rfl); (case hr => first | (go_simp; done) | (go_simp; rfl)); (case hp => exact (Reps.none _ _))
            intro v225 w17 ho18 hb hg_ hnew_
            clear hg_ hnew_
            (first | rw [← Ny224.out] at ho18 | (simp only [Int.reduceToNat] at ho18; rw [← Ny224.out] at ho18))
            have n0_ := A_ (Kd.R_lower ho18 (below_size (bk_ HB.out)))
            have n1_ := A_ (blk_below (pk_ BK221.out) hb)
            have n2_ := A_ (blk_below (pk_ BK222.out) hb)
            have n3_ := A_ (blk_below (pk_ BK223.out) hb)
            have n4_ := A_ (below_step (bk_ HB.out) hb)
            clear BK221 BK222 BK223 HB
            have HO226 := n0_
            have BK221 := n1_
            have BK222 := n2_
            have BK223 := n3_
            have HB := n4_
            clear n0_ n1_ n2_ n3_ n4_ hb ho18
            refine hK.out _ _ ⟨(blk_cell BK222.out 0).trans rfl, (blk_cell BK222.out 1).trans rfl, (blk_cell BK221.out 0).trans rfl⟩ (fun hHeld => ?_)
            clear hK K
            refine norm_ (a' := ?_) ?_ ?_
            rotate_left
            ·show Act.put _ (some 14) _ = _
             simp only [Act.put, sa_, sz_, ss_, i64_w, i32_w]
             rfl
            refine two_ (i := 11) (j := 13) (Ni := some 18) (Nj := some 6) #[true, true, true, true, true, true, true, true, true, true, true, true, false, false, false] #[true, true, true, true, true, true, true, true, true, true, true, false, false, true, false] rfl rfl rfl rfl (two_of HT_.out (by kernel_rfl)) (by decide) (by decide) (fun K hK => ?_) (fun K hK => ?_)
            ·skip
             refine Kd.R_append_rows_step (Kd.int .i64) (w0 := w) w.heap.size (by rfl) (.tmp 14) (.tmp 17) 26 3 (.int .i64 0) 8 rfl Try.underlying26 info3 rfl (by decide) (by omega) v225 y224 (l1_1.drop 1) _ _ _ (fun _ => True) (fun _ => False) rfl rfl ?aO ?aR (fun _ _ h => h) (fun _ h => h.elim) ?aF ?aB ?aS ?aL ?_
             (case aR => first | (rw [← show (l1_1.drop 1).length = (l1_1.length - 1) from List.length_drop]; repeat (first | exact (Kd.C_below HR227.out HB.out) | (with_reducible refine Kd.C_alloc ?_ _) | (with_reducible refine Kd.C_drewN ?_ _) | (with_reducible refine Kd.C_drew ?_))) | (repeat (first | exact (Kd.C_below HR227.out HB.out) | (with_reducible refine Kd.C_alloc ?_ _) | (with_reducible refine Kd.C_drewN ?_ _) | (with_reducible refine Kd.C_drew ?_))))
             (case aB => exact (bk_ HB.out))
             (case aF => exact (fun _ _ => trivial))
             (case aO => exact (rk_ HO226.out))
             (case aS => exact (below_size (bk_ HB.out)))
             (case aL => have := LMc5.out; have hlx_ := (show (l1_1.drop 1).length = (l1_1.length - 1) from List.length_drop); omega)
             intro v229 w19 ho hb hg hat
             rw [← Ny228.out] at ho
             have n0_ := A_ (blk_grown (pk_ BK221.out) hg (Kd.R_ne HO226.out BK221.out (by decide)))
             have n1_ := A_ (blk_grown (pk_ BK222.out) hg (Kd.R_ne HO226.out BK222.out (by decide)))
             have n2_ := A_ (blk_grown (pk_ BK223.out) hg (Kd.R_ne HO226.out BK223.out (by decide)))
             have n3_ := A_ (hb)
             have n4_ := A_ (ho)
             clear BK221 BK222 BK223 HB HO226
             have BK221 := n0_
             have BK222 := n1_
             have BK223 := n2_
             have HB := n3_
             have HO230 := n4_
             clear n0_ n1_ n2_ n3_ n4_ ho hb hg hat
             obtain ⟨Ao20, co20, eo20⟩ := Kd.R_slice HO230.out
             (first | subst eo20 | (injection eo20 with f1_ f2_ f3_; have f4_ := f1_.symm; have f5_ := f3_.symm; clear f1_ f2_ f3_; subst f4_; subst f5_))
             refine hK.out _ _ ⟨(blk_cell BK222.out 0).trans rfl, (blk_cell BK222.out 1).trans rfl, (blk_cell BK221.out 0).trans rfl⟩ (fun hHeld => ?_)
             clear hK K
             refine norm_ (a' := ?_) ?_ ?_
             rotate_left
             ·show Act.put _ (some 18) _ = _
              simp only [Act.put, sa_, sz_, ss_, i64_w, i32_w]
              rfl
             refine pure_ (i := 12) (N := some 19) (v := ?_) (a' := ?_) #[true, true, true, true, true, true, true, true, true, true, true, true, true, false, false] rfl rfl (any_of HT_.out (by kernel_rfl)) (fun _ _ _ h => h) (Or.inl ⟨by rfl, ?_⟩) ?_ ?_
             rotate_left
             ·intro w'
              go_simp
              with_reducible rfl
             rotate_left
             ·simp only [Act.put, sa_, sz_, ss_, i64_w, i32_w]
              rfl
             refine one_ (i := 13) (N := some 6) #[true, true, true, true, true, true, true, true, true, true, true, true, true, true, false] rfl rfl (one_of HT_.out (by kernel_rfl)) (by decide) (fun K hK => ?_)
             refine box_step ?hg (N := 6) ?hd (cs := #[.int .i64 0, .slice none 0 0]) (t := 47) ?hr ?_; (case hd => rfl); (case hg => rfl); (case hr => first | (go_simp; done) | (go_simp; rfl))
             intro gb231 hg w21 hbox hb
             have n0_ := A_ (Kd.R_below (rk_ HO230.out) hb)
             have n1_ := A_ (blk_below (pk_ BK221.out) hb)
             have n2_ := A_ (blk_below (pk_ BK222.out) hb)
             have n3_ := A_ (blk_below (pk_ BK223.out) hb)
             have n4_ := A_ (below_step (bk_ HB.out) hb)
             have n5_ := A_ (hbox)
             have n6_ := A_ ((by rw [hg]; exact (below_size (bk_ HB.out)) : w.heap.size ≤ gb231))
             have n7_ := A_ ((by rw [hg]; exact (below_size (bk_ HB.out)) : w.heap.size ≤ gb231))
             have n8_ := A_ ((by rw [hg]; exact Nat.ne_of_lt (blk_lt (pk_ BK221.out)) : gb221 ≠ gb231))
             have n9_ := A_ ((by rw [hg]; exact Nat.ne_of_gt (blk_lt (pk_ BK221.out)) : gb231 ≠ gb221))
             have n10_ := A_ ((by rw [hg]; exact Nat.ne_of_lt (blk_lt (pk_ BK222.out)) : gb222 ≠ gb231))
             have n11_ := A_ ((by rw [hg]; exact Nat.ne_of_gt (blk_lt (pk_ BK222.out)) : gb231 ≠ gb222))
             have n12_ := A_ ((by rw [hg]; exact Nat.ne_of_lt (blk_lt (pk_ BK223.out)) : gb223 ≠ gb231))
             have n13_ := A_ ((by rw [hg]; exact Nat.ne_of_gt (blk_lt (pk_ BK223.out)) : gb231 ≠ gb223))
             clear HO230 BK221 BK222 BK223 HB
             have HO230 := n0_
             have BK221 := n1_
             have BK222 := n2_
             have BK223 := n3_
             have HB := n4_
             have BK231 := n5_
             have GW231 := n6_
             have GE231 := n7_
             have NB221_231 := n8_
             have NB231_221 := n9_
             have NB222_231 := n10_
             have NB231_222 := n11_
             have NB223_231 := n12_
             have NB231_223 := n13_
             clear n0_ n1_ n2_ n3_ n4_ n5_ n6_ n7_ n8_ n9_ n10_ n11_ n12_ n13_ hb hbox hg
             refine hK.out _ _ ⟨(blk_cell BK222.out 0).trans rfl, (blk_cell BK222.out 1).trans rfl, (blk_cell BK221.out 0).trans rfl⟩ (fun hHeld => ?_)
             clear hK K
             refine norm_ (a' := ?_) ?_ ?_
             rotate_left
             ·show Act.put _ (some 6) _ = _
              simp only [Act.put, sa_, sz_, ss_, i64_w, i32_w]
              rfl
             exact norm_ (by simp only [putAll, Act.put, List.setIfInBounds_toArray, List.set_cons_zero, List.set_cons_succ]) (hCont (v225, .slice Ao20 y228.length co20, gb231) _ ⟨hHeld, (rk_ HO230.out), (pk_ BK221.out), (pk_ BK222.out), (pk_ BK223.out), (pk_ BK231.out), GW231.out, GE231.out, NB221_231.out, NB231_221.out, NB222_231.out, NB231_222.out, NB223_231.out, NB231_223.out, (bk_ HB.out)⟩)
            ·skip
             refine box_step ?hg (N := 6) ?hd (cs := #[.int .i64 0, .slice none 0 0]) (t := 47) ?hr ?_; (case hd => rfl); (case hg => rfl); (case hr => first | (go_simp; done) | (go_simp; rfl))
             intro gb231 hg w19 hbox hb
             have n0_ := A_ (Kd.R_below (rk_ HO226.out) hb)
             have n1_ := A_ (blk_below (pk_ BK221.out) hb)
             have n2_ := A_ (blk_below (pk_ BK222.out) hb)
             have n3_ := A_ (blk_below (pk_ BK223.out) hb)
             have n4_ := A_ (below_step (bk_ HB.out) hb)
             have n5_ := A_ (hbox)
             have n6_ := A_ ((by rw [hg]; exact (below_size (bk_ HB.out)) : w.heap.size ≤ gb231))
             have n7_ := A_ ((by rw [hg]; exact (below_size (bk_ HB.out)) : w.heap.size ≤ gb231))
             have n8_ := A_ ((by rw [hg]; exact Nat.ne_of_lt (blk_lt (pk_ BK221.out)) : gb221 ≠ gb231))
             have n9_ := A_ ((by rw [hg]; exact Nat.ne_of_gt (blk_lt (pk_ BK221.out)) : gb231 ≠ gb221))
             have n10_ := A_ ((by rw [hg]; exact Nat.ne_of_lt (blk_lt (pk_ BK222.out)) : gb222 ≠ gb231))
             have n11_ := A_ ((by rw [hg]; exact Nat.ne_of_gt (blk_lt (pk_ BK222.out)) : gb231 ≠ gb222))
             have n12_ := A_ ((by rw [hg]; exact Nat.ne_of_lt (blk_lt (pk_ BK223.out)) : gb223 ≠ gb231))
             have n13_ := A_ ((by rw [hg]; exact Nat.ne_of_gt (blk_lt (pk_ BK223.out)) : gb231 ≠ gb223))
             clear HO226 BK221 BK222 BK223 HB
             have HO226 := n0_
             have BK221 := n1_
             have BK222 := n2_
             have BK223 := n3_
             have HB := n4_
             have BK231 := n5_
             have GW231 := n6_
             have GE231 := n7_
             have NB221_231 := n8_
             have NB231_221 := n9_
             have NB222_231 := n10_
             have NB231_222 := n11_
             have NB223_231 := n12_
             have NB231_223 := n13_
             clear n0_ n1_ n2_ n3_ n4_ n5_ n6_ n7_ n8_ n9_ n10_ n11_ n12_ n13_ hb hbox hg
             refine hK.out _ _ ⟨(blk_cell BK222.out 0).trans rfl, (blk_cell BK222.out 1).trans rfl, (blk_cell BK221.out 0).trans rfl⟩ (fun hHeld => ?_)
             clear hK K
             refine norm_ (a' := ?_) ?_ ?_
             rotate_left
             ·show Act.put _ (some 6) _ = _
              simp only [Act.put, sa_, sz_, ss_, i64_w, i32_w]
              rfl
             refine one_ (i := 11) (N := some 18) #[true, true, true, true, true, true, true, true, true, true, true, true, false, true, false] rfl rfl (one_of HT_.out (by kernel_rfl)) (by decide) (fun K hK => ?_)
             refine Kd.R_append_rows_step (Kd.int .i64) (w0 := w) w.heap.size (by rfl) (.tmp 14) (.tmp 17) 26 3 (.int .i64 0) 8 rfl Try.underlying26 info3 rfl (by decide) (by omega) v225 y224 (l1_1.drop 1) _ _ _ (fun _ => True) (fun _ => False) rfl rfl ?aO ?aR (fun _ _ h => h) (fun _ h => h.elim) ?aF ?aB ?aS ?aL ?_
             (case aR => first | (rw [← show (l1_1.drop 1).length = (l1_1.length - 1) from List.length_drop]; repeat (first | exact (Kd.C_below HR227.out HB.out) | (with_reducible refine Kd.C_alloc ?_ _) | (with_reducible refine Kd.C_drewN ?_ _) | (with_reducible refine Kd.C_drew ?_))) | (repeat (first | exact (Kd.C_below HR227.out HB.out) | (with_reducible refine Kd.C_alloc ?_ _) | (with_reducible refine Kd.C_drewN ?_ _) | (with_reducible refine Kd.C_drew ?_))))
             (case aB => exact (bk_ HB.out))
             (case aF => exact (fun _ _ => trivial))
             (case aO => exact (rk_ HO226.out))
             (case aS => exact (below_size (bk_ HB.out)))
             (case aL => have := LMc5.out; have hlx_ := (show (l1_1.drop 1).length = (l1_1.length - 1) from List.length_drop); omega)
             intro v229 w20 ho hb hg hat
             rw [← Ny228.out] at ho
             have n0_ := A_ (blk_grown (pk_ BK221.out) hg (Kd.R_ne HO226.out BK221.out (by decide)))
             have n1_ := A_ (blk_grown (pk_ BK222.out) hg (Kd.R_ne HO226.out BK222.out (by decide)))
             have n2_ := A_ (blk_grown (pk_ BK223.out) hg (Kd.R_ne HO226.out BK223.out (by decide)))
             have n3_ := A_ (blk_grown (pk_ BK231.out) hg (Kd.R_ne HO226.out BK231.out (by decide)))
             have n4_ := A_ (hb)
             have n5_ := A_ (ho)
             clear BK221 BK222 BK223 BK231 HB HO226
             have BK221 := n0_
             have BK222 := n1_
             have BK223 := n2_
             have BK231 := n3_
             have HB := n4_
             have HO230 := n5_
             clear n0_ n1_ n2_ n3_ n4_ n5_ ho hb hg hat
             obtain ⟨Ao21, co21, eo21⟩ := Kd.R_slice HO230.out
             (first | subst eo21 | (injection eo21 with f1_ f2_ f3_; have f4_ := f1_.symm; have f5_ := f3_.symm; clear f1_ f2_ f3_; subst f4_; subst f5_))
             refine hK.out _ _ ⟨(blk_cell BK222.out 0).trans rfl, (blk_cell BK222.out 1).trans rfl, (blk_cell BK221.out 0).trans rfl⟩ (fun hHeld => ?_)
             clear hK K
             refine norm_ (a' := ?_) ?_ ?_
             rotate_left
             ·show Act.put _ (some 18) _ = _
              simp only [Act.put, sa_, sz_, ss_, i64_w, i32_w]
              rfl
             refine pure_ (i := 12) (N := some 19) (v := ?_) (a' := ?_) #[true, true, true, true, true, true, true, true, true, true, true, true, true, true, false] rfl rfl (any_of HT_.out (by kernel_rfl)) (fun _ _ _ h => h) (Or.inl ⟨by rfl, ?_⟩) ?_ ?_
             rotate_left
             ·intro w'
              go_simp
              with_reducible rfl
             rotate_left
             ·simp only [Act.put, sa_, sz_, ss_, i64_w, i32_w]
              rfl
             exact norm_ (by simp only [putAll, Act.put, List.setIfInBounds_toArray, List.set_cons_zero, List.set_cons_succ]) (hCont (v225, .slice Ao21 y228.length co21, gb231) _ ⟨hHeld, (rk_ HO230.out), (pk_ BK221.out), (pk_ BK222.out), (pk_ BK223.out), (pk_ BK231.out), GW231.out, GE231.out, NB221_231.out, NB231_221.out, NB222_231.out, NB231_222.out, NB223_231.out, NB231_223.out, (bk_ HB.out)⟩)
           ·skip
            refine box_step ?hg (N := 6) ?hd (cs := #[.int .i64 0, .slice none 0 0]) (t := 47) ?hr ?_; (case hd => rfl); (case hg => rfl); (case hr => first | (go_simp; done) | (go_simp; rfl))
            intro gb231 hg w17 hbox hb
            have n0_ := A_ (blk_below (pk_ BK221.out) hb)
            have n1_ := A_ (blk_below (pk_ BK222.out) hb)
            have n2_ := A_ (blk_below (pk_ BK223.out) hb)
            have n3_ := A_ (below_step (bk_ HB.out) hb)
            have n4_ := A_ (hbox)
            have n5_ := A_ ((by rw [hg]; exact (below_size (bk_ HB.out)) : w.heap.size ≤ gb231))
            have n6_ := A_ ((by rw [hg]; exact (below_size (bk_ HB.out)) : w.heap.size ≤ gb231))
            have n7_ := A_ ((by rw [hg]; exact Nat.ne_of_lt (blk_lt (pk_ BK221.out)) : gb221 ≠ gb231))
            have n8_ := A_ ((by rw [hg]; exact Nat.ne_of_gt (blk_lt (pk_ BK221.out)) : gb231 ≠ gb221))
            have n9_ := A_ ((by rw [hg]; exact Nat.ne_of_lt (blk_lt (pk_ BK222.out)) : gb222 ≠ gb231))
            have n10_ := A_ ((by rw [hg]; exact Nat.ne_of_gt (blk_lt (pk_ BK222.out)) : gb231 ≠ gb222))
            have n11_ := A_ ((by rw [hg]; exact Nat.ne_of_lt (blk_lt (pk_ BK223.out)) : gb223 ≠ gb231))
            have n12_ := A_ ((by rw [hg]; exact Nat.ne_of_gt (blk_lt (pk_ BK223.out)) : gb231 ≠ gb223))
            clear BK221 BK222 BK223 HB
            have BK221 := n0_
            have BK222 := n1_
            have BK223 := n2_
            have HB := n3_
            have BK231 := n4_
            have GW231 := n5_
            have GE231 := n6_
            have NB221_231 := n7_
            have NB231_221 := n8_
            have NB222_231 := n9_
            have NB231_222 := n10_
            have NB223_231 := n11_
            have NB231_223 := n12_
            clear n0_ n1_ n2_ n3_ n4_ n5_ n6_ n7_ n8_ n9_ n10_ n11_ n12_ hb hbox hg
            refine hK.out _ _ ⟨(blk_cell BK222.out 0).trans rfl, (blk_cell BK222.out 1).trans rfl, (blk_cell BK221.out 0).trans rfl⟩ (fun hHeld => ?_)
            clear hK K
            refine norm_ (a' := ?_) ?_ ?_
            rotate_left
            ·show Act.put _ (some 6) _ = _
             simp only [Act.put, sa_, sz_, ss_, i64_w, i32_w]
             rfl
            refine one_ (i := 7) (N := some 14) #[true, true, true, true, true, true, true, true, true, true, true, false, false, true, false] rfl rfl (one_of HT_.out (by kernel_rfl)) (by decide) (fun K hK => ?_)
            refine Kd.R_lit_step (Kd.int .i64) _ 3 ?hg (N := 14) ?hd (xs := ([] : List Int)) (inner := []) (ok := fun _ => True) (okp := fun _ => True) ?hr ?hp (fun _ hk => hk) trivial (Below.refl _ _) (Nat.le_refl _) (by simp) ?_; (case hd => rfl); (case hg => rfl); (case hr => first | (go_simp; done) | (go_simp; rfl)); (case hp => exact (Reps.none _ _))
            intro v225 w18 ho19 hb hg_ hnew_
            clear hg_ hnew_
            (first | rw [← Ny224.out] at ho19 | (simp only [Int.reduceToNat] at ho19; rw [← Ny224.out] at ho19))
            have n0_ := A_ (Kd.R_lower ho19 (below_size (bk_ HB.out)))
            have n1_ := A_ (blk_below (pk_ BK221.out) hb)
            have n2_ := A_ (blk_below (pk_ BK222.out) hb)
            have n3_ := A_ (blk_below (pk_ BK223.out) hb)
            have n4_ := A_ (blk_below (pk_ BK231.out) hb)
            have n5_ := A_ (below_step (bk_ HB.out) hb)
            clear BK221 BK222 BK223 BK231 HB
            have HO226 := n0_
            have BK221 := n1_
            have BK222 := n2_
            have BK223 := n3_
            have BK231 := n4_
            have HB := n5_
            clear n0_ n1_ n2_ n3_ n4_ n5_ hb ho19
            refine hK.out _ _ ⟨(blk_cell BK222.out 0).trans rfl, (blk_cell BK222.out 1).trans rfl, (blk_cell BK221.out 0).trans rfl⟩ (fun hHeld => ?_)
            clear hK K
            refine norm_ (a' := ?_) ?_ ?_
            rotate_left
            ·show Act.put _ (some 14) _ = _
             simp only [Act.put, sa_, sz_, ss_, i64_w, i32_w]
             rfl
            refine one_ (i := 11) (N := some 18) #[true, true, true, true, true, true, true, true, true, true, true, true, false, true, false] rfl rfl (one_of HT_.out (by kernel_rfl)) (by decide) (fun K hK => ?_)
            refine Kd.R_append_rows_step (Kd.int .i64) (w0 := w) w.heap.size (by rfl) (.tmp 14) (.tmp 17) 26 3 (.int .i64 0) 8 rfl Try.underlying26 info3 rfl (by decide) (by omega) v225 y224 (l1_1.drop 1) _ _ _ (fun _ => True) (fun _ => False) rfl rfl ?aO ?aR (fun _ _ h => h) (fun _ h => h.elim) ?aF ?aB ?aS ?aL ?_
            (case aR => first | (rw [← show (l1_1.drop 1).length = (l1_1.length - 1) from List.length_drop]; repeat (first | exact (Kd.C_below HR227.out HB.out) | (with_reducible refine Kd.C_alloc ?_ _) | (with_reducible refine Kd.C_drewN ?_ _) | (with_reducible refine Kd.C_drew ?_))) | (repeat (first | exact (Kd.C_below HR227.out HB.out) | (with_reducible refine Kd.C_alloc ?_ _) | (with_reducible refine Kd.C_drewN ?_ _) | (with_reducible refine Kd.C_drew ?_))))
            (case aB => exact (bk_ HB.out))
            (case aF => exact (fun _ _ => trivial))
            (case aO => exact (rk_ HO226.out))
            (case aS => exact (below_size (bk_ HB.out)))
            (case aL => have := LMc5.out; have hlx_ := (show (l1_1.drop 1).length = (l1_1.length - 1) from List.length_drop); omega)
            intro v229 w20 ho hb hg hat
            rw [← Ny228.out] at ho
            have n0_ := A_ (blk_grown (pk_ BK221.out) hg (Kd.R_ne HO226.out BK221.out (by decide)))
            have n1_ := A_ (blk_grown (pk_ BK222.out) hg (Kd.R_ne HO226.out BK222.out (by decide)))
            have n2_ := A_ (blk_grown (pk_ BK223.out) hg (Kd.R_ne HO226.out BK223.out (by decide)))
            have n3_ := A_ (blk_grown (pk_ BK231.out) hg (Kd.R_ne HO226.out BK231.out (by decide)))
            have n4_ := A_ (hb)
            have n5_ := A_ (ho)
            clear BK221 BK222 BK223 BK231 HB HO226
            have BK221 := n0_
            have BK222 := n1_
            have BK223 := n2_
            have BK231 := n3_
            have HB := n4_
            have HO230 := n5_
            clear n0_ n1_ n2_ n3_ n4_ n5_ ho hb hg hat
            obtain ⟨Ao21, co21, eo21⟩ := Kd.R_slice HO230.out
            (first | subst eo21 | (injection eo21 with f1_ f2_ f3_; have f4_ := f1_.symm; have f5_ := f3_.symm; clear f1_ f2_ f3_; subst f4_; subst f5_))
            refine hK.out _ _ ⟨(blk_cell BK222.out 0).trans rfl, (blk_cell BK222.out 1).trans rfl, (blk_cell BK221.out 0).trans rfl⟩ (fun hHeld => ?_)
            clear hK K
            refine norm_ (a' := ?_) ?_ ?_
            rotate_left
            ·show Act.put _ (some 18) _ = _
             simp only [Act.put, sa_, sz_, ss_, i64_w, i32_w]
             rfl
            refine pure_ (i := 12) (N := some 19) (v := ?_) (a' := ?_) #[true, true, true, true, true, true, true, true, true, true, true, true, true, true, false] rfl rfl (any_of HT_.out (by kernel_rfl)) (fun _ _ _ h => h) (Or.inl ⟨by rfl, ?_⟩) ?_ ?_
            rotate_left
            ·intro w'
             go_simp
             with_reducible rfl
            rotate_left
            ·simp only [Act.put, sa_, sz_, ss_, i64_w, i32_w]
             rfl
            exact norm_ (by simp only [putAll, Act.put, List.setIfInBounds_toArray, List.set_cons_zero, List.set_cons_succ]) (hCont (v225, .slice Ao21 y228.length co21, gb231) _ ⟨hHeld, (rk_ HO230.out), (pk_ BK221.out), (pk_ BK222.out), (pk_ BK223.out), (pk_ BK231.out), GW231.out, GE231.out, NB221_231.out, NB231_221.out, NB222_231.out, NB231_222.out, NB223_231.out, NB231_223.out, (bk_ HB.out)⟩)
          rintro ⟨v225, v229, gb231⟩ w22 ⟨hS_, h0_, h1_, h2_, h3_, h4_, h5_, h6_, h7_, h8_, h9_, h10_, h11_, h12_, h13_⟩
          have n0_ : Aside0 (Kd.R (Kd.int .i64) 3 w22 w.heap.size (fun _ => True) v229 y228) := ⟨h0_⟩
          have n1_ : Aside0 (w22.heap[gb221]? = some (.cells #[.slice A0_0 l0_0.length c0_0] 45 (0, 0))) := ⟨h1_⟩
          have n2_ : Aside0 (w22.heap[gb222]? = some (.cells #[.int .i64 a1_0, .slice A1_1 l1_1.length c1_1] 47 (0, 0))) := ⟨h2_⟩
          have n3_ : Aside0 (w22.heap[gb223]? = some (.cells #[.int .i64 0, .slice none 0 0] 47 (0, 0))) := ⟨h3_⟩
          have n4_ : Aside0 (w22.heap[gb231]? = some (.cells #[.int .i64 0, .slice none 0 0] 47 (0, 0))) := ⟨h4_⟩
          have n5_ : Aside0 (w.heap.size ≤ gb231) := ⟨h5_⟩
          have n6_ : Aside0 (w.heap.size ≤ gb231) := ⟨h6_⟩
          have n7_ : Aside0 (gb221 ≠ gb231) := ⟨h7_⟩
          have n8_ : Aside0 (gb231 ≠ gb221) := ⟨h8_⟩
          have n9_ : Aside0 (gb222 ≠ gb231) := ⟨h9_⟩
          have n10_ : Aside0 (gb231 ≠ gb222) := ⟨h10_⟩
          have n11_ : Aside0 (gb223 ≠ gb231) := ⟨h11_⟩
          have n12_ : Aside0 (gb231 ≠ gb223) := ⟨h12_⟩
          have n13_ : Aside0 (Below w.heap.size w w22) := ⟨h13_⟩
          clear BK221 BK222 BK223 HB h0_ h1_ h2_ h3_ h4_ h5_ h6_ h7_ h8_ h9_ h10_ h11_ h12_ h13_
          have HO230 := n0_
          have BK221 := n1_
          have BK222 := n2_
          have BK223 := n3_
          have BK231 := n4_
          have GW231 := n5_
          have GE231 := n6_
          have NB221_231 := n7_
          have NB231_221 := n8_
          have NB222_231 := n9_
          have NB231_222 := n10_
          have NB223_231 := n11_
          have NB231_223 := n12_
          have HB := n13_
          clear n0_ n1_ n2_ n3_ n4_ n5_ n6_ n7_ n8_ n9_ n10_ n11_ n12_ n13_
          have hHeld : w22.cell? ⟨gb222, 0, none⟩ = some (.int .i64 a1_0) ∧ w22.cell? ⟨gb222, 1, none⟩ = some (.slice A1_1 l1_1.length c1_1) ∧ w22.cell? ⟨gb221, 0, none⟩ = some (.slice A0_0 l0_0.length c0_0) := hS_
          obtain ⟨Ao23, co23, eo23⟩ := Kd.R_slice HO230.out
          (first | subst eo23 | (injection eo23 with f1_ f2_ f3_; have f4_ := f1_.symm; have f5_ := f3_.symm; clear f1_ f2_ f3_; subst f4_; subst f5_))
          refine norm_ (a' := ?_) ?_ ?_
          rotate_left
          ·simp only [putAll, Act.put, List.setIfInBounds_toArray, List.set_cons_zero, List.set_cons_succ]
           rfl
          refine one_ (i := 14) (N := none) #[true, true, true, true, true, true, true, true, true, true, true, true, true, true, true] rfl rfl (one_of HT_.out (by kernel_rfl)) (by decide) (fun K hK => ?_)
          have hs24 : w22.cell? ⟨gb231, 0, none⟩ = some (.int .i64 0) := (blk_cell BK231.out 0).trans rfl
          have hfs24 := blk_frozen BK231.out 0
          have hns24_0 := NB221_231.out
          have hns24_1 := NB222_231.out
          have hns24_2 := NB223_231.out
          have hms24_0 := NB231_221.out
          have hms24_1 := NB231_222.out
          have hms24_2 := NB231_223.out
          have hs25 : w22.cell? ⟨gb231, 1, none⟩ = some (.slice none 0 0) := (blk_cell BK231.out 1).trans rfl
          have hfs25 := blk_frozen BK231.out 1
          have hns25_0 := NB221_231.out
          have hns25_1 := NB222_231.out
          have hns25_2 := NB223_231.out
          have hms25_0 := NB231_221.out
          have hms25_1 := NB231_222.out
          have hms25_2 := NB231_223.out
          refine skip_ (w1 := ?_) (by rfl) rfl ?_ ?_
          rotate_left
          ·go_simp
           rfl
          refine hK.out _ _ ⟨((cell_far (p := ⟨gb231, _, none⟩) NB222_231.out _).trans (((cell_far (p := ⟨gb231, _, none⟩) NB222_231.out _).trans (hHeld.1)))), ((cell_far (p := ⟨gb231, _, none⟩) NB222_231.out _).trans (((cell_far (p := ⟨gb231, _, none⟩) NB222_231.out _).trans (hHeld.2.1)))), ((cell_far (p := ⟨gb231, _, none⟩) NB221_231.out _).trans (((cell_far (p := ⟨gb231, _, none⟩) NB221_231.out _).trans (hHeld.2.2))))⟩ (fun hHeld => ?_)
          clear hK K
          refine done_ (done_of HT_.out (by kernel_rfl)) ?_
          have hnb26 := NB222_221.out
          have hnc26 := NB221_222.out
          have hnb27 := NB222_223.out
          have hnc27 := NB223_222.out
          have hnb28 := NB222_231.out
          have hnc28 := NB231_222.out
          have hcz29_0 : w22.cell? ⟨gb222, 0, none⟩ = some (.int .i64 a1_0) := (blk_cell BK222.out 0).trans rfl
          have hcz29_1 : w22.cell? ⟨gb222, 1, none⟩ = some (.slice A1_1 l1_1.length c1_1) := (blk_cell BK222.out 1).trans rfl
          have hfz29_0 := blk_frozen BK222.out 0
          have hfz29_1 := blk_frozen BK222.out 1
          have p232 : 0 ≤ (0 : Int) := (by omega)
          have q232 : 0 < (l1_1.length : Int) := od_
          obtain ⟨ad232, e232, hx232_0⟩ := Kd.at_int HR1_1.out 0 p232 q232
          cases e232
          have qi232 : (0 < l1_1.length) = True := eq_true (by omega)
          (try rw [show ((0 : Int)).toNat = 0 from rfl] at hx232_0)
          (try rw [Addr.add_zero'] at hx232_0)
          have hn232_0 : ad232.block ≠ gb231 := Nat.ne_of_lt (Nat.lt_of_lt_of_le (by have := World.block_lt_of_cell? _ _ hx232_0; first | rwa [add_block] at this | exact this) GW231.out)
          have hn232_1 : ad232.block ≠ gb231 := Nat.ne_of_lt (Nat.lt_of_lt_of_le (by have := World.block_lt_of_cell? _ _ hx232_0; first | rwa [add_block] at this | exact this) GW231.out)
          replace hx232_0 := lf_ HB.out hx232_0
          replace hx232_0 := (cell_far (p := ⟨gb231, 0, none⟩) (by first | (rw [add_block]; exact hn232_0) | (show (Addr.add _ _).block ≠ _; rw [add_block]; exact hn232_0) | exact hn232_0) (.int .i64 (Int.tmod (wrap64 (a1_0 + 1)) (l0_0.length : Int)))).trans hx232_0
          replace hx232_0 := (cell_far (p := ⟨gb231, 1, none⟩) (by first | (rw [add_block]; exact hn232_1) | (show (Addr.add _ _).block ≠ _; rw [add_block]; exact hn232_1) | exact hn232_1) (.slice Ao23 y228.length co23)).trans hx232_0
          clear hn232_0 hn232_1
          replace p232 := eq_true p232
          replace q232 := eq_true q232
          try go_wp2
          have n0_ : Aside0 (Kd.R (Kd.int .i64) 3 ((w22.setCell ⟨gb231, 0, none⟩ (.int .i64 (Int.tmod (wrap64 (a1_0 + 1)) (l0_0.length : Int)))).setCell ⟨gb231, 1, none⟩ (.slice Ao23 y228.length co23)) w.heap.size (fun _ => True) (.slice Ao23 y228.length co23) y228) := ⟨by (with_reducible repeat (first | apply Kd.R_alloc | apply Kd.R_drewN | apply Kd.R_drew)); exact Kd.R_mono (Kd.R_far (p := ⟨gb231, 1, none⟩) (Kd.R_far (p := ⟨gb231, 0, none⟩) (Kd.R_types HO230.out BK231.out (by decide)) (fun _ hk => hk.2) (.int .i64 (Int.tmod (wrap64 (a1_0 + 1)) (l0_0.length : Int)))) (fun _ hk => hk.2) (.slice Ao23 y228.length co23)) (fun _ hk => trivial)⟩
          have n1_ : Aside0 (((w22.setCell ⟨gb231, 0, none⟩ (.int .i64 (Int.tmod (wrap64 (a1_0 + 1)) (l0_0.length : Int)))).setCell ⟨gb231, 1, none⟩ (.slice Ao23 y228.length co23)).heap[gb221]? = some (.cells #[.slice A0_0 l0_0.length c0_0] 45 (0, 0))) := ⟨by refine pk_ ?_; refine blk_far ?_ NB221_231.out _; refine pk_ ?_; refine blk_far ?_ NB221_231.out _; exact pk_ BK221.out⟩
          have n2_ : Aside0 (((w22.setCell ⟨gb231, 0, none⟩ (.int .i64 (Int.tmod (wrap64 (a1_0 + 1)) (l0_0.length : Int)))).setCell ⟨gb231, 1, none⟩ (.slice Ao23 y228.length co23)).heap[gb222]? = some (.cells #[.int .i64 a1_0, .slice (some ad232) l1_1.length c1_1] 47 (0, 0))) := ⟨by refine pk_ ?_; refine blk_far ?_ NB222_231.out _; refine pk_ ?_; refine blk_far ?_ NB222_231.out _; exact pk_ BK222.out⟩
          have n3_ : Aside0 (((w22.setCell ⟨gb231, 0, none⟩ (.int .i64 (Int.tmod (wrap64 (a1_0 + 1)) (l0_0.length : Int)))).setCell ⟨gb231, 1, none⟩ (.slice Ao23 y228.length co23)).heap[gb223]? = some (.cells #[.int .i64 0, .slice none 0 0] 47 (0, 0))) := ⟨by refine pk_ ?_; refine blk_far ?_ NB223_231.out _; refine pk_ ?_; refine blk_far ?_ NB223_231.out _; exact pk_ BK223.out⟩
          have n4_ : Aside0 (((w22.setCell ⟨gb231, 0, none⟩ (.int .i64 (Int.tmod (wrap64 (a1_0 + 1)) (l0_0.length : Int)))).setCell ⟨gb231, 1, none⟩ (.slice Ao23 y228.length co23)).heap[gb231]? = some (.cells #[.int .i64 (Int.tmod (wrap64 (a1_0 + 1)) (l0_0.length : Int)), .slice Ao23 y228.length co23] 47 (0, 0))) := ⟨by refine pk_ ?_; refine blk_put (cs := #[.int .i64 (Int.tmod (wrap64 (a1_0 + 1)) (l0_0.length : Int)), .slice none 0 0]) ?_ 1 _ rfl; refine pk_ ?_; refine blk_put (cs := #[.int .i64 0, .slice none 0 0]) ?_ 0 _ rfl; exact pk_ BK231.out⟩
          have n5_ : Aside0 (Below w.heap.size w ((w22.setCell ⟨gb231, 0, none⟩ (.int .i64 (Int.tmod (wrap64 (a1_0 + 1)) (l0_0.length : Int)))).setCell ⟨gb231, 1, none⟩ (.slice Ao23 y228.length co23))) := ⟨bk_ HB.out⟩
          (try clear HO230)
          (try clear BK221)
          (try clear BK222)
          (try clear BK223)
          (try clear BK231)
          (try clear HB)
          generalize ((w22.setCell ⟨gb231, 0, none⟩ (.int .i64 (Int.tmod (wrap64 (a1_0 + 1)) (l0_0.length : Int)))).setCell ⟨gb231, 1, none⟩ (.slice Ao23 y228.length co23)) = w30 at n0_ n1_ n2_ n3_ n4_ n5_ ⊢
          have HO230 := n0_
          have BK221 := n1_
          have BK222 := n2_
          have BK223 := n3_
          have BK231 := n4_
          have HB := n5_
          clear n0_ n1_ n2_ n3_ n4_ n5_
          have n0_ := A_ (Kd.R_drew HO230.out)
          have n1_ := A_ (blk_drew BK221.out)
          have n2_ := A_ (blk_drew BK222.out)
          have n3_ := A_ (blk_drew BK223.out)
          have n4_ := A_ (blk_drew BK231.out)
          have n5_ := A_ (below_drew1 HB.out)
          clear HO230 BK221 BK222 BK223 BK231 HB
          have HO230 := n0_
          have BK221 := n1_
          have BK222 := n2_
          have BK223 := n3_
          have BK231 := n4_
          have HB := n5_
          clear n0_ n1_ n2_ n3_ n4_ n5_
          have p233 : 0 ≤ (a1_0 : Int) := od_
          have q233 : a1_0 < (l0_0.length : Int) := od_
          obtain ⟨ad233, A233_0, c233_0, e233, hx233_0, hl233_0, hi233_0⟩ := at_L1 HR0_0.out a1_0 p233 q233
          have hw233_0 := hx233_0
          cases e233
          replace hx233_0 := lf_ HB.out hx233_0
          have HR233_0 := Aside0.mk hi233_0
          have HC233_0 := Aside0.mk hl233_0
          clear hi233_0 hl233_0
          replace p233 := eq_true p233
          replace q233 := eq_true q233
          refine start_ (n := 11) (S := fun w' => w'.cell? ⟨gb231, 0, none⟩ = some (.int .i64 (Int.tmod (wrap64 (a1_0 + 1)) (l0_0.length : Int))) ∧ w'.cell? ⟨gb231, 1, none⟩ = some (.slice Ao23 y228.length co23) ∧ w'.cell? ⟨gb221, 0, none⟩ = some (.slice (some ad233) l0_0.length c0_0) ∧ w'.cell? ⟨gb222, 0, none⟩ = some (.int .i64 a1_0) ∧ w'.cell? ⟨gb222, 1, none⟩ = some (.slice (some ad232) l1_1.length c1_1) ∧ w'.cell? (ad233.add (a1_0).toNat) = some (.slice A233_0 (rd_L1 l0_0 a1_0).length c233_0)) (ds := [10]) #[false, false, false, false, false, false, false, false, false, false, false] (by kernel_rfl) rfl rfl ⟨(blk_cell BK231.out 0).trans rfl, (blk_cell BK231.out 1).trans rfl, (blk_cell BK221.out 0).trans rfl, (blk_cell BK222.out 0).trans rfl, (blk_cell BK222.out 1).trans rfl, ((HB.out.cell (World.block_lt_of_cell? w _ hw233_0)).trans hw233_0)⟩ (fun hHeld => ?_); refine with_tabW standstillref07_Turn.tab3 standstillref07_Turn.bits3 (fun HT_ HW_ => ?_)
          generalize w30.drew = w31 at HO230 BK221 BK222 BK223 BK231 HB HR233_0 hx233_0 hHeld ⊢
          refine pure_ (i := 0) (N := some 25) (v := ?_) (a' := ?_) #[true, false, false, false, false, false, false, false, false, false, false] rfl rfl (any_of HT_.out (by kernel_rfl)) (fun _ _ _ h => h) (Or.inl ⟨by rfl, ?_⟩) ?_ ?_
          rotate_left
          ·intro w'
           go_simp
           with_reducible rfl
          rotate_left
          ·simp only [Act.put, sa_, sz_, ss_, i64_w, i32_w]
           rfl
          refine pure_ (i := 2) (N := some 27) (v := ?_) (a' := ?_) #[true, false, true, false, false, false, false, false, false, false, false] rfl rfl (any_of HT_.out (by kernel_rfl)) (fun _ _ _ h => h) (Or.inl ⟨by rfl, ?_⟩) ?_ ?_
          rotate_left
          ·intro w'
           go_simp
           with_reducible rfl
          rotate_left
          ·simp only [Act.put, sa_, sz_, ss_, i64_w, i32_w]
           rfl
          refine pure_ (i := 4) (N := some 29) (v := ?_) (a' := ?_) #[true, false, true, false, true, false, false, false, false, false, false] rfl rfl (any_of HT_.out (by kernel_rfl)) (fun _ _ _ h => h) (Or.inl ⟨by rfl, ?_⟩) ?_ ?_
          rotate_left
          ·intro w'
           go_simp
           with_reducible rfl
          rotate_left
          ·simp only [Act.put, sa_, sz_, ss_, i64_w, i32_w]
           rfl
          refine take_ (i := 1) (N := some 26) (v := ?_) (a' := ?_) #[true, true, true, false, true, false, false, false, false, false, false] rfl rfl (take_ofW HT_.out HW_.out (by kernel_rfl)) (fun _ _ _ h => h) (Or.inl ⟨by rfl, ?_⟩) hHeld ?_ ?_
          rotate_left
          ·rintro w' ⟨s0, s1, s2, s3, s4, s5⟩
           go_simp
           with_reducible rfl
          rotate_left
          ·simp only [Act.put, sa_, sz_, ss_, i64_w, i32_w]
           rfl
          refine take_ (i := 3) (N := some 28) (v := ?_) (a' := ?_) #[true, true, true, true, true, false, false, false, false, false, false] rfl rfl (take_ofW HT_.out HW_.out (by kernel_rfl)) (fun _ _ _ h => h) (Or.inl ⟨by rfl, ?_⟩) hHeld ?_ ?_
          rotate_left
          ·rintro w' ⟨s0, s1, s2, s3, s4, s5⟩
           go_simp
           with_reducible rfl
          rotate_left
          ·simp only [Act.put, sa_, sz_, ss_, i64_w, i32_w]
           rfl
          refine take_ (i := 5) (N := some 30) (v := ?_) (a' := ?_) #[true, true, true, true, true, true, false, false, false, false, false] rfl rfl (take_ofW HT_.out HW_.out (by kernel_rfl)) (fun _ _ _ h => h) (Or.inl ⟨by rfl, ?_⟩) hHeld ?_ ?_
          rotate_left
          ·rintro w' ⟨s0, s1, s2, s3, s4, s5⟩
           go_simp
           with_reducible rfl
          rotate_left
          ·simp only [Act.put, sa_, sz_, ss_, i64_w, i32_w]
           rfl
          refine pure_ (i := 6) (N := some 31) (v := ?_) (a' := ?_) #[true, true, true, true, true, true, true, false, false, false, false] rfl rfl (any_of HT_.out (by kernel_rfl)) (fun _ _ _ h => h) (Or.inl ⟨by rfl, ?_⟩) ?_ ?_
          rotate_left
          ·intro w'
           go_simp
           with_reducible rfl
          rotate_left
          ·simp only [Act.put, sa_, sz_, ss_, i64_w, i32_w]
           rfl
          refine take_ (i := 7) (N := some 32) (v := ?_) (a' := ?_) #[true, true, true, true, true, true, true, true, false, false, false] rfl rfl (take_ofW HT_.out HW_.out (by kernel_rfl)) (fun _ _ _ h => h) (Or.inl ⟨by rfl, ?_⟩) hHeld ?_ ?_
          rotate_left
          ·rintro w' ⟨s0, s1, s2, s3, s4, s5⟩
           go_simp
           with_reducible rfl
          rotate_left
          ·simp only [Act.put, sa_, sz_, ss_, i64_w, i32_w]
           rfl
          refine one_ (i := 8) (N := some 33) #[true, true, true, true, true, true, true, true, true, false, false] rfl rfl (one_of HT_.out (by kernel_rfl)) (by decide) (fun K hK => ?_)
          refine Kd.R_append_rows_step (Kd.int .i64) (w0 := w) w.heap.size (by rfl) (.tmp 26) (.tmp 32) 26 3 (.int .i64 0) 8 rfl Try.underlying26 info3 rfl (by decide) (by omega) (.slice Ao23 y228.length co23) y228 (rd_L1 l0_0 a1_0) _ _ _ (fun _ => True) (fun _ => False) rfl rfl ?aO ?aR (fun _ _ h => h) (fun _ h => h.elim) ?aF ?aB ?aS ?aL ?_
          (case aR => repeat (first | exact (Kd.C_below HR233_0.out HB.out) | (with_reducible refine Kd.C_alloc ?_ _) | (with_reducible refine Kd.C_drewN ?_ _) | (with_reducible refine Kd.C_drew ?_)))
          (case aB => exact (bk_ HB.out))
          (case aF => exact (fun _ _ => trivial))
          (case aO => exact (rk_ HO230.out))
          (case aS => exact (below_size (bk_ HB.out)))
          (case aL => have := LMc10.out; omega)
          intro v235 w32 ho hb hg hat
          rw [← Ny234.out] at ho
          have n0_ := A_ (blk_grown (pk_ BK221.out) hg (Kd.R_ne HO230.out BK221.out (by decide)))
          have n1_ := A_ (blk_grown (pk_ BK222.out) hg (Kd.R_ne HO230.out BK222.out (by decide)))
          have n2_ := A_ (blk_grown (pk_ BK223.out) hg (Kd.R_ne HO230.out BK223.out (by decide)))
          have n3_ := A_ (blk_grown (pk_ BK231.out) hg (Kd.R_ne HO230.out BK231.out (by decide)))
          have n4_ := A_ (hb)
          have n5_ := A_ (ho)
          clear BK221 BK222 BK223 BK231 HB HO230
          have BK221 := n0_
          have BK222 := n1_
          have BK223 := n2_
          have BK231 := n3_
          have HB := n4_
          have HO236 := n5_
          clear n0_ n1_ n2_ n3_ n4_ n5_ ho hb hg hat
          obtain ⟨Ao33, co33, eo33⟩ := Kd.R_slice HO236.out
          (first | subst eo33 | (injection eo33 with f1_ f2_ f3_; have f4_ := f1_.symm; have f5_ := f3_.symm; clear f1_ f2_ f3_; subst f4_; subst f5_))
          refine hK.out _ _ ⟨(blk_cell BK231.out 0).trans rfl, (blk_cell BK231.out 1).trans rfl, (blk_cell BK221.out 0).trans rfl, (blk_cell BK222.out 0).trans rfl, (blk_cell BK222.out 1).trans rfl, ((HB.out.cell (World.block_lt_of_cell? w _ hw233_0)).trans hw233_0)⟩ (fun hHeld => ?_)
          clear hK K
          refine norm_ (a' := ?_) ?_ ?_
          rotate_left
          ·show Act.put _ (some 33) _ = _
           simp only [Act.put, sa_, sz_, ss_, i64_w, i32_w]
           rfl
          refine pure_ (i := 9) (N := some 34) (v := ?_) (a' := ?_) #[true, true, true, true, true, true, true, true, true, true, false] rfl rfl (any_of HT_.out (by kernel_rfl)) (fun _ _ _ h => h) (Or.inl ⟨by rfl, ?_⟩) ?_ ?_
          rotate_left
          ·intro w'
           go_simp
           with_reducible rfl
          rotate_left
          ·simp only [Act.put, sa_, sz_, ss_, i64_w, i32_w]
           rfl
          refine last_ (i := 10) (N := none) #[true, true, true, true, true, true, true, true, true, true, true] rfl rfl (one_of HT_.out (by kernel_rfl)) (by decide) (fun K hK => ?_)
          have hs34 : w32.cell? ⟨gb231, 1, none⟩ = some (.slice Ao23 y228.length co23) := (blk_cell BK231.out 1).trans rfl
          have hfs34 := blk_frozen BK231.out 1
          have hns34_0 := NB221_231.out
          have hns34_1 := NB222_231.out
          have hns34_2 := NB223_231.out
          have hms34_0 := NB231_221.out
          have hms34_1 := NB231_222.out
          have hms34_2 := NB231_223.out
          refine skip_ (w1 := ?_) (by rfl) rfl ?_ ?_
          rotate_left
          ·go_simp
           rfl
          refine hK.out _ _ ?_
          clear hK K
          refine done_ (done_of HT_.out (by kernel_rfl)) ?_
          have hnb35 := NB231_221.out
          have hnc35 := NB221_231.out
          have hnb36 := NB231_223.out
          have hnc36 := NB223_231.out
          have hcz37_0 : w32.cell? ⟨gb231, 0, none⟩ = some (.int .i64 (Int.tmod (wrap64 (a1_0 + 1)) (l0_0.length : Int))) := (blk_cell BK231.out 0).trans rfl
          have hcz37_1 : w32.cell? ⟨gb231, 1, none⟩ = some (.slice Ao23 y228.length co23) := (blk_cell BK231.out 1).trans rfl
          have hfz37_0 := blk_frozen BK231.out 0
          have hfz37_1 := blk_frozen BK231.out 1
          have hnb38 := NB223_221.out
          have hnc38 := NB221_223.out
          have hcz39_0 : w32.cell? ⟨gb223, 0, none⟩ = some (.int .i64 0) := (blk_cell BK223.out 0).trans rfl
          have hcz39_1 : w32.cell? ⟨gb223, 1, none⟩ = some (.slice none 0 0) := (blk_cell BK223.out 1).trans rfl
          have hfz39_0 := blk_frozen BK223.out 0
          have hfz39_1 := blk_frozen BK223.out 1
          try go_wp2
          refine bodyPost_ret (results_ct rfl _ _ gb223 47 #[.int .i64 0, .slice none 0 0] (0, 0) _ rfl (by refine pk_ ?_; refine blk_put (cs := #[.int .i64 0, .slice none 0 0]) ?_ 1 _ rfl; refine pk_ ?_; refine blk_put (cs := #[.int .i64 0, .slice none 0 0]) ?_ 0 _ rfl; refine pk_ ?_; refine blk_far ?_ NB223_231.out _; exact pk_ BK223.out) Try.underlying47 rfl (by kernel_rfl)) rfl ?_
          exact ⟨_, er_, by first | exact Kd.R_nil _ _ _ _ _ | exact Kd.N_nil _ _ _ _ _ | exact Kd.V_nil _ _ _ _ _ | exact Kd.Q_nil _ _ _ _ _ | exact Kd.S_nil _ _ _ _ _, bk_ HB.out⟩
         ·rw [if_neg c11] at H
          have c11b0 : decide (1000000 < (y234.length : Int)) = false := decide_eq_false c11
          have c11b1 : decide (1000000 < y234.length) = false := decide_eq_false (by omega)
          clear c11
          simp only [Option.some.injEq, Prod.mk.injEq] at H
          obtain ⟨rfl, rfl, rfl⟩ := H
          go_enter Try.func31, Try.ntmps31
          try go_wp2_with (first | ((with_reducible refine gate_dst (N := 2) rfl ?_); refine box_event ?hg (N := 2) ?hd (cs := #[.slice A0_0 l0_0.length c0_0]) (t := 45) ?hr ?_; (case hd => rfl); (case hg => rfl); (case hr => first | (go_simp; done) | (go_simp; rfl)); intro gb221 hg w40 hbox hb; have n0_ := A_ (below_step (bk_ HB.out) hb); have n1_ := A_ (hbox); have n2_ := A_ ((by rw [hg]; exact (below_size (bk_ HB.out)) : w.heap.size ≤ gb221)); have n3_ := A_ ((by rw [hg]; exact (below_size (bk_ HB.out)) : w.heap.size ≤ gb221)); clear HB; have HB := n0_; have BK221 := n1_; have GW221 := n2_; have GE221 := n3_; clear n0_ n1_ n2_ n3_ hb hbox hg) | ((with_reducible refine gate_dst (N := 3) rfl ?_); refine box_event ?hg (N := 3) ?hd (cs := #[.int .i64 a1_0, .slice A1_1 l1_1.length c1_1]) (t := 47) ?hr ?_; (case hd => rfl); (case hg => rfl); (case hr => first | (go_simp; done) | (go_simp; rfl)); intro gb222 hg w41 hbox hb; have n0_ := A_ (blk_below (pk_ BK221.out) hb); have n1_ := A_ (below_step (bk_ HB.out) hb); have n2_ := A_ (hbox); have n3_ := A_ ((by rw [hg]; exact (below_size (bk_ HB.out)) : w.heap.size ≤ gb222)); have n4_ := A_ ((by rw [hg]; exact (below_size (bk_ HB.out)) : w.heap.size ≤ gb222)); have n5_ := A_ ((by rw [hg]; exact Nat.ne_of_lt (blk_lt (pk_ BK221.out)) : gb221 ≠ gb222)); have n6_ := A_ ((by rw [hg]; exact Nat.ne_of_gt (blk_lt (pk_ BK221.out)) : gb222 ≠ gb221)); clear BK221 HB; have BK221 := n0_; have HB := n1_; have BK222 := n2_; have GW222 := n3_; have GE222 := n4_; have NB221_222 := n5_; have NB222_221 := n6_; clear n0_ n1_ n2_ n3_ n4_ n5_ n6_ hb hbox hg) | ((with_reducible refine gate_dst (N := 4) rfl ?_); refine box_event ?hg (N := 4) ?hd (cs := #[.int .i64 0, .slice none 0 0]) (t := 47) ?hr ?_; (case hd => rfl); (case hg => rfl); (case hr => first | (go_simp; done) | (go_simp; rfl)); intro gb223 hg w42 hbox hb; have n0_ := A_ (blk_below (pk_ BK221.out) hb); have n1_ := A_ (blk_below (pk_ BK222.out) hb); have n2_ := A_ (below_step (bk_ HB.out) hb); have n3_ := A_ (hbox); have n4_ := A_ ((by rw [hg]; exact (below_size (bk_ HB.out)) : w.heap.size ≤ gb223)); have n5_ := A_ ((by rw [hg]; exact (below_size (bk_ HB.out)) : w.heap.size ≤ gb223)); have n6_ := A_ ((by rw [hg]; exact Nat.ne_of_lt (blk_lt (pk_ BK221.out)) : gb221 ≠ gb223)); have n7_ := A_ ((by rw [hg]; exact Nat.ne_of_gt (blk_lt (pk_ BK221.out)) : gb223 ≠ gb221)); have n8_ := A_ ((by rw [hg]; exact Nat.ne_of_lt (blk_lt (pk_ BK222.out)) : gb222 ≠ gb223)); have n9_ := A_ ((by rw [hg]; exact Nat.ne_of_gt (blk_lt (pk_ BK222.out)) : gb223 ≠ gb222)); clear BK221 BK222 HB; have BK221 := n0_; have BK222 := n1_; have HB := n2_; have BK223 := n3_; have GW223 := n4_; have GE223 := n5_; have NB221_223 := n6_; have NB223_221 := n7_; have NB222_223 := n8_; have NB223_222 := n9_; clear n0_ n1_ n2_ n3_ n4_ n5_ n6_ n7_ n8_ n9_ hb hbox hg))
          have n0_ := A_ (blk_drew BK221.out)
          have n1_ := A_ (blk_drew BK222.out)
          have n2_ := A_ (blk_drew BK223.out)
          have n3_ := A_ (below_drew1 HB.out)
          clear BK221 BK222 BK223 HB
          have BK221 := n0_
          have BK222 := n1_
          have BK223 := n2_
          have HB := n3_
          clear n0_ n1_ n2_ n3_
          obtain ⟨i044, hi044, _, hsz44, _⟩ := info_parts info3
          (try clear hcut16)
          obtain ⟨A44, hcut44, hA44, hC44⟩ := print_drop_of (P := Try.prog) (Value.int .i64) 0 26 3 .i64 Try.underlying26 hi044 hsz44 A1_1 c1_1 l1_1 1 (by omega) (od_) HC1_1.out
          have HR227 := A_ (Kd.C_of_reads (h1 := fun _ => rfl) (hA44 _ (Kd.reads_of_C HR1_1.out)))
          have HC227 := Aside0.mk hC44
          clear hA44 hC44 hi044 hsz44
          refine start_ (n := 15) (S := fun w' => w'.cell? ⟨gb222, 0, none⟩ = some (.int .i64 a1_0) ∧ w'.cell? ⟨gb222, 1, none⟩ = some (.slice A1_1 l1_1.length c1_1) ∧ w'.cell? ⟨gb221, 0, none⟩ = some (.slice A0_0 l0_0.length c0_0)) (ds := []) #[false, false, false, false, false, false, false, false, false, false, false, false, false, false, false] (by kernel_rfl) rfl rfl ⟨(blk_cell BK222.out 0).trans rfl, (blk_cell BK222.out 1).trans rfl, (blk_cell BK221.out 0).trans rfl⟩ (fun hHeld => ?_); refine with_tabW standstillref07_Turn.tab1 standstillref07_Turn.bits1 (fun HT_ HW_ => ?_)
          generalize w42.drew = w43 at BK221 BK222 BK223 HB HR227 hHeld ⊢
          refine pure_ (i := 0) (N := some 7) (v := ?_) (a' := ?_) #[true, false, false, false, false, false, false, false, false, false, false, false, false, false, false] rfl rfl (any_of HT_.out (by kernel_rfl)) (fun _ _ _ h => h) (Or.inl ⟨by rfl, ?_⟩) ?_ ?_
          rotate_left
          ·intro w'
           go_simp
           with_reducible rfl
          rotate_left
          ·simp only [Act.put, sa_, sz_, ss_, i64_w, i32_w]
           rfl
          refine pure_ (i := 3) (N := some 10) (v := ?_) (a' := ?_) #[true, false, false, true, false, false, false, false, false, false, false, false, false, false, false] rfl rfl (any_of HT_.out (by kernel_rfl)) (fun _ _ _ h => h) (Or.inl ⟨by rfl, ?_⟩) ?_ ?_
          rotate_left
          ·intro w'
           go_simp
           with_reducible rfl
          rotate_left
          ·simp only [Act.put, sa_, sz_, ss_, i64_w, i32_w]
           rfl
          refine pure_ (i := 8) (N := some 15) (v := ?_) (a' := ?_) #[true, false, false, true, false, false, false, false, true, false, false, false, false, false, false] rfl rfl (any_of HT_.out (by kernel_rfl)) (fun _ _ _ h => h) (Or.inl ⟨by rfl, ?_⟩) ?_ ?_
          rotate_left
          ·intro w'
           go_simp
           with_reducible rfl
          rotate_left
          ·simp only [Act.put, sa_, sz_, ss_, i64_w, i32_w]
           rfl
          refine take_ (i := 1) (N := some 8) (v := ?_) (a' := ?_) #[true, true, false, true, false, false, false, false, true, false, false, false, false, false, false] rfl rfl (take_ofW HT_.out HW_.out (by kernel_rfl)) (fun _ _ _ h => h) (Or.inl ⟨by rfl, ?_⟩) hHeld ?_ ?_
          rotate_left
          ·rintro w' ⟨s0, s1, s2⟩
           go_simp
           with_reducible rfl
          rotate_left
          ·simp only [Act.put, sa_, sz_, ss_, i64_w, i32_w]
           rfl
          refine pure_ (i := 2) (N := some 9) (v := ?_) (a' := ?_) #[true, true, true, true, false, false, false, false, true, false, false, false, false, false, false] rfl rfl (any_of HT_.out (by kernel_rfl)) (fun _ _ _ h => h) (Or.inl ⟨by rfl, ?_⟩) ?_ ?_
          rotate_left
          ·intro w'
           go_simp
           with_reducible rfl
          rotate_left
          ·simp only [Act.put, sa_, sz_, ss_, i64_w, i32_w]
           rfl
          refine take_ (i := 4) (N := some 11) (v := ?_) (a' := ?_) #[true, true, true, true, true, false, false, false, true, false, false, false, false, false, false] rfl rfl (take_ofW HT_.out HW_.out (by kernel_rfl)) (fun _ _ _ h => h) (Or.inl ⟨by rfl, ?_⟩) hHeld ?_ ?_
          rotate_left
          ·rintro w' ⟨s0, s1, s2⟩
           go_simp
           with_reducible rfl
          rotate_left
          ·simp only [Act.put, sa_, sz_, ss_, i64_w, i32_w]
           rfl
          refine pure_ (i := 5) (N := some 12) (v := ?_) (a' := ?_) #[true, true, true, true, true, true, false, false, true, false, false, false, false, false, false] rfl rfl (any_of HT_.out (by kernel_rfl)) (fun _ _ _ h => h) (Or.inl ⟨by rfl, ?_⟩) ?_ ?_
          rotate_left
          ·intro w'
           go_simp
           with_reducible rfl
          rotate_left
          ·simp only [Act.put, sa_, sz_, ss_, i64_w, i32_w]
           rfl
          refine pure_ (i := 6) (N := some 13) (v := ?_) (a' := ?_) #[true, true, true, true, true, true, true, false, true, false, false, false, false, false, false] rfl rfl (any_of HT_.out (by kernel_rfl)) (fun _ _ _ h => h) (Or.inl ⟨by rfl, ?_⟩) ?_ ?_
          rotate_left
          ·intro w'
           go_simp
           with_reducible rfl
          rotate_left
          ·simp only [Act.put, sa_, sz_, ss_, i64_w, i32_w]
           rfl
          refine take_ (i := 9) (N := some 16) (v := ?_) (a' := ?_) #[true, true, true, true, true, true, true, false, true, true, false, false, false, false, false] rfl rfl (take_ofW HT_.out HW_.out (by kernel_rfl)) (fun _ _ _ h => h) (Or.inl ⟨by rfl, ?_⟩) hHeld ?_ ?_
          rotate_left
          ·rintro w' ⟨s0, s1, s2⟩
           go_simp
           with_reducible rfl
          rotate_left
          ·simp only [Act.put, sa_, sz_, ss_, i64_w, i32_w]
           rfl
          refine pure_ (i := 10) (N := some 17) (v := ?_) (a' := ?_) #[true, true, true, true, true, true, true, false, true, true, true, false, false, false, false] rfl rfl (any_of HT_.out (by kernel_rfl)) (fun _ _ _ h => h) (Or.inl ⟨by rfl, ?_⟩) ?_ ?_
          rotate_left
          ·intro w'
           go_simp
           with_reducible rfl
          rotate_left
          ·simp only [Act.put, sa_, sz_, ss_, i64_w, i32_w]
           rfl
          refine join_ (σ := Value × Value × Nat) 1 #[true, true, true, true, true, true, true, true, true, true, true, true, true, true, false] (fun s_ => [(14, s_.1), (18, s_.2.1), (6, .pointer (some ⟨s_.2.2, 0, none⟩)), (19, .agg #[.int .i64 (Int.tmod (wrap64 (a1_0 + 1)) (l0_0.length : Int)), s_.2.1])]) (fun s_ w' => (w'.cell? ⟨gb222, 0, none⟩ = some (.int .i64 a1_0) ∧ w'.cell? ⟨gb222, 1, none⟩ = some (.slice A1_1 l1_1.length c1_1) ∧ w'.cell? ⟨gb221, 0, none⟩ = some (.slice A0_0 l0_0.length c0_0)) ∧ (Kd.R (Kd.int .i64) 3 w' w.heap.size (fun _ => True) s_.2.1 y228) ∧ (w'.heap[gb221]? = some (.cells #[.slice A0_0 l0_0.length c0_0] 45 (0, 0))) ∧ (w'.heap[gb222]? = some (.cells #[.int .i64 a1_0, .slice A1_1 l1_1.length c1_1] 47 (0, 0))) ∧ (w'.heap[gb223]? = some (.cells #[.int .i64 0, .slice none 0 0] 47 (0, 0))) ∧ (w'.heap[s_.2.2]? = some (.cells #[.int .i64 0, .slice none 0 0] 47 (0, 0))) ∧ (w.heap.size ≤ s_.2.2) ∧ (w.heap.size ≤ s_.2.2) ∧ (gb221 ≠ s_.2.2) ∧ (s_.2.2 ≠ gb221) ∧ (gb222 ≠ s_.2.2) ∧ (s_.2.2 ≠ gb222) ∧ (gb223 ≠ s_.2.2) ∧ (s_.2.2 ≠ gb223) ∧ (Below w.heap.size w w')) ?_ ?_
          rotate_left
          ·intro hCont
           refine two_ (i := 7) (j := 13) (Ni := some 14) (Nj := some 6) #[true, true, true, true, true, true, true, true, true, true, true, false, false, false, false] #[true, true, true, true, true, true, true, false, true, true, true, false, false, true, false] rfl rfl rfl rfl (two_of HT_.out (by kernel_rfl)) (by decide) (by decide) (fun K hK => ?_) (fun K hK => ?_)
           ·skip
            refine Kd.R_lit_step (Kd.int .i64) _ 3 ?hg (N := 14) ?hd (xs := ([] : List Int)) (inner := []) (ok := fun _ => True) (okp := fun _ => True) ?hr ?hp (fun _ hk => hk) trivial (Below.refl _ _) (Nat.le_refl _) (by simp) ?_; (case hd => rfl); (case hg => rfl); (case hr => first | (go_simp; done) | (go_simp; rfl)); (case hp => exact (Reps.none _ _))
            intro v225 w45 ho46 hb hg_ hnew_
            clear hg_ hnew_
            (first | rw [← Ny224.out] at ho46 | (simp only [Int.reduceToNat] at ho46; rw [← Ny224.out] at ho46))
            have n0_ := A_ (Kd.R_lower ho46 (below_size (bk_ HB.out)))
            have n1_ := A_ (blk_below (pk_ BK221.out) hb)
            have n2_ := A_ (blk_below (pk_ BK222.out) hb)
            have n3_ := A_ (blk_below (pk_ BK223.out) hb)
            have n4_ := A_ (below_step (bk_ HB.out) hb)
            clear BK221 BK222 BK223 HB
            have HO226 := n0_
            have BK221 := n1_
            have BK222 := n2_
            have BK223 := n3_
            have HB := n4_
            clear n0_ n1_ n2_ n3_ n4_ hb ho46
            refine hK.out _ _ ⟨(blk_cell BK222.out 0).trans rfl, (blk_cell BK222.out 1).trans rfl, (blk_cell BK221.out 0).trans rfl⟩ (fun hHeld => ?_)
            clear hK K
            refine norm_ (a' := ?_) ?_ ?_
            rotate_left
            ·show Act.put _ (some 14) _ = _
             simp only [Act.put, sa_, sz_, ss_, i64_w, i32_w]
             rfl
            refine two_ (i := 11) (j := 13) (Ni := some 18) (Nj := some 6) #[true, true, true, true, true, true, true, true, true, true, true, true, false, false, false] #[true, true, true, true, true, true, true, true, true, true, true, false, false, true, false] rfl rfl rfl rfl (two_of HT_.out (by kernel_rfl)) (by decide) (by decide) (fun K hK => ?_) (fun K hK => ?_)
            ·skip
             refine Kd.R_append_rows_step (Kd.int .i64) (w0 := w) w.heap.size (by rfl) (.tmp 14) (.tmp 17) 26 3 (.int .i64 0) 8 rfl Try.underlying26 info3 rfl (by decide) (by omega) v225 y224 (l1_1.drop 1) _ _ _ (fun _ => True) (fun _ => False) rfl rfl ?aO ?aR (fun _ _ h => h) (fun _ h => h.elim) ?aF ?aB ?aS ?aL ?_
             (case aR => first | (rw [← show (l1_1.drop 1).length = (l1_1.length - 1) from List.length_drop]; repeat (first | exact (Kd.C_below HR227.out HB.out) | (with_reducible refine Kd.C_alloc ?_ _) | (with_reducible refine Kd.C_drewN ?_ _) | (with_reducible refine Kd.C_drew ?_))) | (repeat (first | exact (Kd.C_below HR227.out HB.out) | (with_reducible refine Kd.C_alloc ?_ _) | (with_reducible refine Kd.C_drewN ?_ _) | (with_reducible refine Kd.C_drew ?_))))
             (case aB => exact (bk_ HB.out))
             (case aF => exact (fun _ _ => trivial))
             (case aO => exact (rk_ HO226.out))
             (case aS => exact (below_size (bk_ HB.out)))
             (case aL => have := LMc5.out; have hlx_ := (show (l1_1.drop 1).length = (l1_1.length - 1) from List.length_drop); omega)
             intro v229 w47 ho hb hg hat
             rw [← Ny228.out] at ho
             have n0_ := A_ (blk_grown (pk_ BK221.out) hg (Kd.R_ne HO226.out BK221.out (by decide)))
             have n1_ := A_ (blk_grown (pk_ BK222.out) hg (Kd.R_ne HO226.out BK222.out (by decide)))
             have n2_ := A_ (blk_grown (pk_ BK223.out) hg (Kd.R_ne HO226.out BK223.out (by decide)))
             have n3_ := A_ (hb)
             have n4_ := A_ (ho)
             clear BK221 BK222 BK223 HB HO226
             have BK221 := n0_
             have BK222 := n1_
             have BK223 := n2_
             have HB := n3_
             have HO230 := n4_
             clear n0_ n1_ n2_ n3_ n4_ ho hb hg hat
             obtain ⟨Ao48, co48, eo48⟩ := Kd.R_slice HO230.out
             (first | subst eo48 | (injection eo48 with f1_ f2_ f3_; have f4_ := f1_.symm; have f5_ := f3_.symm; clear f1_ f2_ f3_; subst f4_; subst f5_))
             refine hK.out _ _ ⟨(blk_cell BK222.out 0).trans rfl, (blk_cell BK222.out 1).trans rfl, (blk_cell BK221.out 0).trans rfl⟩ (fun hHeld => ?_)
             clear hK K
             refine norm_ (a' := ?_) ?_ ?_
             rotate_left
             ·show Act.put _ (some 18) _ = _
              simp only [Act.put, sa_, sz_, ss_, i64_w, i32_w]
              rfl
             refine pure_ (i := 12) (N := some 19) (v := ?_) (a' := ?_) #[true, true, true, true, true, true, true, true, true, true, true, true, true, false, false] rfl rfl (any_of HT_.out (by kernel_rfl)) (fun _ _ _ h => h) (Or.inl ⟨by rfl, ?_⟩) ?_ ?_
             rotate_left
             ·intro w'
              go_simp
              with_reducible rfl
             rotate_left
             ·simp only [Act.put, sa_, sz_, ss_, i64_w, i32_w]
              rfl
             refine one_ (i := 13) (N := some 6) #[true, true, true, true, true, true, true, true, true, true, true, true, true, true, false] rfl rfl (one_of HT_.out (by kernel_rfl)) (by decide) (fun K hK => ?_)
             refine box_step ?hg (N := 6) ?hd (cs := #[.int .i64 0, .slice none 0 0]) (t := 47) ?hr ?_; (case hd => rfl); (case hg => rfl); (case hr => first | (go_simp; done) | (go_simp; rfl))
             intro gb231 hg w49 hbox hb
             have n0_ := A_ (Kd.R_below (rk_ HO230.out) hb)
             have n1_ := A_ (blk_below (pk_ BK221.out) hb)
             have n2_ := A_ (blk_below (pk_ BK222.out) hb)
             have n3_ := A_ (blk_below (pk_ BK223.out) hb)
             have n4_ := A_ (below_step (bk_ HB.out) hb)
             have n5_ := A_ (hbox)
             have n6_ := A_ ((by rw [hg]; exact (below_size (bk_ HB.out)) : w.heap.size ≤ gb231))
             have n7_ := A_ ((by rw [hg]; exact (below_size (bk_ HB.out)) : w.heap.size ≤ gb231))
             have n8_ := A_ ((by rw [hg]; exact Nat.ne_of_lt (blk_lt (pk_ BK221.out)) : gb221 ≠ gb231))
             have n9_ := A_ ((by rw [hg]; exact Nat.ne_of_gt (blk_lt (pk_ BK221.out)) : gb231 ≠ gb221))
             have n10_ := A_ ((by rw [hg]; exact Nat.ne_of_lt (blk_lt (pk_ BK222.out)) : gb222 ≠ gb231))
             have n11_ := A_ ((by rw [hg]; exact Nat.ne_of_gt (blk_lt (pk_ BK222.out)) : gb231 ≠ gb222))
             have n12_ := A_ ((by rw [hg]; exact Nat.ne_of_lt (blk_lt (pk_ BK223.out)) : gb223 ≠ gb231))
             have n13_ := A_ ((by rw [hg]; exact Nat.ne_of_gt (blk_lt (pk_ BK223.out)) : gb231 ≠ gb223))
             clear HO230 BK221 BK222 BK223 HB
             have HO230 := n0_
             have BK221 := n1_
             have BK222 := n2_
             have BK223 := n3_
             have HB := n4_
             have BK231 := n5_
             have GW231 := n6_
             have GE231 := n7_
             have NB221_231 := n8_
             have NB231_221 := n9_
             have NB222_231 := n10_
             have NB231_222 := n11_
             have NB223_231 := n12_
             have NB231_223 := n13_
             clear n0_ n1_ n2_ n3_ n4_ n5_ n6_ n7_ n8_ n9_ n10_ n11_ n12_ n13_ hb hbox hg
             refine hK.out _ _ ⟨(blk_cell BK222.out 0).trans rfl, (blk_cell BK222.out 1).trans rfl, (blk_cell BK221.out 0).trans rfl⟩ (fun hHeld => ?_)
             clear hK K
             refine norm_ (a' := ?_) ?_ ?_
             rotate_left
             ·show Act.put _ (some 6) _ = _
              simp only [Act.put, sa_, sz_, ss_, i64_w, i32_w]
              rfl
             exact norm_ (by simp only [putAll, Act.put, List.setIfInBounds_toArray, List.set_cons_zero, List.set_cons_succ]) (hCont (v225, .slice Ao48 y228.length co48, gb231) _ ⟨hHeld, (rk_ HO230.out), (pk_ BK221.out), (pk_ BK222.out), (pk_ BK223.out), (pk_ BK231.out), GW231.out, GE231.out, NB221_231.out, NB231_221.out, NB222_231.out, NB231_222.out, NB223_231.out, NB231_223.out, (bk_ HB.out)⟩)
            ·skip
             refine box_step ?hg (N := 6) ?hd (cs := #[.int .i64 0, .slice none 0 0]) (t := 47) ?hr ?_; (case hd => rfl); (case hg => rfl); (case hr => first | (go_simp; done) | (go_simp; rfl))
             intro gb231 hg w47 hbox hb
             have n0_ := A_ (Kd.R_below (rk_ HO226.out) hb)
             have n1_ := A_ (blk_below (pk_ BK221.out) hb)
             have n2_ := A_ (blk_below (pk_ BK222.out) hb)
             have n3_ := A_ (blk_below (pk_ BK223.out) hb)
             have n4_ := A_ (below_step (bk_ HB.out) hb)
             have n5_ := A_ (hbox)
             have n6_ := A_ ((by rw [hg]; exact (below_size (bk_ HB.out)) : w.heap.size ≤ gb231))
             have n7_ := A_ ((by rw [hg]; exact (below_size (bk_ HB.out)) : w.heap.size ≤ gb231))
             have n8_ := A_ ((by rw [hg]; exact Nat.ne_of_lt (blk_lt (pk_ BK221.out)) : gb221 ≠ gb231))
             have n9_ := A_ ((by rw [hg]; exact Nat.ne_of_gt (blk_lt (pk_ BK221.out)) : gb231 ≠ gb221))
             have n10_ := A_ ((by rw [hg]; exact Nat.ne_of_lt (blk_lt (pk_ BK222.out)) : gb222 ≠ gb231))
             have n11_ := A_ ((by rw [hg]; exact Nat.ne_of_gt (blk_lt (pk_ BK222.out)) : gb231 ≠ gb222))
             have n12_ := A_ ((by rw [hg]; exact Nat.ne_of_lt (blk_lt (pk_ BK223.out)) : gb223 ≠ gb231))
             have n13_ := A_ ((by rw [hg]; exact Nat.ne_of_gt (blk_lt (pk_ BK223.out)) : gb231 ≠ gb223))
             clear HO226 BK221 BK222 BK223 HB
             have HO226 := n0_
             have BK221 := n1_
             have BK222 := n2_
             have BK223 := n3_
             have HB := n4_
             have BK231 := n5_
             have GW231 := n6_
             have GE231 := n7_
             have NB221_231 := n8_
             have NB231_221 := n9_
             have NB222_231 := n10_
             have NB231_222 := n11_
             have NB223_231 := n12_
             have NB231_223 := n13_
             clear n0_ n1_ n2_ n3_ n4_ n5_ n6_ n7_ n8_ n9_ n10_ n11_ n12_ n13_ hb hbox hg
             refine hK.out _ _ ⟨(blk_cell BK222.out 0).trans rfl, (blk_cell BK222.out 1).trans rfl, (blk_cell BK221.out 0).trans rfl⟩ (fun hHeld => ?_)
             clear hK K
             refine norm_ (a' := ?_) ?_ ?_
             rotate_left
             ·show Act.put _ (some 6) _ = _
              simp only [Act.put, sa_, sz_, ss_, i64_w, i32_w]
              rfl
             refine one_ (i := 11) (N := some 18) #[true, true, true, true, true, true, true, true, true, true, true, true, false, true, false] rfl rfl (one_of HT_.out (by kernel_rfl)) (by decide) (fun K hK => ?_)
             refine Kd.R_append_rows_step (Kd.int .i64) (w0 := w) w.heap.size (by rfl) (.tmp 14) (.tmp 17) 26 3 (.int .i64 0) 8 rfl Try.underlying26 info3 rfl (by decide) (by omega) v225 y224 (l1_1.drop 1) _ _ _ (fun _ => True) (fun _ => False) rfl rfl ?aO ?aR (fun _ _ h => h) (fun _ h => h.elim) ?aF ?aB ?aS ?aL ?_
             (case aR => first | (rw [← show (l1_1.drop 1).length = (l1_1.length - 1) from List.length_drop]; repeat (first | exact (Kd.C_below HR227.out HB.out) | (with_reducible refine Kd.C_alloc ?_ _) | (with_reducible refine Kd.C_drewN ?_ _) | (with_reducible refine Kd.C_drew ?_))) | (repeat (first | exact (Kd.C_below HR227.out HB.out) | (with_reducible refine Kd.C_alloc ?_ _) | (with_reducible refine Kd.C_drewN ?_ _) | (with_reducible refine Kd.C_drew ?_))))
             (case aB => exact (bk_ HB.out))
             (case aF => exact (fun _ _ => trivial))
             (case aO => exact (rk_ HO226.out))
             (case aS => exact (below_size (bk_ HB.out)))
             (case aL => have := LMc5.out; have hlx_ := (show (l1_1.drop 1).length = (l1_1.length - 1) from List.length_drop); omega)
             intro v229 w48 ho hb hg hat
             rw [← Ny228.out] at ho
             have n0_ := A_ (blk_grown (pk_ BK221.out) hg (Kd.R_ne HO226.out BK221.out (by decide)))
             have n1_ := A_ (blk_grown (pk_ BK222.out) hg (Kd.R_ne HO226.out BK222.out (by decide)))
             have n2_ := A_ (blk_grown (pk_ BK223.out) hg (Kd.R_ne HO226.out BK223.out (by decide)))
             have n3_ := A_ (blk_grown (pk_ BK231.out) hg (Kd.R_ne HO226.out BK231.out (by decide)))
             have n4_ := A_ (hb)
             have n5_ := A_ (ho)
             clear BK221 BK222 BK223 BK231 HB HO226
             have BK221 := n0_
             have BK222 := n1_
             have BK223 := n2_
             have BK231 := n3_
             have HB := n4_
             have HO230 := n5_
             clear n0_ n1_ n2_ n3_ n4_ n5_ ho hb hg hat
             obtain ⟨Ao49, co49, eo49⟩ := Kd.R_slice HO230.out
             (first | subst eo49 | (injection eo49 with f1_ f2_ f3_; have f4_ := f1_.symm; have f5_ := f3_.symm; clear f1_ f2_ f3_; subst f4_; subst f5_))
             refine hK.out _ _ ⟨(blk_cell BK222.out 0).trans rfl, (blk_cell BK222.out 1).trans rfl, (blk_cell BK221.out 0).trans rfl⟩ (fun hHeld => ?_)
             clear hK K
             refine norm_ (a' := ?_) ?_ ?_
             rotate_left
             ·show Act.put _ (some 18) _ = _
              simp only [Act.put, sa_, sz_, ss_, i64_w, i32_w]
              rfl
             refine pure_ (i := 12) (N := some 19) (v := ?_) (a' := ?_) #[true, true, true, true, true, true, true, true, true, true, true, true, true, true, false] rfl rfl (any_of HT_.out (by kernel_rfl)) (fun _ _ _ h => h) (Or.inl ⟨by rfl, ?_⟩) ?_ ?_
             rotate_left
             ·intro w'
              go_simp
              with_reducible rfl
             rotate_left
             ·simp only [Act.put, sa_, sz_, ss_, i64_w, i32_w]
              rfl
             exact norm_ (by simp only [putAll, Act.put, List.setIfInBounds_toArray, List.set_cons_zero, List.set_cons_succ]) (hCont (v225, .slice Ao49 y228.length co49, gb231) _ ⟨hHeld, (rk_ HO230.out), (pk_ BK221.out), (pk_ BK222.out), (pk_ BK223.out), (pk_ BK231.out), GW231.out, GE231.out, NB221_231.out, NB231_221.out, NB222_231.out, NB231_222.out, NB223_231.out, NB231_223.out, (bk_ HB.out)⟩)
           ·skip
            refine box_step ?hg (N := 6) ?hd (cs := #[.int .i64 0, .slice none 0 0]) (t := 47) ?hr ?_; (case hd => rfl); (case hg => rfl); (case hr => first | (go_simp; done) | (go_simp; rfl))
            intro gb231 hg w45 hbox hb
            have n0_ := A_ (blk_below (pk_ BK221.out) hb)
            have n1_ := A_ (blk_below (pk_ BK222.out) hb)
            have n2_ := A_ (blk_below (pk_ BK223.out) hb)
            have n3_ := A_ (below_step (bk_ HB.out) hb)
            have n4_ := A_ (hbox)
            have n5_ := A_ ((by rw [hg]; exact (below_size (bk_ HB.out)) : w.heap.size ≤ gb231))
            have n6_ := A_ ((by rw [hg]; exact (below_size (bk_ HB.out)) : w.heap.size ≤ gb231))
            have n7_ := A_ ((by rw [hg]; exact Nat.ne_of_lt (blk_lt (pk_ BK221.out)) : gb221 ≠ gb231))
            have n8_ := A_ ((by rw [hg]; exact Nat.ne_of_gt (blk_lt (pk_ BK221.out)) : gb231 ≠ gb221))
            have n9_ := A_ ((by rw [hg]; exact Nat.ne_of_lt (blk_lt (pk_ BK222.out)) : gb222 ≠ gb231))
            have n10_ := A_ ((by rw [hg]; exact Nat.ne_of_gt (blk_lt (pk_ BK222.out)) : gb231 ≠ gb222))
            have n11_ := A_ ((by rw [hg]; exact Nat.ne_of_lt (blk_lt (pk_ BK223.out)) : gb223 ≠ gb231))
            have n12_ := A_ ((by rw [hg]; exact Nat.ne_of_gt (blk_lt (pk_ BK223.out)) : gb231 ≠ gb223))
            clear BK221 BK222 BK223 HB
            have BK221 := n0_
            have BK222 := n1_
            have BK223 := n2_
            have HB := n3_
            have BK231 := n4_
            have GW231 := n5_
            have GE231 := n6_
            have NB221_231 := n7_
            have NB231_221 := n8_
            have NB222_231 := n9_
            have NB231_222 := n10_
            have NB223_231 := n11_
            have NB231_223 := n12_
            clear n0_ n1_ n2_ n3_ n4_ n5_ n6_ n7_ n8_ n9_ n10_ n11_ n12_ hb hbox hg
            refine hK.out _ _ ⟨(blk_cell BK222.out 0).trans rfl, (blk_cell BK222.out 1).trans rfl, (blk_cell BK221.out 0).trans rfl⟩ (fun hHeld => ?_)
            clear hK K
            refine norm_ (a' := ?_) ?_ ?_
            rotate_left
            ·show Act.put _ (some 6) _ = _
             simp only [Act.put, sa_, sz_, ss_, i64_w, i32_w]
             rfl
            refine one_ (i := 7) (N := some 14) #[true, true, true, true, true, true, true, true, true, true, true, false, false, true, false] rfl rfl (one_of HT_.out (by kernel_rfl)) (by decide) (fun K hK => ?_)
            refine Kd.R_lit_step (Kd.int .i64) _ 3 ?hg (N := 14) ?hd (xs := ([] : List Int)) (inner := []) (ok := fun _ => True) (okp := fun _ => True) ?hr ?hp (fun _ hk => hk) trivial (Below.refl _ _) (Nat.le_refl _) (by simp) ?_; (case hd => rfl); (case hg => rfl); (case hr => first | (go_simp; done) | (go_simp; rfl)); (case hp => exact (Reps.none _ _))
            intro v225 w46 ho47 hb hg_ hnew_
            clear hg_ hnew_
            (first | rw [← Ny224.out] at ho47 | (simp only [Int.reduceToNat] at ho47; rw [← Ny224.out] at ho47))
            have n0_ := A_ (Kd.R_lower ho47 (below_size (bk_ HB.out)))
            have n1_ := A_ (blk_below (pk_ BK221.out) hb)
            have n2_ := A_ (blk_below (pk_ BK222.out) hb)
            have n3_ := A_ (blk_below (pk_ BK223.out) hb)
            have n4_ := A_ (blk_below (pk_ BK231.out) hb)
            have n5_ := A_ (below_step (bk_ HB.out) hb)
            clear BK221 BK222 BK223 BK231 HB
            have HO226 := n0_
            have BK221 := n1_
            have BK222 := n2_
            have BK223 := n3_
            have BK231 := n4_
            have HB := n5_
            clear n0_ n1_ n2_ n3_ n4_ n5_ hb ho47
            refine hK.out _ _ ⟨(blk_cell BK222.out 0).trans rfl, (blk_cell BK222.out 1).trans rfl, (blk_cell BK221.out 0).trans rfl⟩ (fun hHeld => ?_)
            clear hK K
            refine norm_ (a' := ?_) ?_ ?_
            rotate_left
            ·show Act.put _ (some 14) _ = _
             simp only [Act.put, sa_, sz_, ss_, i64_w, i32_w]
             rfl
            refine one_ (i := 11) (N := some 18) #[true, true, true, true, true, true, true, true, true, true, true, true, false, true, false] rfl rfl (one_of HT_.out (by kernel_rfl)) (by decide) (fun K hK => ?_)
            refine Kd.R_append_rows_step (Kd.int .i64) (w0 := w) w.heap.size (by rfl) (.tmp 14) (.tmp 17) 26 3 (.int .i64 0) 8 rfl Try.underlying26 info3 rfl (by decide) (by omega) v225 y224 (l1_1.drop 1) _ _ _ (fun _ => True) (fun _ => False) rfl rfl ?aO ?aR (fun _ _ h => h) (fun _ h => h.elim) ?aF ?aB ?aS ?aL ?_
            (case aR => first | (rw [← show (l1_1.drop 1).length = (l1_1.length - 1) from List.length_drop]; repeat (first | exact (Kd.C_below HR227.out HB.out) | (with_reducible refine Kd.C_alloc ?_ _) | (with_reducible refine Kd.C_drewN ?_ _) | (with_reducible refine Kd.C_drew ?_))) | (repeat (first | exact (Kd.C_below HR227.out HB.out) | (with_reducible refine Kd.C_alloc ?_ _) | (with_reducible refine Kd.C_drewN ?_ _) | (with_reducible refine Kd.C_drew ?_))))
            (case aB => exact (bk_ HB.out))
            (case aF => exact (fun _ _ => trivial))
            (case aO => exact (rk_ HO226.out))
            (case aS => exact (below_size (bk_ HB.out)))
            (case aL => have := LMc5.out; have hlx_ := (show (l1_1.drop 1).length = (l1_1.length - 1) from List.length_drop); omega)
            intro v229 w48 ho hb hg hat
            rw [← Ny228.out] at ho
            have n0_ := A_ (blk_grown (pk_ BK221.out) hg (Kd.R_ne HO226.out BK221.out (by decide)))
            have n1_ := A_ (blk_grown (pk_ BK222.out) hg (Kd.R_ne HO226.out BK222.out (by decide)))
            have n2_ := A_ (blk_grown (pk_ BK223.out) hg (Kd.R_ne HO226.out BK223.out (by decide)))
            have n3_ := A_ (blk_grown (pk_ BK231.out) hg (Kd.R_ne HO226.out BK231.out (by decide)))
            have n4_ := A_ (hb)
            have n5_ := A_ (ho)
            clear BK221 BK222 BK223 BK231 HB HO226
            have BK221 := n0_
            have BK222 := n1_
            have BK223 := n2_
            have BK231 := n3_
            have HB := n4_
            have HO230 := n5_
            clear n0_ n1_ n2_ n3_ n4_ n5_ ho hb hg hat
            obtain ⟨Ao49, co49, eo49⟩ := Kd.R_slice HO230.out
            (first | subst eo49 | (injection eo49 with f1_ f2_ f3_; have f4_ := f1_.symm; have f5_ := f3_.symm; clear f1_ f2_ f3_; subst f4_; subst f5_))
            refine hK.out _ _ ⟨(blk_cell BK222.out 0).trans rfl, (blk_cell BK222.out 1).trans rfl, (blk_cell BK221.out 0).trans rfl⟩ (fun hHeld => ?_)
            clear hK K
            refine norm_ (a' := ?_) ?_ ?_
            rotate_left
            ·show Act.put _ (some 18) _ = _
             simp only [Act.put, sa_, sz_, ss_, i64_w, i32_w]
             rfl
            refine pure_ (i := 12) (N := some 19) (v := ?_) (a' := ?_) #[true, true, true, true, true, true, true, true, true, true, true, true, true, true, false] rfl rfl (any_of HT_.out (by kernel_rfl)) (fun _ _ _ h => h) (Or.inl ⟨by rfl, ?_⟩) ?_ ?_
            rotate_left
            ·intro w'
             go_simp
             with_reducible rfl
            rotate_left
            ·simp only [Act.put, sa_, sz_, ss_, i64_w, i32_w]
             rfl
            exact norm_ (by simp only [putAll, Act.put, List.setIfInBounds_toArray, List.set_cons_zero, List.set_cons_succ]) (hCont (v225, .slice Ao49 y228.length co49, gb231) _ ⟨hHeld, (rk_ HO230.out), (pk_ BK221.out), (pk_ BK222.out), (pk_ BK223.out), (pk_ BK231.out), GW231.out, GE231.out, NB221_231.out, NB231_221.out, NB222_231.out, NB231_222.out, NB223_231.out, NB231_223.out, (bk_ HB.out)⟩)
          rintro ⟨v225, v229, gb231⟩ w50 ⟨hS_, h0_, h1_, h2_, h3_, h4_, h5_, h6_, h7_, h8_, h9_, h10_, h11_, h12_, h13_⟩
          have n0_ : Aside0 (Kd.R (Kd.int .i64) 3 w50 w.heap.size (fun _ => True) v229 y228) := ⟨h0_⟩
          have n1_ : Aside0 (w50.heap[gb221]? = some (.cells #[.slice A0_0 l0_0.length c0_0] 45 (0, 0))) := ⟨h1_⟩
          have n2_ : Aside0 (w50.heap[gb222]? = some (.cells #[.int .i64 a1_0, .slice A1_1 l1_1.length c1_1] 47 (0, 0))) := ⟨h2_⟩
          have n3_ : Aside0 (w50.heap[gb223]? = some (.cells #[.int .i64 0, .slice none 0 0] 47 (0, 0))) := ⟨h3_⟩
          have n4_ : Aside0 (w50.heap[gb231]? = some (.cells #[.int .i64 0, .slice none 0 0] 47 (0, 0))) := ⟨h4_⟩
          have n5_ : Aside0 (w.heap.size ≤ gb231) := ⟨h5_⟩
          have n6_ : Aside0 (w.heap.size ≤ gb231) := ⟨h6_⟩
          have n7_ : Aside0 (gb221 ≠ gb231) := ⟨h7_⟩
          have n8_ : Aside0 (gb231 ≠ gb221) := ⟨h8_⟩
          have n9_ : Aside0 (gb222 ≠ gb231) := ⟨h9_⟩
          have n10_ : Aside0 (gb231 ≠ gb222) := ⟨h10_⟩
          have n11_ : Aside0 (gb223 ≠ gb231) := ⟨h11_⟩
          have n12_ : Aside0 (gb231 ≠ gb223) := ⟨h12_⟩
          have n13_ : Aside0 (Below w.heap.size w w50) := ⟨h13_⟩
          clear BK221 BK222 BK223 HB h0_ h1_ h2_ h3_ h4_ h5_ h6_ h7_ h8_ h9_ h10_ h11_ h12_ h13_
          have HO230 := n0_
          have BK221 := n1_
          have BK222 := n2_
          have BK223 := n3_
          have BK231 := n4_
          have GW231 := n5_
          have GE231 := n6_
          have NB221_231 := n7_
          have NB231_221 := n8_
          have NB222_231 := n9_
          have NB231_222 := n10_
          have NB223_231 := n11_
          have NB231_223 := n12_
          have HB := n13_
          clear n0_ n1_ n2_ n3_ n4_ n5_ n6_ n7_ n8_ n9_ n10_ n11_ n12_ n13_
          have hHeld : w50.cell? ⟨gb222, 0, none⟩ = some (.int .i64 a1_0) ∧ w50.cell? ⟨gb222, 1, none⟩ = some (.slice A1_1 l1_1.length c1_1) ∧ w50.cell? ⟨gb221, 0, none⟩ = some (.slice A0_0 l0_0.length c0_0) := hS_
          obtain ⟨Ao51, co51, eo51⟩ := Kd.R_slice HO230.out
          (first | subst eo51 | (injection eo51 with f1_ f2_ f3_; have f4_ := f1_.symm; have f5_ := f3_.symm; clear f1_ f2_ f3_; subst f4_; subst f5_))
          refine norm_ (a' := ?_) ?_ ?_
          rotate_left
          ·simp only [putAll, Act.put, List.setIfInBounds_toArray, List.set_cons_zero, List.set_cons_succ]
           rfl
          refine one_ (i := 14) (N := none) #[true, true, true, true, true, true, true, true, true, true, true, true, true, true, true] rfl rfl (one_of HT_.out (by kernel_rfl)) (by decide) (fun K hK => ?_)
          have hs52 : w50.cell? ⟨gb231, 0, none⟩ = some (.int .i64 0) := (blk_cell BK231.out 0).trans rfl
          have hfs52 := blk_frozen BK231.out 0
          have hns52_0 := NB221_231.out
          have hns52_1 := NB222_231.out
          have hns52_2 := NB223_231.out
          have hms52_0 := NB231_221.out
          have hms52_1 := NB231_222.out
          have hms52_2 := NB231_223.out
          have hs53 : w50.cell? ⟨gb231, 1, none⟩ = some (.slice none 0 0) := (blk_cell BK231.out 1).trans rfl
          have hfs53 := blk_frozen BK231.out 1
          have hns53_0 := NB221_231.out
          have hns53_1 := NB222_231.out
          have hns53_2 := NB223_231.out
          have hms53_0 := NB231_221.out
          have hms53_1 := NB231_222.out
          have hms53_2 := NB231_223.out
          refine skip_ (w1 := ?_) (by rfl) rfl ?_ ?_
          rotate_left
          ·go_simp
           rfl
          refine hK.out _ _ ⟨((cell_far (p := ⟨gb231, _, none⟩) NB222_231.out _).trans (((cell_far (p := ⟨gb231, _, none⟩) NB222_231.out _).trans (hHeld.1)))), ((cell_far (p := ⟨gb231, _, none⟩) NB222_231.out _).trans (((cell_far (p := ⟨gb231, _, none⟩) NB222_231.out _).trans (hHeld.2.1)))), ((cell_far (p := ⟨gb231, _, none⟩) NB221_231.out _).trans (((cell_far (p := ⟨gb231, _, none⟩) NB221_231.out _).trans (hHeld.2.2))))⟩ (fun hHeld => ?_)
          clear hK K
          refine done_ (done_of HT_.out (by kernel_rfl)) ?_
          have hnb54 := NB222_221.out
          have hnc54 := NB221_222.out
          have hnb55 := NB222_223.out
          have hnc55 := NB223_222.out
          have hnb56 := NB222_231.out
          have hnc56 := NB231_222.out
          have hcz57_0 : w50.cell? ⟨gb222, 0, none⟩ = some (.int .i64 a1_0) := (blk_cell BK222.out 0).trans rfl
          have hcz57_1 : w50.cell? ⟨gb222, 1, none⟩ = some (.slice A1_1 l1_1.length c1_1) := (blk_cell BK222.out 1).trans rfl
          have hfz57_0 := blk_frozen BK222.out 0
          have hfz57_1 := blk_frozen BK222.out 1
          have p232 : 0 ≤ (0 : Int) := (by omega)
          have q232 : 0 < (l1_1.length : Int) := od_
          obtain ⟨ad232, e232, hx232_0⟩ := Kd.at_int HR1_1.out 0 p232 q232
          cases e232
          have qi232 : (0 < l1_1.length) = True := eq_true (by omega)
          (try rw [show ((0 : Int)).toNat = 0 from rfl] at hx232_0)
          (try rw [Addr.add_zero'] at hx232_0)
          have hn232_0 : ad232.block ≠ gb231 := Nat.ne_of_lt (Nat.lt_of_lt_of_le (by have := World.block_lt_of_cell? _ _ hx232_0; first | rwa [add_block] at this | exact this) GW231.out)
          have hn232_1 : ad232.block ≠ gb231 := Nat.ne_of_lt (Nat.lt_of_lt_of_le (by have := World.block_lt_of_cell? _ _ hx232_0; first | rwa [add_block] at this | exact this) GW231.out)
          replace hx232_0 := lf_ HB.out hx232_0
          replace hx232_0 := (cell_far (p := ⟨gb231, 0, none⟩) (by first | (rw [add_block]; exact hn232_0) | (show (Addr.add _ _).block ≠ _; rw [add_block]; exact hn232_0) | exact hn232_0) (.int .i64 (Int.tmod (wrap64 (a1_0 + 1)) (l0_0.length : Int)))).trans hx232_0
          replace hx232_0 := (cell_far (p := ⟨gb231, 1, none⟩) (by first | (rw [add_block]; exact hn232_1) | (show (Addr.add _ _).block ≠ _; rw [add_block]; exact hn232_1) | exact hn232_1) (.slice Ao51 y228.length co51)).trans hx232_0
          clear hn232_0 hn232_1
          replace p232 := eq_true p232
          replace q232 := eq_true q232
          try go_wp2
          have n0_ : Aside0 (Kd.R (Kd.int .i64) 3 ((w50.setCell ⟨gb231, 0, none⟩ (.int .i64 (Int.tmod (wrap64 (a1_0 + 1)) (l0_0.length : Int)))).setCell ⟨gb231, 1, none⟩ (.slice Ao51 y228.length co51)) w.heap.size (fun _ => True) (.slice Ao51 y228.length co51) y228) := ⟨by (with_reducible repeat (first | apply Kd.R_alloc | apply Kd.R_drewN | apply Kd.R_drew)); exact Kd.R_mono (Kd.R_far (p := ⟨gb231, 1, none⟩) (Kd.R_far (p := ⟨gb231, 0, none⟩) (Kd.R_types HO230.out BK231.out (by decide)) (fun _ hk => hk.2) (.int .i64 (Int.tmod (wrap64 (a1_0 + 1)) (l0_0.length : Int)))) (fun _ hk => hk.2) (.slice Ao51 y228.length co51)) (fun _ hk => trivial)⟩
          have n1_ : Aside0 (((w50.setCell ⟨gb231, 0, none⟩ (.int .i64 (Int.tmod (wrap64 (a1_0 + 1)) (l0_0.length : Int)))).setCell ⟨gb231, 1, none⟩ (.slice Ao51 y228.length co51)).heap[gb221]? = some (.cells #[.slice A0_0 l0_0.length c0_0] 45 (0, 0))) := ⟨by refine pk_ ?_; refine blk_far ?_ NB221_231.out _; refine pk_ ?_; refine blk_far ?_ NB221_231.out _; exact pk_ BK221.out⟩
          have n2_ : Aside0 (((w50.setCell ⟨gb231, 0, none⟩ (.int .i64 (Int.tmod (wrap64 (a1_0 + 1)) (l0_0.length : Int)))).setCell ⟨gb231, 1, none⟩ (.slice Ao51 y228.length co51)).heap[gb222]? = some (.cells #[.int .i64 a1_0, .slice (some ad232) l1_1.length c1_1] 47 (0, 0))) := ⟨by refine pk_ ?_; refine blk_far ?_ NB222_231.out _; refine pk_ ?_; refine blk_far ?_ NB222_231.out _; exact pk_ BK222.out⟩
          have n3_ : Aside0 (((w50.setCell ⟨gb231, 0, none⟩ (.int .i64 (Int.tmod (wrap64 (a1_0 + 1)) (l0_0.length : Int)))).setCell ⟨gb231, 1, none⟩ (.slice Ao51 y228.length co51)).heap[gb223]? = some (.cells #[.int .i64 0, .slice none 0 0] 47 (0, 0))) := ⟨by refine pk_ ?_; refine blk_far ?_ NB223_231.out _; refine pk_ ?_; refine blk_far ?_ NB223_231.out _; exact pk_ BK223.out⟩
          have n4_ : Aside0 (((w50.setCell ⟨gb231, 0, none⟩ (.int .i64 (Int.tmod (wrap64 (a1_0 + 1)) (l0_0.length : Int)))).setCell ⟨gb231, 1, none⟩ (.slice Ao51 y228.length co51)).heap[gb231]? = some (.cells #[.int .i64 (Int.tmod (wrap64 (a1_0 + 1)) (l0_0.length : Int)), .slice Ao51 y228.length co51] 47 (0, 0))) := ⟨by refine pk_ ?_; refine blk_put (cs := #[.int .i64 (Int.tmod (wrap64 (a1_0 + 1)) (l0_0.length : Int)), .slice none 0 0]) ?_ 1 _ rfl; refine pk_ ?_; refine blk_put (cs := #[.int .i64 0, .slice none 0 0]) ?_ 0 _ rfl; exact pk_ BK231.out⟩
          have n5_ : Aside0 (Below w.heap.size w ((w50.setCell ⟨gb231, 0, none⟩ (.int .i64 (Int.tmod (wrap64 (a1_0 + 1)) (l0_0.length : Int)))).setCell ⟨gb231, 1, none⟩ (.slice Ao51 y228.length co51))) := ⟨bk_ HB.out⟩
          (try clear HO230)
          (try clear BK221)
          (try clear BK222)
          (try clear BK223)
          (try clear BK231)
          (try clear HB)
          generalize ((w50.setCell ⟨gb231, 0, none⟩ (.int .i64 (Int.tmod (wrap64 (a1_0 + 1)) (l0_0.length : Int)))).setCell ⟨gb231, 1, none⟩ (.slice Ao51 y228.length co51)) = w58 at n0_ n1_ n2_ n3_ n4_ n5_ ⊢
          have HO230 := n0_
          have BK221 := n1_
          have BK222 := n2_
          have BK223 := n3_
          have BK231 := n4_
          have HB := n5_
          clear n0_ n1_ n2_ n3_ n4_ n5_
          have n0_ := A_ (Kd.R_drew HO230.out)
          have n1_ := A_ (blk_drew BK221.out)
          have n2_ := A_ (blk_drew BK222.out)
          have n3_ := A_ (blk_drew BK223.out)
          have n4_ := A_ (blk_drew BK231.out)
          have n5_ := A_ (below_drew1 HB.out)
          clear HO230 BK221 BK222 BK223 BK231 HB
          have HO230 := n0_
          have BK221 := n1_
          have BK222 := n2_
          have BK223 := n3_
          have BK231 := n4_
          have HB := n5_
          clear n0_ n1_ n2_ n3_ n4_ n5_
          have p233 : 0 ≤ (a1_0 : Int) := od_
          have q233 : a1_0 < (l0_0.length : Int) := od_
          obtain ⟨ad233, A233_0, c233_0, e233, hx233_0, hl233_0, hi233_0⟩ := at_L1 HR0_0.out a1_0 p233 q233
          have hw233_0 := hx233_0
          cases e233
          replace hx233_0 := lf_ HB.out hx233_0
          have HR233_0 := Aside0.mk hi233_0
          have HC233_0 := Aside0.mk hl233_0
          clear hi233_0 hl233_0
          replace p233 := eq_true p233
          replace q233 := eq_true q233
          refine start_ (n := 11) (S := fun w' => w'.cell? ⟨gb231, 0, none⟩ = some (.int .i64 (Int.tmod (wrap64 (a1_0 + 1)) (l0_0.length : Int))) ∧ w'.cell? ⟨gb231, 1, none⟩ = some (.slice Ao51 y228.length co51) ∧ w'.cell? ⟨gb221, 0, none⟩ = some (.slice (some ad233) l0_0.length c0_0) ∧ w'.cell? ⟨gb222, 0, none⟩ = some (.int .i64 a1_0) ∧ w'.cell? ⟨gb222, 1, none⟩ = some (.slice (some ad232) l1_1.length c1_1) ∧ w'.cell? (ad233.add (a1_0).toNat) = some (.slice A233_0 (rd_L1 l0_0 a1_0).length c233_0)) (ds := [10]) #[false, false, false, false, false, false, false, false, false, false, false] (by kernel_rfl) rfl rfl ⟨(blk_cell BK231.out 0).trans rfl, (blk_cell BK231.out 1).trans rfl, (blk_cell BK221.out 0).trans rfl, (blk_cell BK222.out 0).trans rfl, (blk_cell BK222.out 1).trans rfl, ((HB.out.cell (World.block_lt_of_cell? w _ hw233_0)).trans hw233_0)⟩ (fun hHeld => ?_); refine with_tabW standstillref07_Turn.tab3 standstillref07_Turn.bits3 (fun HT_ HW_ => ?_)
          generalize w58.drew = w59 at HO230 BK221 BK222 BK223 BK231 HB HR233_0 hx233_0 hHeld ⊢
          refine pure_ (i := 0) (N := some 25) (v := ?_) (a' := ?_) #[true, false, false, false, false, false, false, false, false, false, false] rfl rfl (any_of HT_.out (by kernel_rfl)) (fun _ _ _ h => h) (Or.inl ⟨by rfl, ?_⟩) ?_ ?_
          rotate_left
          ·intro w'
           go_simp
           with_reducible rfl
          rotate_left
          ·simp only [Act.put, sa_, sz_, ss_, i64_w, i32_w]
           rfl
          refine pure_ (i := 2) (N := some 27) (v := ?_) (a' := ?_) #[true, false, true, false, false, false, false, false, false, false, false] rfl rfl (any_of HT_.out (by kernel_rfl)) (fun _ _ _ h => h) (Or.inl ⟨by rfl, ?_⟩) ?_ ?_
          rotate_left
          ·intro w'
           go_simp
           with_reducible rfl
          rotate_left
          ·simp only [Act.put, sa_, sz_, ss_, i64_w, i32_w]
           rfl
          refine pure_ (i := 4) (N := some 29) (v := ?_) (a' := ?_) #[true, false, true, false, true, false, false, false, false, false, false] rfl rfl (any_of HT_.out (by kernel_rfl)) (fun _ _ _ h => h) (Or.inl ⟨by rfl, ?_⟩) ?_ ?_
          rotate_left
          ·intro w'
           go_simp
           with_reducible rfl
          rotate_left
          ·simp only [Act.put, sa_, sz_, ss_, i64_w, i32_w]
           rfl
          refine take_ (i := 1) (N := some 26) (v := ?_) (a' := ?_) #[true, true, true, false, true, false, false, false, false, false, false] rfl rfl (take_ofW HT_.out HW_.out (by kernel_rfl)) (fun _ _ _ h => h) (Or.inl ⟨by rfl, ?_⟩) hHeld ?_ ?_
          rotate_left
          ·rintro w' ⟨s0, s1, s2, s3, s4, s5⟩
           go_simp
           with_reducible rfl
          rotate_left
          ·simp only [Act.put, sa_, sz_, ss_, i64_w, i32_w]
           rfl
          refine take_ (i := 3) (N := some 28) (v := ?_) (a' := ?_) #[true, true, true, true, true, false, false, false, false, false, false] rfl rfl (take_ofW HT_.out HW_.out (by kernel_rfl)) (fun _ _ _ h => h) (Or.inl ⟨by rfl, ?_⟩) hHeld ?_ ?_
          rotate_left
          ·rintro w' ⟨s0, s1, s2, s3, s4, s5⟩
           go_simp
           with_reducible rfl
          rotate_left
          ·simp only [Act.put, sa_, sz_, ss_, i64_w, i32_w]
           rfl
          refine take_ (i := 5) (N := some 30) (v := ?_) (a' := ?_) #[true, true, true, true, true, true, false, false, false, false, false] rfl rfl (take_ofW HT_.out HW_.out (by kernel_rfl)) (fun _ _ _ h => h) (Or.inl ⟨by rfl, ?_⟩) hHeld ?_ ?_
          rotate_left
          ·rintro w' ⟨s0, s1, s2, s3, s4, s5⟩
           go_simp
           with_reducible rfl
          rotate_left
          ·simp only [Act.put, sa_, sz_, ss_, i64_w, i32_w]
           rfl
          refine pure_ (i := 6) (N := some 31) (v := ?_) (a' := ?_) #[true, true, true, true, true, true, true, false, false, false, false] rfl rfl (any_of HT_.out (by kernel_rfl)) (fun _ _ _ h => h) (Or.inl ⟨by rfl, ?_⟩) ?_ ?_
          rotate_left
          ·intro w'
           go_simp
           with_reducible rfl
          rotate_left
          ·simp only [Act.put, sa_, sz_, ss_, i64_w, i32_w]
           rfl
          refine take_ (i := 7) (N := some 32) (v := ?_) (a' := ?_) #[true, true, true, true, true, true, true, true, false, false, false] rfl rfl (take_ofW HT_.out HW_.out (by kernel_rfl)) (fun _ _ _ h => h) (Or.inl ⟨by rfl, ?_⟩) hHeld ?_ ?_
          rotate_left
          ·rintro w' ⟨s0, s1, s2, s3, s4, s5⟩
           go_simp
           with_reducible rfl
          rotate_left
          ·simp only [Act.put, sa_, sz_, ss_, i64_w, i32_w]
           rfl
          refine one_ (i := 8) (N := some 33) #[true, true, true, true, true, true, true, true, true, false, false] rfl rfl (one_of HT_.out (by kernel_rfl)) (by decide) (fun K hK => ?_)
          refine Kd.R_append_rows_step (Kd.int .i64) (w0 := w) w.heap.size (by rfl) (.tmp 26) (.tmp 32) 26 3 (.int .i64 0) 8 rfl Try.underlying26 info3 rfl (by decide) (by omega) (.slice Ao51 y228.length co51) y228 (rd_L1 l0_0 a1_0) _ _ _ (fun _ => True) (fun _ => False) rfl rfl ?aO ?aR (fun _ _ h => h) (fun _ h => h.elim) ?aF ?aB ?aS ?aL ?_
          (case aR => repeat (first | exact (Kd.C_below HR233_0.out HB.out) | (with_reducible refine Kd.C_alloc ?_ _) | (with_reducible refine Kd.C_drewN ?_ _) | (with_reducible refine Kd.C_drew ?_)))
          (case aB => exact (bk_ HB.out))
          (case aF => exact (fun _ _ => trivial))
          (case aO => exact (rk_ HO230.out))
          (case aS => exact (below_size (bk_ HB.out)))
          (case aL => have := LMc10.out; omega)
          intro v235 w60 ho hb hg hat
          rw [← Ny234.out] at ho
          have n0_ := A_ (blk_grown (pk_ BK221.out) hg (Kd.R_ne HO230.out BK221.out (by decide)))
          have n1_ := A_ (blk_grown (pk_ BK222.out) hg (Kd.R_ne HO230.out BK222.out (by decide)))
          have n2_ := A_ (blk_grown (pk_ BK223.out) hg (Kd.R_ne HO230.out BK223.out (by decide)))
          have n3_ := A_ (blk_grown (pk_ BK231.out) hg (Kd.R_ne HO230.out BK231.out (by decide)))
          have n4_ := A_ (hb)
          have n5_ := A_ (ho)
          clear BK221 BK222 BK223 BK231 HB HO230
          have BK221 := n0_
          have BK222 := n1_
          have BK223 := n2_
          have BK231 := n3_
          have HB := n4_
          have HO236 := n5_
          clear n0_ n1_ n2_ n3_ n4_ n5_ ho hb hg hat
          obtain ⟨Ao61, co61, eo61⟩ := Kd.R_slice HO236.out
          (first | subst eo61 | (injection eo61 with f1_ f2_ f3_; have f4_ := f1_.symm; have f5_ := f3_.symm; clear f1_ f2_ f3_; subst f4_; subst f5_))
          refine hK.out _ _ ⟨(blk_cell BK231.out 0).trans rfl, (blk_cell BK231.out 1).trans rfl, (blk_cell BK221.out 0).trans rfl, (blk_cell BK222.out 0).trans rfl, (blk_cell BK222.out 1).trans rfl, ((HB.out.cell (World.block_lt_of_cell? w _ hw233_0)).trans hw233_0)⟩ (fun hHeld => ?_)
          clear hK K
          refine norm_ (a' := ?_) ?_ ?_
          rotate_left
          ·show Act.put _ (some 33) _ = _
           simp only [Act.put, sa_, sz_, ss_, i64_w, i32_w]
           rfl
          refine pure_ (i := 9) (N := some 34) (v := ?_) (a' := ?_) #[true, true, true, true, true, true, true, true, true, true, false] rfl rfl (any_of HT_.out (by kernel_rfl)) (fun _ _ _ h => h) (Or.inl ⟨by rfl, ?_⟩) ?_ ?_
          rotate_left
          ·intro w'
           go_simp
           with_reducible rfl
          rotate_left
          ·simp only [Act.put, sa_, sz_, ss_, i64_w, i32_w]
           rfl
          refine last_ (i := 10) (N := none) #[true, true, true, true, true, true, true, true, true, true, true] rfl rfl (one_of HT_.out (by kernel_rfl)) (by decide) (fun K hK => ?_)
          have hs62 : w60.cell? ⟨gb231, 1, none⟩ = some (.slice Ao51 y228.length co51) := (blk_cell BK231.out 1).trans rfl
          have hfs62 := blk_frozen BK231.out 1
          have hns62_0 := NB221_231.out
          have hns62_1 := NB222_231.out
          have hns62_2 := NB223_231.out
          have hms62_0 := NB231_221.out
          have hms62_1 := NB231_222.out
          have hms62_2 := NB231_223.out
          refine skip_ (w1 := ?_) (by rfl) rfl ?_ ?_
          rotate_left
          ·go_simp
           rfl
          refine hK.out _ _ ?_
          clear hK K
          refine done_ (done_of HT_.out (by kernel_rfl)) ?_
          have hnb63 := NB231_221.out
          have hnc63 := NB221_231.out
          have hnb64 := NB231_223.out
          have hnc64 := NB223_231.out
          have hcz65_0 : w60.cell? ⟨gb231, 0, none⟩ = some (.int .i64 (Int.tmod (wrap64 (a1_0 + 1)) (l0_0.length : Int))) := (blk_cell BK231.out 0).trans rfl
          have hcz65_1 : w60.cell? ⟨gb231, 1, none⟩ = some (.slice Ao51 y228.length co51) := (blk_cell BK231.out 1).trans rfl
          have hfz65_0 := blk_frozen BK231.out 0
          have hfz65_1 := blk_frozen BK231.out 1
          have hnb66 := NB223_221.out
          have hnc66 := NB221_223.out
          have hcz67_0 : w60.cell? ⟨gb223, 0, none⟩ = some (.int .i64 0) := (blk_cell BK223.out 0).trans rfl
          have hcz67_1 : w60.cell? ⟨gb223, 1, none⟩ = some (.slice none 0 0) := (blk_cell BK223.out 1).trans rfl
          have hfz67_0 := blk_frozen BK223.out 0
          have hfz67_1 := blk_frozen BK223.out 1
          try go_wp2
          refine bodyPost_ret (results_ct rfl _ _ gb223 47 #[.int .i64 (Int.tmod (wrap64 (a1_0 + 1)) (l0_0.length : Int)), .slice Ao61 y234.length co61] (0, 0) _ rfl (by refine pk_ ?_; refine blk_put (cs := #[.int .i64 (Int.tmod (wrap64 (a1_0 + 1)) (l0_0.length : Int)), .slice none 0 0]) ?_ 1 _ rfl; refine pk_ ?_; refine blk_put (cs := #[.int .i64 0, .slice none 0 0]) ?_ 0 _ rfl; refine pk_ ?_; refine blk_far ?_ NB223_231.out _; exact pk_ BK223.out) Try.underlying47 rfl (by kernel_rfl)) rfl ?_
          exact ⟨_, er_, by (with_reducible repeat (first | apply Kd.R_alloc | apply Kd.R_drewN | apply Kd.R_drew)); exact Kd.R_mono (Kd.R_far (p := ⟨gb223, 1, none⟩) (Kd.R_far (p := ⟨gb223, 0, none⟩) (Kd.R_far (p := ⟨gb231, 1, none⟩) (Kd.R_types (Kd.R_types HO236.out BK231.out (by decide)) BK223.out (by decide)) (fun _ hk => hk.1.2) (.slice Ao61 y234.length co61)) (fun _ hk => hk.2) (.int .i64 (Int.tmod (wrap64 (a1_0 + 1)) (l0_0.length : Int)))) (fun _ hk => hk.2) (.slice Ao61 y234.length co61)) (fun _ hk => trivial), bk_ HB.out⟩
        ·rw [if_neg c10] at H
         exact absurd H (by simp)
       ·rw [if_neg c9] at H
        exact absurd H (by simp)
      ·rw [if_neg c8] at H
       exact absurd H (by simp)
     ·rw [if_neg c7] at H
      have c7b0 : ((rd l1_1 0) == 1) = false := beq_eq_false_iff_ne.mpr c7
      have c7b1 : ((rd l1_1 0) != 1) = true := bne_iff_ne.mpr c7
      by_cases c68 : (y228.length : Int) > 1000000
      ·rw [if_pos c68] at H
       have c68b0 : decide (1000000 < (y228.length : Int)) = true := decide_eq_true c68
       have c68b1 : decide (1000000 < y228.length) = true := decide_eq_true (by omega)
       clear c68
       simp only [Option.some.injEq, Prod.mk.injEq] at H
       obtain ⟨rfl, rfl, rfl⟩ := H
       go_enter Try.func31, Try.ntmps31
       try go_wp2_with (first | ((with_reducible refine gate_dst (N := 2) rfl ?_); refine box_event ?hg (N := 2) ?hd (cs := #[.slice A0_0 l0_0.length c0_0]) (t := 45) ?hr ?_; (case hd => rfl); (case hg => rfl); (case hr => first | (go_simp; done) | (go_simp; rfl)); intro gb221 hg w69 hbox hb; have n0_ := A_ (below_step (bk_ HB.out) hb); have n1_ := A_ (hbox); have n2_ := A_ ((by rw [hg]; exact (below_size (bk_ HB.out)) : w.heap.size ≤ gb221)); have n3_ := A_ ((by rw [hg]; exact (below_size (bk_ HB.out)) : w.heap.size ≤ gb221)); clear HB; have HB := n0_; have BK221 := n1_; have GW221 := n2_; have GE221 := n3_; clear n0_ n1_ n2_ n3_ hb hbox hg) | ((with_reducible refine gate_dst (N := 3) rfl ?_); refine box_event ?hg (N := 3) ?hd (cs := #[.int .i64 a1_0, .slice A1_1 l1_1.length c1_1]) (t := 47) ?hr ?_; (case hd => rfl); (case hg => rfl); (case hr => first | (go_simp; done) | (go_simp; rfl)); intro gb222 hg w70 hbox hb; have n0_ := A_ (blk_below (pk_ BK221.out) hb); have n1_ := A_ (below_step (bk_ HB.out) hb); have n2_ := A_ (hbox); have n3_ := A_ ((by rw [hg]; exact (below_size (bk_ HB.out)) : w.heap.size ≤ gb222)); have n4_ := A_ ((by rw [hg]; exact (below_size (bk_ HB.out)) : w.heap.size ≤ gb222)); have n5_ := A_ ((by rw [hg]; exact Nat.ne_of_lt (blk_lt (pk_ BK221.out)) : gb221 ≠ gb222)); have n6_ := A_ ((by rw [hg]; exact Nat.ne_of_gt (blk_lt (pk_ BK221.out)) : gb222 ≠ gb221)); clear BK221 HB; have BK221 := n0_; have HB := n1_; have BK222 := n2_; have GW222 := n3_; have GE222 := n4_; have NB221_222 := n5_; have NB222_221 := n6_; clear n0_ n1_ n2_ n3_ n4_ n5_ n6_ hb hbox hg) | ((with_reducible refine gate_dst (N := 4) rfl ?_); refine box_event ?hg (N := 4) ?hd (cs := #[.int .i64 0, .slice none 0 0]) (t := 47) ?hr ?_; (case hd => rfl); (case hg => rfl); (case hr => first | (go_simp; done) | (go_simp; rfl)); intro gb223 hg w71 hbox hb; have n0_ := A_ (blk_below (pk_ BK221.out) hb); have n1_ := A_ (blk_below (pk_ BK222.out) hb); have n2_ := A_ (below_step (bk_ HB.out) hb); have n3_ := A_ (hbox); have n4_ := A_ ((by rw [hg]; exact (below_size (bk_ HB.out)) : w.heap.size ≤ gb223)); have n5_ := A_ ((by rw [hg]; exact (below_size (bk_ HB.out)) : w.heap.size ≤ gb223)); have n6_ := A_ ((by rw [hg]; exact Nat.ne_of_lt (blk_lt (pk_ BK221.out)) : gb221 ≠ gb223)); have n7_ := A_ ((by rw [hg]; exact Nat.ne_of_gt (blk_lt (pk_ BK221.out)) : gb223 ≠ gb221)); have n8_ := A_ ((by rw [hg]; exact Nat.ne_of_lt (blk_lt (pk_ BK222.out)) : gb222 ≠ gb223)); have n9_ := A_ ((by rw [hg]; exact Nat.ne_of_gt (blk_lt (pk_ BK222.out)) : gb223 ≠ gb222)); clear BK221 BK222 HB; have BK221 := n0_; have BK222 := n1_; have HB := n2_; have BK223 := n3_; have GW223 := n4_; have GE223 := n5_; have NB221_223 := n6_; have NB223_221 := n7_; have NB222_223 := n8_; have NB223_222 := n9_; clear n0_ n1_ n2_ n3_ n4_ n5_ n6_ n7_ n8_ n9_ hb hbox hg))
       have n0_ := A_ (blk_drew BK221.out)
       have n1_ := A_ (blk_drew BK222.out)
       have n2_ := A_ (blk_drew BK223.out)
       have n3_ := A_ (below_drew1 HB.out)
       clear BK221 BK222 BK223 HB
       have BK221 := n0_
       have BK222 := n1_
       have BK223 := n2_
       have HB := n3_
       clear n0_ n1_ n2_ n3_
       obtain ⟨i073, hi073, _, hsz73, _⟩ := info_parts info3
       (try clear hcut44)
       obtain ⟨A73, hcut73, hA73, hC73⟩ := print_drop_of (P := Try.prog) (Value.int .i64) 0 26 3 .i64 Try.underlying26 hi073 hsz73 A1_1 c1_1 l1_1 1 (by omega) (od_) HC1_1.out
       have HR227 := A_ (Kd.C_of_reads (h1 := fun _ => rfl) (hA73 _ (Kd.reads_of_C HR1_1.out)))
       have HC227 := Aside0.mk hC73
       clear hA73 hC73 hi073 hsz73
       refine start_ (n := 15) (S := fun w' => w'.cell? ⟨gb222, 0, none⟩ = some (.int .i64 a1_0) ∧ w'.cell? ⟨gb222, 1, none⟩ = some (.slice A1_1 l1_1.length c1_1) ∧ w'.cell? ⟨gb221, 0, none⟩ = some (.slice A0_0 l0_0.length c0_0)) (ds := []) #[false, false, false, false, false, false, false, false, false, false, false, false, false, false, false] (by kernel_rfl) rfl rfl ⟨(blk_cell BK222.out 0).trans rfl, (blk_cell BK222.out 1).trans rfl, (blk_cell BK221.out 0).trans rfl⟩ (fun hHeld => ?_); refine with_tabW standstillref07_Turn.tab1 standstillref07_Turn.bits1 (fun HT_ HW_ => ?_)
       generalize w71.drew = w72 at BK221 BK222 BK223 HB HR227 hHeld ⊢
       refine pure_ (i := 0) (N := some 7) (v := ?_) (a' := ?_) #[true, false, false, false, false, false, false, false, false, false, false, false, false, false, false] rfl rfl (any_of HT_.out (by kernel_rfl)) (fun _ _ _ h => h) (Or.inl ⟨by rfl, ?_⟩) ?_ ?_
       rotate_left
       ·intro w'
        go_simp
        with_reducible rfl
       rotate_left
       ·simp only [Act.put, sa_, sz_, ss_, i64_w, i32_w]
        rfl
       refine pure_ (i := 3) (N := some 10) (v := ?_) (a' := ?_) #[true, false, false, true, false, false, false, false, false, false, false, false, false, false, false] rfl rfl (any_of HT_.out (by kernel_rfl)) (fun _ _ _ h => h) (Or.inl ⟨by rfl, ?_⟩) ?_ ?_
       rotate_left
       ·intro w'
        go_simp
        with_reducible rfl
       rotate_left
       ·simp only [Act.put, sa_, sz_, ss_, i64_w, i32_w]
        rfl
       refine pure_ (i := 8) (N := some 15) (v := ?_) (a' := ?_) #[true, false, false, true, false, false, false, false, true, false, false, false, false, false, false] rfl rfl (any_of HT_.out (by kernel_rfl)) (fun _ _ _ h => h) (Or.inl ⟨by rfl, ?_⟩) ?_ ?_
       rotate_left
       ·intro w'
        go_simp
        with_reducible rfl
       rotate_left
       ·simp only [Act.put, sa_, sz_, ss_, i64_w, i32_w]
        rfl
       refine take_ (i := 1) (N := some 8) (v := ?_) (a' := ?_) #[true, true, false, true, false, false, false, false, true, false, false, false, false, false, false] rfl rfl (take_ofW HT_.out HW_.out (by kernel_rfl)) (fun _ _ _ h => h) (Or.inl ⟨by rfl, ?_⟩) hHeld ?_ ?_
       rotate_left
       ·rintro w' ⟨s0, s1, s2⟩
        go_simp
        with_reducible rfl
       rotate_left
       ·simp only [Act.put, sa_, sz_, ss_, i64_w, i32_w]
        rfl
       refine pure_ (i := 2) (N := some 9) (v := ?_) (a' := ?_) #[true, true, true, true, false, false, false, false, true, false, false, false, false, false, false] rfl rfl (any_of HT_.out (by kernel_rfl)) (fun _ _ _ h => h) (Or.inl ⟨by rfl, ?_⟩) ?_ ?_
       rotate_left
       ·intro w'
        go_simp
        with_reducible rfl
       rotate_left
       ·simp only [Act.put, sa_, sz_, ss_, i64_w, i32_w]
        rfl
       refine take_ (i := 4) (N := some 11) (v := ?_) (a' := ?_) #[true, true, true, true, true, false, false, false, true, false, false, false, false, false, false] rfl rfl (take_ofW HT_.out HW_.out (by kernel_rfl)) (fun _ _ _ h => h) (Or.inl ⟨by rfl, ?_⟩) hHeld ?_ ?_
       rotate_left
       ·rintro w' ⟨s0, s1, s2⟩
        go_simp
        with_reducible rfl
       rotate_left
       ·simp only [Act.put, sa_, sz_, ss_, i64_w, i32_w]
        rfl
       refine pure_ (i := 5) (N := some 12) (v := ?_) (a' := ?_) #[true, true, true, true, true, true, false, false, true, false, false, false, false, false, false] rfl rfl (any_of HT_.out (by kernel_rfl)) (fun _ _ _ h => h) (Or.inl ⟨by rfl, ?_⟩) ?_ ?_
       rotate_left
       ·intro w'
        go_simp
        with_reducible rfl
       rotate_left
       ·simp only [Act.put, sa_, sz_, ss_, i64_w, i32_w]
        rfl
       refine pure_ (i := 6) (N := some 13) (v := ?_) (a' := ?_) #[true, true, true, true, true, true, true, false, true, false, false, false, false, false, false] rfl rfl (any_of HT_.out (by kernel_rfl)) (fun _ _ _ h => h) (Or.inl ⟨by rfl, ?_⟩) ?_ ?_
       rotate_left
       ·intro w'
        go_simp
        with_reducible rfl
       rotate_left
       ·simp only [Act.put, sa_, sz_, ss_, i64_w, i32_w]
        rfl
       refine take_ (i := 9) (N := some 16) (v := ?_) (a' := ?_) #[true, true, true, true, true, true, true, false, true, true, false, false, false, false, false] rfl rfl (take_ofW HT_.out HW_.out (by kernel_rfl)) (fun _ _ _ h => h) (Or.inl ⟨by rfl, ?_⟩) hHeld ?_ ?_
       rotate_left
       ·rintro w' ⟨s0, s1, s2⟩
        go_simp
        with_reducible rfl
       rotate_left
       ·simp only [Act.put, sa_, sz_, ss_, i64_w, i32_w]
        rfl
       refine pure_ (i := 10) (N := some 17) (v := ?_) (a' := ?_) #[true, true, true, true, true, true, true, false, true, true, true, false, false, false, false] rfl rfl (any_of HT_.out (by kernel_rfl)) (fun _ _ _ h => h) (Or.inl ⟨by rfl, ?_⟩) ?_ ?_
       rotate_left
       ·intro w'
        go_simp
        with_reducible rfl
       rotate_left
       ·simp only [Act.put, sa_, sz_, ss_, i64_w, i32_w]
        rfl
       refine join_ (σ := Value × Value × Nat) 1 #[true, true, true, true, true, true, true, true, true, true, true, true, true, true, false] (fun s_ => [(14, s_.1), (18, s_.2.1), (6, .pointer (some ⟨s_.2.2, 0, none⟩)), (19, .agg #[.int .i64 (Int.tmod (wrap64 (a1_0 + 1)) (l0_0.length : Int)), s_.2.1])]) (fun s_ w' => (w'.cell? ⟨gb222, 0, none⟩ = some (.int .i64 a1_0) ∧ w'.cell? ⟨gb222, 1, none⟩ = some (.slice A1_1 l1_1.length c1_1) ∧ w'.cell? ⟨gb221, 0, none⟩ = some (.slice A0_0 l0_0.length c0_0)) ∧ (Kd.R (Kd.int .i64) 3 w' w.heap.size (fun _ => True) s_.2.1 y228) ∧ (w'.heap[gb221]? = some (.cells #[.slice A0_0 l0_0.length c0_0] 45 (0, 0))) ∧ (w'.heap[gb222]? = some (.cells #[.int .i64 a1_0, .slice A1_1 l1_1.length c1_1] 47 (0, 0))) ∧ (w'.heap[gb223]? = some (.cells #[.int .i64 0, .slice none 0 0] 47 (0, 0))) ∧ (w'.heap[s_.2.2]? = some (.cells #[.int .i64 0, .slice none 0 0] 47 (0, 0))) ∧ (w.heap.size ≤ s_.2.2) ∧ (w.heap.size ≤ s_.2.2) ∧ (gb221 ≠ s_.2.2) ∧ (s_.2.2 ≠ gb221) ∧ (gb222 ≠ s_.2.2) ∧ (s_.2.2 ≠ gb222) ∧ (gb223 ≠ s_.2.2) ∧ (s_.2.2 ≠ gb223) ∧ (Below w.heap.size w w')) ?_ ?_
       rotate_left
       ·intro hCont
        refine two_ (i := 7) (j := 13) (Ni := some 14) (Nj := some 6) #[true, true, true, true, true, true, true, true, true, true, true, false, false, false, false] #[true, true, true, true, true, true, true, false, true, true, true, false, false, true, false] rfl rfl rfl rfl (two_of HT_.out (by kernel_rfl)) (by decide) (by decide) (fun K hK => ?_) (fun K hK => ?_)
        ·skip
         refine Kd.R_lit_step (Kd.int .i64) _ 3 ?hg (N := 14) ?hd (xs := ([] : List Int)) (inner := []) (ok := fun _ => True) (okp := fun _ => True) ?hr ?hp (fun _ hk => hk) trivial (Below.refl _ _) (Nat.le_refl _) (by simp) ?_; (case hd => rfl); (case hg => rfl); (case hr => first | (go_simp; done) | (go_simp; rfl)); (case hp => exact (Reps.none _ _))
         intro v225 w74 ho75 hb hg_ hnew_
         clear hg_ hnew_
         (first | rw [← Ny224.out] at ho75 | (simp only [Int.reduceToNat] at ho75; rw [← Ny224.out] at ho75))
         have n0_ := A_ (Kd.R_lower ho75 (below_size (bk_ HB.out)))
         have n1_ := A_ (blk_below (pk_ BK221.out) hb)
         have n2_ := A_ (blk_below (pk_ BK222.out) hb)
         have n3_ := A_ (blk_below (pk_ BK223.out) hb)
         have n4_ := A_ (below_step (bk_ HB.out) hb)
         clear BK221 BK222 BK223 HB
         have HO226 := n0_
         have BK221 := n1_
         have BK222 := n2_
         have BK223 := n3_
         have HB := n4_
         clear n0_ n1_ n2_ n3_ n4_ hb ho75
         refine hK.out _ _ ⟨(blk_cell BK222.out 0).trans rfl, (blk_cell BK222.out 1).trans rfl, (blk_cell BK221.out 0).trans rfl⟩ (fun hHeld => ?_)
         clear hK K
         refine norm_ (a' := ?_) ?_ ?_
         rotate_left
         ·show Act.put _ (some 14) _ = _
          simp only [Act.put, sa_, sz_, ss_, i64_w, i32_w]
          rfl
         refine two_ (i := 11) (j := 13) (Ni := some 18) (Nj := some 6) #[true, true, true, true, true, true, true, true, true, true, true, true, false, false, false] #[true, true, true, true, true, true, true, true, true, true, true, false, false, true, false] rfl rfl rfl rfl (two_of HT_.out (by kernel_rfl)) (by decide) (by decide) (fun K hK => ?_) (fun K hK => ?_)
         ·skip
          refine Kd.R_append_rows_step (Kd.int .i64) (w0 := w) w.heap.size (by rfl) (.tmp 14) (.tmp 17) 26 3 (.int .i64 0) 8 rfl Try.underlying26 info3 rfl (by decide) (by omega) v225 y224 (l1_1.drop 1) _ _ _ (fun _ => True) (fun _ => False) rfl rfl ?aO ?aR (fun _ _ h => h) (fun _ h => h.elim) ?aF ?aB ?aS ?aL ?_
          (case aR => first | (rw [← show (l1_1.drop 1).length = (l1_1.length - 1) from List.length_drop]; repeat (first | exact (Kd.C_below HR227.out HB.out) | (with_reducible refine Kd.C_alloc ?_ _) | (with_reducible refine Kd.C_drewN ?_ _) | (with_reducible refine Kd.C_drew ?_))) | (repeat (first | exact (Kd.C_below HR227.out HB.out) | (with_reducible refine Kd.C_alloc ?_ _) | (with_reducible refine Kd.C_drewN ?_ _) | (with_reducible refine Kd.C_drew ?_))))
          (case aB => exact (bk_ HB.out))
          (case aF => exact (fun _ _ => trivial))
          (case aO => exact (rk_ HO226.out))
          (case aS => exact (below_size (bk_ HB.out)))
          (case aL => have := LMc5.out; have hlx_ := (show (l1_1.drop 1).length = (l1_1.length - 1) from List.length_drop); omega)
          intro v229 w76 ho hb hg hat
          rw [← Ny228.out] at ho
          have n0_ := A_ (blk_grown (pk_ BK221.out) hg (Kd.R_ne HO226.out BK221.out (by decide)))
          have n1_ := A_ (blk_grown (pk_ BK222.out) hg (Kd.R_ne HO226.out BK222.out (by decide)))
          have n2_ := A_ (blk_grown (pk_ BK223.out) hg (Kd.R_ne HO226.out BK223.out (by decide)))
          have n3_ := A_ (hb)
          have n4_ := A_ (ho)
          clear BK221 BK222 BK223 HB HO226
          have BK221 := n0_
          have BK222 := n1_
          have BK223 := n2_
          have HB := n3_
          have HO230 := n4_
          clear n0_ n1_ n2_ n3_ n4_ ho hb hg hat
          obtain ⟨Ao77, co77, eo77⟩ := Kd.R_slice HO230.out
          (first | subst eo77 | (injection eo77 with f1_ f2_ f3_; have f4_ := f1_.symm; have f5_ := f3_.symm; clear f1_ f2_ f3_; subst f4_; subst f5_))
          refine hK.out _ _ ⟨(blk_cell BK222.out 0).trans rfl, (blk_cell BK222.out 1).trans rfl, (blk_cell BK221.out 0).trans rfl⟩ (fun hHeld => ?_)
          clear hK K
          refine norm_ (a' := ?_) ?_ ?_
          rotate_left
          ·show Act.put _ (some 18) _ = _
           simp only [Act.put, sa_, sz_, ss_, i64_w, i32_w]
           rfl
          refine pure_ (i := 12) (N := some 19) (v := ?_) (a' := ?_) #[true, true, true, true, true, true, true, true, true, true, true, true, true, false, false] rfl rfl (any_of HT_.out (by kernel_rfl)) (fun _ _ _ h => h) (Or.inl ⟨by rfl, ?_⟩) ?_ ?_
          rotate_left
          ·intro w'
           go_simp
           with_reducible rfl
          rotate_left
          ·simp only [Act.put, sa_, sz_, ss_, i64_w, i32_w]
           rfl
          refine one_ (i := 13) (N := some 6) #[true, true, true, true, true, true, true, true, true, true, true, true, true, true, false] rfl rfl (one_of HT_.out (by kernel_rfl)) (by decide) (fun K hK => ?_)
          refine box_step ?hg (N := 6) ?hd (cs := #[.int .i64 0, .slice none 0 0]) (t := 47) ?hr ?_; (case hd => rfl); (case hg => rfl); (case hr => first | (go_simp; done) | (go_simp; rfl))
          intro gb231 hg w78 hbox hb
          have n0_ := A_ (Kd.R_below (rk_ HO230.out) hb)
          have n1_ := A_ (blk_below (pk_ BK221.out) hb)
          have n2_ := A_ (blk_below (pk_ BK222.out) hb)
          have n3_ := A_ (blk_below (pk_ BK223.out) hb)
          have n4_ := A_ (below_step (bk_ HB.out) hb)
          have n5_ := A_ (hbox)
          have n6_ := A_ ((by rw [hg]; exact (below_size (bk_ HB.out)) : w.heap.size ≤ gb231))
          have n7_ := A_ ((by rw [hg]; exact (below_size (bk_ HB.out)) : w.heap.size ≤ gb231))
          have n8_ := A_ ((by rw [hg]; exact Nat.ne_of_lt (blk_lt (pk_ BK221.out)) : gb221 ≠ gb231))
          have n9_ := A_ ((by rw [hg]; exact Nat.ne_of_gt (blk_lt (pk_ BK221.out)) : gb231 ≠ gb221))
          have n10_ := A_ ((by rw [hg]; exact Nat.ne_of_lt (blk_lt (pk_ BK222.out)) : gb222 ≠ gb231))
          have n11_ := A_ ((by rw [hg]; exact Nat.ne_of_gt (blk_lt (pk_ BK222.out)) : gb231 ≠ gb222))
          have n12_ := A_ ((by rw [hg]; exact Nat.ne_of_lt (blk_lt (pk_ BK223.out)) : gb223 ≠ gb231))
          have n13_ := A_ ((by rw [hg]; exact Nat.ne_of_gt (blk_lt (pk_ BK223.out)) : gb231 ≠ gb223))
          clear HO230 BK221 BK222 BK223 HB
          have HO230 := n0_
          have BK221 := n1_
          have BK222 := n2_
          have BK223 := n3_
          have HB := n4_
          have BK231 := n5_
          have GW231 := n6_
          have GE231 := n7_
          have NB221_231 := n8_
          have NB231_221 := n9_
          have NB222_231 := n10_
          have NB231_222 := n11_
          have NB223_231 := n12_
          have NB231_223 := n13_
          clear n0_ n1_ n2_ n3_ n4_ n5_ n6_ n7_ n8_ n9_ n10_ n11_ n12_ n13_ hb hbox hg
          refine hK.out _ _ ⟨(blk_cell BK222.out 0).trans rfl, (blk_cell BK222.out 1).trans rfl, (blk_cell BK221.out 0).trans rfl⟩ (fun hHeld => ?_)
          clear hK K
          refine norm_ (a' := ?_) ?_ ?_
          rotate_left
          ·show Act.put _ (some 6) _ = _
           simp only [Act.put, sa_, sz_, ss_, i64_w, i32_w]
           rfl
          exact norm_ (by simp only [putAll, Act.put, List.setIfInBounds_toArray, List.set_cons_zero, List.set_cons_succ]) (hCont (v225, .slice Ao77 y228.length co77, gb231) _ ⟨hHeld, (rk_ HO230.out), (pk_ BK221.out), (pk_ BK222.out), (pk_ BK223.out), (pk_ BK231.out), GW231.out, GE231.out, NB221_231.out, NB231_221.out, NB222_231.out, NB231_222.out, NB223_231.out, NB231_223.out, (bk_ HB.out)⟩)
         ·skip
          refine box_step ?hg (N := 6) ?hd (cs := #[.int .i64 0, .slice none 0 0]) (t := 47) ?hr ?_; (case hd => rfl); (case hg => rfl); (case hr => first | (go_simp; done) | (go_simp; rfl))
          intro gb231 hg w76 hbox hb
          have n0_ := A_ (Kd.R_below (rk_ HO226.out) hb)
          have n1_ := A_ (blk_below (pk_ BK221.out) hb)
          have n2_ := A_ (blk_below (pk_ BK222.out) hb)
          have n3_ := A_ (blk_below (pk_ BK223.out) hb)
          have n4_ := A_ (below_step (bk_ HB.out) hb)
          have n5_ := A_ (hbox)
          have n6_ := A_ ((by rw [hg]; exact (below_size (bk_ HB.out)) : w.heap.size ≤ gb231))
          have n7_ := A_ ((by rw [hg]; exact (below_size (bk_ HB.out)) : w.heap.size ≤ gb231))
          have n8_ := A_ ((by rw [hg]; exact Nat.ne_of_lt (blk_lt (pk_ BK221.out)) : gb221 ≠ gb231))
          have n9_ := A_ ((by rw [hg]; exact Nat.ne_of_gt (blk_lt (pk_ BK221.out)) : gb231 ≠ gb221))
          have n10_ := A_ ((by rw [hg]; exact Nat.ne_of_lt (blk_lt (pk_ BK222.out)) : gb222 ≠ gb231))
          have n11_ := A_ ((by rw [hg]; exact Nat.ne_of_gt (blk_lt (pk_ BK222.out)) : gb231 ≠ gb222))
          have n12_ := A_ ((by rw [hg]; exact Nat.ne_of_lt (blk_lt (pk_ BK223.out)) : gb223 ≠ gb231))
          have n13_ := A_ ((by rw [hg]; exact Nat.ne_of_gt (blk_lt (pk_ BK223.out)) : gb231 ≠ gb223))
          clear HO226 BK221 BK222 BK223 HB
          have HO226 := n0_
          have BK221 := n1_
          have BK222 := n2_
          have BK223 := n3_
          have HB := n4_
          have BK231 := n5_
          have GW231 := n6_
          have GE231 := n7_
          have NB221_231 := n8_
          have NB231_221 := n9_
          have NB222_231 := n10_
          have NB231_222 := n11_
          have NB223_231 := n12_
          have NB231_223 := n13_
          clear n0_ n1_ n2_ n3_ n4_ n5_ n6_ n7_ n8_ n9_ n10_ n11_ n12_ n13_ hb hbox hg
          refine hK.out _ _ ⟨(blk_cell BK222.out 0).trans rfl, (blk_cell BK222.out 1).trans rfl, (blk_cell BK221.out 0).trans rfl⟩ (fun hHeld => ?_)
          clear hK K
          refine norm_ (a' := ?_) ?_ ?_
          rotate_left
          ·show Act.put _ (some 6) _ = _
           simp only [Act.put, sa_, sz_, ss_, i64_w, i32_w]
           rfl
          refine one_ (i := 11) (N := some 18) #[true, true, true, true, true, true, true, true, true, true, true, true, false, true, false] rfl rfl (one_of HT_.out (by kernel_rfl)) (by decide) (fun K hK => ?_)
          refine Kd.R_append_rows_step (Kd.int .i64) (w0 := w) w.heap.size (by rfl) (.tmp 14) (.tmp 17) 26 3 (.int .i64 0) 8 rfl Try.underlying26 info3 rfl (by decide) (by omega) v225 y224 (l1_1.drop 1) _ _ _ (fun _ => True) (fun _ => False) rfl rfl ?aO ?aR (fun _ _ h => h) (fun _ h => h.elim) ?aF ?aB ?aS ?aL ?_
          (case aR => first | (rw [← show (l1_1.drop 1).length = (l1_1.length - 1) from List.length_drop]; repeat (first | exact (Kd.C_below HR227.out HB.out) | (with_reducible refine Kd.C_alloc ?_ _) | (with_reducible refine Kd.C_drewN ?_ _) | (with_reducible refine Kd.C_drew ?_))) | (repeat (first | exact (Kd.C_below HR227.out HB.out) | (with_reducible refine Kd.C_alloc ?_ _) | (with_reducible refine Kd.C_drewN ?_ _) | (with_reducible refine Kd.C_drew ?_))))
          (case aB => exact (bk_ HB.out))
          (case aF => exact (fun _ _ => trivial))
          (case aO => exact (rk_ HO226.out))
          (case aS => exact (below_size (bk_ HB.out)))
          (case aL => have := LMc5.out; have hlx_ := (show (l1_1.drop 1).length = (l1_1.length - 1) from List.length_drop); omega)
          intro v229 w77 ho hb hg hat
          rw [← Ny228.out] at ho
          have n0_ := A_ (blk_grown (pk_ BK221.out) hg (Kd.R_ne HO226.out BK221.out (by decide)))
          have n1_ := A_ (blk_grown (pk_ BK222.out) hg (Kd.R_ne HO226.out BK222.out (by decide)))
          have n2_ := A_ (blk_grown (pk_ BK223.out) hg (Kd.R_ne HO226.out BK223.out (by decide)))
          have n3_ := A_ (blk_grown (pk_ BK231.out) hg (Kd.R_ne HO226.out BK231.out (by decide)))
          have n4_ := A_ (hb)
          have n5_ := A_ (ho)
          clear BK221 BK222 BK223 BK231 HB HO226
          have BK221 := n0_
          have BK222 := n1_
          have BK223 := n2_
          have BK231 := n3_
          have HB := n4_
          have HO230 := n5_
          clear n0_ n1_ n2_ n3_ n4_ n5_ ho hb hg hat
          obtain ⟨Ao78, co78, eo78⟩ := Kd.R_slice HO230.out
          (first | subst eo78 | (injection eo78 with f1_ f2_ f3_; have f4_ := f1_.symm; have f5_ := f3_.symm; clear f1_ f2_ f3_; subst f4_; subst f5_))
          refine hK.out _ _ ⟨(blk_cell BK222.out 0).trans rfl, (blk_cell BK222.out 1).trans rfl, (blk_cell BK221.out 0).trans rfl⟩ (fun hHeld => ?_)
          clear hK K
          refine norm_ (a' := ?_) ?_ ?_
          rotate_left
          ·show Act.put _ (some 18) _ = _
           simp only [Act.put, sa_, sz_, ss_, i64_w, i32_w]
           rfl
          refine pure_ (i := 12) (N := some 19) (v := ?_) (a' := ?_) #[true, true, true, true, true, true, true, true, true, true, true, true, true, true, false] rfl rfl (any_of HT_.out (by kernel_rfl)) (fun _ _ _ h => h) (Or.inl ⟨by rfl, ?_⟩) ?_ ?_
          rotate_left
          ·intro w'
           go_simp
           with_reducible rfl
          rotate_left
          ·simp only [Act.put, sa_, sz_, ss_, i64_w, i32_w]
           rfl
          exact norm_ (by simp only [putAll, Act.put, List.setIfInBounds_toArray, List.set_cons_zero, List.set_cons_succ]) (hCont (v225, .slice Ao78 y228.length co78, gb231) _ ⟨hHeld, (rk_ HO230.out), (pk_ BK221.out), (pk_ BK222.out), (pk_ BK223.out), (pk_ BK231.out), GW231.out, GE231.out, NB221_231.out, NB231_221.out, NB222_231.out, NB231_222.out, NB223_231.out, NB231_223.out, (bk_ HB.out)⟩)
        ·skip
         refine box_step ?hg (N := 6) ?hd (cs := #[.int .i64 0, .slice none 0 0]) (t := 47) ?hr ?_; (case hd => rfl); (case hg => rfl); (case hr => first | (go_simp; done) | (go_simp; rfl))
         intro gb231 hg w74 hbox hb
         have n0_ := A_ (blk_below (pk_ BK221.out) hb)
         have n1_ := A_ (blk_below (pk_ BK222.out) hb)
         have n2_ := A_ (blk_below (pk_ BK223.out) hb)
         have n3_ := A_ (below_step (bk_ HB.out) hb)
         have n4_ := A_ (hbox)
         have n5_ := A_ ((by rw [hg]; exact (below_size (bk_ HB.out)) : w.heap.size ≤ gb231))
         have n6_ := A_ ((by rw [hg]; exact (below_size (bk_ HB.out)) : w.heap.size ≤ gb231))
         have n7_ := A_ ((by rw [hg]; exact Nat.ne_of_lt (blk_lt (pk_ BK221.out)) : gb221 ≠ gb231))
         have n8_ := A_ ((by rw [hg]; exact Nat.ne_of_gt (blk_lt (pk_ BK221.out)) : gb231 ≠ gb221))
         have n9_ := A_ ((by rw [hg]; exact Nat.ne_of_lt (blk_lt (pk_ BK222.out)) : gb222 ≠ gb231))
         have n10_ := A_ ((by rw [hg]; exact Nat.ne_of_gt (blk_lt (pk_ BK222.out)) : gb231 ≠ gb222))
         have n11_ := A_ ((by rw [hg]; exact Nat.ne_of_lt (blk_lt (pk_ BK223.out)) : gb223 ≠ gb231))
         have n12_ := A_ ((by rw [hg]; exact Nat.ne_of_gt (blk_lt (pk_ BK223.out)) : gb231 ≠ gb223))
         clear BK221 BK222 BK223 HB
         have BK221 := n0_
         have BK222 := n1_
         have BK223 := n2_
         have HB := n3_
         have BK231 := n4_
         have GW231 := n5_
         have GE231 := n6_
         have NB221_231 := n7_
         have NB231_221 := n8_
         have NB222_231 := n9_
         have NB231_222 := n10_
         have NB223_231 := n11_
         have NB231_223 := n12_
         clear n0_ n1_ n2_ n3_ n4_ n5_ n6_ n7_ n8_ n9_ n10_ n11_ n12_ hb hbox hg
         refine hK.out _ _ ⟨(blk_cell BK222.out 0).trans rfl, (blk_cell BK222.out 1).trans rfl, (blk_cell BK221.out 0).trans rfl⟩ (fun hHeld => ?_)
         clear hK K
         refine norm_ (a' := ?_) ?_ ?_
         rotate_left
         ·show Act.put _ (some 6) _ = _
          simp only [Act.put, sa_, sz_, ss_, i64_w, i32_w]
          rfl
         refine one_ (i := 7) (N := some 14) #[true, true, true, true, true, true, true, true, true, true, true, false, false, true, false] rfl rfl (one_of HT_.out (by kernel_rfl)) (by decide) (fun K hK => ?_)
         refine Kd.R_lit_step (Kd.int .i64) _ 3 ?hg (N := 14) ?hd (xs := ([] : List Int)) (inner := []) (ok := fun _ => True) (okp := fun _ => True) ?hr ?hp (fun _ hk => hk) trivial (Below.refl _ _) (Nat.le_refl _) (by simp) ?_; (case hd => rfl); (case hg => rfl); (case hr => first | (go_simp; done) | (go_simp; rfl)); (case hp => exact (Reps.none _ _))
         intro v225 w75 ho76 hb hg_ hnew_
         clear hg_ hnew_
         (first | rw [← Ny224.out] at ho76 | (simp only [Int.reduceToNat] at ho76; rw [← Ny224.out] at ho76))
         have n0_ := A_ (Kd.R_lower ho76 (below_size (bk_ HB.out)))
         have n1_ := A_ (blk_below (pk_ BK221.out) hb)
         have n2_ := A_ (blk_below (pk_ BK222.out) hb)
         have n3_ := A_ (blk_below (pk_ BK223.out) hb)
         have n4_ := A_ (blk_below (pk_ BK231.out) hb)
         have n5_ := A_ (below_step (bk_ HB.out) hb)
         clear BK221 BK222 BK223 BK231 HB
         have HO226 := n0_
         have BK221 := n1_
         have BK222 := n2_
         have BK223 := n3_
         have BK231 := n4_
         have HB := n5_
         clear n0_ n1_ n2_ n3_ n4_ n5_ hb ho76
         refine hK.out _ _ ⟨(blk_cell BK222.out 0).trans rfl, (blk_cell BK222.out 1).trans rfl, (blk_cell BK221.out 0).trans rfl⟩ (fun hHeld => ?_)
         clear hK K
         refine norm_ (a' := ?_) ?_ ?_
         rotate_left
         ·show Act.put _ (some 14) _ = _
          simp only [Act.put, sa_, sz_, ss_, i64_w, i32_w]
          rfl
         refine one_ (i := 11) (N := some 18) #[true, true, true, true, true, true, true, true, true, true, true, true, false, true, false] rfl rfl (one_of HT_.out (by kernel_rfl)) (by decide) (fun K hK => ?_)
         refine Kd.R_append_rows_step (Kd.int .i64) (w0 := w) w.heap.size (by rfl) (.tmp 14) (.tmp 17) 26 3 (.int .i64 0) 8 rfl Try.underlying26 info3 rfl (by decide) (by omega) v225 y224 (l1_1.drop 1) _ _ _ (fun _ => True) (fun _ => False) rfl rfl ?aO ?aR (fun _ _ h => h) (fun _ h => h.elim) ?aF ?aB ?aS ?aL ?_
         (case aR => first | (rw [← show (l1_1.drop 1).length = (l1_1.length - 1) from List.length_drop]; repeat (first | exact (Kd.C_below HR227.out HB.out) | (with_reducible refine Kd.C_alloc ?_ _) | (with_reducible refine Kd.C_drewN ?_ _) | (with_reducible refine Kd.C_drew ?_))) | (repeat (first | exact (Kd.C_below HR227.out HB.out) | (with_reducible refine Kd.C_alloc ?_ _) | (with_reducible refine Kd.C_drewN ?_ _) | (with_reducible refine Kd.C_drew ?_))))
         (case aB => exact (bk_ HB.out))
         (case aF => exact (fun _ _ => trivial))
         (case aO => exact (rk_ HO226.out))
         (case aS => exact (below_size (bk_ HB.out)))
         (case aL => have := LMc5.out; have hlx_ := (show (l1_1.drop 1).length = (l1_1.length - 1) from List.length_drop); omega)
         intro v229 w77 ho hb hg hat
         rw [← Ny228.out] at ho
         have n0_ := A_ (blk_grown (pk_ BK221.out) hg (Kd.R_ne HO226.out BK221.out (by decide)))
         have n1_ := A_ (blk_grown (pk_ BK222.out) hg (Kd.R_ne HO226.out BK222.out (by decide)))
         have n2_ := A_ (blk_grown (pk_ BK223.out) hg (Kd.R_ne HO226.out BK223.out (by decide)))
         have n3_ := A_ (blk_grown (pk_ BK231.out) hg (Kd.R_ne HO226.out BK231.out (by decide)))
         have n4_ := A_ (hb)
         have n5_ := A_ (ho)
         clear BK221 BK222 BK223 BK231 HB HO226
         have BK221 := n0_
         have BK222 := n1_
         have BK223 := n2_
         have BK231 := n3_
         have HB := n4_
         have HO230 := n5_
         clear n0_ n1_ n2_ n3_ n4_ n5_ ho hb hg hat
         obtain ⟨Ao78, co78, eo78⟩ := Kd.R_slice HO230.out
         (first | subst eo78 | (injection eo78 with f1_ f2_ f3_; have f4_ := f1_.symm; have f5_ := f3_.symm; clear f1_ f2_ f3_; subst f4_; subst f5_))
         refine hK.out _ _ ⟨(blk_cell BK222.out 0).trans rfl, (blk_cell BK222.out 1).trans rfl, (blk_cell BK221.out 0).trans rfl⟩ (fun hHeld => ?_)
         clear hK K
         refine norm_ (a' := ?_) ?_ ?_
         rotate_left
         ·show Act.put _ (some 18) _ = _
          simp only [Act.put, sa_, sz_, ss_, i64_w, i32_w]
          rfl
         refine pure_ (i := 12) (N := some 19) (v := ?_) (a' := ?_) #[true, true, true, true, true, true, true, true, true, true, true, true, true, true, false] rfl rfl (any_of HT_.out (by kernel_rfl)) (fun _ _ _ h => h) (Or.inl ⟨by rfl, ?_⟩) ?_ ?_
         rotate_left
         ·intro w'
          go_simp
          with_reducible rfl
         rotate_left
         ·simp only [Act.put, sa_, sz_, ss_, i64_w, i32_w]
          rfl
         exact norm_ (by simp only [putAll, Act.put, List.setIfInBounds_toArray, List.set_cons_zero, List.set_cons_succ]) (hCont (v225, .slice Ao78 y228.length co78, gb231) _ ⟨hHeld, (rk_ HO230.out), (pk_ BK221.out), (pk_ BK222.out), (pk_ BK223.out), (pk_ BK231.out), GW231.out, GE231.out, NB221_231.out, NB231_221.out, NB222_231.out, NB231_222.out, NB223_231.out, NB231_223.out, (bk_ HB.out)⟩)
       rintro ⟨v225, v229, gb231⟩ w79 ⟨hS_, h0_, h1_, h2_, h3_, h4_, h5_, h6_, h7_, h8_, h9_, h10_, h11_, h12_, h13_⟩
       have n0_ : Aside0 (Kd.R (Kd.int .i64) 3 w79 w.heap.size (fun _ => True) v229 y228) := ⟨h0_⟩
       have n1_ : Aside0 (w79.heap[gb221]? = some (.cells #[.slice A0_0 l0_0.length c0_0] 45 (0, 0))) := ⟨h1_⟩
       have n2_ : Aside0 (w79.heap[gb222]? = some (.cells #[.int .i64 a1_0, .slice A1_1 l1_1.length c1_1] 47 (0, 0))) := ⟨h2_⟩
       have n3_ : Aside0 (w79.heap[gb223]? = some (.cells #[.int .i64 0, .slice none 0 0] 47 (0, 0))) := ⟨h3_⟩
       have n4_ : Aside0 (w79.heap[gb231]? = some (.cells #[.int .i64 0, .slice none 0 0] 47 (0, 0))) := ⟨h4_⟩
       have n5_ : Aside0 (w.heap.size ≤ gb231) := ⟨h5_⟩
       have n6_ : Aside0 (w.heap.size ≤ gb231) := ⟨h6_⟩
       have n7_ : Aside0 (gb221 ≠ gb231) := ⟨h7_⟩
       have n8_ : Aside0 (gb231 ≠ gb221) := ⟨h8_⟩
       have n9_ : Aside0 (gb222 ≠ gb231) := ⟨h9_⟩
       have n10_ : Aside0 (gb231 ≠ gb222) := ⟨h10_⟩
       have n11_ : Aside0 (gb223 ≠ gb231) := ⟨h11_⟩
       have n12_ : Aside0 (gb231 ≠ gb223) := ⟨h12_⟩
       have n13_ : Aside0 (Below w.heap.size w w79) := ⟨h13_⟩
       clear BK221 BK222 BK223 HB h0_ h1_ h2_ h3_ h4_ h5_ h6_ h7_ h8_ h9_ h10_ h11_ h12_ h13_
       have HO230 := n0_
       have BK221 := n1_
       have BK222 := n2_
       have BK223 := n3_
       have BK231 := n4_
       have GW231 := n5_
       have GE231 := n6_
       have NB221_231 := n7_
       have NB231_221 := n8_
       have NB222_231 := n9_
       have NB231_222 := n10_
       have NB223_231 := n11_
       have NB231_223 := n12_
       have HB := n13_
       clear n0_ n1_ n2_ n3_ n4_ n5_ n6_ n7_ n8_ n9_ n10_ n11_ n12_ n13_
       have hHeld : w79.cell? ⟨gb222, 0, none⟩ = some (.int .i64 a1_0) ∧ w79.cell? ⟨gb222, 1, none⟩ = some (.slice A1_1 l1_1.length c1_1) ∧ w79.cell? ⟨gb221, 0, none⟩ = some (.slice A0_0 l0_0.length c0_0) := hS_
       obtain ⟨Ao80, co80, eo80⟩ := Kd.R_slice HO230.out
       (first | subst eo80 | (injection eo80 with f1_ f2_ f3_; have f4_ := f1_.symm; have f5_ := f3_.symm; clear f1_ f2_ f3_; subst f4_; subst f5_))
       refine norm_ (a' := ?_) ?_ ?_
       rotate_left
       ·simp only [putAll, Act.put, List.setIfInBounds_toArray, List.set_cons_zero, List.set_cons_succ]
        rfl
       refine one_ (i := 14) (N := none) #[true, true, true, true, true, true, true, true, true, true, true, true, true, true, true] rfl rfl (one_of HT_.out (by kernel_rfl)) (by decide) (fun K hK => ?_)
       have hs81 : w79.cell? ⟨gb231, 0, none⟩ = some (.int .i64 0) := (blk_cell BK231.out 0).trans rfl
       have hfs81 := blk_frozen BK231.out 0
       have hns81_0 := NB221_231.out
       have hns81_1 := NB222_231.out
       have hns81_2 := NB223_231.out
       have hms81_0 := NB231_221.out
       have hms81_1 := NB231_222.out
       have hms81_2 := NB231_223.out
       have hs82 : w79.cell? ⟨gb231, 1, none⟩ = some (.slice none 0 0) := (blk_cell BK231.out 1).trans rfl
       have hfs82 := blk_frozen BK231.out 1
       have hns82_0 := NB221_231.out
       have hns82_1 := NB222_231.out
       have hns82_2 := NB223_231.out
       have hms82_0 := NB231_221.out
       have hms82_1 := NB231_222.out
       have hms82_2 := NB231_223.out
       refine skip_ (w1 := ?_) (by rfl) rfl ?_ ?_
       rotate_left
       ·go_simp
        rfl
       refine hK.out _ _ ⟨((cell_far (p := ⟨gb231, _, none⟩) NB222_231.out _).trans (((cell_far (p := ⟨gb231, _, none⟩) NB222_231.out _).trans (hHeld.1)))), ((cell_far (p := ⟨gb231, _, none⟩) NB222_231.out _).trans (((cell_far (p := ⟨gb231, _, none⟩) NB222_231.out _).trans (hHeld.2.1)))), ((cell_far (p := ⟨gb231, _, none⟩) NB221_231.out _).trans (((cell_far (p := ⟨gb231, _, none⟩) NB221_231.out _).trans (hHeld.2.2))))⟩ (fun hHeld => ?_)
       clear hK K
       refine done_ (done_of HT_.out (by kernel_rfl)) ?_
       have hnb83 := NB222_221.out
       have hnc83 := NB221_222.out
       have hnb84 := NB222_223.out
       have hnc84 := NB223_222.out
       have hnb85 := NB222_231.out
       have hnc85 := NB231_222.out
       have hcz86_0 : w79.cell? ⟨gb222, 0, none⟩ = some (.int .i64 a1_0) := (blk_cell BK222.out 0).trans rfl
       have hcz86_1 : w79.cell? ⟨gb222, 1, none⟩ = some (.slice A1_1 l1_1.length c1_1) := (blk_cell BK222.out 1).trans rfl
       have hfz86_0 := blk_frozen BK222.out 0
       have hfz86_1 := blk_frozen BK222.out 1
       have p232 : 0 ≤ (0 : Int) := (by omega)
       have q232 : 0 < (l1_1.length : Int) := od_
       obtain ⟨ad232, e232, hx232_0⟩ := Kd.at_int HR1_1.out 0 p232 q232
       cases e232
       have qi232 : (0 < l1_1.length) = True := eq_true (by omega)
       (try rw [show ((0 : Int)).toNat = 0 from rfl] at hx232_0)
       (try rw [Addr.add_zero'] at hx232_0)
       have hn232_0 : ad232.block ≠ gb231 := Nat.ne_of_lt (Nat.lt_of_lt_of_le (by have := World.block_lt_of_cell? _ _ hx232_0; first | rwa [add_block] at this | exact this) GW231.out)
       have hn232_1 : ad232.block ≠ gb231 := Nat.ne_of_lt (Nat.lt_of_lt_of_le (by have := World.block_lt_of_cell? _ _ hx232_0; first | rwa [add_block] at this | exact this) GW231.out)
       replace hx232_0 := lf_ HB.out hx232_0
       replace hx232_0 := (cell_far (p := ⟨gb231, 0, none⟩) (by first | (rw [add_block]; exact hn232_0) | (show (Addr.add _ _).block ≠ _; rw [add_block]; exact hn232_0) | exact hn232_0) (.int .i64 (Int.tmod (wrap64 (a1_0 + 1)) (l0_0.length : Int)))).trans hx232_0
       replace hx232_0 := (cell_far (p := ⟨gb231, 1, none⟩) (by first | (rw [add_block]; exact hn232_1) | (show (Addr.add _ _).block ≠ _; rw [add_block]; exact hn232_1) | exact hn232_1) (.slice Ao80 y228.length co80)).trans hx232_0
       clear hn232_0 hn232_1
       replace p232 := eq_true p232
       replace q232 := eq_true q232
       have hnb87 := NB231_221.out
       have hnc87 := NB221_231.out
       have hnb88 := NB231_223.out
       have hnc88 := NB223_231.out
       have hcz89_0 : w79.cell? ⟨gb231, 0, none⟩ = some (.int .i64 0) := (blk_cell BK231.out 0).trans rfl
       have hcz89_1 : w79.cell? ⟨gb231, 1, none⟩ = some (.slice none 0 0) := (blk_cell BK231.out 1).trans rfl
       have hfz89_0 := blk_frozen BK231.out 0
       have hfz89_1 := blk_frozen BK231.out 1
       have hnb90 := NB223_221.out
       have hnc90 := NB221_223.out
       have hcz91_0 : w79.cell? ⟨gb223, 0, none⟩ = some (.int .i64 0) := (blk_cell BK223.out 0).trans rfl
       have hcz91_1 : w79.cell? ⟨gb223, 1, none⟩ = some (.slice none 0 0) := (blk_cell BK223.out 1).trans rfl
       have hfz91_0 := blk_frozen BK223.out 0
       have hfz91_1 := blk_frozen BK223.out 1
       try go_wp2
       refine bodyPost_ret (results_ct rfl _ _ gb223 47 #[.int .i64 0, .slice none 0 0] (0, 0) _ rfl (by refine pk_ ?_; refine blk_put (cs := #[.int .i64 0, .slice none 0 0]) ?_ 1 _ rfl; refine pk_ ?_; refine blk_put (cs := #[.int .i64 0, .slice none 0 0]) ?_ 0 _ rfl; refine pk_ ?_; refine blk_far ?_ NB223_231.out _; refine pk_ ?_; refine blk_far ?_ NB223_231.out _; exact pk_ BK223.out) Try.underlying47 rfl (by kernel_rfl)) rfl ?_
       exact ⟨_, er_, by first | exact Kd.R_nil _ _ _ _ _ | exact Kd.N_nil _ _ _ _ _ | exact Kd.V_nil _ _ _ _ _ | exact Kd.Q_nil _ _ _ _ _ | exact Kd.S_nil _ _ _ _ _, bk_ HB.out⟩
      ·rw [if_neg c68] at H
       have c68b0 : decide (1000000 < (y228.length : Int)) = false := decide_eq_false c68
       have c68b1 : decide (1000000 < y228.length) = false := decide_eq_false (by omega)
       clear c68
       simp only [Option.some.injEq, Prod.mk.injEq] at H
       obtain ⟨rfl, rfl, rfl⟩ := H
       go_enter Try.func31, Try.ntmps31
       try go_wp2_with (first | ((with_reducible refine gate_dst (N := 2) rfl ?_); refine box_event ?hg (N := 2) ?hd (cs := #[.slice A0_0 l0_0.length c0_0]) (t := 45) ?hr ?_; (case hd => rfl); (case hg => rfl); (case hr => first | (go_simp; done) | (go_simp; rfl)); intro gb221 hg w92 hbox hb; have n0_ := A_ (below_step (bk_ HB.out) hb); have n1_ := A_ (hbox); have n2_ := A_ ((by rw [hg]; exact (below_size (bk_ HB.out)) : w.heap.size ≤ gb221)); have n3_ := A_ ((by rw [hg]; exact (below_size (bk_ HB.out)) : w.heap.size ≤ gb221)); clear HB; have HB := n0_; have BK221 := n1_; have GW221 := n2_; have GE221 := n3_; clear n0_ n1_ n2_ n3_ hb hbox hg) | ((with_reducible refine gate_dst (N := 3) rfl ?_); refine box_event ?hg (N := 3) ?hd (cs := #[.int .i64 a1_0, .slice A1_1 l1_1.length c1_1]) (t := 47) ?hr ?_; (case hd => rfl); (case hg => rfl); (case hr => first | (go_simp; done) | (go_simp; rfl)); intro gb222 hg w93 hbox hb; have n0_ := A_ (blk_below (pk_ BK221.out) hb); have n1_ := A_ (below_step (bk_ HB.out) hb); have n2_ := A_ (hbox); have n3_ := A_ ((by rw [hg]; exact (below_size (bk_ HB.out)) : w.heap.size ≤ gb222)); have n4_ := A_ ((by rw [hg]; exact (below_size (bk_ HB.out)) : w.heap.size ≤ gb222)); have n5_ := A_ ((by rw [hg]; exact Nat.ne_of_lt (blk_lt (pk_ BK221.out)) : gb221 ≠ gb222)); have n6_ := A_ ((by rw [hg]; exact Nat.ne_of_gt (blk_lt (pk_ BK221.out)) : gb222 ≠ gb221)); clear BK221 HB; have BK221 := n0_; have HB := n1_; have BK222 := n2_; have GW222 := n3_; have GE222 := n4_; have NB221_222 := n5_; have NB222_221 := n6_; clear n0_ n1_ n2_ n3_ n4_ n5_ n6_ hb hbox hg) | ((with_reducible refine gate_dst (N := 4) rfl ?_); refine box_event ?hg (N := 4) ?hd (cs := #[.int .i64 0, .slice none 0 0]) (t := 47) ?hr ?_; (case hd => rfl); (case hg => rfl); (case hr => first | (go_simp; done) | (go_simp; rfl)); intro gb223 hg w94 hbox hb; have n0_ := A_ (blk_below (pk_ BK221.out) hb); have n1_ := A_ (blk_below (pk_ BK222.out) hb); have n2_ := A_ (below_step (bk_ HB.out) hb); have n3_ := A_ (hbox); have n4_ := A_ ((by rw [hg]; exact (below_size (bk_ HB.out)) : w.heap.size ≤ gb223)); have n5_ := A_ ((by rw [hg]; exact (below_size (bk_ HB.out)) : w.heap.size ≤ gb223)); have n6_ := A_ ((by rw [hg]; exact Nat.ne_of_lt (blk_lt (pk_ BK221.out)) : gb221 ≠ gb223)); have n7_ := A_ ((by rw [hg]; exact Nat.ne_of_gt (blk_lt (pk_ BK221.out)) : gb223 ≠ gb221)); have n8_ := A_ ((by rw [hg]; exact Nat.ne_of_lt (blk_lt (pk_ BK222.out)) : gb222 ≠ gb223)); have n9_ := A_ ((by rw [hg]; exact Nat.ne_of_gt (blk_lt (pk_ BK222.out)) : gb223 ≠ gb222)); clear BK221 BK222 HB; have BK221 := n0_; have BK222 := n1_; have HB := n2_; have BK223 := n3_; have GW223 := n4_; have GE223 := n5_; have NB221_223 := n6_; have NB223_221 := n7_; have NB222_223 := n8_; have NB223_222 := n9_; clear n0_ n1_ n2_ n3_ n4_ n5_ n6_ n7_ n8_ n9_ hb hbox hg))
       have n0_ := A_ (blk_drew BK221.out)
       have n1_ := A_ (blk_drew BK222.out)
       have n2_ := A_ (blk_drew BK223.out)
       have n3_ := A_ (below_drew1 HB.out)
       clear BK221 BK222 BK223 HB
       have BK221 := n0_
       have BK222 := n1_
       have BK223 := n2_
       have HB := n3_
       clear n0_ n1_ n2_ n3_
       obtain ⟨i096, hi096, _, hsz96, _⟩ := info_parts info3
       (try clear hcut73)
       obtain ⟨A96, hcut96, hA96, hC96⟩ := print_drop_of (P := Try.prog) (Value.int .i64) 0 26 3 .i64 Try.underlying26 hi096 hsz96 A1_1 c1_1 l1_1 1 (by omega) (od_) HC1_1.out
       have HR227 := A_ (Kd.C_of_reads (h1 := fun _ => rfl) (hA96 _ (Kd.reads_of_C HR1_1.out)))
       have HC227 := Aside0.mk hC96
       clear hA96 hC96 hi096 hsz96
       refine start_ (n := 15) (S := fun w' => w'.cell? ⟨gb222, 0, none⟩ = some (.int .i64 a1_0) ∧ w'.cell? ⟨gb222, 1, none⟩ = some (.slice A1_1 l1_1.length c1_1) ∧ w'.cell? ⟨gb221, 0, none⟩ = some (.slice A0_0 l0_0.length c0_0)) (ds := []) #[false, false, false, false, false, false, false, false, false, false, false, false, false, false, false] (by kernel_rfl) rfl rfl ⟨(blk_cell BK222.out 0).trans rfl, (blk_cell BK222.out 1).trans rfl, (blk_cell BK221.out 0).trans rfl⟩ (fun hHeld => ?_); refine with_tabW standstillref07_Turn.tab1 standstillref07_Turn.bits1 (fun HT_ HW_ => ?_)
       generalize w94.drew = w95 at BK221 BK222 BK223 HB HR227 hHeld ⊢
       refine pure_ (i := 0) (N := some 7) (v := ?_) (a' := ?_) #[true, false, false, false, false, false, false, false, false, false, false, false, false, false, false] rfl rfl (any_of HT_.out (by kernel_rfl)) (fun _ _ _ h => h) (Or.inl ⟨by rfl, ?_⟩) ?_ ?_
       rotate_left
       ·intro w'
        go_simp
        with_reducible rfl
       rotate_left
       ·simp only [Act.put, sa_, sz_, ss_, i64_w, i32_w]
        rfl
       refine pure_ (i := 3) (N := some 10) (v := ?_) (a' := ?_) #[true, false, false, true, false, false, false, false, false, false, false, false, false, false, false] rfl rfl (any_of HT_.out (by kernel_rfl)) (fun _ _ _ h => h) (Or.inl ⟨by rfl, ?_⟩) ?_ ?_
       rotate_left
       ·intro w'
        go_simp
        with_reducible rfl
       rotate_left
       ·simp only [Act.put, sa_, sz_, ss_, i64_w, i32_w]
        rfl
       refine pure_ (i := 8) (N := some 15) (v := ?_) (a' := ?_) #[true, false, false, true, false, false, false, false, true, false, false, false, false, false, false] rfl rfl (any_of HT_.out (by kernel_rfl)) (fun _ _ _ h => h) (Or.inl ⟨by rfl, ?_⟩) ?_ ?_
       rotate_left
       ·intro w'
        go_simp
        with_reducible rfl
       rotate_left
       ·simp only [Act.put, sa_, sz_, ss_, i64_w, i32_w]
        rfl
       refine take_ (i := 1) (N := some 8) (v := ?_) (a' := ?_) #[true, true, false, true, false, false, false, false, true, false, false, false, false, false, false] rfl rfl (take_ofW HT_.out HW_.out (by kernel_rfl)) (fun _ _ _ h => h) (Or.inl ⟨by rfl, ?_⟩) hHeld ?_ ?_
       rotate_left
       ·rintro w' ⟨s0, s1, s2⟩
        go_simp
        with_reducible rfl
       rotate_left
       ·simp only [Act.put, sa_, sz_, ss_, i64_w, i32_w]
        rfl
       refine pure_ (i := 2) (N := some 9) (v := ?_) (a' := ?_) #[true, true, true, true, false, false, false, false, true, false, false, false, false, false, false] rfl rfl (any_of HT_.out (by kernel_rfl)) (fun _ _ _ h => h) (Or.inl ⟨by rfl, ?_⟩) ?_ ?_
       rotate_left
       ·intro w'
        go_simp
        with_reducible rfl
       rotate_left
       ·simp only [Act.put, sa_, sz_, ss_, i64_w, i32_w]
        rfl
       refine take_ (i := 4) (N := some 11) (v := ?_) (a' := ?_) #[true, true, true, true, true, false, false, false, true, false, false, false, false, false, false] rfl rfl (take_ofW HT_.out HW_.out (by kernel_rfl)) (fun _ _ _ h => h) (Or.inl ⟨by rfl, ?_⟩) hHeld ?_ ?_
       rotate_left
       ·rintro w' ⟨s0, s1, s2⟩
        go_simp
        with_reducible rfl
       rotate_left
       ·simp only [Act.put, sa_, sz_, ss_, i64_w, i32_w]
        rfl
       refine pure_ (i := 5) (N := some 12) (v := ?_) (a' := ?_) #[true, true, true, true, true, true, false, false, true, false, false, false, false, false, false] rfl rfl (any_of HT_.out (by kernel_rfl)) (fun _ _ _ h => h) (Or.inl ⟨by rfl, ?_⟩) ?_ ?_
       rotate_left
       ·intro w'
        go_simp
        with_reducible rfl
       rotate_left
       ·simp only [Act.put, sa_, sz_, ss_, i64_w, i32_w]
        rfl
       refine pure_ (i := 6) (N := some 13) (v := ?_) (a' := ?_) #[true, true, true, true, true, true, true, false, true, false, false, false, false, false, false] rfl rfl (any_of HT_.out (by kernel_rfl)) (fun _ _ _ h => h) (Or.inl ⟨by rfl, ?_⟩) ?_ ?_
       rotate_left
       ·intro w'
        go_simp
        with_reducible rfl
       rotate_left
       ·simp only [Act.put, sa_, sz_, ss_, i64_w, i32_w]
        rfl
       refine take_ (i := 9) (N := some 16) (v := ?_) (a' := ?_) #[true, true, true, true, true, true, true, false, true, true, false, false, false, false, false] rfl rfl (take_ofW HT_.out HW_.out (by kernel_rfl)) (fun _ _ _ h => h) (Or.inl ⟨by rfl, ?_⟩) hHeld ?_ ?_
       rotate_left
       ·rintro w' ⟨s0, s1, s2⟩
        go_simp
        with_reducible rfl
       rotate_left
       ·simp only [Act.put, sa_, sz_, ss_, i64_w, i32_w]
        rfl
       refine pure_ (i := 10) (N := some 17) (v := ?_) (a' := ?_) #[true, true, true, true, true, true, true, false, true, true, true, false, false, false, false] rfl rfl (any_of HT_.out (by kernel_rfl)) (fun _ _ _ h => h) (Or.inl ⟨by rfl, ?_⟩) ?_ ?_
       rotate_left
       ·intro w'
        go_simp
        with_reducible rfl
       rotate_left
       ·simp only [Act.put, sa_, sz_, ss_, i64_w, i32_w]
        rfl
       refine join_ (σ := Value × Value × Nat) 1 #[true, true, true, true, true, true, true, true, true, true, true, true, true, true, false] (fun s_ => [(14, s_.1), (18, s_.2.1), (6, .pointer (some ⟨s_.2.2, 0, none⟩)), (19, .agg #[.int .i64 (Int.tmod (wrap64 (a1_0 + 1)) (l0_0.length : Int)), s_.2.1])]) (fun s_ w' => (w'.cell? ⟨gb222, 0, none⟩ = some (.int .i64 a1_0) ∧ w'.cell? ⟨gb222, 1, none⟩ = some (.slice A1_1 l1_1.length c1_1) ∧ w'.cell? ⟨gb221, 0, none⟩ = some (.slice A0_0 l0_0.length c0_0)) ∧ (Kd.R (Kd.int .i64) 3 w' w.heap.size (fun _ => True) s_.2.1 y228) ∧ (w'.heap[gb221]? = some (.cells #[.slice A0_0 l0_0.length c0_0] 45 (0, 0))) ∧ (w'.heap[gb222]? = some (.cells #[.int .i64 a1_0, .slice A1_1 l1_1.length c1_1] 47 (0, 0))) ∧ (w'.heap[gb223]? = some (.cells #[.int .i64 0, .slice none 0 0] 47 (0, 0))) ∧ (w'.heap[s_.2.2]? = some (.cells #[.int .i64 0, .slice none 0 0] 47 (0, 0))) ∧ (w.heap.size ≤ s_.2.2) ∧ (w.heap.size ≤ s_.2.2) ∧ (gb221 ≠ s_.2.2) ∧ (s_.2.2 ≠ gb221) ∧ (gb222 ≠ s_.2.2) ∧ (s_.2.2 ≠ gb222) ∧ (gb223 ≠ s_.2.2) ∧ (s_.2.2 ≠ gb223) ∧ (Below w.heap.size w w')) ?_ ?_
       rotate_left
       ·intro hCont
        refine two_ (i := 7) (j := 13) (Ni := some 14) (Nj := some 6) #[true, true, true, true, true, true, true, true, true, true, true, false, false, false, false] #[true, true, true, true, true, true, true, false, true, true, true, false, false, true, false] rfl rfl rfl rfl (two_of HT_.out (by kernel_rfl)) (by decide) (by decide) (fun K hK => ?_) (fun K hK => ?_)
        ·skip
         refine Kd.R_lit_step (Kd.int .i64) _ 3 ?hg (N := 14) ?hd (xs := ([] : List Int)) (inner := []) (ok := fun _ => True) (okp := fun _ => True) ?hr ?hp (fun _ hk => hk) trivial (Below.refl _ _) (Nat.le_refl _) (by simp) ?_; (case hd => rfl); (case hg => rfl); (case hr => first | (go_simp; done) | (go_simp; rfl)); (case hp => exact (Reps.none _ _))
         intro v225 w97 ho98 hb hg_ hnew_
         clear hg_ hnew_
         (first | rw [← Ny224.out] at ho98 | (simp only [Int.reduceToNat] at ho98; rw [← Ny224.out] at ho98))
         have n0_ := A_ (Kd.R_lower ho98 (below_size (bk_ HB.out)))
         have n1_ := A_ (blk_below (pk_ BK221.out) hb)
         have n2_ := A_ (blk_below (pk_ BK222.out) hb)
         have n3_ := A_ (blk_below (pk_ BK223.out) hb)
         have n4_ := A_ (below_step (bk_ HB.out) hb)
         clear BK221 BK222 BK223 HB
         have HO226 := n0_
         have BK221 := n1_
         have BK222 := n2_
         have BK223 := n3_
         have HB := n4_
         clear n0_ n1_ n2_ n3_ n4_ hb ho98
         refine hK.out _ _ ⟨(blk_cell BK222.out 0).trans rfl, (blk_cell BK222.out 1).trans rfl, (blk_cell BK221.out 0).trans rfl⟩ (fun hHeld => ?_)
         clear hK K
         refine norm_ (a' := ?_) ?_ ?_
         rotate_left
         ·show Act.put _ (some 14) _ = _
          simp only [Act.put, sa_, sz_, ss_, i64_w, i32_w]
          rfl
         refine two_ (i := 11) (j := 13) (Ni := some 18) (Nj := some 6) #[true, true, true, true, true, true, true, true, true, true, true, true, false, false, false] #[true, true, true, true, true, true, true, true, true, true, true, false, false, true, false] rfl rfl rfl rfl (two_of HT_.out (by kernel_rfl)) (by decide) (by decide) (fun K hK => ?_) (fun K hK => ?_)
         ·skip
          refine Kd.R_append_rows_step (Kd.int .i64) (w0 := w) w.heap.size (by rfl) (.tmp 14) (.tmp 17) 26 3 (.int .i64 0) 8 rfl Try.underlying26 info3 rfl (by decide) (by omega) v225 y224 (l1_1.drop 1) _ _ _ (fun _ => True) (fun _ => False) rfl rfl ?aO ?aR (fun _ _ h => h) (fun _ h => h.elim) ?aF ?aB ?aS ?aL ?_
          (case aR => first | (rw [← show (l1_1.drop 1).length = (l1_1.length - 1) from List.length_drop]; repeat (first | exact (Kd.C_below HR227.out HB.out) | (with_reducible refine Kd.C_alloc ?_ _) | (with_reducible refine Kd.C_drewN ?_ _) | (with_reducible refine Kd.C_drew ?_))) | (repeat (first | exact (Kd.C_below HR227.out HB.out) | (with_reducible refine Kd.C_alloc ?_ _) | (with_reducible refine Kd.C_drewN ?_ _) | (with_reducible refine Kd.C_drew ?_))))
          (case aB => exact (bk_ HB.out))
          (case aF => exact (fun _ _ => trivial))
          (case aO => exact (rk_ HO226.out))
          (case aS => exact (below_size (bk_ HB.out)))
          (case aL => have := LMc5.out; have hlx_ := (show (l1_1.drop 1).length = (l1_1.length - 1) from List.length_drop); omega)
          intro v229 w99 ho hb hg hat
          rw [← Ny228.out] at ho
          have n0_ := A_ (blk_grown (pk_ BK221.out) hg (Kd.R_ne HO226.out BK221.out (by decide)))
          have n1_ := A_ (blk_grown (pk_ BK222.out) hg (Kd.R_ne HO226.out BK222.out (by decide)))
          have n2_ := A_ (blk_grown (pk_ BK223.out) hg (Kd.R_ne HO226.out BK223.out (by decide)))
          have n3_ := A_ (hb)
          have n4_ := A_ (ho)
          clear BK221 BK222 BK223 HB HO226
          have BK221 := n0_
          have BK222 := n1_
          have BK223 := n2_
          have HB := n3_
          have HO230 := n4_
          clear n0_ n1_ n2_ n3_ n4_ ho hb hg hat
          obtain ⟨Ao100, co100, eo100⟩ := Kd.R_slice HO230.out
          (first | subst eo100 | (injection eo100 with f1_ f2_ f3_; have f4_ := f1_.symm; have f5_ := f3_.symm; clear f1_ f2_ f3_; subst f4_; subst f5_))
          refine hK.out _ _ ⟨(blk_cell BK222.out 0).trans rfl, (blk_cell BK222.out 1).trans rfl, (blk_cell BK221.out 0).trans rfl⟩ (fun hHeld => ?_)
          clear hK K
          refine norm_ (a' := ?_) ?_ ?_
          rotate_left
          ·show Act.put _ (some 18) _ = _
           simp only [Act.put, sa_, sz_, ss_, i64_w, i32_w]
           rfl
          refine pure_ (i := 12) (N := some 19) (v := ?_) (a' := ?_) #[true, true, true, true, true, true, true, true, true, true, true, true, true, false, false] rfl rfl (any_of HT_.out (by kernel_rfl)) (fun _ _ _ h => h) (Or.inl ⟨by rfl, ?_⟩) ?_ ?_
          rotate_left
          ·intro w'
           go_simp
           with_reducible rfl
          rotate_left
          ·simp only [Act.put, sa_, sz_, ss_, i64_w, i32_w]
           rfl
          refine one_ (i := 13) (N := some 6) #[true, true, true, true, true, true, true, true, true, true, true, true, true, true, false] rfl rfl (one_of HT_.out (by kernel_rfl)) (by decide) (fun K hK => ?_)
          refine box_step ?hg (N := 6) ?hd (cs := #[.int .i64 0, .slice none 0 0]) (t := 47) ?hr ?_; (case hd => rfl); (case hg => rfl); (case hr => first | (go_simp; done) | (go_simp; rfl))
          intro gb231 hg w101 hbox hb
          have n0_ := A_ (Kd.R_below (rk_ HO230.out) hb)
          have n1_ := A_ (blk_below (pk_ BK221.out) hb)
          have n2_ := A_ (blk_below (pk_ BK222.out) hb)
          have n3_ := A_ (blk_below (pk_ BK223.out) hb)
          have n4_ := A_ (below_step (bk_ HB.out) hb)
          have n5_ := A_ (hbox)
          have n6_ := A_ ((by rw [hg]; exact (below_size (bk_ HB.out)) : w.heap.size ≤ gb231))
          have n7_ := A_ ((by rw [hg]; exact (below_size (bk_ HB.out)) : w.heap.size ≤ gb231))
          have n8_ := A_ ((by rw [hg]; exact Nat.ne_of_lt (blk_lt (pk_ BK221.out)) : gb221 ≠ gb231))
          have n9_ := A_ ((by rw [hg]; exact Nat.ne_of_gt (blk_lt (pk_ BK221.out)) : gb231 ≠ gb221))
          have n10_ := A_ ((by rw [hg]; exact Nat.ne_of_lt (blk_lt (pk_ BK222.out)) : gb222 ≠ gb231))
          have n11_ := A_ ((by rw [hg]; exact Nat.ne_of_gt (blk_lt (pk_ BK222.out)) : gb231 ≠ gb222))
          have n12_ := A_ ((by rw [hg]; exact Nat.ne_of_lt (blk_lt (pk_ BK223.out)) : gb223 ≠ gb231))
          have n13_ := A_ ((by rw [hg]; exact Nat.ne_of_gt (blk_lt (pk_ BK223.out)) : gb231 ≠ gb223))
          clear HO230 BK221 BK222 BK223 HB
          have HO230 := n0_
          have BK221 := n1_
          have BK222 := n2_
          have BK223 := n3_
          have HB := n4_
          have BK231 := n5_
          have GW231 := n6_
          have GE231 := n7_
          have NB221_231 := n8_
          have NB231_221 := n9_
          have NB222_231 := n10_
          have NB231_222 := n11_
          have NB223_231 := n12_
          have NB231_223 := n13_
          clear n0_ n1_ n2_ n3_ n4_ n5_ n6_ n7_ n8_ n9_ n10_ n11_ n12_ n13_ hb hbox hg
          refine hK.out _ _ ⟨(blk_cell BK222.out 0).trans rfl, (blk_cell BK222.out 1).trans rfl, (blk_cell BK221.out 0).trans rfl⟩ (fun hHeld => ?_)
          clear hK K
          refine norm_ (a' := ?_) ?_ ?_
          rotate_left
          ·show Act.put _ (some 6) _ = _
           simp only [Act.put, sa_, sz_, ss_, i64_w, i32_w]
           rfl
          exact norm_ (by simp only [putAll, Act.put, List.setIfInBounds_toArray, List.set_cons_zero, List.set_cons_succ]) (hCont (v225, .slice Ao100 y228.length co100, gb231) _ ⟨hHeld, (rk_ HO230.out), (pk_ BK221.out), (pk_ BK222.out), (pk_ BK223.out), (pk_ BK231.out), GW231.out, GE231.out, NB221_231.out, NB231_221.out, NB222_231.out, NB231_222.out, NB223_231.out, NB231_223.out, (bk_ HB.out)⟩)
         ·skip
          refine box_step ?hg (N := 6) ?hd (cs := #[.int .i64 0, .slice none 0 0]) (t := 47) ?hr ?_; (case hd => rfl); (case hg => rfl); (case hr => first | (go_simp; done) | (go_simp; rfl))
          intro gb231 hg w99 hbox hb
          have n0_ := A_ (Kd.R_below (rk_ HO226.out) hb)
          have n1_ := A_ (blk_below (pk_ BK221.out) hb)
          have n2_ := A_ (blk_below (pk_ BK222.out) hb)
          have n3_ := A_ (blk_below (pk_ BK223.out) hb)
          have n4_ := A_ (below_step (bk_ HB.out) hb)
          have n5_ := A_ (hbox)
          have n6_ := A_ ((by rw [hg]; exact (below_size (bk_ HB.out)) : w.heap.size ≤ gb231))
          have n7_ := A_ ((by rw [hg]; exact (below_size (bk_ HB.out)) : w.heap.size ≤ gb231))
          have n8_ := A_ ((by rw [hg]; exact Nat.ne_of_lt (blk_lt (pk_ BK221.out)) : gb221 ≠ gb231))
          have n9_ := A_ ((by rw [hg]; exact Nat.ne_of_gt (blk_lt (pk_ BK221.out)) : gb231 ≠ gb221))
          have n10_ := A_ ((by rw [hg]; exact Nat.ne_of_lt (blk_lt (pk_ BK222.out)) : gb222 ≠ gb231))
          have n11_ := A_ ((by rw [hg]; exact Nat.ne_of_gt (blk_lt (pk_ BK222.out)) : gb231 ≠ gb222))
          have n12_ := A_ ((by rw [hg]; exact Nat.ne_of_lt (blk_lt (pk_ BK223.out)) : gb223 ≠ gb231))
          have n13_ := A_ ((by rw [hg]; exact Nat.ne_of_gt (blk_lt (pk_ BK223.out)) : gb231 ≠ gb223))
          clear HO226 BK221 BK222 BK223 HB
          have HO226 := n0_
          have BK221 := n1_
          have BK222 := n2_
          have BK223 := n3_
          have HB := n4_
          have BK231 := n5_
          have GW231 := n6_
          have GE231 := n7_
          have NB221_231 := n8_
          have NB231_221 := n9_
          have NB222_231 := n10_
          have NB231_222 := n11_
          have NB223_231 := n12_
          have NB231_223 := n13_
          clear n0_ n1_ n2_ n3_ n4_ n5_ n6_ n7_ n8_ n9_ n10_ n11_ n12_ n13_ hb hbox hg
          refine hK.out _ _ ⟨(blk_cell BK222.out 0).trans rfl, (blk_cell BK222.out 1).trans rfl, (blk_cell BK221.out 0).trans rfl⟩ (fun hHeld => ?_)
          clear hK K
          refine norm_ (a' := ?_) ?_ ?_
          rotate_left
          ·show Act.put _ (some 6) _ = _
           simp only [Act.put, sa_, sz_, ss_, i64_w, i32_w]
           rfl
          refine one_ (i := 11) (N := some 18) #[true, true, true, true, true, true, true, true, true, true, true, true, false, true, false] rfl rfl (one_of HT_.out (by kernel_rfl)) (by decide) (fun K hK => ?_)
          refine Kd.R_append_rows_step (Kd.int .i64) (w0 := w) w.heap.size (by rfl) (.tmp 14) (.tmp 17) 26 3 (.int .i64 0) 8 rfl Try.underlying26 info3 rfl (by decide) (by omega) v225 y224 (l1_1.drop 1) _ _ _ (fun _ => True) (fun _ => False) rfl rfl ?aO ?aR (fun _ _ h => h) (fun _ h => h.elim) ?aF ?aB ?aS ?aL ?_
          (case aR => first | (rw [← show (l1_1.drop 1).length = (l1_1.length - 1) from List.length_drop]; repeat (first | exact (Kd.C_below HR227.out HB.out) | (with_reducible refine Kd.C_alloc ?_ _) | (with_reducible refine Kd.C_drewN ?_ _) | (with_reducible refine Kd.C_drew ?_))) | (repeat (first | exact (Kd.C_below HR227.out HB.out) | (with_reducible refine Kd.C_alloc ?_ _) | (with_reducible refine Kd.C_drewN ?_ _) | (with_reducible refine Kd.C_drew ?_))))
          (case aB => exact (bk_ HB.out))
          (case aF => exact (fun _ _ => trivial))
          (case aO => exact (rk_ HO226.out))
          (case aS => exact (below_size (bk_ HB.out)))
          (case aL => have := LMc5.out; have hlx_ := (show (l1_1.drop 1).length = (l1_1.length - 1) from List.length_drop); omega)
          intro v229 w100 ho hb hg hat
          rw [← Ny228.out] at ho
          have n0_ := A_ (blk_grown (pk_ BK221.out) hg (Kd.R_ne HO226.out BK221.out (by decide)))
          have n1_ := A_ (blk_grown (pk_ BK222.out) hg (Kd.R_ne HO226.out BK222.out (by decide)))
          have n2_ := A_ (blk_grown (pk_ BK223.out) hg (Kd.R_ne HO226.out BK223.out (by decide)))
          have n3_ := A_ (blk_grown (pk_ BK231.out) hg (Kd.R_ne HO226.out BK231.out (by decide)))
          have n4_ := A_ (hb)
          have n5_ := A_ (ho)
          clear BK221 BK222 BK223 BK231 HB HO226
          have BK221 := n0_
          have BK222 := n1_
          have BK223 := n2_
          have BK231 := n3_
          have HB := n4_
          have HO230 := n5_
          clear n0_ n1_ n2_ n3_ n4_ n5_ ho hb hg hat
          obtain ⟨Ao101, co101, eo101⟩ := Kd.R_slice HO230.out
          (first | subst eo101 | (injection eo101 with f1_ f2_ f3_; have f4_ := f1_.symm; have f5_ := f3_.symm; clear f1_ f2_ f3_; subst f4_; subst f5_))
          refine hK.out _ _ ⟨(blk_cell BK222.out 0).trans rfl, (blk_cell BK222.out 1).trans rfl, (blk_cell BK221.out 0).trans rfl⟩ (fun hHeld => ?_)
          clear hK K
          refine norm_ (a' := ?_) ?_ ?_
          rotate_left
          ·show Act.put _ (some 18) _ = _
           simp only [Act.put, sa_, sz_, ss_, i64_w, i32_w]
           rfl
          refine pure_ (i := 12) (N := some 19) (v := ?_) (a' := ?_) #[true, true, true, true, true, true, true, true, true, true, true, true, true, true, false] rfl rfl (any_of HT_.out (by kernel_rfl)) (fun _ _ _ h => h) (Or.inl ⟨by rfl, ?_⟩) ?_ ?_
          rotate_left
          ·intro w'
           go_simp
           with_reducible rfl
          rotate_left
          ·simp only [Act.put, sa_, sz_, ss_, i64_w, i32_w]
           rfl
          exact norm_ (by simp only [putAll, Act.put, List.setIfInBounds_toArray, List.set_cons_zero, List.set_cons_succ]) (hCont (v225, .slice Ao101 y228.length co101, gb231) _ ⟨hHeld, (rk_ HO230.out), (pk_ BK221.out), (pk_ BK222.out), (pk_ BK223.out), (pk_ BK231.out), GW231.out, GE231.out, NB221_231.out, NB231_221.out, NB222_231.out, NB231_222.out, NB223_231.out, NB231_223.out, (bk_ HB.out)⟩)
        ·skip
         refine box_step ?hg (N := 6) ?hd (cs := #[.int .i64 0, .slice none 0 0]) (t := 47) ?hr ?_; (case hd => rfl); (case hg => rfl); (case hr => first | (go_simp; done) | (go_simp; rfl))
         intro gb231 hg w97 hbox hb
         have n0_ := A_ (blk_below (pk_ BK221.out) hb)
         have n1_ := A_ (blk_below (pk_ BK222.out) hb)
         have n2_ := A_ (blk_below (pk_ BK223.out) hb)
         have n3_ := A_ (below_step (bk_ HB.out) hb)
         have n4_ := A_ (hbox)
         have n5_ := A_ ((by rw [hg]; exact (below_size (bk_ HB.out)) : w.heap.size ≤ gb231))
         have n6_ := A_ ((by rw [hg]; exact (below_size (bk_ HB.out)) : w.heap.size ≤ gb231))
         have n7_ := A_ ((by rw [hg]; exact Nat.ne_of_lt (blk_lt (pk_ BK221.out)) : gb221 ≠ gb231))
         have n8_ := A_ ((by rw [hg]; exact Nat.ne_of_gt (blk_lt (pk_ BK221.out)) : gb231 ≠ gb221))
         have n9_ := A_ ((by rw [hg]; exact Nat.ne_of_lt (blk_lt (pk_ BK222.out)) : gb222 ≠ gb231))
         have n10_ := A_ ((by rw [hg]; exact Nat.ne_of_gt (blk_lt (pk_ BK222.out)) : gb231 ≠ gb222))
         have n11_ := A_ ((by rw [hg]; exact Nat.ne_of_lt (blk_lt (pk_ BK223.out)) : gb223 ≠ gb231))
         have n12_ := A_ ((by rw [hg]; exact Nat.ne_of_gt (blk_lt (pk_ BK223.out)) : gb231 ≠ gb223))
         clear BK221 BK222 BK223 HB
         have BK221 := n0_
         have BK222 := n1_
         have BK223 := n2_
         have HB := n3_
         have BK231 := n4_
         have GW231 := n5_
         have GE231 := n6_
         have NB221_231 := n7_
         have NB231_221 := n8_
         have NB222_231 := n9_
         have NB231_222 := n10_
         have NB223_231 := n11_
         have NB231_223 := n12_
         clear n0_ n1_ n2_ n3_ n4_ n5_ n6_ n7_ n8_ n9_ n10_ n11_ n12_ hb hbox hg
         refine hK.out _ _ ⟨(blk_cell BK222.out 0).trans rfl, (blk_cell BK222.out 1).trans rfl, (blk_cell BK221.out 0).trans rfl⟩ (fun hHeld => ?_)
         clear hK K
         refine norm_ (a' := ?_) ?_ ?_
         rotate_left
         ·show Act.put _ (some 6) _ = _
          simp only [Act.put, sa_, sz_, ss_, i64_w, i32_w]
          rfl
         refine one_ (i := 7) (N := some 14) #[true, true, true, true, true, true, true, true, true, true, true, false, false, true, false] rfl rfl (one_of HT_.out (by kernel_rfl)) (by decide) (fun K hK => ?_)
         refine Kd.R_lit_step (Kd.int .i64) _ 3 ?hg (N := 14) ?hd (xs := ([] : List Int)) (inner := []) (ok := fun _ => True) (okp := fun _ => True) ?hr ?hp (fun _ hk => hk) trivial (Below.refl _ _) (Nat.le_refl _) (by simp) ?_; (case hd => rfl); (case hg => rfl); (case hr => first | (go_simp; done) | (go_simp; rfl)); (case hp => exact (Reps.none _ _))
         intro v225 w98 ho99 hb hg_ hnew_
         clear hg_ hnew_
         (first | rw [← Ny224.out] at ho99 | (simp only [Int.reduceToNat] at ho99; rw [← Ny224.out] at ho99))
         have n0_ := A_ (Kd.R_lower ho99 (below_size (bk_ HB.out)))
         have n1_ := A_ (blk_below (pk_ BK221.out) hb)
         have n2_ := A_ (blk_below (pk_ BK222.out) hb)
         have n3_ := A_ (blk_below (pk_ BK223.out) hb)
         have n4_ := A_ (blk_below (pk_ BK231.out) hb)
         have n5_ := A_ (below_step (bk_ HB.out) hb)
         clear BK221 BK222 BK223 BK231 HB
         have HO226 := n0_
         have BK221 := n1_
         have BK222 := n2_
         have BK223 := n3_
         have BK231 := n4_
         have HB := n5_
         clear n0_ n1_ n2_ n3_ n4_ n5_ hb ho99
         refine hK.out _ _ ⟨(blk_cell BK222.out 0).trans rfl, (blk_cell BK222.out 1).trans rfl, (blk_cell BK221.out 0).trans rfl⟩ (fun hHeld => ?_)
         clear hK K
         refine norm_ (a' := ?_) ?_ ?_
         rotate_left
         ·show Act.put _ (some 14) _ = _
          simp only [Act.put, sa_, sz_, ss_, i64_w, i32_w]
          rfl
         refine one_ (i := 11) (N := some 18) #[true, true, true, true, true, true, true, true, true, true, true, true, false, true, false] rfl rfl (one_of HT_.out (by kernel_rfl)) (by decide) (fun K hK => ?_)
         refine Kd.R_append_rows_step (Kd.int .i64) (w0 := w) w.heap.size (by rfl) (.tmp 14) (.tmp 17) 26 3 (.int .i64 0) 8 rfl Try.underlying26 info3 rfl (by decide) (by omega) v225 y224 (l1_1.drop 1) _ _ _ (fun _ => True) (fun _ => False) rfl rfl ?aO ?aR (fun _ _ h => h) (fun _ h => h.elim) ?aF ?aB ?aS ?aL ?_
         (case aR => first | (rw [← show (l1_1.drop 1).length = (l1_1.length - 1) from List.length_drop]; repeat (first | exact (Kd.C_below HR227.out HB.out) | (with_reducible refine Kd.C_alloc ?_ _) | (with_reducible refine Kd.C_drewN ?_ _) | (with_reducible refine Kd.C_drew ?_))) | (repeat (first | exact (Kd.C_below HR227.out HB.out) | (with_reducible refine Kd.C_alloc ?_ _) | (with_reducible refine Kd.C_drewN ?_ _) | (with_reducible refine Kd.C_drew ?_))))
         (case aB => exact (bk_ HB.out))
         (case aF => exact (fun _ _ => trivial))
         (case aO => exact (rk_ HO226.out))
         (case aS => exact (below_size (bk_ HB.out)))
         (case aL => have := LMc5.out; have hlx_ := (show (l1_1.drop 1).length = (l1_1.length - 1) from List.length_drop); omega)
         intro v229 w100 ho hb hg hat
         rw [← Ny228.out] at ho
         have n0_ := A_ (blk_grown (pk_ BK221.out) hg (Kd.R_ne HO226.out BK221.out (by decide)))
         have n1_ := A_ (blk_grown (pk_ BK222.out) hg (Kd.R_ne HO226.out BK222.out (by decide)))
         have n2_ := A_ (blk_grown (pk_ BK223.out) hg (Kd.R_ne HO226.out BK223.out (by decide)))
         have n3_ := A_ (blk_grown (pk_ BK231.out) hg (Kd.R_ne HO226.out BK231.out (by decide)))
         have n4_ := A_ (hb)
         have n5_ := A_ (ho)
         clear BK221 BK222 BK223 BK231 HB HO226
         have BK221 := n0_
         have BK222 := n1_
         have BK223 := n2_
         have BK231 := n3_
         have HB := n4_
         have HO230 := n5_
         clear n0_ n1_ n2_ n3_ n4_ n5_ ho hb hg hat
         obtain ⟨Ao101, co101, eo101⟩ := Kd.R_slice HO230.out
         (first | subst eo101 | (injection eo101 with f1_ f2_ f3_; have f4_ := f1_.symm; have f5_ := f3_.symm; clear f1_ f2_ f3_; subst f4_; subst f5_))
         refine hK.out _ _ ⟨(blk_cell BK222.out 0).trans rfl, (blk_cell BK222.out 1).trans rfl, (blk_cell BK221.out 0).trans rfl⟩ (fun hHeld => ?_)
         clear hK K
         refine norm_ (a' := ?_) ?_ ?_
         rotate_left
         ·show Act.put _ (some 18) _ = _
          simp only [Act.put, sa_, sz_, ss_, i64_w, i32_w]
          rfl
         refine pure_ (i := 12) (N := some 19) (v := ?_) (a' := ?_) #[true, true, true, true, true, true, true, true, true, true, true, true, true, true, false] rfl rfl (any_of HT_.out (by kernel_rfl)) (fun _ _ _ h => h) (Or.inl ⟨by rfl, ?_⟩) ?_ ?_
         rotate_left
         ·intro w'
          go_simp
          with_reducible rfl
         rotate_left
         ·simp only [Act.put, sa_, sz_, ss_, i64_w, i32_w]
          rfl
         exact norm_ (by simp only [putAll, Act.put, List.setIfInBounds_toArray, List.set_cons_zero, List.set_cons_succ]) (hCont (v225, .slice Ao101 y228.length co101, gb231) _ ⟨hHeld, (rk_ HO230.out), (pk_ BK221.out), (pk_ BK222.out), (pk_ BK223.out), (pk_ BK231.out), GW231.out, GE231.out, NB221_231.out, NB231_221.out, NB222_231.out, NB231_222.out, NB223_231.out, NB231_223.out, (bk_ HB.out)⟩)
       rintro ⟨v225, v229, gb231⟩ w102 ⟨hS_, h0_, h1_, h2_, h3_, h4_, h5_, h6_, h7_, h8_, h9_, h10_, h11_, h12_, h13_⟩
       have n0_ : Aside0 (Kd.R (Kd.int .i64) 3 w102 w.heap.size (fun _ => True) v229 y228) := ⟨h0_⟩
       have n1_ : Aside0 (w102.heap[gb221]? = some (.cells #[.slice A0_0 l0_0.length c0_0] 45 (0, 0))) := ⟨h1_⟩
       have n2_ : Aside0 (w102.heap[gb222]? = some (.cells #[.int .i64 a1_0, .slice A1_1 l1_1.length c1_1] 47 (0, 0))) := ⟨h2_⟩
       have n3_ : Aside0 (w102.heap[gb223]? = some (.cells #[.int .i64 0, .slice none 0 0] 47 (0, 0))) := ⟨h3_⟩
       have n4_ : Aside0 (w102.heap[gb231]? = some (.cells #[.int .i64 0, .slice none 0 0] 47 (0, 0))) := ⟨h4_⟩
       have n5_ : Aside0 (w.heap.size ≤ gb231) := ⟨h5_⟩
       have n6_ : Aside0 (w.heap.size ≤ gb231) := ⟨h6_⟩
       have n7_ : Aside0 (gb221 ≠ gb231) := ⟨h7_⟩
       have n8_ : Aside0 (gb231 ≠ gb221) := ⟨h8_⟩
       have n9_ : Aside0 (gb222 ≠ gb231) := ⟨h9_⟩
       have n10_ : Aside0 (gb231 ≠ gb222) := ⟨h10_⟩
       have n11_ : Aside0 (gb223 ≠ gb231) := ⟨h11_⟩
       have n12_ : Aside0 (gb231 ≠ gb223) := ⟨h12_⟩
       have n13_ : Aside0 (Below w.heap.size w w102) := ⟨h13_⟩
       clear BK221 BK222 BK223 HB h0_ h1_ h2_ h3_ h4_ h5_ h6_ h7_ h8_ h9_ h10_ h11_ h12_ h13_
       have HO230 := n0_
       have BK221 := n1_
       have BK222 := n2_
       have BK223 := n3_
       have BK231 := n4_
       have GW231 := n5_
       have GE231 := n6_
       have NB221_231 := n7_
       have NB231_221 := n8_
       have NB222_231 := n9_
       have NB231_222 := n10_
       have NB223_231 := n11_
       have NB231_223 := n12_
       have HB := n13_
       clear n0_ n1_ n2_ n3_ n4_ n5_ n6_ n7_ n8_ n9_ n10_ n11_ n12_ n13_
       have hHeld : w102.cell? ⟨gb222, 0, none⟩ = some (.int .i64 a1_0) ∧ w102.cell? ⟨gb222, 1, none⟩ = some (.slice A1_1 l1_1.length c1_1) ∧ w102.cell? ⟨gb221, 0, none⟩ = some (.slice A0_0 l0_0.length c0_0) := hS_
       obtain ⟨Ao103, co103, eo103⟩ := Kd.R_slice HO230.out
       (first | subst eo103 | (injection eo103 with f1_ f2_ f3_; have f4_ := f1_.symm; have f5_ := f3_.symm; clear f1_ f2_ f3_; subst f4_; subst f5_))
       refine norm_ (a' := ?_) ?_ ?_
       rotate_left
       ·simp only [putAll, Act.put, List.setIfInBounds_toArray, List.set_cons_zero, List.set_cons_succ]
        rfl
       refine one_ (i := 14) (N := none) #[true, true, true, true, true, true, true, true, true, true, true, true, true, true, true] rfl rfl (one_of HT_.out (by kernel_rfl)) (by decide) (fun K hK => ?_)
       have hs104 : w102.cell? ⟨gb231, 0, none⟩ = some (.int .i64 0) := (blk_cell BK231.out 0).trans rfl
       have hfs104 := blk_frozen BK231.out 0
       have hns104_0 := NB221_231.out
       have hns104_1 := NB222_231.out
       have hns104_2 := NB223_231.out
       have hms104_0 := NB231_221.out
       have hms104_1 := NB231_222.out
       have hms104_2 := NB231_223.out
       have hs105 : w102.cell? ⟨gb231, 1, none⟩ = some (.slice none 0 0) := (blk_cell BK231.out 1).trans rfl
       have hfs105 := blk_frozen BK231.out 1
       have hns105_0 := NB221_231.out
       have hns105_1 := NB222_231.out
       have hns105_2 := NB223_231.out
       have hms105_0 := NB231_221.out
       have hms105_1 := NB231_222.out
       have hms105_2 := NB231_223.out
       refine skip_ (w1 := ?_) (by rfl) rfl ?_ ?_
       rotate_left
       ·go_simp
        rfl
       refine hK.out _ _ ⟨((cell_far (p := ⟨gb231, _, none⟩) NB222_231.out _).trans (((cell_far (p := ⟨gb231, _, none⟩) NB222_231.out _).trans (hHeld.1)))), ((cell_far (p := ⟨gb231, _, none⟩) NB222_231.out _).trans (((cell_far (p := ⟨gb231, _, none⟩) NB222_231.out _).trans (hHeld.2.1)))), ((cell_far (p := ⟨gb231, _, none⟩) NB221_231.out _).trans (((cell_far (p := ⟨gb231, _, none⟩) NB221_231.out _).trans (hHeld.2.2))))⟩ (fun hHeld => ?_)
       clear hK K
       refine done_ (done_of HT_.out (by kernel_rfl)) ?_
       have hnb106 := NB222_221.out
       have hnc106 := NB221_222.out
       have hnb107 := NB222_223.out
       have hnc107 := NB223_222.out
       have hnb108 := NB222_231.out
       have hnc108 := NB231_222.out
       have hcz109_0 : w102.cell? ⟨gb222, 0, none⟩ = some (.int .i64 a1_0) := (blk_cell BK222.out 0).trans rfl
       have hcz109_1 : w102.cell? ⟨gb222, 1, none⟩ = some (.slice A1_1 l1_1.length c1_1) := (blk_cell BK222.out 1).trans rfl
       have hfz109_0 := blk_frozen BK222.out 0
       have hfz109_1 := blk_frozen BK222.out 1
       have p232 : 0 ≤ (0 : Int) := (by omega)
       have q232 : 0 < (l1_1.length : Int) := od_
       obtain ⟨ad232, e232, hx232_0⟩ := Kd.at_int HR1_1.out 0 p232 q232
       cases e232
       have qi232 : (0 < l1_1.length) = True := eq_true (by omega)
       (try rw [show ((0 : Int)).toNat = 0 from rfl] at hx232_0)
       (try rw [Addr.add_zero'] at hx232_0)
       have hn232_0 : ad232.block ≠ gb231 := Nat.ne_of_lt (Nat.lt_of_lt_of_le (by have := World.block_lt_of_cell? _ _ hx232_0; first | rwa [add_block] at this | exact this) GW231.out)
       have hn232_1 : ad232.block ≠ gb231 := Nat.ne_of_lt (Nat.lt_of_lt_of_le (by have := World.block_lt_of_cell? _ _ hx232_0; first | rwa [add_block] at this | exact this) GW231.out)
       replace hx232_0 := lf_ HB.out hx232_0
       replace hx232_0 := (cell_far (p := ⟨gb231, 0, none⟩) (by first | (rw [add_block]; exact hn232_0) | (show (Addr.add _ _).block ≠ _; rw [add_block]; exact hn232_0) | exact hn232_0) (.int .i64 (Int.tmod (wrap64 (a1_0 + 1)) (l0_0.length : Int)))).trans hx232_0
       replace hx232_0 := (cell_far (p := ⟨gb231, 1, none⟩) (by first | (rw [add_block]; exact hn232_1) | (show (Addr.add _ _).block ≠ _; rw [add_block]; exact hn232_1) | exact hn232_1) (.slice Ao103 y228.length co103)).trans hx232_0
       clear hn232_0 hn232_1
       replace p232 := eq_true p232
       replace q232 := eq_true q232
       have hnb110 := NB231_221.out
       have hnc110 := NB221_231.out
       have hnb111 := NB231_223.out
       have hnc111 := NB223_231.out
       have hcz112_0 : w102.cell? ⟨gb231, 0, none⟩ = some (.int .i64 0) := (blk_cell BK231.out 0).trans rfl
       have hcz112_1 : w102.cell? ⟨gb231, 1, none⟩ = some (.slice none 0 0) := (blk_cell BK231.out 1).trans rfl
       have hfz112_0 := blk_frozen BK231.out 0
       have hfz112_1 := blk_frozen BK231.out 1
       have hnb113 := NB223_221.out
       have hnc113 := NB221_223.out
       have hcz114_0 : w102.cell? ⟨gb223, 0, none⟩ = some (.int .i64 0) := (blk_cell BK223.out 0).trans rfl
       have hcz114_1 : w102.cell? ⟨gb223, 1, none⟩ = some (.slice none 0 0) := (blk_cell BK223.out 1).trans rfl
       have hfz114_0 := blk_frozen BK223.out 0
       have hfz114_1 := blk_frozen BK223.out 1
       try go_wp2
       refine bodyPost_ret (results_ct rfl _ _ gb223 47 #[.int .i64 (Int.tmod (wrap64 (a1_0 + 1)) (l0_0.length : Int)), .slice Ao103 y228.length co103] (0, 0) _ rfl (by refine pk_ ?_; refine blk_put (cs := #[.int .i64 (Int.tmod (wrap64 (a1_0 + 1)) (l0_0.length : Int)), .slice none 0 0]) ?_ 1 _ rfl; refine pk_ ?_; refine blk_put (cs := #[.int .i64 0, .slice none 0 0]) ?_ 0 _ rfl; refine pk_ ?_; refine blk_far ?_ NB223_231.out _; refine pk_ ?_; refine blk_far ?_ NB223_231.out _; exact pk_ BK223.out) Try.underlying47 rfl (by kernel_rfl)) rfl ?_
       exact ⟨_, er_, by (with_reducible repeat (first | apply Kd.R_alloc | apply Kd.R_drewN | apply Kd.R_drew)); exact Kd.R_mono (Kd.R_far (p := ⟨gb223, 1, none⟩) (Kd.R_far (p := ⟨gb223, 0, none⟩) (Kd.R_far (p := ⟨gb231, 1, none⟩) (Kd.R_far (p := ⟨gb231, 0, none⟩) (Kd.R_types (Kd.R_types HO230.out BK231.out (by decide)) BK223.out (by decide)) (fun _ hk => hk.1.2) (.int .i64 (Int.tmod (wrap64 (a1_0 + 1)) (l0_0.length : Int)))) (fun _ hk => hk.1.2) (.slice Ao103 y228.length co103)) (fun _ hk => hk.2) (.int .i64 (Int.tmod (wrap64 (a1_0 + 1)) (l0_0.length : Int)))) (fun _ hk => hk.2) (.slice Ao103 y228.length co103)) (fun _ hk => trivial), bk_ HB.out⟩
    ·rw [if_neg c6] at H
     exact absurd H (by simp)
   ·rw [if_neg c5] at H
    exact absurd H (by simp)
  ·rw [if_neg c4] at H
   exact absurd H (by simp)

end Go.Proofs.Ytkinnaegedbanaa.PTagTurns
