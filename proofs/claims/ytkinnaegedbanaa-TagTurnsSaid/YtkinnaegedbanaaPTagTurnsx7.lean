-- out of a turned copy of the print, by a program of this session; Lean checks it
import Derived.Test.YtkinnaegedbanaaPTagTurnsx0
import Derived.Test.YtkinnaegedbanaaPTagTurnsx6
namespace Go.Proofs.Ytkinnaegedbanaa.PTagTurns
open Go.RowKit Go.Proofs.YtkinnaegedbanaaW.PrintWords Go.Proofs.YtkinnaegedbanaaW.PrintLast Go.Proofs.YtkinnaegedbanaaW.PrintMore
attribute [local go_sem] max2_int min2_int max_two min_two max_three min_three max_four min_four   -- for this text's walks alone
set_option linter.unusedVariables false
set_option linter.unusedSimpArgs false

attribute [local go_sem] isSome_put_
/-! ### standstillref07_Roll: function 32 -/
def standstillref07_Roll.l0 : Nat → Int → Int → List (List Int) → Int → List Int → Option (Int × List Int × Int × Bool)
 | 0, _, _, _, _, _ => none
 | k + 1, x2, x9, x238000, x239000, x239001 => if x9 < x2 then (if (x239001.length : Int) = 0 then (some (x239000, x239001, x9, true)) else ((standstillref07_Turn.f x238000 x239000 x239001).bind fun bt246 => (if bt246.2.2 = true then (standstillref07_Roll.l0 k x2 (wrap64 (x9 + 1)) x238000 bt246.1 bt246.2.1) else (some (0, ([] : List Int), 0, false))))) else (some (x239000, x239001, x2, true))
def standstillref07_Roll.f (k : Nat) (l0_0 : List (List Int)) (a1_0 : Int) (l1_1 : List Int) (a2 : Int) : Option (Int × List Int × Int × Bool) := (some (([] : List Int) : List Int)).bind fun y240 => (if y240.length + l1_1.length < 17592186044416 then (standstillref07_Roll.l0 k a2 0 l0_0 a1_0 (y240 ++ l1_1)) else (none))
theorem standstillref07_Roll.mono_l : ∀ k, (∀ y0 y1 y2 y3 y4, LeO (standstillref07_Roll.l0 k y0 y1 y2 y3 y4) (standstillref07_Roll.l0 (k + 1) y0 y1 y2 y3 y4))
 | 0 => fun _ _ _ _ _ r h => by simp [standstillref07_Roll.l0] at h
 | k + 1 => by
  have ih0 := standstillref07_Roll.mono_l k
  ·intro y0 y1 y2 y3 y4
   unfold standstillref07_Roll.l0
   repeat' first
   | (with_reducible exact ih0 _ _ _ _ _)
   | (with_reducible exact LeO.refl _)
   | (with_reducible exact LeO.none _)
   | (with_reducible refine LeO.ite ?_ ?_)
   | (with_reducible refine LeO.bind ?_ (fun _ => ?_))
   | exact ih0 _ _ _ _ _
   | exact LeO.none _
   | refine LeO.ite ?_ ?_
   | refine LeO.bind ?_ (fun _ => ?_)
theorem standstillref07_Roll.mono : ∀ a0 a1 a2 a3 k, LeO (standstillref07_Roll.f k a0 a1 a2 a3) (standstillref07_Roll.f (k + 1) a0 a1 a2 a3) := by
 intro a0 a1 a2 a3 k
 have ih0 := standstillref07_Roll.mono_l k
 unfold standstillref07_Roll.f
 repeat' first
   | (with_reducible exact ih0 _ _ _ _ _)
   | (with_reducible exact LeO.refl _)
   | (with_reducible exact LeO.none _)
   | (with_reducible refine LeO.ite ?_ ?_)
   | (with_reducible refine LeO.bind ?_ (fun _ => ?_))
   | exact ih0 _ _ _ _ _
   | exact LeO.none _
   | refine LeO.ite ?_ ?_
   | refine LeO.bind ?_ (fun _ => ?_)
def standstillref07_Roll.T1 : Bool × List (List Nat × List Nat) := (true, [([], []), ([0], [0]), ([], []), ([], []), ([3], [3]), ([2, 4], [2, 4]), ([1, 5], [1, 5]), ([6, 5, 0, 1, 2, 3, 4, 5, 6], [6])])
def standstillref07_Roll.B1 : List Nat := [0, 1, 0, 0, 8, 28, 63, 127]
theorem standstillref07_Roll.tab1 : rtab .any (opsOf Try.f32 1) = standstillref07_Roll.T1 := by kernel_rfl
theorem standstillref07_Roll.bits1 : waitsOk standstillref07_Roll.T1.2 standstillref07_Roll.B1 = true := by kernel_rfl
set_option maxHeartbeats 8000000 in
set_option maxRecDepth 100000 in
theorem standstillref07_Roll.calls (k : Nat) (A0_0 : Option Addr) (c0_0 : Nat) (l0_0 : List (List Int)) (a1_0 : Int) (A1_1 : Option Addr) (c1_1 : Nat) (l1_1 : List Int) (a2 : Int) (r1 : Int) (r2 : List Int) (r3 : Int) (r4 : Bool) (w : World) (hr0_0 : Kd.C (Kd.slice 3 (Kd.int .i64)) w A0_0 l0_0.length l0_0) (hc0_0 : l0_0.length ≤ c0_0) (hr1_1 : Kd.C (Kd.int .i64) w A1_1 l1_1.length l1_1) (hc1_1 : l1_1.length ≤ c1_1) (h : standstillref07_Roll.f k l0_0 a1_0 l1_1 a2 = some (r1, r2, r3, r4)) :
  Calls Try.prog 32 #[.agg #[.slice A0_0 l0_0.length c0_0], .agg #[.int .i64 a1_0, .slice A1_1 l1_1.length c1_1], .int .i64 a2] w fun e w' => ∃ v1_ : Value, e = .returned (.tuple #[.agg #[.int .i64 r1, v1_], .int .i64 r3, .bool r4]) ∧ Kd.R (Kd.int .i64) 3 w' w.heap.size (fun _ => True) v1_ r2 ∧ Below w.heap.size w w' := by
 have hu45 := Try.underlying45
 have hu47 := Try.underlying47
 have HR0_0 := Aside0.mk hr0_0
 have HC0_0 := Aside0.mk hc0_0
 clear hr0_0 hc0_0
 have HR1_1 := Aside0.mk hr1_1
 have HC1_1 := Aside0.mk hc1_1
 clear hr1_1 hc1_1
 have HB := A_ (Below.refl w.heap.size w)
 have H : ((some (([] : List Int) : List Int)).bind fun y240 => (if y240.length + l1_1.length < 17592186044416 then (standstillref07_Roll.l0 k a2 0 l0_0 a1_0 (y240 ++ l1_1)) else (none))) = some (r1, r2, r3, r4) := h
 clear h
 obtain ⟨y240, hy240⟩ : ∃ y_ : List Int, y_ = (([] : List Int)) := ⟨_, rfl⟩
 replace H : (if y240.length + l1_1.length < 17592186044416 then (standstillref07_Roll.l0 k a2 0 l0_0 a1_0 (y240 ++ l1_1)) else (none)) = some (r1, r2, r3, r4) := by first | (rw [hy240]; with_reducible exact H) | (have H2_ := (Option.bind_some _ _).symm.trans H; rw [hy240]; with_reducible exact H2_) | (have H2_ := (Option.bind_some _ _).symm.trans H; with_reducible exact H2_) | with_reducible exact H | (rw [hy240]; exact H) | exact H
 have Ny240 := Aside0.mk hy240
 clear hy240
 by_cases c4 : y240.length + l1_1.length < 17592186044416
 ·rw [if_pos c4] at H
  have LMc4 := Aside0.mk c4
  clear c4
  obtain ⟨y243, hy243⟩ : ∃ y_ : List Int, y_ = (y240 ++ l1_1) := ⟨_, rfl⟩
  replace H : (standstillref07_Roll.l0 k a2 0 l0_0 a1_0 y243) = some (r1, r2, r3, r4) := by first | (rw [hy243]; with_reducible exact H) | (have H2_ := (Option.bind_some _ _).symm.trans H; rw [hy243]; with_reducible exact H2_) | (have H2_ := (Option.bind_some _ _).symm.trans H; with_reducible exact H2_) | with_reducible exact H | (rw [hy243]; exact H) | exact H
  have Ny243 := Aside0.mk hy243
  clear hy243
  have H' := Aside0.mk H
  clear H
  go_enter Try.func32, Try.ntmps32
  try go_wp2_with (first | ((with_reducible refine gate_dst (N := 3) rfl ?_); refine box_event ?hg (N := 3) ?hd (cs := #[.slice A0_0 l0_0.length c0_0]) (t := 45) ?hr ?_; (case hd => rfl); (case hg => rfl); (case hr => first | (go_simp; done) | (go_simp; rfl)); intro gb237 hg w5 hbox hb; have n0_ := A_ (below_step (bk_ HB.out) hb); have n1_ := A_ (hbox); have n2_ := A_ ((by rw [hg]; exact (below_size (bk_ HB.out)) : w.heap.size ≤ gb237)); have n3_ := A_ ((by rw [hg]; exact (below_size (bk_ HB.out)) : w.heap.size ≤ gb237)); clear HB; have HB := n0_; have BK237 := n1_; have GW237 := n2_; have GE237 := n3_; clear n0_ n1_ n2_ n3_ hb hbox hg) | ((with_reducible refine gate_dst (N := 4) rfl ?_); refine box_event ?hg (N := 4) ?hd (cs := #[.int .i64 a1_0, .slice A1_1 l1_1.length c1_1]) (t := 47) ?hr ?_; (case hd => rfl); (case hg => rfl); (case hr => first | (go_simp; done) | (go_simp; rfl)); intro gb238 hg w6 hbox hb; have n0_ := A_ (blk_below (pk_ BK237.out) hb); have n1_ := A_ (below_step (bk_ HB.out) hb); have n2_ := A_ (hbox); have n3_ := A_ ((by rw [hg]; exact (below_size (bk_ HB.out)) : w.heap.size ≤ gb238)); have n4_ := A_ ((by rw [hg]; exact (below_size (bk_ HB.out)) : w.heap.size ≤ gb238)); have n5_ := A_ ((by rw [hg]; exact Nat.ne_of_lt (blk_lt (pk_ BK237.out)) : gb237 ≠ gb238)); have n6_ := A_ ((by rw [hg]; exact Nat.ne_of_gt (blk_lt (pk_ BK237.out)) : gb238 ≠ gb237)); clear BK237 HB; have BK237 := n0_; have HB := n1_; have BK238 := n2_; have GW238 := n3_; have GE238 := n4_; have NB237_238 := n5_; have NB238_237 := n6_; clear n0_ n1_ n2_ n3_ n4_ n5_ n6_ hb hbox hg) | ((with_reducible refine gate_dst (N := 6) rfl ?_); refine box_event ?hg (N := 6) ?hd (cs := #[.int .i64 0, .slice none 0 0]) (t := 47) ?hr ?_; (case hd => rfl); (case hg => rfl); (case hr => first | (go_simp; done) | (go_simp; rfl)); intro gb239 hg w7 hbox hb; have n0_ := A_ (blk_below (pk_ BK237.out) hb); have n1_ := A_ (blk_below (pk_ BK238.out) hb); have n2_ := A_ (below_step (bk_ HB.out) hb); have n3_ := A_ (hbox); have n4_ := A_ ((by rw [hg]; exact (below_size (bk_ HB.out)) : w.heap.size ≤ gb239)); have n5_ := A_ ((by rw [hg]; exact (below_size (bk_ HB.out)) : w.heap.size ≤ gb239)); have n6_ := A_ ((by rw [hg]; exact Nat.ne_of_lt (blk_lt (pk_ BK237.out)) : gb237 ≠ gb239)); have n7_ := A_ ((by rw [hg]; exact Nat.ne_of_gt (blk_lt (pk_ BK237.out)) : gb239 ≠ gb237)); have n8_ := A_ ((by rw [hg]; exact Nat.ne_of_lt (blk_lt (pk_ BK238.out)) : gb238 ≠ gb239)); have n9_ := A_ ((by rw [hg]; exact Nat.ne_of_gt (blk_lt (pk_ BK238.out)) : gb239 ≠ gb238)); clear BK237 BK238 HB; have BK237 := n0_; have BK238 := n1_; have HB := n2_; have BK239 := n3_; have GW239 := n4_; have GE239 := n5_; have NB237_239 := n6_; have NB239_237 := n7_; have NB238_239 := n8_; have NB239_238 := n9_; clear n0_ n1_ n2_ n3_ n4_ n5_ n6_ n7_ n8_ n9_ hb hbox hg))
  have n0_ := A_ (blk_drew BK237.out)
  have n1_ := A_ (blk_drew BK238.out)
  have n2_ := A_ (blk_drew BK239.out)
  have n3_ := A_ (below_drew1 HB.out)
  clear BK237 BK238 BK239 HB
  have BK237 := n0_
  have BK238 := n1_
  have BK239 := n2_
  have HB := n3_
  clear n0_ n1_ n2_ n3_
  refine start_ (n := 8) (S := fun w' => w'.cell? ⟨gb238, 0, none⟩ = some (.int .i64 a1_0) ∧ w'.cell? ⟨gb238, 1, none⟩ = some (.slice A1_1 l1_1.length c1_1)) (ds := [7]) #[false, false, false, false, false, false, false, false] (by kernel_rfl) rfl rfl ⟨(blk_cell BK238.out 0).trans rfl, (blk_cell BK238.out 1).trans rfl⟩ (fun hHeld => ?_); refine with_tabW standstillref07_Roll.tab1 standstillref07_Roll.bits1 (fun HT_ HW_ => ?_)
  generalize w7.drew = w8 at BK237 BK238 BK239 HB hHeld ⊢
  refine pure_ (i := 0) (N := some 11) (v := ?_) (a' := ?_) #[true, false, false, false, false, false, false, false] rfl rfl (any_of HT_.out (by kernel_rfl)) (fun _ _ _ h => h) (Or.inl ⟨by rfl, ?_⟩) ?_ ?_
  rotate_left
  ·intro w'
   go_simp
   with_reducible rfl
  rotate_left
  ·simp only [Act.put, sa_, sz_, ss_, i64_w, i32_w]
   rfl
  refine pure_ (i := 3) (N := some 14) (v := ?_) (a' := ?_) #[true, false, false, true, false, false, false, false] rfl rfl (any_of HT_.out (by kernel_rfl)) (fun _ _ _ h => h) (Or.inl ⟨by rfl, ?_⟩) ?_ ?_
  rotate_left
  ·intro w'
   go_simp
   with_reducible rfl
  rotate_left
  ·simp only [Act.put, sa_, sz_, ss_, i64_w, i32_w]
   rfl
  refine take_ (i := 1) (N := some 12) (v := ?_) (a' := ?_) #[true, true, false, true, false, false, false, false] rfl rfl (take_ofW HT_.out HW_.out (by kernel_rfl)) (fun _ _ _ h => h) (Or.inl ⟨by rfl, ?_⟩) hHeld ?_ ?_
  rotate_left
  ·rintro w' ⟨s0, s1⟩
   go_simp
   with_reducible rfl
  rotate_left
  ·simp only [Act.put, sa_, sz_, ss_, i64_w, i32_w]
   rfl
  refine take_ (i := 4) (N := some 15) (v := ?_) (a' := ?_) #[true, true, false, true, true, false, false, false] rfl rfl (take_ofW HT_.out HW_.out (by kernel_rfl)) (fun _ _ _ h => h) (Or.inl ⟨by rfl, ?_⟩) hHeld ?_ ?_
  rotate_left
  ·rintro w' ⟨s0, s1⟩
   go_simp
   with_reducible rfl
  rotate_left
  ·simp only [Act.put, sa_, sz_, ss_, i64_w, i32_w]
   rfl
  refine one_ (i := 2) (N := some 13) #[true, true, true, true, true, false, false, false] rfl rfl (one_of HT_.out (by kernel_rfl)) (by decide) (fun K hK => ?_)
  refine Kd.R_lit_step (Kd.int .i64) _ 3 ?hg (N := 13) ?hd (xs := ([] : List Int)) (inner := []) (ok := fun _ => True) (okp := fun _ => True) ?hr ?hp (fun _ hk => hk) trivial (Below.refl _ _) (Nat.le_refl _) (by simp) ?_; (case hd => rfl); (case hg => rfl); (case hr => first | (go_simp; done) | (go_simp; rfl)); (case hp => exact (Reps.none _ _))
  intro v241 w9 ho10 hb hg_ hnew_
  clear hg_ hnew_
  (first | rw [← Ny240.out] at ho10 | (simp only [Int.reduceToNat] at ho10; rw [← Ny240.out] at ho10))
  have n0_ := A_ (Kd.R_lower ho10 (below_size (bk_ HB.out)))
  have n1_ := A_ (blk_below (pk_ BK237.out) hb)
  have n2_ := A_ (blk_below (pk_ BK238.out) hb)
  have n3_ := A_ (blk_below (pk_ BK239.out) hb)
  have n4_ := A_ (below_step (bk_ HB.out) hb)
  clear BK237 BK238 BK239 HB
  have HO242 := n0_
  have BK237 := n1_
  have BK238 := n2_
  have BK239 := n3_
  have HB := n4_
  clear n0_ n1_ n2_ n3_ n4_ hb ho10
  refine hK.out _ _ ⟨(blk_cell BK238.out 0).trans rfl, (blk_cell BK238.out 1).trans rfl⟩ (fun hHeld => ?_)
  clear hK K
  refine norm_ (a' := ?_) ?_ ?_
  rotate_left
  ·show Act.put _ (some 13) _ = _
   simp only [Act.put, sa_, sz_, ss_, i64_w, i32_w]
   rfl
  refine one_ (i := 5) (N := some 16) #[true, true, true, true, true, true, false, false] rfl rfl (one_of HT_.out (by kernel_rfl)) (by decide) (fun K hK => ?_)
  refine Kd.R_append_rows_step (Kd.int .i64) (w0 := w) w.heap.size (by rfl) (.tmp 13) (.tmp 15) 26 3 (.int .i64 0) 8 rfl Try.underlying26 info3 rfl (by decide) (by omega) v241 y240 l1_1 _ _ _ (fun _ => True) (fun _ => False) rfl rfl ?aO ?aR (fun _ _ h => h) (fun _ h => h.elim) ?aF ?aB ?aS ?aL ?_
  (case aR => repeat (first | exact (Kd.C_below HR1_1.out HB.out) | (with_reducible refine Kd.C_alloc ?_ _) | (with_reducible refine Kd.C_drewN ?_ _) | (with_reducible refine Kd.C_drew ?_)))
  (case aB => exact (bk_ HB.out))
  (case aF => exact (fun _ _ => trivial))
  (case aO => exact (rk_ HO242.out))
  (case aS => exact (below_size (bk_ HB.out)))
  (case aL => have := LMc4.out; omega)
  intro v244 w11 ho hb hg hat
  rw [← Ny243.out] at ho
  have n0_ := A_ (blk_grown (pk_ BK237.out) hg (Kd.R_ne HO242.out BK237.out (by decide)))
  have n1_ := A_ (blk_grown (pk_ BK238.out) hg (Kd.R_ne HO242.out BK238.out (by decide)))
  have n2_ := A_ (blk_grown (pk_ BK239.out) hg (Kd.R_ne HO242.out BK239.out (by decide)))
  have n3_ := A_ (hb)
  have n4_ := A_ (ho)
  clear BK237 BK238 BK239 HB HO242
  have BK237 := n0_
  have BK238 := n1_
  have BK239 := n2_
  have HB := n3_
  have HO245 := n4_
  clear n0_ n1_ n2_ n3_ n4_ ho hb hg hat
  obtain ⟨Ao12, co12, eo12⟩ := Kd.R_slice HO245.out
  (first | subst eo12 | (injection eo12 with f1_ f2_ f3_; have f4_ := f1_.symm; have f5_ := f3_.symm; clear f1_ f2_ f3_; subst f4_; subst f5_))
  refine hK.out _ _ ⟨(blk_cell BK238.out 0).trans rfl, (blk_cell BK238.out 1).trans rfl⟩ (fun hHeld => ?_)
  clear hK K
  refine norm_ (a' := ?_) ?_ ?_
  rotate_left
  ·show Act.put _ (some 16) _ = _
   simp only [Act.put, sa_, sz_, ss_, i64_w, i32_w]
   rfl
  refine pure_ (i := 6) (N := some 17) (v := ?_) (a' := ?_) #[true, true, true, true, true, true, true, false] rfl rfl (any_of HT_.out (by kernel_rfl)) (fun _ _ _ h => h) (Or.inl ⟨by rfl, ?_⟩) ?_ ?_
  rotate_left
  ·intro w'
   go_simp
   with_reducible rfl
  rotate_left
  ·simp only [Act.put, sa_, sz_, ss_, i64_w, i32_w]
   rfl
  refine last_ (i := 7) (N := none) #[true, true, true, true, true, true, true, true] rfl rfl (one_of HT_.out (by kernel_rfl)) (by decide) (fun K hK => ?_)
  have hs13 : w11.cell? ⟨gb238, 0, none⟩ = some (.int .i64 a1_0) := (blk_cell BK238.out 0).trans rfl
  have hfs13 := blk_frozen BK238.out 0
  have hns13_0 := NB237_238.out
  have hns13_2 := NB239_238.out
  have hms13_0 := NB238_237.out
  have hms13_2 := NB238_239.out
  have hs14 : w11.cell? ⟨gb238, 1, none⟩ = some (.slice A1_1 l1_1.length c1_1) := (blk_cell BK238.out 1).trans rfl
  have hfs14 := blk_frozen BK238.out 1
  have hns14_0 := NB237_238.out
  have hns14_2 := NB239_238.out
  have hms14_0 := NB238_237.out
  have hms14_2 := NB238_239.out
  refine skip_ (w1 := ?_) (by rfl) rfl ?_ ?_
  rotate_left
  ·go_simp
   rfl
  refine hK.out _ _ ?_
  clear hK K
  refine done_ (done_of HT_.out (by kernel_rfl)) ?_
  try go_wp2
  go_loopg [9] k (fun kq v9 w' => ∃ (x9_1 : Int) (x239000_1 : Int) (x239001_1 : List Int) (x240000_1 : Int) (u239001 : Value), v9 = .int .i64 x9_1 ∧ Aside0 (standstillref07_Roll.l0 kq a2 x9_1 l0_0 x239000_1 x239001_1 = some (r1, r2, r3, r4)) ∧ Aside0 (kq ≤ k) ∧ Aside0 (Kd.R (Kd.int .i64) 3 w' w.heap.size (fun _ => True) u239001 x239001_1) ∧ Aside0 (w'.heap[gb237]? = some (.cells #[(.slice A0_0 l0_0.length c0_0)] 45 (0, 0))) ∧ Aside0 (w'.heap[gb238]? = some (.cells #[.int .i64 x239000_1, u239001] 47 (0, 0))) ∧ Aside0 (w'.heap[gb239]? = some (.cells #[.int .i64 x240000_1, (.slice none 0 0)] 47 (0, 0))) ∧ Aside0 (Below w.heap.size w w'))
  case atStart => exact ⟨(0), (a1_0), (y243), (0), (.slice Ao12 y243.length co12), jr_, H', ⟨Nat.le_refl _⟩, ⟨by (with_reducible repeat (first | apply Kd.R_alloc | apply Kd.R_drewN | apply Kd.R_drew)); exact Kd.R_mono (Kd.R_far (p := ⟨gb238, 1, none⟩) (Kd.R_far (p := ⟨gb238, 0, none⟩) (Kd.R_types HO245.out BK238.out (by decide)) (fun _ hk => hk.2) (.int .i64 a1_0)) (fun _ hk => hk.2) (.slice Ao12 y243.length co12)) (fun _ hk => trivial)⟩, ⟨by refine pk_ ?_; refine blk_far ?_ NB237_238.out _; refine pk_ ?_; refine blk_far ?_ NB237_238.out _; exact pk_ BK237.out⟩, ⟨by refine pk_ ?_; refine blk_put (cs := #[.int .i64 a1_0, .slice A1_1 l1_1.length c1_1]) ?_ 1 _ rfl; refine pk_ ?_; refine blk_put (cs := #[.int .i64 a1_0, .slice A1_1 l1_1.length c1_1]) ?_ 0 _ rfl; exact pk_ BK238.out⟩, ⟨by refine pk_ ?_; refine blk_far ?_ NB239_238.out _; refine pk_ ?_; refine blk_far ?_ NB239_238.out _; exact pk_ BK239.out⟩, ⟨bk_ HB.out⟩⟩
  case round =>
   clear H'
   (try clear c4)
   obtain ⟨x9_1, x239000_1, x239001_1, x240000_1, u239001, rfl, HA, HK1, HO_239001, BK237, BK238, BK239, HB⟩ := hrel
   cases gk with
   | zero => exact absurd HA.out (by simp [standstillref07_Roll.l0])
   | succ k1 =>
    have H := HA.out
    clear HA
    simp only [standstillref07_Roll.l0] at H
    by_cases c15 : x9_1 < a2
    ·rw [if_pos c15] at H
     have c15b0 : decide (x9_1 < a2) = true := decide_eq_true c15
     clear c15
     by_cases c16 : (x239001_1.length : Int) = 0
     ·rw [if_pos c16] at H
      have c16b0 : ((x239001_1.length : Int) == 0) = true := beq_iff_eq.mpr c16
      have c16b1 : ((x239001_1.length : Int) != 0) = false := bne_eq_false_iff_eq.mpr c16
      clear c16
      simp only [Option.some.injEq, Prod.mk.injEq] at H
      obtain ⟨rfl, rfl, rfl, rfl⟩ := H
      have hnb17 := NB238_237.out
      have hnc17 := NB237_238.out
      have hnb18 := NB238_239.out
      have hnc18 := NB239_238.out
      have hcz19_0 : wr.cell? ⟨gb238, 0, none⟩ = some (.int .i64 x239000_1) := (blk_cell BK238.out 0).trans rfl
      have hcz19_1 : wr.cell? ⟨gb238, 1, none⟩ = some (u239001) := (blk_cell BK238.out 1).trans rfl
      have hfz19_0 := blk_frozen BK238.out 0
      have hfz19_1 := blk_frozen BK238.out 1
      obtain ⟨Ao20, co20, eo20⟩ := Kd.R_slice HO_239001.out
      subst eo20
      have hnb21 := NB239_237.out
      have hnc21 := NB237_239.out
      have hcz22_0 : wr.cell? ⟨gb239, 0, none⟩ = some (.int .i64 x240000_1) := (blk_cell BK239.out 0).trans rfl
      have hcz22_1 : wr.cell? ⟨gb239, 1, none⟩ = some (.slice none 0 0) := (blk_cell BK239.out 1).trans rfl
      have hfz22_0 := blk_frozen BK239.out 0
      have hfz22_1 := blk_frozen BK239.out 1
      go_wp2
      refine bodyPost_ret (results_ctt rfl _ _ gb239 47 #[.int .i64 x239000_1, .slice Ao20 x239001_1.length co20] (0, 0) _ rfl (by refine pk_ ?_; refine blk_put (cs := #[.int .i64 x239000_1, .slice none 0 0]) ?_ 1 _ rfl; refine pk_ ?_; refine blk_put (cs := #[.int .i64 x240000_1, .slice none 0 0]) ?_ 0 _ rfl; exact pk_ BK239.out) Try.underlying47 rfl (by kernel_rfl)) rfl ?_
      exact ⟨_, er_, by (with_reducible repeat (first | apply Kd.R_alloc | apply Kd.R_drewN | apply Kd.R_drew)); exact Kd.R_mono (Kd.R_far (p := ⟨gb239, 1, none⟩) (Kd.R_far (p := ⟨gb239, 0, none⟩) (Kd.R_types HO_239001.out BK239.out (by decide)) (fun _ hk => hk.2) (.int .i64 x239000_1)) (fun _ hk => hk.2) (.slice Ao20 x239001_1.length co20)) (fun _ hk => trivial), bk_ HB.out⟩
     ·rw [if_neg c16] at H
      have c16b0 : ((x239001_1.length : Int) == 0) = false := beq_eq_false_iff_ne.mpr c16
      have c16b1 : ((x239001_1.length : Int) != 0) = true := bne_iff_ne.mpr c16
      have c16b2 : ¬ (x239001_1 = []) := fun h_ => c16 (by rw [h_]; rfl)
      replace H := Option.bind_eq_some_iff.mp H
      obtain ⟨⟨t246, t247, t250⟩, A230, H⟩ := H
      replace H : (if t250 = true then (standstillref07_Roll.l0 k1 a2 (wrap64 (x9_1 + 1)) l0_0 t246 t247) else (some (0, ([] : List Int), 0, false))) = some (r1, r2, r3, r4) := H
      have A23 := Aside0.mk A230
      clear A230
      by_cases c24 : t250 = true
      ·subst c24
       have H1 : (standstillref07_Roll.l0 k1 a2 (wrap64 (x9_1 + 1)) l0_0 t246 t247) = some (r1, r2, r3, r4) := by rw [if_pos rfl] at H; exact H
       clear H
       have H := H1
       clear H1
       have H' := Aside0.mk H
       clear H
       have hnb25 := NB238_237.out
       have hnc25 := NB237_238.out
       have hnb26 := NB238_239.out
       have hnc26 := NB239_238.out
       have hcz27_0 : wr.cell? ⟨gb238, 0, none⟩ = some (.int .i64 x239000_1) := (blk_cell BK238.out 0).trans rfl
       have hcz27_1 : wr.cell? ⟨gb238, 1, none⟩ = some (u239001) := (blk_cell BK238.out 1).trans rfl
       have hfz27_0 := blk_frozen BK238.out 0
       have hfz27_1 := blk_frozen BK238.out 1
       obtain ⟨Ao28, co28, eo28⟩ := Kd.R_slice HO_239001.out
       subst eo28
       have hnb29 := NB237_239.out
       have hnc29 := NB239_237.out
       have hcz30_0 : wr.cell? ⟨gb237, 0, none⟩ = some (.slice A0_0 l0_0.length c0_0) := (blk_cell BK237.out 0).trans rfl
       have hfz30_0 := blk_frozen BK237.out 0
       go_wp2_with (first | ((with_reducible refine gate_callee (f := 31) rfl ?_); refine goesL_ (some 32) rfl rfl Try.func31 (by kernel_rfl) rfl #[.agg #[.slice A0_0 l0_0.length c0_0], .agg #[.int .i64 x239000_1, .slice Ao28 x239001_1.length co28]] rfl gl_ ?_; (with_reducible refine (standstillref07_Turn.calls _ _ l0_0 x239000_1 _ _ x239001_1 t246 t247 true _ ?side1 ?side2 ?side3 ?side4 A23.out).mono ?_); (case side1 => exact ck_ (Kd.C_below HR0_0.out HB.out)); (case side2 => exact HC0_0.out); (case side3 => repeat (first | exact (Kd.R_reads' HO_239001.out).2.2 | (with_reducible refine Kd.C_alloc ?_ _) | (with_reducible refine Kd.C_drewN ?_ _) | (with_reducible refine Kd.C_drew ?_))); (case side4 => exact (Kd.R_reads' HO_239001.out).2.1); rintro e w31 ⟨v248, rfl, ho0, hb⟩; refine ⟨_, rfl, ?_⟩; have n0_ := A_ (Kd.R_elder' (rk_ HO_239001.out) (Kd.R_base ho0) hb); have n1_ := A_ (Kd.R_lower (Kd.R_new' ho0 (Kd.R_lt (rk_ HO_239001.out))) (below_size (bk_ HB.out))); have n2_ := A_ (blk_below (pk_ BK237.out) hb); have n3_ := A_ (blk_below (pk_ BK238.out) hb); have n4_ := A_ (blk_below (pk_ BK239.out) hb); have n5_ := A_ (below_step (bk_ HB.out) hb); clear HO_239001 BK237 BK238 BK239 HB; have HO_239001 := n0_; have HO249 := n1_; have BK237 := n2_; have BK238 := n3_; have BK239 := n4_; have HB := n5_; clear n0_ n1_ n2_ n3_ n4_ n5_; (try clear hb); (try clear hb2); (try clear hk); (try clear hi); (try clear ho0); have hcz32_0 : w31.cell? ⟨gb238, 0, none⟩ = some (.int .i64 x239000_1) := (blk_cell BK238.out 0).trans rfl; have hcz32_1 : w31.cell? ⟨gb238, 1, none⟩ = some (.slice Ao28 x239001_1.length co28) := (blk_cell BK238.out 1).trans rfl; have hfz32_0 := blk_frozen BK238.out 0; have hfz32_1 := blk_frozen BK238.out 1; obtain ⟨Ao33, co33, eo33⟩ := Kd.R_slice HO249.out; subst eo33))
       go_roundg k1
       case measure => have := HK1.out; omega
       case rel => exact ⟨(wrap64 (x9_1 + 1)), (t246), (t247), (x240000_1), (.slice Ao33 t247.length co33), jr_, H', ⟨by have := HK1.out; omega⟩, ⟨by (with_reducible repeat (first | apply Kd.R_alloc | apply Kd.R_drewN | apply Kd.R_drew)); exact Kd.R_mono (Kd.R_far (p := ⟨gb238, 1, none⟩) (Kd.R_far (p := ⟨gb238, 0, none⟩) (Kd.R_types HO249.out BK238.out (by decide)) (fun _ hk => hk.2) (.int .i64 t246)) (fun _ hk => hk.2) (.slice Ao33 t247.length co33)) (fun _ hk => trivial)⟩, ⟨by refine pk_ ?_; refine blk_far ?_ NB237_238.out _; refine pk_ ?_; refine blk_far ?_ NB237_238.out _; exact pk_ BK237.out⟩, ⟨by refine pk_ ?_; refine blk_put (cs := #[.int .i64 t246, .slice Ao28 x239001_1.length co28]) ?_ 1 _ rfl; refine pk_ ?_; refine blk_put (cs := #[.int .i64 x239000_1, .slice Ao28 x239001_1.length co28]) ?_ 0 _ rfl; exact pk_ BK238.out⟩, ⟨by refine pk_ ?_; refine blk_far ?_ NB239_238.out _; refine pk_ ?_; refine blk_far ?_ NB239_238.out _; exact pk_ BK239.out⟩, ⟨bk_ HB.out⟩⟩
      ·replace c24 := Bool.eq_false_iff.mpr c24
       subst c24
       have H1 : (some (0, ([] : List Int), 0, false)) = some (r1, r2, r3, r4) := by rw [if_neg (show ¬ (false = true) by decide)] at H; exact H
       clear H
       have H := H1
       clear H1
       simp only [Option.some.injEq, Prod.mk.injEq] at H
       obtain ⟨rfl, rfl, rfl, rfl⟩ := H
       have hnb34 := NB238_237.out
       have hnc34 := NB237_238.out
       have hnb35 := NB238_239.out
       have hnc35 := NB239_238.out
       have hcz36_0 : wr.cell? ⟨gb238, 0, none⟩ = some (.int .i64 x239000_1) := (blk_cell BK238.out 0).trans rfl
       have hcz36_1 : wr.cell? ⟨gb238, 1, none⟩ = some (u239001) := (blk_cell BK238.out 1).trans rfl
       have hfz36_0 := blk_frozen BK238.out 0
       have hfz36_1 := blk_frozen BK238.out 1
       obtain ⟨Ao37, co37, eo37⟩ := Kd.R_slice HO_239001.out
       subst eo37
       have hnb38 := NB237_239.out
       have hnc38 := NB239_237.out
       have hcz39_0 : wr.cell? ⟨gb237, 0, none⟩ = some (.slice A0_0 l0_0.length c0_0) := (blk_cell BK237.out 0).trans rfl
       have hfz39_0 := blk_frozen BK237.out 0
       go_wp2_with (first | ((with_reducible refine gate_callee (f := 31) rfl ?_); refine goesL_ (some 32) rfl rfl Try.func31 (by kernel_rfl) rfl #[.agg #[.slice A0_0 l0_0.length c0_0], .agg #[.int .i64 x239000_1, .slice Ao37 x239001_1.length co37]] rfl gl_ ?_; (with_reducible refine (standstillref07_Turn.calls _ _ l0_0 x239000_1 _ _ x239001_1 t246 t247 false _ ?side1 ?side2 ?side3 ?side4 A23.out).mono ?_); (case side1 => exact ck_ (Kd.C_below HR0_0.out HB.out)); (case side2 => exact HC0_0.out); (case side3 => repeat (first | exact (Kd.R_reads' HO_239001.out).2.2 | (with_reducible refine Kd.C_alloc ?_ _) | (with_reducible refine Kd.C_drewN ?_ _) | (with_reducible refine Kd.C_drew ?_))); (case side4 => exact (Kd.R_reads' HO_239001.out).2.1); rintro e w40 ⟨v248, rfl, ho0, hb⟩; refine ⟨_, rfl, ?_⟩; have n0_ := A_ (Kd.R_elder' (rk_ HO_239001.out) (Kd.R_base ho0) hb); have n1_ := A_ (Kd.R_lower (Kd.R_new' ho0 (Kd.R_lt (rk_ HO_239001.out))) (below_size (bk_ HB.out))); have n2_ := A_ (blk_below (pk_ BK237.out) hb); have n3_ := A_ (blk_below (pk_ BK238.out) hb); have n4_ := A_ (blk_below (pk_ BK239.out) hb); have n5_ := A_ (below_step (bk_ HB.out) hb); clear HO_239001 BK237 BK238 BK239 HB; have HO_239001 := n0_; have HO249 := n1_; have BK237 := n2_; have BK238 := n3_; have BK239 := n4_; have HB := n5_; clear n0_ n1_ n2_ n3_ n4_ n5_; (try clear hb); (try clear hb2); (try clear hk); (try clear hi); (try clear ho0); have hcz41_0 : w40.cell? ⟨gb238, 0, none⟩ = some (.int .i64 x239000_1) := (blk_cell BK238.out 0).trans rfl; have hcz41_1 : w40.cell? ⟨gb238, 1, none⟩ = some (.slice Ao37 x239001_1.length co37) := (blk_cell BK238.out 1).trans rfl; have hfz41_0 := blk_frozen BK238.out 0; have hfz41_1 := blk_frozen BK238.out 1; obtain ⟨Ao42, co42, eo42⟩ := Kd.R_slice HO249.out; subst eo42; have hcz43_0 : w40.cell? ⟨gb239, 0, none⟩ = some (.int .i64 x240000_1) := (blk_cell BK239.out 0).trans rfl; have hcz43_1 : w40.cell? ⟨gb239, 1, none⟩ = some (.slice none 0 0) := (blk_cell BK239.out 1).trans rfl; have hfz43_0 := blk_frozen BK239.out 0; have hfz43_1 := blk_frozen BK239.out 1))
       refine bodyPost_ret (results_ctt rfl _ _ gb239 47 #[.int .i64 0, .slice none 0 0] (0, 0) _ rfl (by refine pk_ ?_; refine blk_put (cs := #[.int .i64 0, .slice none 0 0]) ?_ 1 _ rfl; refine pk_ ?_; refine blk_put (cs := #[.int .i64 x240000_1, .slice none 0 0]) ?_ 0 _ rfl; refine pk_ ?_; refine blk_far ?_ NB239_238.out _; refine pk_ ?_; refine blk_far ?_ NB239_238.out _; exact pk_ BK239.out) Try.underlying47 rfl (by kernel_rfl)) rfl ?_
       exact ⟨_, er_, by first | exact Kd.R_nil _ _ _ _ _ | exact Kd.N_nil _ _ _ _ _ | exact Kd.V_nil _ _ _ _ _ | exact Kd.Q_nil _ _ _ _ _ | exact Kd.S_nil _ _ _ _ _, bk_ HB.out⟩
    ·rw [if_neg c15] at H
     have c15b0 : decide (x9_1 < a2) = false := decide_eq_false c15
     clear c15
     simp only [Option.some.injEq, Prod.mk.injEq] at H
     obtain ⟨rfl, rfl, rfl, rfl⟩ := H
     have hnb44 := NB238_237.out
     have hnc44 := NB237_238.out
     have hnb45 := NB238_239.out
     have hnc45 := NB239_238.out
     have hcz46_0 : wr.cell? ⟨gb238, 0, none⟩ = some (.int .i64 x239000_1) := (blk_cell BK238.out 0).trans rfl
     have hcz46_1 : wr.cell? ⟨gb238, 1, none⟩ = some (u239001) := (blk_cell BK238.out 1).trans rfl
     have hfz46_0 := blk_frozen BK238.out 0
     have hfz46_1 := blk_frozen BK238.out 1
     have hnb47 := NB239_237.out
     have hnc47 := NB237_239.out
     have hcz48_0 : wr.cell? ⟨gb239, 0, none⟩ = some (.int .i64 x240000_1) := (blk_cell BK239.out 0).trans rfl
     have hcz48_1 : wr.cell? ⟨gb239, 1, none⟩ = some (.slice none 0 0) := (blk_cell BK239.out 1).trans rfl
     have hfz48_0 := blk_frozen BK239.out 0
     have hfz48_1 := blk_frozen BK239.out 1
     obtain ⟨Ao49, co49, eo49⟩ := Kd.R_slice HO_239001.out
     subst eo49
     go_wp2
     refine bodyPost_ret (results_ctt rfl _ _ gb239 47 #[.int .i64 x239000_1, .slice Ao49 x239001_1.length co49] (0, 0) _ rfl (by refine pk_ ?_; refine blk_put (cs := #[.int .i64 x239000_1, .slice none 0 0]) ?_ 1 _ rfl; refine pk_ ?_; refine blk_put (cs := #[.int .i64 x240000_1, .slice none 0 0]) ?_ 0 _ rfl; exact pk_ BK239.out) Try.underlying47 rfl (by kernel_rfl)) rfl ?_
     exact ⟨_, er_, by (with_reducible repeat (first | apply Kd.R_alloc | apply Kd.R_drewN | apply Kd.R_drew)); exact Kd.R_mono (Kd.R_far (p := ⟨gb239, 1, none⟩) (Kd.R_far (p := ⟨gb239, 0, none⟩) (Kd.R_types HO_239001.out BK239.out (by decide)) (fun _ hk => hk.2) (.int .i64 x239000_1)) (fun _ hk => hk.2) (.slice Ao49 x239001_1.length co49)) (fun _ hk => trivial), bk_ HB.out⟩
 ·rw [if_neg c4] at H
  exact absurd H (by simp)

end Go.Proofs.Ytkinnaegedbanaa.PTagTurns
