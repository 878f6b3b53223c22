-- out of a turned copy of the print, by a program of this session; Lean checks it
import Derived.Test.YtkbekdjoaibhbaaPPairRunsx0
namespace Go.Proofs.Ytkbekdjoaibhbaa.PPairRuns
open Go.RowKit Go.Proofs.YtkbekdjoaibhbaaW.PrintWords Go.Proofs.YtkbekdjoaibhbaaW.PrintLast Go.Proofs.YtkbekdjoaibhbaaW.PrintMore
attribute [local go_sem] max2_int min2_int max_two min_two max_three min_three max_four min_four   -- for this text's walks alone
set_option linter.unusedVariables false
set_option linter.unusedSimpArgs false

attribute [local go_sem] isSome_put_
/-! ### standstilllaw06_Moves: function 20 -/
def standstilllaw06_Moves.f  : Option (Int × (List (S45))) := some (2, (([(⟨1, 0, 1, 2⟩ : S45), (⟨0, 1, 0, 0⟩ : S45), (⟨2, 0, 0, 0⟩ : S45)] : List (S45))))
set_option maxHeartbeats 8000000 in
set_option maxRecDepth 100000 in
theorem standstilllaw06_Moves.calls  (r1 : Int) (r2 : List (S45)) (w : World) (h : standstilllaw06_Moves.f  = some (r1, r2)) :
  Calls Try.prog 20 #[] w fun e w' => ∃ v1_ : Value, e = .returned (.agg #[.int .i64 r1, v1_]) ∧ Kd.R k45 45 w' w.heap.size (fun _ => True) v1_ r2 ∧ Below w.heap.size w w' := by
 have hu38 := Try.underlying38
 have hu45 := Try.underlying45
 have HB := A_ (Below.refl w.heap.size w)
 have H : (some (2, (([(⟨1, 0, 1, 2⟩ : S45), (⟨0, 1, 0, 0⟩ : S45), (⟨2, 0, 0, 0⟩ : S45)] : List (S45))))) = some (r1, r2) := h
 clear h
 obtain ⟨y143, hy143⟩ : ∃ y_ : List (S45), y_ = (([(⟨1, 0, 1, 2⟩ : S45), (⟨0, 1, 0, 0⟩ : S45), (⟨2, 0, 0, 0⟩ : S45)] : List (S45))) := ⟨_, rfl⟩
 replace H : (some (2, y143)) = some (r1, r2) := by first | (rw [hy143]; with_reducible exact H) | (have H2_ := (Option.bind_some _ _).symm.trans H; rw [hy143]; with_reducible exact H2_) | (have H2_ := (Option.bind_some _ _).symm.trans H; with_reducible exact H2_) | with_reducible exact H | (rw [hy143]; exact H) | exact H
 have Ny143 := Aside0.mk hy143
 clear hy143
 simp only [Option.some.injEq, Prod.mk.injEq] at H
 obtain ⟨rfl, rfl⟩ := H
 go_enter Try.func20, Try.ntmps20
 go_wp2_with (first | ((with_reducible refine gate_dst (N := 0) rfl ?_); refine box_event ?hg (N := 0) ?hd (cs := #[.int .i64 0, .slice none 0 0]) (t := 38) ?hr ?_; (case hd => rfl); (case hg => rfl); (case hr => first | (go_simp; done) | (go_simp; rfl)); intro gb142 hg w1 hbox hb; have n0_ := A_ (below_step (bk_ HB.out) hb); have n1_ := A_ (hbox); have n2_ := A_ (bz_ hg (bk_ HB.out)); have n3_ := A_ (bz_ hg (bk_ HB.out)); clear HB; have HB := n0_; have BK142 := n1_; have GW142 := n2_; have GE142 := n3_; clear n0_ n1_ n2_ n3_ hb hbox hg) | ((with_reducible refine gate_dst (N := 4) rfl ?_); refine Kd.R_lit k45 _ 45 ?hg (N := 4) ?hd (xs := ([(⟨1, 0, 1, 2⟩ : S45), (⟨0, 1, 0, 0⟩ : S45), (⟨2, 0, 0, 0⟩ : S45)] : List (S45))) (inner := [.int .i64 1, .int .i64 0, .int .i64 1, .int .i64 2, .int .i64 0, .int .i64 1, .int .i64 0, .int .i64 0, .int .i64 2, .int .i64 0, .int .i64 0, .int .i64 0]) (ok := fun _ => True) (okp := fun _ => True) ?hr ?hp (fun _ hk => hk) trivial (Below.refl _ _) (Nat.le_refl _) (by simp) ?_; (case hd => rfl); (case hg => rfl); (case hr => first | (go_simp; done) | (go_simp; rfl)); (case hp => exact (Reps.c4 (show Kd.M k45 _ _ _ (⟨1, 0, 1, 2⟩ : S45) [.int .i64 1, .int .i64 0, .int .i64 1, .int .i64 2] from (k45_mkM _ _ _ (⟨1, 0, 1, 2⟩ : S45) )) (Reps.c4 (show Kd.M k45 _ _ _ (⟨0, 1, 0, 0⟩ : S45) [.int .i64 0, .int .i64 1, .int .i64 0, .int .i64 0] from (k45_mkM _ _ _ (⟨0, 1, 0, 0⟩ : S45) )) (Reps.c4 (show Kd.M k45 _ _ _ (⟨2, 0, 0, 0⟩ : S45) [.int .i64 2, .int .i64 0, .int .i64 0, .int .i64 0] from (k45_mkM _ _ _ (⟨2, 0, 0, 0⟩ : S45) )) (Reps.none _ _))))); intro v144 w2 ho3 hb hg_ hnew_; clear hg_ hnew_; (first | rw [← Ny143.out] at ho3 | (simp only [Int.reduceToNat] at ho3; rw [← Ny143.out] at ho3)); have n0_ := A_ (Kd.R_lower ho3 (below_size (bk_ HB.out))); have n1_ := A_ (blk_below (pk_ BK142.out) hb); have n2_ := A_ (below_step (bk_ HB.out) hb); clear BK142 HB; have HO145 := n0_; have BK142 := n1_; have HB := n2_; clear n0_ n1_ n2_ hb ho3; obtain ⟨Ao4, co4, eo4⟩ := Kd.R_slice HO145.out; subst eo4; obtain ⟨hcz5_0, hcz5_1⟩ := bc2_ BK142.out; have hfz5_0 := blk_frozen BK142.out 0; have hfz5_1 := blk_frozen BK142.out 1))
 refine bodyPost_ret (results_cell_row rfl _ _ gb142 38 #[.int .i64 2, .slice Ao4 y143.length co4] (0, 0) _ rfl (by refine pk_ ?_; refine blk_put (cs := #[.int .i64 2, .slice none 0 0]) ?_ 1 _ rfl; refine pk_ ?_; refine blk_put (cs := #[.int .i64 0, .slice none 0 0]) ?_ 0 _ rfl; exact pk_ BK142.out) Try.underlying38 rfl (by kernel_rfl)) rfl ?_
 exact ⟨_, er_, by (with_reducible repeat (first | apply Kd.R_alloc | apply Kd.R_drewN | apply Kd.R_drew)); exact Kd.R_mono (rf2_ (Kd.R_types HO145.out BK142.out (by decide))) (fun _ hk => trivial), bk_ HB.out⟩

/-! ### standstillref06_Copy: function 33 -/
def standstillref06_Copy.f (a0_0 : Int) (l0_1 : List Int) : Option (Int × List Int) := (some (([] : List Int) : List Int)).bind fun y148 => (if y148.length + l0_1.length < 17592186044416 then (some (a0_0, (y148 ++ l0_1))) else (none))
def standstillref06_Copy.T1 : Bool × List (List Nat × List Nat) := (true, [([], []), ([0], [0]), ([], []), ([], []), ([3], [3]), ([2, 4], [2, 4]), ([1, 5], [1, 5]), ([6, 5, 0, 1, 2, 3, 4, 5, 6], [6])])
def standstillref06_Copy.B1 : List Nat := [0, 1, 0, 0, 8, 28, 63, 127]
theorem standstillref06_Copy.tab1 : rtab .any (opsOf Try.f33 1) = standstillref06_Copy.T1 := by kernel_rfl
theorem standstillref06_Copy.bits1 : waitsOk standstillref06_Copy.T1.2 standstillref06_Copy.B1 = true := by kernel_rfl
set_option maxHeartbeats 8000000 in
set_option maxRecDepth 100000 in
theorem standstillref06_Copy.calls (a0_0 : Int) (A0_1 : Option Addr) (c0_1 : Nat) (l0_1 : List Int) (r1 : Int) (r2 : List Int) (w : World) (hr0_1 : Kd.C (Kd.int .i64) w A0_1 l0_1.length l0_1) (hc0_1 : l0_1.length ≤ c0_1) (h : standstillref06_Copy.f a0_0 l0_1 = some (r1, r2)) :
  Calls Try.prog 33 #[.agg #[.int .i64 a0_0, .slice A0_1 l0_1.length c0_1]] w fun e w' => ∃ v1_ : Value, e = .returned (.agg #[.int .i64 r1, v1_]) ∧ Kd.R (Kd.int .i64) 3 w' w.heap.size (fun _ => True) v1_ r2 ∧ Below w.heap.size w w' := by
 have hu47 := Try.underlying47
 have HR0_1 := Aside0.mk hr0_1
 have HC0_1 := Aside0.mk hc0_1
 clear hr0_1 hc0_1
 have HB := A_ (Below.refl w.heap.size w)
 have H : ((some (([] : List Int) : List Int)).bind fun y148 => (if y148.length + l0_1.length < 17592186044416 then (some (a0_0, (y148 ++ l0_1))) else (none))) = some (r1, r2) := h
 clear h
 obtain ⟨y148, hy148⟩ : ∃ y_ : List Int, y_ = (([] : List Int)) := ⟨_, rfl⟩
 replace H : (if y148.length + l0_1.length < 17592186044416 then (some (a0_0, (y148 ++ l0_1))) else (none)) = some (r1, r2) := by first | (rw [hy148]; with_reducible exact H) | (have H2_ := (Option.bind_some _ _).symm.trans H; rw [hy148]; with_reducible exact H2_) | (have H2_ := (Option.bind_some _ _).symm.trans H; with_reducible exact H2_) | with_reducible exact H | (rw [hy148]; exact H) | exact H
 have Ny148 := Aside0.mk hy148
 clear hy148
 by_cases c2 : y148.length + l0_1.length < 17592186044416
 ·rw [if_pos c2] at H
  have LMc2 := Aside0.mk c2
  clear c2
  obtain ⟨y151, hy151⟩ : ∃ y_ : List Int, y_ = (y148 ++ l0_1) := ⟨_, rfl⟩
  replace H : (some (a0_0, y151)) = some (r1, r2) := by first | (rw [hy151]; with_reducible exact H) | (have H2_ := (Option.bind_some _ _).symm.trans H; rw [hy151]; with_reducible exact H2_) | (have H2_ := (Option.bind_some _ _).symm.trans H; with_reducible exact H2_) | with_reducible exact H | (rw [hy151]; exact H) | exact H
  have Ny151 := Aside0.mk hy151
  clear hy151
  simp only [Option.some.injEq, Prod.mk.injEq] at H
  obtain ⟨rfl, rfl⟩ := H
  go_enter Try.func33, Try.ntmps33
  try go_wp2_with (first | ((with_reducible refine gate_dst (N := 1) rfl ?_); refine box_event ?hg (N := 1) ?hd (cs := #[.int .i64 a0_0, .slice A0_1 l0_1.length c0_1]) (t := 47) ?hr ?_; (case hd => rfl); (case hg => rfl); (case hr => first | (go_simp; done) | (go_simp; rfl)); intro gb146 hg w3 hbox hb; have n0_ := A_ (below_step (bk_ HB.out) hb); have n1_ := A_ (hbox); have n2_ := A_ (bz_ hg (bk_ HB.out)); have n3_ := A_ (bz_ hg (bk_ HB.out)); clear HB; have HB := n0_; have BK146 := n1_; have GW146 := n2_; have GE146 := n3_; clear n0_ n1_ n2_ n3_ hb hbox hg) | ((with_reducible refine gate_dst (N := 2) rfl ?_); refine box_event ?hg (N := 2) ?hd (cs := #[.int .i64 0, .slice none 0 0]) (t := 47) ?hr ?_; (case hd => rfl); (case hg => rfl); (case hr => first | (go_simp; done) | (go_simp; rfl)); intro gb147 hg w4 hbox hb; have n0_ := A_ (blk_below (pk_ BK146.out) hb); have n1_ := A_ (below_step (bk_ HB.out) hb); have n2_ := A_ (hbox); have n3_ := A_ (bz_ hg (bk_ HB.out)); have n4_ := A_ (bz_ hg (bk_ HB.out)); have n5_ := A_ (nl_ hg (pk_ BK146.out)); have n6_ := A_ (ng_ hg (pk_ BK146.out)); clear BK146 HB; have BK146 := n0_; have HB := n1_; have BK147 := n2_; have GW147 := n3_; have GE147 := n4_; have NB146_147 := n5_; have NB147_146 := n6_; clear n0_ n1_ n2_ n3_ n4_ n5_ n6_ hb hbox hg))
  have n0_ := A_ (blk_drew BK146.out)
  have n1_ := A_ (blk_drew BK147.out)
  have n2_ := A_ (below_drew1 HB.out)
  clear BK146 BK147 HB
  have BK146 := n0_
  have BK147 := n1_
  have HB := n2_
  clear n0_ n1_ n2_
  refine start_ (n := 8) (S := fun w' => w'.cell? ⟨gb146, 0, none⟩ = some (.int .i64 a0_0) ∧ w'.cell? ⟨gb146, 1, none⟩ = some (.slice A0_1 l0_1.length c0_1)) (ds := []) #[false, false, false, false, false, false, false, false] (by kernel_rfl) rfl rfl ⟨(blk_cell BK146.out 0).trans rfl, (blk_cell BK146.out 1).trans rfl⟩ (fun hHeld => ?_); refine with_tabW standstillref06_Copy.tab1 standstillref06_Copy.bits1 (fun HT_ HW_ => ?_)
  generalize w4.drew = w5 at BK146 BK147 HB hHeld ⊢
  refine pure_ (i := 0) (N := some 3) (v := ?_) (a' := ?_) #[true, false, false, false, false, false, false, false] rfl rfl (any_of HT_.out (by kernel_rfl)) (fun _ _ _ h => h) (Or.inl ⟨by rfl, ?_⟩) ?_ ?_
  rotate_left
  ·intro w'
   go_simp
   with_reducible rfl
  rotate_left
  ·simp only [Act.put, sa_, sz_, ss_, i64_w, i32_w]
   rfl
  refine pure_ (i := 3) (N := some 6) (v := ?_) (a' := ?_) #[true, false, false, true, false, false, false, false] rfl rfl (any_of HT_.out (by kernel_rfl)) (fun _ _ _ h => h) (Or.inl ⟨by rfl, ?_⟩) ?_ ?_
  rotate_left
  ·intro w'
   go_simp
   with_reducible rfl
  rotate_left
  ·simp only [Act.put, sa_, sz_, ss_, i64_w, i32_w]
   rfl
  refine take_ (i := 1) (N := some 4) (v := ?_) (a' := ?_) #[true, true, false, true, false, false, false, false] rfl rfl (take_ofW HT_.out HW_.out (by kernel_rfl)) (fun _ _ _ h => h) (Or.inl ⟨by rfl, ?_⟩) hHeld ?_ ?_
  rotate_left
  ·rintro w' ⟨s0, s1⟩
   go_simp
   with_reducible rfl
  rotate_left
  ·simp only [Act.put, sa_, sz_, ss_, i64_w, i32_w]
   rfl
  refine take_ (i := 4) (N := some 7) (v := ?_) (a' := ?_) #[true, true, false, true, true, false, false, false] rfl rfl (take_ofW HT_.out HW_.out (by kernel_rfl)) (fun _ _ _ h => h) (Or.inl ⟨by rfl, ?_⟩) hHeld ?_ ?_
  rotate_left
  ·rintro w' ⟨s0, s1⟩
   go_simp
   with_reducible rfl
  rotate_left
  ·simp only [Act.put, sa_, sz_, ss_, i64_w, i32_w]
   rfl
  refine one_ (i := 2) (N := some 5) #[true, true, true, true, true, false, false, false] rfl rfl (one_of HT_.out (by kernel_rfl)) (by decide) (fun K hK => ?_)
  refine Kd.R_lit_step (Kd.int .i64) _ 3 ?hg (N := 5) ?hd (xs := ([] : List Int)) (inner := []) (ok := fun _ => True) (okp := fun _ => True) ?hr ?hp (fun _ hk => hk) trivial (Below.refl _ _) (Nat.le_refl _) (by simp) ?_; (case hd => rfl); (case hg => rfl); (case hr => first | (go_simp; done) | (go_simp; rfl)); (case hp => exact (Reps.none _ _))
  intro v149 w6 ho7 hb hg_ hnew_
  clear hg_ hnew_
  (first | rw [← Ny148.out] at ho7 | (simp only [Int.reduceToNat] at ho7; rw [← Ny148.out] at ho7))
  have n0_ := A_ (Kd.R_lower ho7 (below_size (bk_ HB.out)))
  have n1_ := A_ (blk_below (pk_ BK146.out) hb)
  have n2_ := A_ (blk_below (pk_ BK147.out) hb)
  have n3_ := A_ (below_step (bk_ HB.out) hb)
  clear BK146 BK147 HB
  have HO150 := n0_
  have BK146 := n1_
  have BK147 := n2_
  have HB := n3_
  clear n0_ n1_ n2_ n3_ hb ho7
  refine hK.out _ _ ⟨(blk_cell BK146.out 0).trans rfl, (blk_cell BK146.out 1).trans rfl⟩ (fun hHeld => ?_)
  clear hK K
  refine norm_ (a' := ?_) ?_ ?_
  rotate_left
  ·show Act.put _ (some 5) _ = _
   simp only [Act.put, sa_, sz_, ss_, i64_w, i32_w]
   rfl
  refine one_ (i := 5) (N := some 8) #[true, true, true, true, true, true, false, false] rfl rfl (one_of HT_.out (by kernel_rfl)) (by decide) (fun K hK => ?_)
  refine Kd.R_append_rows_step (Kd.int .i64) (w0 := w) w.heap.size (by rfl) (.tmp 5) (.tmp 7) 22 3 (.int .i64 0) 8 rfl Try.underlying22 info3 rfl (by decide) (by omega) v149 y148 l0_1 _ _ _ (fun _ => True) (fun _ => False) rfl rfl ?aO ?aR (fun _ _ h => h) (fun _ h => h.elim) ?aF ?aB ?aS ?aL ?_
  (case aR => repeat (first | exact (Kd.C_below HR0_1.out HB.out) | (with_reducible refine Kd.C_alloc ?_ _) | (with_reducible refine Kd.C_drewN ?_ _) | (with_reducible refine Kd.C_drew ?_)))
  (case aB => exact (bk_ HB.out))
  (case aF => exact (fun _ _ => trivial))
  (case aO => exact (rk_ HO150.out))
  (case aS => exact (below_size (bk_ HB.out)))
  (case aL => have := LMc2.out; omega)
  intro v152 w8 ho hb hg hat
  rw [← Ny151.out] at ho
  have n0_ := A_ (blk_grown (pk_ BK146.out) hg (Kd.R_ne HO150.out BK146.out (by decide)))
  have n1_ := A_ (blk_grown (pk_ BK147.out) hg (Kd.R_ne HO150.out BK147.out (by decide)))
  have n2_ := A_ (hb)
  have n3_ := A_ (ho)
  clear BK146 BK147 HB HO150
  have BK146 := n0_
  have BK147 := n1_
  have HB := n2_
  have HO153 := n3_
  clear n0_ n1_ n2_ n3_ ho hb hg hat
  obtain ⟨Ao9, co9, eo9⟩ := Kd.R_slice HO153.out
  (first | subst eo9 | (injection eo9 with f1_ f2_ f3_; have f4_ := f1_.symm; have f5_ := f3_.symm; clear f1_ f2_ f3_; subst f4_; subst f5_))
  refine hK.out _ _ ⟨(blk_cell BK146.out 0).trans rfl, (blk_cell BK146.out 1).trans rfl⟩ (fun hHeld => ?_)
  clear hK K
  refine norm_ (a' := ?_) ?_ ?_
  rotate_left
  ·show Act.put _ (some 8) _ = _
   simp only [Act.put, sa_, sz_, ss_, i64_w, i32_w]
   rfl
  refine pure_ (i := 6) (N := some 9) (v := ?_) (a' := ?_) #[true, true, true, true, true, true, true, false] rfl rfl (any_of HT_.out (by kernel_rfl)) (fun _ _ _ h => h) (Or.inl ⟨by rfl, ?_⟩) ?_ ?_
  rotate_left
  ·intro w'
   go_simp
   with_reducible rfl
  rotate_left
  ·simp only [Act.put, sa_, sz_, ss_, i64_w, i32_w]
   rfl
  refine one_ (i := 7) (N := none) #[true, true, true, true, true, true, true, true] rfl rfl (one_of HT_.out (by kernel_rfl)) (by decide) (fun K hK => ?_)
  have hs10 : w8.cell? ⟨gb147, 0, none⟩ = some (.int .i64 0) := (blk_cell BK147.out 0).trans rfl
  have hfs10 := blk_frozen BK147.out 0
  have hns10_0 := NB146_147.out
  have hms10_0 := NB147_146.out
  have hs11 : w8.cell? ⟨gb147, 1, none⟩ = some (.slice none 0 0) := (blk_cell BK147.out 1).trans rfl
  have hfs11 := blk_frozen BK147.out 1
  have hns11_0 := NB146_147.out
  have hms11_0 := NB147_146.out
  refine skip_ (w1 := ?_) (by rfl) rfl ?_ ?_
  rotate_left
  ·go_simp
   rfl
  refine hK.out _ _ ⟨(cf2_ NB146_147.out hHeld.1), (cf2_ NB146_147.out hHeld.2)⟩ (fun hHeld => ?_)
  clear hK K
  refine done_ (done_of HT_.out (by kernel_rfl)) ?_
  try go_wp2
  refine bodyPost_ret (results_cell_row rfl _ _ gb147 47 #[.int .i64 a0_0, .slice Ao9 y151.length co9] (0, 0) _ rfl (by refine pk_ ?_; refine blk_put (cs := #[.int .i64 a0_0, .slice none 0 0]) ?_ 1 _ rfl; refine pk_ ?_; refine blk_put (cs := #[.int .i64 0, .slice none 0 0]) ?_ 0 _ rfl; exact pk_ BK147.out) Try.underlying47 rfl (by kernel_rfl)) rfl ?_
  exact ⟨_, er_, by (with_reducible repeat (first | apply Kd.R_alloc | apply Kd.R_drewN | apply Kd.R_drew)); exact Kd.R_mono (rf2_ (Kd.R_types HO153.out BK147.out (by decide))) (fun _ hk => trivial), bk_ HB.out⟩
 ·rw [if_neg c2] at H
  exact absurd H (by simp)

/-! ### standstillref06_Go: function 34 (by hand) -/
theorem keep_of_below {w W : World} {g : Nat} {row : Option Nat} (h : Below w.heap.size w W) : KeepBut w W g row := ⟨h.size, fun k hk _ _ => by rw [Array.getElem?_eq_getElem hk]; exact blk_below (Array.getElem?_eq_getElem hk) h⟩
theorem keep_set {w W : World} {g : Nat} {row : Option Nat} (h : KeepBut w W g row) {p : Addr} (hp : p.block = g ∨ some p.block = row) (u : Value) : KeepBut w (W.setCell p u) g row := ⟨by simpa using h.1, fun k hk h1 h2 => (Below.heap_setCell W p u k (by rintro rfl; rcases hp with e | e; exact h1 e; exact h2 e)).trans (h.2 k hk h1 h2)⟩
def rgo (code : List S45) (p : Int) (l : List Int) : Option (Int × List Int × Bool × Bool) :=
  if 0 ≤ p ∧ p < (code.length : Int) then
    if (rd_T45 code p).f0 = 2 then some (p, l, true, false)
    else if 0 ≤ (rd_T45 code p).f1 ∧ (rd_T45 code p).f1 < (l.length : Int) then
      if (rd_T45 code p).f0 = 0 then
        if 1152921504606846976 ≤ rd l (rd_T45 code p).f1 then some (p, l, false, true)
        else some ((rd_T45 code p).f2, l.set (rd_T45 code p).f1.toNat (wrap64 (rd l (rd_T45 code p).f1 + 1)), false, false)
      else
        if rd l (rd_T45 code p).f1 = 0 then some ((rd_T45 code p).f3, l, false, false)
        else some ((rd_T45 code p).f2, l.set (rd_T45 code p).f1.toNat (wrap64 (rd l (rd_T45 code p).f1 - 1)), false, false)
    else none
  else none
set_option maxHeartbeats 4000000 in
set_option maxRecDepth 100000 in
set_option maxHeartbeats 8000000 in
set_option maxRecDepth 100000 in
theorem rgo_calls (base g : Nat) (a0_0 : Int) (A0_1 : Option Addr) (c0_1 : Nat) (l0_1 : List S45) (p : Int) (A1 : Option Addr) (n c1 : Nat) (l : List Int) (p' : Int) (l' : List Int) (s b : Bool) (w : World) (hr0_1 : Kd.C k45 w A0_1 l0_1.length l0_1) (hc0_1 : l0_1.length ≤ c0_1) (hbg : base ≤ g) (hg : w.heap[g]? = some (.cells #[.int .i64 p, .slice A1 n c1] 47 (0, 0))) (hln : l.length = n) (hR : Kd.R (Kd.int .i64) 3 w base (fun k => k ≠ g) (.slice A1 n c1) l) (h : rgo l0_1 p l = some (p', l', s, b)) :
    Calls Try.prog 34 #[.agg #[.int .i64 a0_0, .slice A0_1 l0_1.length c0_1], .pointer (some ⟨g, 0, none⟩)] w fun e w' => e = .returned (.tuple #[.bool s, .bool b]) ∧ w'.heap[g]? = some (.cells #[.int .i64 p', .slice A1 n c1] 47 (0, 0)) ∧ l'.length = n ∧ Kd.R (Kd.int .i64) 3 w' base (fun k => k ≠ g) (.slice A1 n c1) l' ∧ Below base w w' ∧ KeepBut w w' g (Value.slice A1 n c1).ownBlock := by
  have hu24 := Try.underlying38
  have hu27 := Try.underlying47
  have hu33 := Try.underlying45
  unfold rgo at h
  by_cases kp : 0 ≤ p ∧ p < (l0_1.length : Int)
  rotate_left
  · rw [if_neg kp] at h
    cases h
  rw [if_pos kp] at h
  obtain ⟨p0, p1⟩ := kp
  obtain ⟨ad, ea, hx0, hx1, hx2, hx3⟩ := at_T45 hr0_1 p p0 p1
  cases ea
  replace p0 := eq_true p0
  replace p1 := eq_true p1
  obtain ⟨⟨x0, x1, x2, x3⟩, hx⟩ : ∃ x, rd_T45 l0_1 p = x := ⟨_, rfl⟩
  rw [hx] at h hx0 hx1 hx2 hx3
  simp only at h hx0 hx1 hx2 hx3
  have H := Aside0.mk h
  have HBG := Aside0.mk hbg
  have HLN := Aside0.mk hln
  obtain ⟨z0, hz0⟩ : ∃ z, z = w.heap.size := ⟨_, rfl⟩
  obtain ⟨w0, hW0⟩ : ∃ W : World, W = w.alloc (.cells #[.int .i64 a0_0, .slice (some ad) l0_1.length c0_1] 38) := ⟨_, rfl⟩
  have hbw : Below w.heap.size w w0 := by rw [hW0]; exact below_alloc (Below.refl w.heap.size w) _
  have HZ0 := Aside0.mk (show w0.heap[z0]? = some (.cells #[.int .i64 a0_0, .slice (some ad) l0_1.length c0_1] 38 (0, 0)) by rw [hW0, hz0]; exact blk_new w (.cells #[.int .i64 a0_0, .slice (some ad) l0_1.length c0_1] 38))
  have HG0 := Aside0.mk (show w0.heap[g]? = some (.cells #[.int .i64 p, .slice A1 n c1] 47 (0, 0)) by rw [hW0]; exact blk_alloc hg _)
  have HR0 := Aside0.mk (show Kd.R (Kd.int .i64) 3 w0 base (fun k => k ≠ g) (.slice A1 n c1) l by rw [hW0]; exact Kd.R_alloc hR _)
  have hbs : base ≤ w.heap.size := Nat.le_trans hbg (Nat.le_of_lt (blk_lt hg))
  have HB0 := Aside0.mk (show Below base w w0 by rw [hW0]; exact (Below.refl base w).alloc hbs _)
  have HW0 := Aside0.mk hbw
  have HS0 := Aside0.mk (show base ≤ w0.heap.size from Nat.le_trans hbs hbw.size)
  have HZG := Aside0.mk (show g < z0 by rw [hz0]; exact blk_lt hg)
  replace hx0 := lf_ hbw hx0
  replace hx1 := lf_ hbw hx1
  replace hx2 := lf_ hbw hx2
  replace hx3 := lf_ hbw hx3
  clear h hbg hln hr0_1 hc0_1 hR hg hbw hbs hx
  go_enter Try.func34, Try.ntmps34
  go_wp2_with fail
  rw [← hW0, ← hz0]
  clear hW0 hz0
  have hs1 := (blk_cell HZ0.out 1).trans rfl
  have hg0 := (blk_cell HG0.out 0).trans rfl
  refine start_ (n := 10) (S := fun w' => w'.cell? ⟨z0, 1, none⟩ = some (.slice (some ad) l0_1.length c0_1) ∧ w'.cell? ⟨g, 0, none⟩ = some (.int .i64 p) ∧ w'.cell? (ad.add (p.toNat * 4)) = some (.int .i64 x0) ∧ w'.cell? ⟨(ad.add (p.toNat * 4)).block, (ad.add (p.toNat * 4)).off + 1, none⟩ = some (.int .i64 x1) ∧ w'.cell? ⟨(ad.add (p.toNat * 4)).block, (ad.add (p.toNat * 4)).off + 2, none⟩ = some (.int .i64 x2) ∧ w'.cell? ⟨(ad.add (p.toNat * 4)).block, (ad.add (p.toNat * 4)).off + 3, none⟩ = some (.int .i64 x3)) (ds := [9]) #[false, false, false, false, false, false, false, false, false, false] (by kernel_rfl) rfl rfl ⟨hs1, hg0, hx0, hx1, hx2, hx3⟩ (fun hHeld => ?_)
  refine pure_ (i := 0) (N := some 7) (v := ?_) (a' := ?_) #[true, false, false, false, false, false, false, false, false, false] rfl rfl (by kernel_rfl) (fun _ _ _ h => h) (Or.inl ⟨by rfl, ?_⟩) ?_ ?_
  rotate_left
  · intro w'
    go_simp
    with_reducible rfl
  rotate_left
  · simp only [Act.put, List.setIfInBounds_toArray, List.set_cons_zero, List.set_cons_succ, i64_w, i32_w]
    rfl
  refine pure_ (i := 2) (N := some 9) (v := ?_) (a' := ?_) #[true, false, true, false, false, false, false, false, false, false] rfl rfl (by kernel_rfl) (fun _ _ _ h => h) (Or.inl ⟨by rfl, ?_⟩) ?_ ?_
  rotate_left
  · intro w'
    go_simp
    with_reducible rfl
  rotate_left
  · simp only [Act.put, List.setIfInBounds_toArray, List.set_cons_zero, List.set_cons_succ, i64_w, i32_w]
    rfl
  refine pure_ (i := 3) (N := some 10) (v := ?_) (a' := ?_) #[true, false, true, true, false, false, false, false, false, false] rfl rfl (by kernel_rfl) (fun _ _ _ h => h) (Or.inl ⟨by rfl, ?_⟩) ?_ ?_
  rotate_left
  · intro w'
    go_simp
    with_reducible rfl
  rotate_left
  · simp only [Act.put, List.setIfInBounds_toArray, List.set_cons_zero, List.set_cons_succ, i64_w, i32_w]
    rfl
  refine pure_ (i := 4) (N := some 11) (v := ?_) (a' := ?_) #[true, false, true, true, true, false, false, false, false, false] rfl rfl (by kernel_rfl) (fun _ _ _ h => h) (Or.inl ⟨by rfl, ?_⟩) ?_ ?_
  rotate_left
  · intro w'
    go_simp
    with_reducible rfl
  rotate_left
  · simp only [Act.put, List.setIfInBounds_toArray, List.set_cons_zero, List.set_cons_succ, i64_w, i32_w]
    rfl
  refine take_ (i := 1) (N := some 8) (v := ?_) (a' := ?_) #[true, true, true, true, true, false, false, false, false, false] rfl rfl (by kernel_rfl) (fun _ _ _ h => h) (Or.inl ⟨by rfl, ?_⟩) hHeld ?_ ?_
  rotate_left
  · rintro w' ⟨s0, s1, s2, s3, s4, s5⟩
    go_simp
    with_reducible rfl
  rotate_left
  · simp only [Act.put, List.setIfInBounds_toArray, List.set_cons_zero, List.set_cons_succ, i64_w, i32_w]
    rfl
  refine take_ (i := 5) (N := some 12) (v := ?_) (a' := ?_) #[true, true, true, true, true, true, false, false, false, false] rfl rfl (by kernel_rfl) (fun _ _ _ h => h) (Or.inl ⟨by rfl, ?_⟩) hHeld ?_ ?_
  rotate_left
  · rintro w' ⟨s0, s1, s2, s3, s4, s5⟩
    go_simp
    with_reducible rfl
  rotate_left
  · simp only [Act.put, List.setIfInBounds_toArray, List.set_cons_zero, List.set_cons_succ, i64_w, i32_w]
    rfl
  refine pure_ (i := 6) (N := some 13) (v := ?_) (a' := ?_) #[true, true, true, true, true, true, true, false, false, false] rfl rfl (by kernel_rfl) (fun _ _ _ h => h) (Or.inl ⟨by rfl, ?_⟩) ?_ ?_
  rotate_left
  · intro w'
    go_simp
    with_reducible rfl
  rotate_left
  · simp only [Act.put, List.setIfInBounds_toArray, List.set_cons_zero, List.set_cons_succ, i64_w, i32_w]
    rfl
  refine take_ (i := 7) (N := some 14) (v := ?_) (a' := ?_) #[true, true, true, true, true, true, true, true, false, false] rfl rfl (by kernel_rfl) (fun _ _ _ h => h) (Or.inl ⟨by rfl, ?_⟩) hHeld ?_ ?_
  rotate_left
  · rintro w' ⟨s0, s1, s2, s3, s4, s5⟩
    go_simp
    with_reducible rfl
  rotate_left
  · simp only [Act.put, List.setIfInBounds_toArray, List.set_cons_zero, List.set_cons_succ, i64_w, i32_w]
    rfl
  refine one_ (i := 8) (N := some 6) #[true, true, true, true, true, true, true, true, true, false] rfl rfl (by kernel_rfl) (by decide) (fun K hK => ?_)
  refine box_step ?hg (N := 6) ?hd (cs := #[.int .i64 0, .int .i64 0, .int .i64 0, .int .i64 0]) (t := 45) ?hr ?_; (case hd => rfl); (case hg => rfl); (case hr => first | (go_simp; done) | (go_simp; rfl))
  intro gq hgq w1 hbox hb
  have HE1 := Aside0.mk (below_step (show Below w0.heap.size w0 w0.drew from bk_ (Below.refl _ _)) hb)
  have HQ1 := Aside0.mk hbox
  have HGQ := Aside0.mk (show w0.heap.size ≤ gq from Nat.le_of_eq hgq.symm)
  clear hgq hbox hb
  refine hK.out _ _ ⟨(lf_ HE1.out hs1), (lf_ HE1.out hg0), (lf_ HE1.out hx0), (lf_ HE1.out hx1), (lf_ HE1.out hx2), (lf_ HE1.out hx3)⟩ (fun hHeld => ?_)
  clear hK K
  refine norm_ (a' := ?_) ?_ ?_
  rotate_left
  · show Act.put _ (some 6) _ = _
    simp only [Act.put, List.setIfInBounds_toArray, List.set_cons_zero, List.set_cons_succ, i64_w, i32_w]
    rfl
  refine last_ (i := 9) (N := none) #[true, true, true, true, true, true, true, true, true, true] rfl rfl (by kernel_rfl) (by decide) (fun K hK => ?_)
  have hq0 := (blk_cell HQ1.out 0).trans rfl
  have hq1 := (blk_cell HQ1.out 1).trans rfl
  have hq2 := (blk_cell HQ1.out 2).trans rfl
  have hq3 := (blk_cell HQ1.out 3).trans rfl
  have hf0 := blk_frozen HQ1.out 0
  have hf1 := blk_frozen HQ1.out 1
  have hf2 := blk_frozen HQ1.out 2
  have hf3 := blk_frozen HQ1.out 3
  refine skip_ (w1 := ?_) (by rfl) rfl ?_ ?_
  rotate_left
  · go_simp
    rfl
  refine hK.out _ _ ?_
  clear hK K
  refine done_ (by kernel_rfl) ?_
  have HNQ := Aside0.mk (show g ≠ gq by have h1 := blk_lt HG0.out; have h2 := HGQ.out; omega)
  have HRB := Aside0.mk (Kd.R_mono (ok' := fun k => k ≠ g ∧ k < w0.heap.size) (Kd.R_bound HR0.out) (fun _ h => ⟨h.1, h.2.2.1⟩))
  have HWQ := Aside0.mk (show w.heap.size ≤ gq from Nat.le_trans HW0.out.size HGQ.out)
  have HGB := Aside0.mk (show base ≤ gq from Nat.le_trans HS0.out HGQ.out)
  obtain ⟨W2, hW2⟩ : ∃ W : World, W = (((w1.setCell ⟨gq, 0, none⟩ (.int .i64 x0)).setCell ⟨gq, 1, none⟩ (.int .i64 x1)).setCell ⟨gq, 2, none⟩ (.int .i64 x2)).setCell ⟨gq, 3, none⟩ (.int .i64 x3) := ⟨_, rfl⟩
  have HQ2 := Aside0.mk (show W2.heap[gq]? = some (.cells #[.int .i64 x0, .int .i64 x1, .int .i64 x2, .int .i64 x3] 45 (0, 0)) from by rw [hW2]; exact by refine blk_put (cs := #[.int .i64 x0, .int .i64 x1, .int .i64 x2, .int .i64 0]) ?_ 3 _ rfl; refine blk_put (cs := #[.int .i64 x0, .int .i64 x1, .int .i64 0, .int .i64 0]) ?_ 2 _ rfl; refine blk_put (cs := #[.int .i64 x0, .int .i64 0, .int .i64 0, .int .i64 0]) ?_ 1 _ rfl; refine blk_put (cs := #[.int .i64 0, .int .i64 0, .int .i64 0, .int .i64 0]) ?_ 0 _ rfl; exact HQ1.out)
  have HG2 := Aside0.mk (show W2.heap[g]? = some (.cells #[.int .i64 p, .slice A1 n c1] 47 (0, 0)) from by rw [hW2]; exact blk_far (blk_far (blk_far (blk_far (blk_below HG0.out HE1.out) HNQ.out _) HNQ.out _) HNQ.out _) HNQ.out _)
  have HR2 := Aside0.mk (show Kd.R (Kd.int .i64) 3 W2 base (fun k => k ≠ g) (.slice A1 n c1) l from by rw [hW2]; exact Kd.R_mono (Kd.R_far (Kd.R_far (Kd.R_far (Kd.R_far (Kd.R_below HRB.out HE1.out) (fun k hk => by have h1 := hk.2; have h2 := HGQ.out; intro e; subst e; exact absurd h1 (by simp; omega)) _) (fun k hk => by have h1 := hk.2; have h2 := HGQ.out; intro e; subst e; exact absurd h1 (by simp; omega)) _) (fun k hk => by have h1 := hk.2; have h2 := HGQ.out; intro e; subst e; exact absurd h1 (by simp; omega)) _) (fun k hk => by have h1 := hk.2; have h2 := HGQ.out; intro e; subst e; exact absurd h1 (by simp; omega)) _) (fun _ h => h.1))
  have HB2 := Aside0.mk (show Below base w W2 from by rw [hW2]; exact ((((below_then HB0.out HS0.out HE1.out).setCell HGB.out _).setCell HGB.out _).setCell HGB.out _).setCell HGB.out _)
  have HK2 := Aside0.mk (show KeepBut w W2 g (Value.slice A1 n c1).ownBlock from by rw [hW2]; exact keep_of_below (below_set (below_set (below_set (below_set (below_step HW0.out HE1.out) HWQ.out) HWQ.out) HWQ.out) HWQ.out))
  have HS2 := Aside0.mk (show base ≤ W2.heap.size from by rw [hW2]; exact by simp only [World.size_setCell]; exact Nat.le_trans HS0.out HE1.out.size)
  rw [← hW2]
  clear hW2
  clear HQ1 HG0 HR0 HB0 HRB HE1 HZ0 hs1 hg0 hx0 hx1 hx2 hx3 HZG HGQ hq0 hq1 hq2 hq3 hf0 hf1 hf2 hf3
  have hq0 := (blk_cell HQ2.out 0).trans rfl
  have hq1 := (blk_cell HQ2.out 1).trans rfl
  have hq2 := (blk_cell HQ2.out 2).trans rfl
  have hq3 := (blk_cell HQ2.out 3).trans rfl
  have hg0 := (blk_cell HG2.out 0).trans rfl
  have hg1 := (blk_cell HG2.out 1).trans rfl
  have hgf := blk_frozen HG2.out 0
  have h := H.out
  clear H
  by_cases hh : x0 = 2
  · rw [if_pos hh] at h
    simp only [Option.some.injEq, Prod.mk.injEq] at h
    obtain ⟨rfl, rfl, rfl, rfl⟩ := h
    have hh1 : (x0 == (2 : Int)) = true := beq_iff_eq.mpr hh
    clear hh
    go_wp2
    go_ret2
    exact ⟨rfl, HG2.out, HLN.out, HR2.out, HB2.out, HK2.out⟩
  rw [if_neg hh] at h
  have hh1 : (x0 == (2 : Int)) = false := beq_eq_false_iff_ne.mpr hh
  clear hh
  by_cases hr : 0 ≤ x1 ∧ x1 < (l.length : Int)
  rotate_left
  · rw [if_neg hr] at h; cases h
  rw [if_pos hr] at h
  obtain ⟨hr0, hr1⟩ := hr
  obtain ⟨gr, cap9, hv9, -⟩ := Kd.R_form HR2.out (by omega)
  rw [HLN.out] at hr1
  injection hv9 with e1 e2 e3
  subst e1
  clear e2 e3
  obtain ⟨hc, hcf⟩ := Kd.R_celln 0 HR2.out x1 hr0 hr1
  change W2.cell? ⟨gr, x1.toNat, none⟩ = some (.int .i64 (rd l x1)) at hc
  have hn9 := HR2.out.1 gr rfl
  have hb9 := Kd.R_base HR2.out gr rfl
  have HB9 := Aside0.mk hb9
  have HN9 := Aside0.mk hn9
  clear hb9 hn9
  have HR0' := Aside0.mk hr0
  have HR1' := Aside0.mk hr1
  replace hr0 := eq_true hr0
  replace hr1 := eq_true hr1
  by_cases h0 : x0 = 0
  · rw [if_pos h0] at h
    have h01 : (x0 == (0 : Int)) = true := beq_iff_eq.mpr h0
    clear h0
    by_cases hm : 1152921504606846976 ≤ rd l x1
    · rw [if_pos hm] at h
      simp only [Option.some.injEq, Prod.mk.injEq] at h
      obtain ⟨rfl, rfl, rfl, rfl⟩ := h
      have hm1 : decide ((1152921504606846976 : Int) ≤ rd l x1) = true := decide_eq_true hm
      replace hm := eq_true hm
      go_wp2
      go_quiet (fail)
      go_wp2
      go_ret2
      exact ⟨rfl, blk_drewN HG2.out _, HLN.out, Kd.R_drewN HR2.out _, pw_below_drewN HB2.out _, keep_drewN HK2.out _⟩
    rw [if_neg hm] at h
    simp only [Option.some.injEq, Prod.mk.injEq] at h
    obtain ⟨rfl, rfl, rfl, rfl⟩ := h
    have hm1 : decide ((1152921504606846976 : Int) ≤ rd l x1) = false := decide_eq_false hm
    replace hm := eq_false hm
    go_wp2
    go_quiet (fail)
    go_wp2
    obtain ⟨W3, hW3⟩ : ∃ W : World, W = W2.drewN nq := ⟨_, rfl⟩
    have HQ3 := Aside0.mk (show W3.heap[gq]? = some (.cells #[.int .i64 x0, .int .i64 x1, .int .i64 x2, .int .i64 x3] 45 (0, 0)) by rw [hW3]; exact blk_drewN HQ2.out _)
    have HG3 := Aside0.mk (show W3.heap[g]? = some (.cells #[.int .i64 p, .slice (some ⟨gr, 0, none⟩) n c1] 47 (0, 0)) by rw [hW3]; exact blk_drewN HG2.out _)
    have HR3 := Aside0.mk (show Kd.R (Kd.int .i64) 3 W3 base (fun k => k ≠ g) (.slice (some ⟨gr, 0, none⟩) n c1) l by rw [hW3]; exact Kd.R_drewN HR2.out _)
    have HB3 := Aside0.mk (show Below base w W3 by rw [hW3]; exact pw_below_drewN HB2.out _)
    have HK3 := Aside0.mk (show KeepBut w W3 g (some gr) by rw [hW3]; exact keep_drewN HK2.out _)
    rw [← hW3]
    clear hW3 HQ2 HG2 HR2 HB2 HK2 hq0 hq1 hq2 hq3 hg0 hg1 hgf hc hcf
    have hg1 : W3.cell? ⟨g, 1, none⟩ = some (.slice (some ⟨gr, 0, none⟩) n c1) := (blk_cell HG3.out 1).trans rfl
    have hq1 : W3.cell? ⟨gq, 1, none⟩ = some (.int .i64 x1) := (blk_cell HQ3.out 1).trans rfl
    obtain ⟨hc, hcf⟩ := Kd.R_celln 0 HR3.out x1 (of_eq_true hr0) (of_eq_true hr1)
    change W3.cell? ⟨gr, x1.toNat, none⟩ = some (.int .i64 (rd l x1)) at hc
    refine start_ (n := 11) (S := fun w' => w'.cell? ⟨g, 1, none⟩ = some (.slice (some ⟨gr, 0, none⟩) n c1) ∧ w'.cell? ⟨gq, 1, none⟩ = some (.int .i64 x1) ∧ w'.cell? ⟨gr, x1.toNat, none⟩ = some (.int .i64 (rd l x1))) (ds := [10]) #[false, false, false, false, false, false, false, false, false, false, false] (by kernel_rfl) rfl rfl ⟨hg1, hq1, hc⟩ (fun hHeld => ?_)
    refine pure_ (i := 0) (N := some 59) (v := ?_) (a' := ?_) #[true, false, false, false, false, false, false, false, false, false, false] rfl rfl (by kernel_rfl) (fun _ _ _ h => h) (Or.inl ⟨by rfl, ?_⟩) ?_ ?_
    rotate_left
    · intro w'
      go_simp
      with_reducible rfl
    rotate_left
    · simp only [Act.put, List.setIfInBounds_toArray, List.set_cons_zero, List.set_cons_succ, i64_w, i32_w]
      rfl
    refine pure_ (i := 1) (N := some 60) (v := ?_) (a' := ?_) #[true, true, false, false, false, false, false, false, false, false, false] rfl rfl (by kernel_rfl) (fun _ _ _ h => h) (Or.inl ⟨by rfl, ?_⟩) ?_ ?_
    rotate_left
    · intro w'
      go_simp
      with_reducible rfl
    rotate_left
    · simp only [Act.put, List.setIfInBounds_toArray, List.set_cons_zero, List.set_cons_succ, i64_w, i32_w]
      rfl
    refine pure_ (i := 2) (N := some 61) (v := ?_) (a' := ?_) #[true, true, true, false, false, false, false, false, false, false, false] rfl rfl (by kernel_rfl) (fun _ _ _ h => h) (Or.inl ⟨by rfl, ?_⟩) ?_ ?_
    rotate_left
    · intro w'
      go_simp
      with_reducible rfl
    rotate_left
    · simp only [Act.put, List.setIfInBounds_toArray, List.set_cons_zero, List.set_cons_succ, i64_w, i32_w]
      rfl
    refine pure_ (i := 4) (N := some 63) (v := ?_) (a' := ?_) #[true, true, true, false, true, false, false, false, false, false, false] rfl rfl (by kernel_rfl) (fun _ _ _ h => h) (Or.inl ⟨by rfl, ?_⟩) ?_ ?_
    rotate_left
    · intro w'
      go_simp
      with_reducible rfl
    rotate_left
    · simp only [Act.put, List.setIfInBounds_toArray, List.set_cons_zero, List.set_cons_succ, i64_w, i32_w]
      rfl
    refine take_ (i := 3) (N := some 62) (v := ?_) (a' := ?_) #[true, true, true, true, true, false, false, false, false, false, false] rfl rfl (by kernel_rfl) (fun _ _ _ h => h) (Or.inl ⟨by rfl, ?_⟩) hHeld ?_ ?_
    rotate_left
    · rintro w' ⟨s0, s1, s2⟩
      go_simp
      with_reducible rfl
    rotate_left
    · simp only [Act.put, List.setIfInBounds_toArray, List.set_cons_zero, List.set_cons_succ, i64_w, i32_w]
      rfl
    refine take_ (i := 5) (N := some 64) (v := ?_) (a' := ?_) #[true, true, true, true, true, true, false, false, false, false, false] rfl rfl (by kernel_rfl) (fun _ _ _ h => h) (Or.inl ⟨by rfl, ?_⟩) hHeld ?_ ?_
    rotate_left
    · rintro w' ⟨s0, s1, s2⟩
      go_simp
      with_reducible rfl
    rotate_left
    · simp only [Act.put, List.setIfInBounds_toArray, List.set_cons_zero, List.set_cons_succ, i64_w, i32_w]
      rfl
    refine pure_ (i := 6) (N := some 65) (v := ?_) (a' := ?_) #[true, true, true, true, true, true, true, false, false, false, false] rfl rfl (by kernel_rfl) (fun _ _ _ h => h) (Or.inl ⟨by rfl, ?_⟩) ?_ ?_
    rotate_left
    · intro w'
      go_simp
      with_reducible rfl
    rotate_left
    · simp only [Act.put, List.setIfInBounds_toArray, List.set_cons_zero, List.set_cons_succ, i64_w, i32_w]
      rfl
    refine take_ (i := 7) (N := some 66) (v := ?_) (a' := ?_) #[true, true, true, true, true, true, true, true, false, false, false] rfl rfl (by kernel_rfl) (fun _ _ _ h => h) (Or.inl ⟨by rfl, ?_⟩) hHeld ?_ ?_
    rotate_left
    · rintro w' ⟨s0, s1, s2⟩
      go_simp
      with_reducible rfl
    rotate_left
    · simp only [Act.put, List.setIfInBounds_toArray, List.set_cons_zero, List.set_cons_succ, i64_w, i32_w]
      rfl
    refine pure_ (i := 8) (N := some 67) (v := ?_) (a' := ?_) #[true, true, true, true, true, true, true, true, true, false, false] rfl rfl (by kernel_rfl) (fun _ _ _ h => h) (Or.inl ⟨by rfl, ?_⟩) ?_ ?_
    rotate_left
    · intro w'
      go_simp
      with_reducible rfl
    rotate_left
    · simp only [Act.put, List.setIfInBounds_toArray, List.set_cons_zero, List.set_cons_succ, i64_w, i32_w]
      rfl
    refine pure_ (i := 9) (N := some 68) (v := ?_) (a' := ?_) #[true, true, true, true, true, true, true, true, true, true, false] rfl rfl (by kernel_rfl) (fun _ _ _ h => h) (Or.inl ⟨by rfl, ?_⟩) ?_ ?_
    rotate_left
    · intro w'
      go_simp
      with_reducible rfl
    rotate_left
    · simp only [Act.put, List.setIfInBounds_toArray, List.set_cons_zero, List.set_cons_succ, i64_w, i32_w]
      rfl
    refine last_ (i := 10) (N := none) #[true, true, true, true, true, true, true, true, true, true, true] rfl rfl (by kernel_rfl) (by decide) (fun K hK => ?_)
    refine skip_ (w1 := ?_) (by rfl) rfl ?_ ?_
    rotate_left
    · go_simp
      rfl
    refine hK.out _ _ ?_
    clear hK K
    refine done_ (by kernel_rfl) ?_
    have HNQR := Aside0.mk (show gq ≠ gr from fun e => (Kd.R_ne HR3.out HQ3.out (by decide)) (congrArg some e))
    obtain ⟨W4, hW4⟩ : ∃ W : World, W = (W3.setCell ⟨gr, x1.toNat, none⟩ (.int .i64 (wrap64 (rd l x1 + 1)))).drew := ⟨_, rfl⟩
    have HQ4 := Aside0.mk (show W4.heap[gq]? = some (.cells #[.int .i64 x0, .int .i64 x1, .int .i64 x2, .int .i64 x3] 45 (0, 0)) by rw [hW4]; exact blk_drew (blk_far (p := ⟨gr, x1.toNat, none⟩) HQ3.out HNQR.out _))
    have HG4 := Aside0.mk (show W4.heap[g]? = some (.cells #[.int .i64 p, .slice (some ⟨gr, 0, none⟩) n c1] 47 (0, 0)) by rw [hW4]; exact blk_drew (blk_far (p := ⟨gr, x1.toNat, none⟩) HG3.out (fun e => HN9.out e.symm) _))
    have HR4 := Aside0.mk (show Kd.R (Kd.int .i64) 3 W4 base (fun k => k ≠ g) (.slice (some ⟨gr, 0, none⟩) n c1) (l.set x1.toNat (wrap64 (rd l x1 + 1))) by rw [hW4]; exact Kd.R_drew (Kd.R_putn HR3.out x1 _))
    have HB4 := Aside0.mk (show Below base w W4 by rw [hW4]; exact below_drew (HB3.out.setCell HB9.out _))
    have HK4 := Aside0.mk (show KeepBut w W4 g (some gr) by rw [hW4]; exact keep_drewN (keep_set HK3.out (.inr rfl) _) 1)
    refine Eq.mp (congrArg (Exit.then _ _ _ _) hW4) ?_
    clear hW4
    clear hHeld HQ3 HG3 HR3 HB3 hg1 hq1 hc hcf
    have hg0 : W4.cell? ⟨g, 0, none⟩ = some (.int .i64 p) := (blk_cell HG4.out 0).trans rfl
    have hgf := blk_frozen HG4.out 0
    have hq2 : W4.cell? ⟨gq, 2, none⟩ = some (.int .i64 x2) := (blk_cell HQ4.out 2).trans rfl
    skip
    go_wp2
    skip
    go_ret2
    exact ⟨rfl, by refine blk_put (cs := #[.int .i64 p, .slice (some ⟨gr, 0, none⟩) n c1]) ?_ 0 _ rfl; exact HG4.out, (List.length_set ..).trans HLN.out, Kd.R_far HR4.out (fun k hk => hk) _, HB4.out.setCell HBG.out _, keep_set HK4.out (.inl rfl) _⟩
  rw [if_neg h0] at h
  have h01 : (x0 == (0 : Int)) = false := beq_eq_false_iff_ne.mpr h0
  clear h0
  by_cases hm : rd l x1 = 0
  · rw [if_pos hm] at h
    simp only [Option.some.injEq, Prod.mk.injEq] at h
    obtain ⟨rfl, rfl, rfl, rfl⟩ := h
    have hm1 : (rd l x1 == (0 : Int)) = true := beq_iff_eq.mpr hm
    clear hm
    go_wp2
    go_quiet (fail)
    go_wp2
    go_ret2
    exact ⟨rfl, by refine blk_put (cs := #[.int .i64 p, .slice (some ⟨gr, 0, none⟩) n c1]) ?_ 0 _ rfl; exact blk_drewN HG2.out _, HLN.out, Kd.R_far (Kd.R_drewN HR2.out _) (fun k hk => hk) _, (pw_below_drewN HB2.out _).setCell HBG.out _, keep_set (keep_drewN HK2.out _) (.inl rfl) _⟩
  rw [if_neg hm] at h
  simp only [Option.some.injEq, Prod.mk.injEq] at h
  obtain ⟨rfl, rfl, rfl, rfl⟩ := h
  have hm1 : (rd l x1 == (0 : Int)) = false := beq_eq_false_iff_ne.mpr hm
  clear hm
  go_wp2
  go_quiet (fail)
  go_wp2
  obtain ⟨W3, hW3⟩ : ∃ W : World, W = W2.drewN nq := ⟨_, rfl⟩
  have HQ3 := Aside0.mk (show W3.heap[gq]? = some (.cells #[.int .i64 x0, .int .i64 x1, .int .i64 x2, .int .i64 x3] 45 (0, 0)) by rw [hW3]; exact blk_drewN HQ2.out _)
  have HG3 := Aside0.mk (show W3.heap[g]? = some (.cells #[.int .i64 p, .slice (some ⟨gr, 0, none⟩) n c1] 47 (0, 0)) by rw [hW3]; exact blk_drewN HG2.out _)
  have HR3 := Aside0.mk (show Kd.R (Kd.int .i64) 3 W3 base (fun k => k ≠ g) (.slice (some ⟨gr, 0, none⟩) n c1) l by rw [hW3]; exact Kd.R_drewN HR2.out _)
  have HB3 := Aside0.mk (show Below base w W3 by rw [hW3]; exact pw_below_drewN HB2.out _)
  have HK3 := Aside0.mk (show KeepBut w W3 g (some gr) by rw [hW3]; exact keep_drewN HK2.out _)
  rw [← hW3]
  clear hW3 HQ2 HG2 HR2 HB2 HK2 hq0 hq1 hq2 hq3 hg0 hg1 hgf hc hcf
  have hg1 : W3.cell? ⟨g, 1, none⟩ = some (.slice (some ⟨gr, 0, none⟩) n c1) := (blk_cell HG3.out 1).trans rfl
  have hq1 : W3.cell? ⟨gq, 1, none⟩ = some (.int .i64 x1) := (blk_cell HQ3.out 1).trans rfl
  obtain ⟨hc, hcf⟩ := Kd.R_celln 0 HR3.out x1 (of_eq_true hr0) (of_eq_true hr1)
  change W3.cell? ⟨gr, x1.toNat, none⟩ = some (.int .i64 (rd l x1)) at hc
  refine start_ (n := 11) (S := fun w' => w'.cell? ⟨g, 1, none⟩ = some (.slice (some ⟨gr, 0, none⟩) n c1) ∧ w'.cell? ⟨gq, 1, none⟩ = some (.int .i64 x1) ∧ w'.cell? ⟨gr, x1.toNat, none⟩ = some (.int .i64 (rd l x1))) (ds := [10]) #[false, false, false, false, false, false, false, false, false, false, false] (by kernel_rfl) rfl rfl ⟨hg1, hq1, hc⟩ (fun hHeld => ?_)
  refine pure_ (i := 0) (N := some 31) (v := ?_) (a' := ?_) #[true, false, false, false, false, false, false, false, false, false, false] rfl rfl (by kernel_rfl) (fun _ _ _ h => h) (Or.inl ⟨by rfl, ?_⟩) ?_ ?_
  rotate_left
  · intro w'
    go_simp
    with_reducible rfl
  rotate_left
  · simp only [Act.put, List.setIfInBounds_toArray, List.set_cons_zero, List.set_cons_succ, i64_w, i32_w]
    rfl
  refine pure_ (i := 1) (N := some 32) (v := ?_) (a' := ?_) #[true, true, false, false, false, false, false, false, false, false, false] rfl rfl (by kernel_rfl) (fun _ _ _ h => h) (Or.inl ⟨by rfl, ?_⟩) ?_ ?_
  rotate_left
  · intro w'
    go_simp
    with_reducible rfl
  rotate_left
  · simp only [Act.put, List.setIfInBounds_toArray, List.set_cons_zero, List.set_cons_succ, i64_w, i32_w]
    rfl
  refine pure_ (i := 2) (N := some 33) (v := ?_) (a' := ?_) #[true, true, true, false, false, false, false, false, false, false, false] rfl rfl (by kernel_rfl) (fun _ _ _ h => h) (Or.inl ⟨by rfl, ?_⟩) ?_ ?_
  rotate_left
  · intro w'
    go_simp
    with_reducible rfl
  rotate_left
  · simp only [Act.put, List.setIfInBounds_toArray, List.set_cons_zero, List.set_cons_succ, i64_w, i32_w]
    rfl
  refine pure_ (i := 4) (N := some 35) (v := ?_) (a' := ?_) #[true, true, true, false, true, false, false, false, false, false, false] rfl rfl (by kernel_rfl) (fun _ _ _ h => h) (Or.inl ⟨by rfl, ?_⟩) ?_ ?_
  rotate_left
  · intro w'
    go_simp
    with_reducible rfl
  rotate_left
  · simp only [Act.put, List.setIfInBounds_toArray, List.set_cons_zero, List.set_cons_succ, i64_w, i32_w]
    rfl
  refine take_ (i := 3) (N := some 34) (v := ?_) (a' := ?_) #[true, true, true, true, true, false, false, false, false, false, false] rfl rfl (by kernel_rfl) (fun _ _ _ h => h) (Or.inl ⟨by rfl, ?_⟩) hHeld ?_ ?_
  rotate_left
  · rintro w' ⟨s0, s1, s2⟩
    go_simp
    with_reducible rfl
  rotate_left
  · simp only [Act.put, List.setIfInBounds_toArray, List.set_cons_zero, List.set_cons_succ, i64_w, i32_w]
    rfl
  refine take_ (i := 5) (N := some 36) (v := ?_) (a' := ?_) #[true, true, true, true, true, true, false, false, false, false, false] rfl rfl (by kernel_rfl) (fun _ _ _ h => h) (Or.inl ⟨by rfl, ?_⟩) hHeld ?_ ?_
  rotate_left
  · rintro w' ⟨s0, s1, s2⟩
    go_simp
    with_reducible rfl
  rotate_left
  · simp only [Act.put, List.setIfInBounds_toArray, List.set_cons_zero, List.set_cons_succ, i64_w, i32_w]
    rfl
  refine pure_ (i := 6) (N := some 37) (v := ?_) (a' := ?_) #[true, true, true, true, true, true, true, false, false, false, false] rfl rfl (by kernel_rfl) (fun _ _ _ h => h) (Or.inl ⟨by rfl, ?_⟩) ?_ ?_
  rotate_left
  · intro w'
    go_simp
    with_reducible rfl
  rotate_left
  · simp only [Act.put, List.setIfInBounds_toArray, List.set_cons_zero, List.set_cons_succ, i64_w, i32_w]
    rfl
  refine take_ (i := 7) (N := some 38) (v := ?_) (a' := ?_) #[true, true, true, true, true, true, true, true, false, false, false] rfl rfl (by kernel_rfl) (fun _ _ _ h => h) (Or.inl ⟨by rfl, ?_⟩) hHeld ?_ ?_
  rotate_left
  · rintro w' ⟨s0, s1, s2⟩
    go_simp
    with_reducible rfl
  rotate_left
  · simp only [Act.put, List.setIfInBounds_toArray, List.set_cons_zero, List.set_cons_succ, i64_w, i32_w]
    rfl
  refine pure_ (i := 8) (N := some 39) (v := ?_) (a' := ?_) #[true, true, true, true, true, true, true, true, true, false, false] rfl rfl (by kernel_rfl) (fun _ _ _ h => h) (Or.inl ⟨by rfl, ?_⟩) ?_ ?_
  rotate_left
  · intro w'
    go_simp
    with_reducible rfl
  rotate_left
  · simp only [Act.put, List.setIfInBounds_toArray, List.set_cons_zero, List.set_cons_succ, i64_w, i32_w]
    rfl
  refine pure_ (i := 9) (N := some 40) (v := ?_) (a' := ?_) #[true, true, true, true, true, true, true, true, true, true, false] rfl rfl (by kernel_rfl) (fun _ _ _ h => h) (Or.inl ⟨by rfl, ?_⟩) ?_ ?_
  rotate_left
  · intro w'
    go_simp
    with_reducible rfl
  rotate_left
  · simp only [Act.put, List.setIfInBounds_toArray, List.set_cons_zero, List.set_cons_succ, i64_w, i32_w]
    rfl
  refine last_ (i := 10) (N := none) #[true, true, true, true, true, true, true, true, true, true, true] rfl rfl (by kernel_rfl) (by decide) (fun K hK => ?_)
  refine skip_ (w1 := ?_) (by rfl) rfl ?_ ?_
  rotate_left
  · go_simp
    rfl
  refine hK.out _ _ ?_
  clear hK K
  refine done_ (by kernel_rfl) ?_
  have HNQR := Aside0.mk (show gq ≠ gr from fun e => (Kd.R_ne HR3.out HQ3.out (by decide)) (congrArg some e))
  obtain ⟨W4, hW4⟩ : ∃ W : World, W = (W3.setCell ⟨gr, x1.toNat, none⟩ (.int .i64 (wrap64 (rd l x1 - 1)))).drew := ⟨_, rfl⟩
  have HQ4 := Aside0.mk (show W4.heap[gq]? = some (.cells #[.int .i64 x0, .int .i64 x1, .int .i64 x2, .int .i64 x3] 45 (0, 0)) by rw [hW4]; exact blk_drew (blk_far (p := ⟨gr, x1.toNat, none⟩) HQ3.out HNQR.out _))
  have HG4 := Aside0.mk (show W4.heap[g]? = some (.cells #[.int .i64 p, .slice (some ⟨gr, 0, none⟩) n c1] 47 (0, 0)) by rw [hW4]; exact blk_drew (blk_far (p := ⟨gr, x1.toNat, none⟩) HG3.out (fun e => HN9.out e.symm) _))
  have HR4 := Aside0.mk (show Kd.R (Kd.int .i64) 3 W4 base (fun k => k ≠ g) (.slice (some ⟨gr, 0, none⟩) n c1) (l.set x1.toNat (wrap64 (rd l x1 - 1))) by rw [hW4]; exact Kd.R_drew (Kd.R_putn HR3.out x1 _))
  have HB4 := Aside0.mk (show Below base w W4 by rw [hW4]; exact below_drew (HB3.out.setCell HB9.out _))
  have HK4 := Aside0.mk (show KeepBut w W4 g (some gr) by rw [hW4]; exact keep_drewN (keep_set HK3.out (.inr rfl) _) 1)
  refine Eq.mp (congrArg (Exit.then _ _ _ _) hW4) ?_
  clear hW4
  clear hHeld HQ3 HG3 HR3 HB3 hg1 hq1 hc hcf
  have hg0 : W4.cell? ⟨g, 0, none⟩ = some (.int .i64 p) := (blk_cell HG4.out 0).trans rfl
  have hgf := blk_frozen HG4.out 0
  have hq2 : W4.cell? ⟨gq, 2, none⟩ = some (.int .i64 x2) := (blk_cell HQ4.out 2).trans rfl
  skip
  go_wp2
  skip
  go_ret2
  exact ⟨rfl, by refine blk_put (cs := #[.int .i64 p, .slice (some ⟨gr, 0, none⟩) n c1]) ?_ 0 _ rfl; exact HG4.out, (List.length_set ..).trans HLN.out, Kd.R_far HR4.out (fun k hk => hk) _, HB4.out.setCell HBG.out _, keep_set HK4.out (.inl rfl) _⟩

/-! ### standstillref06_Run: function 21 (by hand) -/
theorem wrapJ {x : Int} (h : -9223372036854775808 ≤ x ∧ x ≤ 9223372036854775807) : wrap64 x = x := by
  unfold wrap64
  omega
def rrun (code : List S45) : Nat → Int → List Int → Int → Option (Int × List Int × Int × Bool)
  | 0, p, l, i => some (p, l, i, true)
  | d + 1, p, l, i => (rgo code p l).bind fun z => if z.2.2.2 = true then some (0, [], 0, false) else if z.2.2.1 = true then some (z.1, z.2.1, i, true) else rrun code d z.1 z.2.1 (i + 1)
def standstillref06_Run.f (a0_0 : Int) (l0_1 : List S45) (a1_0 : Int) (l1_1 : List Int) (a2 : Int) : Option (Int × List Int × Int × Bool) :=
  if l1_1.length < 17592186044416 ∧ 0 ≤ a2 ∧ a2 ≤ 1000000 then rrun l0_1 a2.toNat a1_0 l1_1 0 else none
set_option maxHeartbeats 4000000 in
set_option maxRecDepth 100000 in
set_option maxHeartbeats 8000000 in
set_option maxRecDepth 100000 in
theorem standstillref06_Run.calls (a0_0 : Int) (A0_1 : Option Addr) (c0_1 : Nat) (l0_1 : List S45) (a1_0 : Int) (A1_1 : Option Addr) (c1_1 : Nat) (l1_1 : List Int) (a2 : Int) (r1 : Int) (r2 : List Int) (r3 : Int) (r4 : Bool) (w : World) (hr0_1 : Kd.C k45 w A0_1 l0_1.length l0_1) (hc0_1 : l0_1.length ≤ c0_1) (hr1_1 : Kd.C (Kd.int .i64) w A1_1 l1_1.length l1_1) (hc1_1 : l1_1.length ≤ c1_1) (h : standstillref06_Run.f a0_0 l0_1 a1_0 l1_1 a2 = some (r1, r2, r3, r4)) :
    Calls Try.prog 21 #[.agg #[.int .i64 a0_0, .slice A0_1 l0_1.length c0_1], .agg #[.int .i64 a1_0, .slice A1_1 l1_1.length c1_1], .int .i64 a2] w fun e w' => ∃ v1_ : Value, e = .returned (.tuple #[.agg #[.int .i64 r1, v1_], .int .i64 r3, .bool r4]) ∧ Kd.R (Kd.int .i64) 3 w' w.heap.size (fun _ => True) v1_ r2 ∧ Below w.heap.size w w' := by
  have hu24 := Try.underlying38
  have hu27 := Try.underlying47
  unfold standstillref06_Run.f at h
  by_cases hl : l1_1.length < 17592186044416 ∧ 0 ≤ a2 ∧ a2 ≤ 1000000
  rotate_left
  · rw [if_neg hl] at h
    cases h
  rw [if_pos hl] at h
  obtain ⟨hl, hn0, hn1⟩ := hl
  have H := Aside0.mk h
  have HN := Aside0.mk (show 0 ≤ a2 ∧ a2 ≤ 1000000 from ⟨hn0, hn1⟩)
  have HR0_1 := Aside0.mk hr0_1
  have HC0_1 := Aside0.mk hc0_1
  skip
  have hCP : ∀ W : World, Below w.heap.size w W → Calls Try.prog 33 #[.agg #[.int .i64 a1_0, .slice A1_1 l1_1.length c1_1]] W fun e w' => ∃ v1_ : Value, e = .returned (.agg #[.int .i64 a1_0, v1_]) ∧ Kd.R (Kd.int .i64) 3 w' W.heap.size (fun _ => True) v1_ l1_1 ∧ Below W.heap.size W w' := fun W hW => standstillref06_Copy.calls a1_0 A1_1 c1_1 l1_1 a1_0 l1_1 W (Kd.C_below hr1_1 hW) hc1_1 (by unfold standstillref06_Copy.f; simp only [Option.bind_some]; rw [if_pos (by simpa using hl)]; rfl)
  have HCP := Aside0.mk hCP
  clear h hr0_1 hc0_1 hr1_1 hc1_1 hCP hl hn0 hn1
  go_enter Try.func21, Try.ntmps21
  go_wp2_with fail
  obtain ⟨W1, hW1⟩ : ∃ W1 : World, W1 = (((w.alloc (.cells #[.int .i64 a0_0, .slice A0_1 l0_1.length c0_1] 38)).alloc (.cells #[.int .i64 a1_0, .slice A1_1 l1_1.length c1_1] 47)).alloc (.cells #[.int .i64 0, .slice none 0 0] 47)) := ⟨_, rfl⟩
  have hBW1 : Below w.heap.size w W1 := by rw [hW1]; exact below_alloc (below_alloc (below_alloc (Below.refl _ _) _) _) _
  have hb0 : W1.heap[w.heap.size]? = some (.cells #[.int .i64 a0_0, .slice A0_1 l0_1.length c0_1] 38 (0, 0)) := by rw [hW1]; exact blk_alloc (blk_alloc (blk_new _ _) _) _
  have hb1 : W1.heap[w.heap.size + 1]? = some (.cells #[.int .i64 a1_0, .slice A1_1 l1_1.length c1_1] 47 (0, 0)) := by rw [hW1]; exact blk_alloc (by have h_ := blk_new (w.alloc (.cells #[.int .i64 a0_0, .slice A0_1 l0_1.length c0_1] 38)) (.cells #[.int .i64 a1_0, .slice A1_1 l1_1.length c1_1] 47); simpa using h_) _
  have hb2 : W1.heap[w.heap.size + 1 + 1]? = some (.cells #[.int .i64 0, .slice none 0 0] 47 (0, 0)) := by rw [hW1]; have h_ := blk_new ((w.alloc (.cells #[.int .i64 a0_0, .slice A0_1 l0_1.length c0_1] 38)).alloc (.cells #[.int .i64 a1_0, .slice A1_1 l1_1.length c1_1] 47)) (.cells #[.int .i64 0, .slice none 0 0] 47); simpa using h_
  have hsz : W1.heap.size = w.heap.size + 1 + 1 + 1 := by rw [hW1]; simp
  rw [← hW1]
  clear hW1
  obtain ⟨z2, hz2⟩ : ∃ z, w.heap.size + 1 + 1 = z := ⟨_, rfl⟩
  rw [hz2] at hb2 hsz ⊢
  obtain ⟨z1, hz1⟩ : ∃ z, w.heap.size + 1 = z := ⟨_, rfl⟩
  rw [hz1] at hb1 ⊢
  obtain ⟨z0, hz0⟩ : ∃ z, w.heap.size = z := ⟨_, rfl⟩
  have HZ := Aside0.mk (show w.heap.size ≤ z0 ∧ z0 < z1 ∧ z1 < z2 ∧ z2 < W1.heap.size ∧ w.heap.size ≤ z1 ∧ w.heap.size ≤ z2 from by omega)
  rw [hz0] at hb0
  try rw [hz0]
  clear hz0 hz1 hz2 hsz
  refine (HCP.out _ hBW1).mono ?_
  rintro e w2 ⟨v9, rfl, hR9, hB2⟩
  obtain ⟨A9, c9, rfl⟩ := Kd.R_slice hR9
  obtain ⟨n9, hn9⟩ : ∃ n, l1_1.length = n := ⟨_, rfl⟩
  rw [hn9] at hR9 ⊢
  have HB := Aside0.mk (below_step hBW1 hB2)
  have HB0 := Aside0.mk (blk_below hb0 hB2)
  have HB1 := Aside0.mk (blk_below hb1 hB2)
  have HB2 := Aside0.mk (blk_below hb2 hB2)
  have HR := Aside0.mk (Kd.R_lower (Kd.R_mono (ok' := fun k => k ≠ z1) (Kd.R_bound hR9) (fun k hk => by have h1 := hk.2.1; have h2 := HZ.out; rintro rfl; omega)) (by have h2 := HZ.out; omega : z1 ≤ W1.heap.size))
  have HN9 := Aside0.mk hn9
  clear hb0 hb1 hb2 hBW1 hB2 HCP hR9 hn9
  have hf10 := blk_frozen HB1.out 0
  have hf11 := blk_frozen HB1.out 1
  have hz10 := (blk_cell HB1.out 0).trans rfl
  have hz11 := (blk_cell HB1.out 1).trans rfl
  go_wp2_with fail
  obtain ⟨w3, hW3⟩ : ∃ W : World, W = (w2.setCell ⟨z1, 0, none⟩ (.int .i64 a1_0)).setCell ⟨z1, 1, none⟩ (.slice A9 n9 c9) := ⟨_, rfl⟩
  have HB_3 := Aside0.mk (show Below w.heap.size w w3 by rw [hW3]; exact below_set (below_set HB.out HZ.out.2.2.2.2.1) HZ.out.2.2.2.2.1)
  have HB0_3 := Aside0.mk (show w3.heap[z0]? = some (.cells #[.int .i64 a0_0, .slice A0_1 l0_1.length c0_1] 38 (0, 0)) by rw [hW3]; exact blk_far (blk_far HB0.out (Nat.ne_of_lt HZ.out.2.1) _) (Nat.ne_of_lt HZ.out.2.1) _)
  have HB1_3 := Aside0.mk (show w3.heap[z1]? = some (.cells #[.int .i64 a1_0, .slice A9 n9 c9] 47 (0, 0)) by rw [hW3]; refine blk_put (cs := #[.int .i64 a1_0, .slice A1_1 l1_1.length c1_1]) ?_ 1 _ rfl; refine blk_put (cs := #[.int .i64 a1_0, .slice A1_1 l1_1.length c1_1]) ?_ 0 _ rfl; exact HB1.out)
  have HB2_3 := Aside0.mk (show w3.heap[z2]? = some (.cells #[.int .i64 0, .slice none 0 0] 47 (0, 0)) by rw [hW3]; exact blk_far (blk_far HB2.out (Nat.ne_of_gt HZ.out.2.2.1) _) (Nat.ne_of_gt HZ.out.2.2.1) _)
  have HR_3 := Aside0.mk (show Kd.R (Kd.int .i64) 3 w3 z1 (fun k => k ≠ z1) (.slice A9 n9 c9) l1_1 by rw [hW3]; exact Kd.R_far (Kd.R_far HR.out (fun k hk => hk) _) (fun k hk => hk) _)
  rw [← hW3]
  clear hW3 HB HB0 HB1 HB2 HR hf10 hf11 hz10 hz11
  go_loopg [9] (a2.toNat) (fun kq vk w' => ∃ (i p : Int) (l : List Int), vk = .int .i64 i ∧ Aside0 (0 ≤ i ∧ i + (kq : Int) = a2) ∧ Aside0 (rrun l0_1 kq p l i = some (r1, r2, r3, r4)) ∧ Aside0 (l.length = n9) ∧ Aside0 (Kd.R (Kd.int .i64) 3 w' z1 (fun k => k ≠ z1) (.slice A9 n9 c9) l) ∧ Aside0 (Below w.heap.size w w') ∧ Aside0 (w'.heap[z0]? = some (.cells #[.int .i64 a0_0, .slice A0_1 l0_1.length c0_1] 38 (0, 0))) ∧ Aside0 (w'.heap[z1]? = some (.cells #[.int .i64 p, .slice A9 n9 c9] 47 (0, 0))) ∧ Aside0 (w'.heap[z2]? = some (.cells #[.int .i64 0, .slice none 0 0] 47 (0, 0))))
  case atStart => exact ⟨0, a1_0, l1_1, rfl, ⟨by have := HN.out; omega⟩, H, HN9, HR_3, HB_3, HB0_3, HB1_3, HB2_3⟩
  case round =>
    clear H HR_3 HB_3 HB0_3 HB1_3 HB2_3 HN9
    obtain ⟨i, p, l, rfl, HI, H, HLN, HR, HB, HB0, HB1, HB2⟩ := hrel
    obtain ⟨hi0, hi1⟩ := HI.out
    obtain ⟨hn0, hn1⟩ := HN.out
    cases gk with
    | zero =>
      have h := H.out
      clear H
      have hin : i = a2 := by omega
      subst hin
      simp only [rrun] at h
      simp only [Option.some.injEq, Prod.mk.injEq] at h
      obtain ⟨rfl, rfl, rfl, rfl⟩ := h
      have hz10 := (blk_cell HB1.out 0).trans rfl
      have hz11 := (blk_cell HB1.out 1).trans rfl
      have hz20 := (blk_cell HB2.out 0).trans rfl
      have hz21 := (blk_cell HB2.out 1).trans rfl
      have hf20 := blk_frozen HB2.out 0
      have hf21 := blk_frozen HB2.out 1
      go_wp2
      refine bodyPost_ret (results_list (rs := [.cell 6 47, .tmp 7, .tmp 8]) (vs := [.agg #[.int .i64 p, .slice A9 n9 c9], .int .i64 i, .bool true]) rfl (by simp) (Vals.cell z2 47 #[.int .i64 p, .slice A9 n9 c9] (0, 0) _ rfl (by refine blk_put (cs := #[.int .i64 p, .slice none 0 0]) ?_ 1 _ rfl; refine blk_put (cs := #[.int .i64 0, .slice none 0 0]) ?_ 0 _ rfl; exact HB2.out) Try.underlying47 rfl (by kernel_rfl) (Vals.tmp (Vals.tmp Vals.nil)))) rfl ?_
      exact ⟨_, rfl, Kd.R_mono (Kd.R_far (Kd.R_far (Kd.R_lower (Kd.R_types HR.out HB2.out (by decide)) HZ.out.2.2.2.2.1) (fun k hk => hk.2) _) (fun k hk => hk.2) _) (fun _ _ => trivial), below_set (below_set HB.out HZ.out.2.2.2.2.2) HZ.out.2.2.2.2.2⟩
    | succ d =>
      have hin : i < a2 := by omega
      have hind : decide (i < a2) = true := decide_eq_true hin
      have h := H.out
      clear H
      simp only [rrun] at h
      obtain ⟨⟨q1, q2, q3, q4⟩, hq, h⟩ := Option.bind_eq_some_iff.1 h
      have HGO := Aside0.mk (rgo_calls z1 z1 a0_0 A0_1 c0_1 l0_1 p A9 n9 c9 l q1 q2 q3 q4 wr (Kd.C_below HR0_1.out HB.out) HC0_1.out (Nat.le_refl _) HB1.out HLN.out HR.out hq)
      have HH := Aside0.mk h
      have HIN := Aside0.mk hin
      replace hin := eq_true hin
      clear h hq
      have hz00 := (blk_cell HB0.out 0).trans rfl
      have hz01 := (blk_cell HB0.out 1).trans rfl
      go_wp2_with fail
      refine HGO.out.mono ?_
      rintro e w5 ⟨rfl, hG5, hL5, hR5, hB5, hK5⟩
      have HRB := Aside0.mk (fun k hk => Kd.R_base HR.out k hk : ∀ k, (Value.slice A9 n9 c9).ownBlock = some k → z1 ≤ k)
      have HB0_5 := Aside0.mk (show w5.heap[z0]? = some (.cells #[.int .i64 a0_0, .slice A0_1 l0_1.length c0_1] 38 (0, 0)) from (hB5.block z0 HZ.out.2.1).trans HB0.out)
      have HB2_5 := Aside0.mk (show w5.heap[z2]? = some (.cells #[.int .i64 0, .slice none 0 0] 47 (0, 0)) from (hK5.2 z2 (blk_lt HB2.out) (Nat.ne_of_gt HZ.out.2.2.1) (Kd.R_ne HR.out HB2.out (by decide))).trans HB2.out)
      have HB_5 := Aside0.mk (Below.trans HB.out (Below.mono hB5 HZ.out.2.2.2.2.1))
      replace HB0 := HB0_5
      replace HB2 := HB2_5
      replace HB := HB_5
      replace HB1 := Aside0.mk hG5
      replace HR := Aside0.mk hR5
      replace HLN := Aside0.mk hL5
      have h := HH.out
      clear HB0_5 HB2_5 HB_5 hG5 hL5 hR5 hB5 hK5 hz00 hz01 HGO HH
      have hz10 := (blk_cell HB1.out 0).trans rfl
      have hz11 := (blk_cell HB1.out 1).trans rfl
      have hz20 := (blk_cell HB2.out 0).trans rfl
      have hz21 := (blk_cell HB2.out 1).trans rfl
      have hf20 := blk_frozen HB2.out 0
      have hf21 := blk_frozen HB2.out 1
      cases q4 with
      | true =>
        simp only [if_true] at h
        simp only [Option.some.injEq, Prod.mk.injEq] at h
        obtain ⟨rfl, rfl, rfl, rfl⟩ := h
        go_wp2
        refine bodyPost_ret (results_list (rs := [.cell 6 47, .tmp 7, .tmp 8]) (vs := [.agg #[.int .i64 0, .slice none 0 0], .int .i64 0, .bool false]) rfl (by simp) (Vals.cell z2 47 #[.int .i64 0, .slice none 0 0] (0, 0) _ rfl (by refine blk_put (cs := #[.int .i64 0, .slice none 0 0]) ?_ 1 _ rfl; refine blk_put (cs := #[.int .i64 0, .slice none 0 0]) ?_ 0 _ rfl; exact HB2.out) Try.underlying47 rfl (by kernel_rfl) (Vals.tmp (Vals.tmp Vals.nil)))) rfl ?_
        exact ⟨_, rfl, Kd.R_nil _ _ _ _ _, below_set (below_set HB.out HZ.out.2.2.2.2.2) HZ.out.2.2.2.2.2⟩
      | false =>
        simp only [Bool.false_eq_true, if_false] at h
        cases q3 with
        | true =>
          simp only [if_true] at h
          simp only [Option.some.injEq, Prod.mk.injEq] at h
          obtain ⟨rfl, rfl, rfl, rfl⟩ := h
          go_wp2
          refine bodyPost_ret (results_list (rs := [.cell 6 47, .tmp 7, .tmp 8]) (vs := [.agg #[.int .i64 q1, .slice A9 n9 c9], .int .i64 i, .bool true]) rfl (by simp) (Vals.cell z2 47 #[.int .i64 q1, .slice A9 n9 c9] (0, 0) _ rfl (by refine blk_put (cs := #[.int .i64 q1, .slice none 0 0]) ?_ 1 _ rfl; refine blk_put (cs := #[.int .i64 0, .slice none 0 0]) ?_ 0 _ rfl; exact HB2.out) Try.underlying47 rfl (by kernel_rfl) (Vals.tmp (Vals.tmp Vals.nil)))) rfl ?_
          exact ⟨_, rfl, Kd.R_mono (Kd.R_far (Kd.R_far (Kd.R_lower (Kd.R_types HR.out HB2.out (by decide)) HZ.out.2.2.2.2.1) (fun k hk => hk.2) _) (fun k hk => hk.2) _) (fun _ _ => trivial), below_set (below_set HB.out HZ.out.2.2.2.2.2) HZ.out.2.2.2.2.2⟩
        | false =>
          simp only [Bool.false_eq_true, if_false] at h
          have hiw2 : wrap64 (i + 1) = i + 1 := wrapJ (by omega)
          have hiw : IntKind.i64.wrap (i + 1) = i + 1 := (i64_w _).trans hiw2
          go_wp2_with fail
          go_roundg d
          case measure => omega
          case rel => exact ⟨i + 1, q1, q2, rfl, ⟨by omega⟩, ⟨h⟩, HLN, HR, HB, HB0, HB1, HB2⟩

end Go.Proofs.Ytkbekdjoaibhbaa.PPairRuns
