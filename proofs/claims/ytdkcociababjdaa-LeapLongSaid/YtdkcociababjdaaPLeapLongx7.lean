-- out of a turned copy of the print, by a program of this session; Lean checks it
import Derived.Test.YtdkcociababjdaaPLeapLongx0
import Derived.Test.YtdkcociababjdaaPLeapLongx1
import Derived.Test.YtdkcociababjdaaPLeapLongx4
import Derived.Test.YtdkcociababjdaaPLeapLongx5
import Derived.Test.YtdkcociababjdaaPLeapLongx6
namespace Go.Proofs.Ytdkcociababjdaa.PLeapLong
open Go.RowKit Go.Proofs.YtdkcociababjdaaW.PrintWords Go.Proofs.YtdkcociababjdaaW.PrintLast Go.Proofs.YtdkcociababjdaaW.PrintMore
attribute [local go_sem] max2_int min2_int max_two min_two max_three min_three max_four min_four   -- for this text's walks alone
set_option linter.unusedVariables false
set_option linter.unusedSimpArgs false

attribute [local go_sem] isSome_put_
attribute [local go_sem high] eqA75
/-! ### leap_copied: function 34 -/
def leap_copied.f (a0_0 : Int) (a0_1 : Int) (a0_2 : Int) (l0_3 : List (S75)) (l0_4 : List (S75)) : Option (Int × Int × Int × (List (S75)) × (List (S75))) := (api_Run.f l0_3).bind fun t152 => ((api_Run.f l0_4).bind fun t155 => (some (a0_0, a0_1, a0_2, t152, t155)))
def leap_copied.T1 : Bool × List (List Nat × List Nat) := (true, [([], []), ([0], [0]), ([1], [1]), ([], []), ([3], [3]), ([4, 2], [4]), ([0, 1, 2, 3, 4], []), ([6, 2, 5, 0, 1, 2, 3, 4], [2, 6]), ([0, 1, 2, 3, 4, 5, 6, 7], []), ([8, 5, 7, 0, 1, 2, 3, 4, 5, 6, 7], [5, 8])])
def leap_copied.B1 : List Nat := [0, 1, 3, 0, 8, 31, 31, 127, 255, 511]
theorem leap_copied.tab1 : rtab .any (opsOf Try.f34 1) = leap_copied.T1 := by kernel_rfl
theorem leap_copied.bits1 : waitsOk leap_copied.T1.2 leap_copied.B1 = true := by kernel_rfl
set_option maxHeartbeats 8000000 in
set_option maxRecDepth 100000 in
theorem leap_copied.calls (a0_0 : Int) (a0_1 : Int) (a0_2 : Int) (A0_3 : Option Addr) (c0_3 : Nat) (l0_3 : List (S75)) (A0_4 : Option Addr) (c0_4 : Nat) (l0_4 : List (S75)) (r1 : Int) (r2 : Int) (r3 : Int) (r4 : List (S75)) (r5 : List (S75)) (w : World) (hr0_3 : Kd.C k75 w A0_3 l0_3.length l0_3) (hc0_3 : l0_3.length ≤ c0_3) (hr0_4 : Kd.C k75 w A0_4 l0_4.length l0_4) (hc0_4 : l0_4.length ≤ c0_4) (h : leap_copied.f a0_0 a0_1 a0_2 l0_3 l0_4 = some (r1, r2, r3, r4, r5)) :
  Calls Try.prog 34 #[.agg #[.int .i64 a0_0, .int .i64 a0_1, .int .i64 a0_2, .slice A0_3 l0_3.length c0_3, .slice A0_4 l0_4.length c0_4]] w fun e w' => ∃ v3_ v4_ : Value, e = .returned (.agg #[.int .i64 r1, .int .i64 r2, .int .i64 r3, v3_, v4_]) ∧ Kd.R k75 75 w' w.heap.size (fun k_ => some k_ ≠ (v4_ : Value).ownBlock) v3_ r4 ∧ Kd.R k75 75 w' w.heap.size (fun k_ => some k_ ≠ (v3_ : Value).ownBlock) v4_ r5 ∧ Below w.heap.size w w' := by
 have hu27 := Try.underlying27
 have HR0_3 := Aside0.mk hr0_3
 have HC0_3 := Aside0.mk hc0_3
 clear hr0_3 hc0_3
 have HR0_4 := Aside0.mk hr0_4
 have HC0_4 := Aside0.mk hc0_4
 clear hr0_4 hc0_4
 have HB := A_ (Below.refl w.heap.size w)
 have H : ((api_Run.f l0_3).bind fun t152 => ((api_Run.f l0_4).bind fun t155 => (some (a0_0, a0_1, a0_2, t152, t155)))) = some (r1, r2, r3, r4, r5) := h
 clear h
 replace H := Option.bind_eq_some_iff.mp H
 obtain ⟨t152, A20, H⟩ := H
 replace H : ((api_Run.f l0_4).bind fun t155 => (some (a0_0, a0_1, a0_2, t152, t155))) = some (r1, r2, r3, r4, r5) := H
 have A2 := Aside0.mk A20
 clear A20
 replace H := Option.bind_eq_some_iff.mp H
 obtain ⟨t155, A30, H⟩ := H
 replace H : (some (a0_0, a0_1, a0_2, t152, t155)) = some (r1, r2, r3, r4, r5) := H
 have A3 := Aside0.mk A30
 clear A30
 simp only [Option.some.injEq, Prod.mk.injEq] at H
 obtain ⟨rfl, rfl, rfl, rfl, rfl⟩ := H
 go_enter Try.func34, Try.ntmps34
 try go_wp2_with (first | ((with_reducible refine gate_dst (N := 1) rfl ?_); refine box_event ?hg (N := 1) ?hd (cs := #[.int .i64 a0_0, .int .i64 a0_1, .int .i64 a0_2, .slice A0_3 l0_3.length c0_3, .slice A0_4 l0_4.length c0_4]) (t := 27) ?hr ?_; (case hd => rfl); (case hg => rfl); (case hr => first | (go_simp; done) | (go_simp; rfl)); intro gb150 hg w4 hbox hb; have n0_ := A_ (below_step (bk_ HB.out) hb); have n1_ := A_ (hbox); have n2_ := A_ (bz_ hg (bk_ HB.out)); have n3_ := A_ (bz_ hg (bk_ HB.out)); clear HB; have HB := n0_; have BK150 := n1_; have GW150 := n2_; have GE150 := n3_; clear n0_ n1_ n2_ n3_ hb hbox hg) | ((with_reducible refine gate_dst (N := 2) rfl ?_); refine box_event ?hg (N := 2) ?hd (cs := #[.int .i64 0, .int .i64 0, .int .i64 0, .slice none 0 0, .slice none 0 0]) (t := 27) ?hr ?_; (case hd => rfl); (case hg => rfl); (case hr => first | (go_simp; done) | (go_simp; rfl)); intro gb151 hg w5 hbox hb; have n0_ := A_ (blk_below (pk_ BK150.out) hb); have n1_ := A_ (below_step (bk_ HB.out) hb); have n2_ := A_ (hbox); have n3_ := A_ (bz_ hg (bk_ HB.out)); have n4_ := A_ (bz_ hg (bk_ HB.out)); have n5_ := A_ (nl_ hg (pk_ BK150.out)); have n6_ := A_ (ng_ hg (pk_ BK150.out)); clear BK150 HB; have BK150 := n0_; have HB := n1_; have BK151 := n2_; have GW151 := n3_; have GE151 := n4_; have NB150_151 := n5_; have NB151_150 := n6_; clear n0_ n1_ n2_ n3_ n4_ n5_ n6_ hb hbox hg))
 have n0_ := A_ (blk_drew BK150.out)
 have n1_ := A_ (blk_drew BK151.out)
 have n2_ := A_ (below_drew1 HB.out)
 clear BK150 BK151 HB
 have BK150 := n0_
 have BK151 := n1_
 have HB := n2_
 clear n0_ n1_ n2_
 refine start_ (n := 10) (S := fun w' => w'.cell? ⟨gb150, 0, none⟩ = some (.int .i64 a0_0) ∧ w'.cell? ⟨gb150, 1, none⟩ = some (.int .i64 a0_1) ∧ w'.cell? ⟨gb150, 2, none⟩ = some (.int .i64 a0_2) ∧ w'.cell? ⟨gb150, 3, none⟩ = some (.slice A0_3 l0_3.length c0_3) ∧ w'.cell? ⟨gb150, 4, none⟩ = some (.slice A0_4 l0_4.length c0_4)) (ds := [7, 9]) #[false, false, false, false, false, false, false, false, false, false] (by kernel_rfl) rfl rfl ⟨(blk_cell BK150.out 0).trans rfl, (blk_cell BK150.out 1).trans rfl, (blk_cell BK150.out 2).trans rfl, (blk_cell BK150.out 3).trans rfl, (blk_cell BK150.out 4).trans rfl⟩ (fun hHeld => ?_); refine with_tabW leap_copied.tab1 leap_copied.bits1 (fun HT_ HW_ => ?_)
 generalize w5.drew = w6 at BK150 BK151 HB hHeld ⊢
 refine pure_ (i := 0) (N := some 3) (v := ?_) (a' := ?_) #[true, false, false, false, false, false, false, false, false, false] rfl rfl (any_of HT_.out (by kernel_rfl)) (fun _ _ _ h => h) (Or.inl ⟨by rfl, ?_⟩) ?_ ?_
 rotate_left
 ·intro w'
  go_simp
  with_reducible rfl
 rotate_left
 ·simp only [Act.put, sa_, sz_, ss_, i64_w, i32_w]
  rfl
 refine pure_ (i := 3) (N := some 6) (v := ?_) (a' := ?_) #[true, false, false, true, false, false, false, false, false, false] rfl rfl (any_of HT_.out (by kernel_rfl)) (fun _ _ _ h => h) (Or.inl ⟨by rfl, ?_⟩) ?_ ?_
 rotate_left
 ·intro w'
  go_simp
  with_reducible rfl
 rotate_left
 ·simp only [Act.put, sa_, sz_, ss_, i64_w, i32_w]
  rfl
 refine take_ (i := 1) (N := some 4) (v := ?_) (a' := ?_) #[true, true, false, true, false, false, false, false, false, false] rfl rfl (take_ofW HT_.out HW_.out (by kernel_rfl)) (fun _ _ _ h => h) (Or.inl ⟨by rfl, ?_⟩) hHeld ?_ ?_
 rotate_left
 ·rintro w' ⟨s0, s1, s2, s3, s4⟩
  go_simp
  with_reducible rfl
 rotate_left
 ·simp only [Act.put, sa_, sz_, ss_, i64_w, i32_w]
  rfl
 refine take_ (i := 4) (N := some 7) (v := ?_) (a' := ?_) #[true, true, false, true, true, false, false, false, false, false] rfl rfl (take_ofW HT_.out HW_.out (by kernel_rfl)) (fun _ _ _ h => h) (Or.inl ⟨by rfl, ?_⟩) hHeld ?_ ?_
 rotate_left
 ·rintro w' ⟨s0, s1, s2, s3, s4⟩
  go_simp
  with_reducible rfl
 rotate_left
 ·simp only [Act.put, sa_, sz_, ss_, i64_w, i32_w]
  rfl
 refine one_ (i := 2) (N := some 5) #[true, true, true, true, true, false, false, false, false, false] rfl rfl (one_of HT_.out (by kernel_rfl)) (by decide) (fun K hK => ?_)
 refine goes_ Try.func57 (by kernel_rfl) rfl #[.slice A0_3 l0_3.length c0_3] (by rfl) rfl rfl gl_ ?_
 with_reducible refine (api_Run.calls _ _ l0_3 t152 _ ?side1 ?side2 A2.out).mono ?_
 (case side1 => exact ck_ (Kd.C_below HR0_3.out HB.out))
 (case side2 => exact HC0_3.out)
 rintro e w7 ⟨v153, rfl, ho0, hb⟩
 refine ⟨_, rfl, ?_⟩
 have n0_ := A_ (Kd.R_lower ho0 (below_size (bk_ HB.out)))
 have n1_ := A_ (blk_below (pk_ BK150.out) hb)
 have n2_ := A_ (blk_below (pk_ BK151.out) hb)
 have n3_ := A_ (below_step (bk_ HB.out) hb)
 clear BK150 BK151 HB
 have HO154 := n0_
 have BK150 := n1_
 have BK151 := n2_
 have HB := n3_
 clear n0_ n1_ n2_ n3_
 (try clear hb)
 (try clear hb2)
 (try clear hk)
 (try clear hi)
 (try clear ho0)
 refine hK.out _ _ ⟨(blk_cell BK150.out 0).trans rfl, (blk_cell BK150.out 1).trans rfl, (blk_cell BK150.out 2).trans rfl, (blk_cell BK150.out 3).trans rfl, (blk_cell BK150.out 4).trans rfl⟩ (fun hHeld => ?_)
 clear hK K
 refine norm_ (a' := ?_) ?_ ?_
 rotate_left
 ·show Act.put _ (some 5) _ = _
  simp only [Act.put, sa_, sz_, ss_, i64_w, i32_w]
  rfl
 refine pure_ (i := 6) (N := some 9) (v := ?_) (a' := ?_) #[true, true, true, true, true, false, true, false, false, false] rfl rfl (any_of HT_.out (by kernel_rfl)) (fun _ _ _ h => h) (Or.inl ⟨by rfl, ?_⟩) ?_ ?_
 rotate_left
 ·intro w'
  go_simp
  with_reducible rfl
 rotate_left
 ·simp only [Act.put, sa_, sz_, ss_, i64_w, i32_w]
  rfl
 refine one_ (i := 5) (N := some 8) #[true, true, true, true, true, true, true, false, false, false] rfl rfl (one_of HT_.out (by kernel_rfl)) (by decide) (fun K hK => ?_)
 refine goes_ Try.func57 (by kernel_rfl) rfl #[.slice A0_4 l0_4.length c0_4] (by rfl) rfl rfl gl_ ?_
 with_reducible refine (api_Run.calls _ _ l0_4 t155 _ ?side1 ?side2 A3.out).mono ?_
 (case side1 => exact ck_ (Kd.C_below HR0_4.out HB.out))
 (case side2 => exact HC0_4.out)
 rintro e w8 ⟨v156, rfl, ho0, hb⟩
 refine ⟨_, rfl, ?_⟩
 have n0_ := A_ (Kd.R_elder' (rk_ HO154.out) (Kd.R_base ho0) hb)
 have n1_ := A_ (Kd.R_lower (Kd.R_new' ho0 (Kd.R_lt (rk_ HO154.out))) (below_size (bk_ HB.out)))
 have n2_ := A_ (blk_below (pk_ BK150.out) hb)
 have n3_ := A_ (blk_below (pk_ BK151.out) hb)
 have n4_ := A_ (below_step (bk_ HB.out) hb)
 clear HO154 BK150 BK151 HB
 have HO154 := n0_
 have HO157 := n1_
 have BK150 := n2_
 have BK151 := n3_
 have HB := n4_
 clear n0_ n1_ n2_ n3_ n4_
 (try clear hb)
 (try clear hb2)
 (try clear hk)
 (try clear hi)
 (try clear ho0)
 obtain ⟨Ao9, co9, eo9⟩ := Kd.R_slice HO154.out
 (first | subst eo9 | (injection eo9 with f1_ f2_ f3_; have f4_ := f1_.symm; have f5_ := f3_.symm; clear f1_ f2_ f3_; subst f4_; subst f5_))
 obtain ⟨Ao11, co11, eo11⟩ := Kd.R_slice HO157.out
 (first | subst eo11 | (injection eo11 with f1_ f2_ f3_; have f4_ := f1_.symm; have f5_ := f3_.symm; clear f1_ f2_ f3_; subst f4_; subst f5_))
 refine hK.out _ _ ⟨(blk_cell BK150.out 0).trans rfl, (blk_cell BK150.out 1).trans rfl, (blk_cell BK150.out 2).trans rfl, (blk_cell BK150.out 3).trans rfl, (blk_cell BK150.out 4).trans rfl⟩ (fun hHeld => ?_)
 clear hK K
 refine norm_ (a' := ?_) ?_ ?_
 rotate_left
 ·show Act.put _ (some 8) _ = _
  simp only [Act.put, sa_, sz_, ss_, i64_w, i32_w]
  rfl
 refine last_ (i := 7) (N := none) #[true, true, true, true, true, true, true, true, false, false] rfl rfl (one_of HT_.out (by kernel_rfl)) (by decide) (fun K hK => ?_)
 have hs10 : w8.cell? ⟨gb150, 3, none⟩ = some (.slice A0_3 l0_3.length c0_3) := (blk_cell BK150.out 3).trans rfl
 have hfs10 := blk_frozen BK150.out 3
 have hns10_1 := NB151_150.out
 have hms10_1 := NB150_151.out
 refine skip_ (w1 := ?_) (by rfl) rfl ?_ ?_
 rotate_left
 ·go_simp
  rfl
 refine hK.out _ _ ?_
 clear hK K
 refine pure_ (i := 8) (N := some 10) (v := ?_) (a' := ?_) #[true, true, true, true, true, true, true, true, true, false] rfl rfl (any_of HT_.out (by kernel_rfl)) (fun _ _ _ h => h) (Or.inl ⟨by rfl, ?_⟩) ?_ ?_
 rotate_left
 ·intro w'
  go_simp
  with_reducible rfl
 rotate_left
 ·simp only [Act.put, sa_, sz_, ss_, i64_w, i32_w]
  rfl
 refine last_ (i := 9) (N := none) #[true, true, true, true, true, true, true, true, true, true] rfl rfl (one_of HT_.out (by kernel_rfl)) (by decide) (fun K hK => ?_)
 have hs12 : w8.cell? ⟨gb150, 4, none⟩ = some (.slice A0_4 l0_4.length c0_4) := (blk_cell BK150.out 4).trans rfl
 have hfs12 := blk_frozen BK150.out 4
 have hns12_1 := NB151_150.out
 have hms12_1 := NB150_151.out
 refine skip_ (w1 := ?_) (by rfl) rfl ?_ ?_
 rotate_left
 ·go_simp
  rfl
 refine hK.out _ _ ?_
 clear hK K
 refine done_ (done_of HT_.out (by kernel_rfl)) ?_
 have hnb13 := NB150_151.out
 have hnc13 := NB151_150.out
 obtain ⟨hcz14_0, hcz14_1, hcz14_2, hcz14_3, hcz14_4⟩ := bc5_ BK150.out
 have hfz14_0 := blk_frozen BK150.out 0
 have hfz14_1 := blk_frozen BK150.out 1
 have hfz14_2 := blk_frozen BK150.out 2
 have hfz14_3 := blk_frozen BK150.out 3
 have hfz14_4 := blk_frozen BK150.out 4
 obtain ⟨hcz15_0, hcz15_1, hcz15_2, hcz15_3, hcz15_4⟩ := bc5_ BK151.out
 have hfz15_0 := blk_frozen BK151.out 0
 have hfz15_1 := blk_frozen BK151.out 1
 have hfz15_2 := blk_frozen BK151.out 2
 have hfz15_3 := blk_frozen BK151.out 3
 have hfz15_4 := blk_frozen BK151.out 4
 try go_wp2
 refine bodyPost_ret (results_cell_row rfl _ _ gb151 27 #[.int .i64 a0_0, .int .i64 a0_1, .int .i64 a0_2, .slice Ao9 t152.length co9, .slice Ao11 t155.length co11] (0, 0) _ rfl (by refine pk_ ?_; refine blk_put (cs := #[.int .i64 a0_0, .int .i64 a0_1, .int .i64 a0_2, .slice Ao9 t152.length co9, .slice none 0 0]) ?_ 4 _ rfl; refine pk_ ?_; refine blk_put (cs := #[.int .i64 a0_0, .int .i64 a0_1, .int .i64 a0_2, .slice none 0 0, .slice none 0 0]) ?_ 3 _ rfl; refine pk_ ?_; refine blk_put (cs := #[.int .i64 a0_0, .int .i64 a0_1, .int .i64 0, .slice none 0 0, .slice none 0 0]) ?_ 2 _ rfl; refine pk_ ?_; refine blk_put (cs := #[.int .i64 a0_0, .int .i64 0, .int .i64 0, .slice none 0 0, .slice none 0 0]) ?_ 1 _ rfl; refine pk_ ?_; refine blk_put (cs := #[.int .i64 0, .int .i64 0, .int .i64 0, .slice none 0 0, .slice none 0 0]) ?_ 0 _ rfl; (iterate 2 (refine pk_ ?_; refine blk_far ?_ NB151_150.out _)); exact pk_ BK151.out) Try.underlying27 rfl (by kernel_rfl)) rfl ?_
 exact ⟨_, _, er_, by (with_reducible repeat (first | apply Kd.R_alloc | apply Kd.R_drewN | apply Kd.R_drew)); exact Kd.R_mono (rf5_ (Kd.R_far (p := ⟨gb150, 4, none⟩) (Kd.R_far (p := ⟨gb150, 3, none⟩) (Kd.R_types (Kd.R_types HO154.out BK150.out (by decide)) BK151.out (by decide)) (fun _ hk => hk.1.2) (.slice Ao9 t152.length co9)) (fun _ hk => hk.1.2) (.slice Ao11 t155.length co11))) (fun _ hk => hk.1.1.2), by (with_reducible repeat (first | apply Kd.R_alloc | apply Kd.R_drewN | apply Kd.R_drew)); exact Kd.R_mono (rf5_ (Kd.R_far (p := ⟨gb150, 4, none⟩) (Kd.R_far (p := ⟨gb150, 3, none⟩) (Kd.R_types (Kd.R_types HO157.out BK150.out (by decide)) BK151.out (by decide)) (fun _ hk => hk.1.2) (.slice Ao9 t152.length co9)) (fun _ hk => hk.1.2) (.slice Ao11 t155.length co11))) (fun _ hk => hk.1.1.2), bk_ HB.out⟩

/-! ### leap_Leap: function 12 (by hand) -/
def leap_Leap.f (k : Nat) (a0 a1 : Int) (rules : List (List (S37))) (st po sy : Int) (lf rt : List (S75)) : Option (Int × Int × Int × List (S75) × List (S75) × Int × Bool × Int) :=
  (leap_Fits.f k a0 a1 rules st po sy lf rt).bind fun v => if v = true then
    (if st = -1 then some (0, 0, 0, [], [], 0, false, 5) else (leap_leap.g rules st po sy lf rt).bind fun o =>
      if o.2.2.2.2.2.2 = true then (if lf.length < 8000000000000 ∧ rt.length < 8000000000000 then some (st, po, sy, lf, rt, 0, true, 0) else none)
      else (leap_fits.f k a0 a1 o.1 o.2.1 o.2.2.1 o.2.2.2.1 o.2.2.2.2.1).bind fun y => if y = true then some (o.1, o.2.1, o.2.2.1, o.2.2.2.1, o.2.2.2.2.1, o.2.2.2.2.2.1, false, 0) else some (0, 0, 0, [], [], 0, false, 4))
  else some (0, 0, 0, [], [], 0, false, 1)
set_option maxHeartbeats 8000000 in
set_option maxRecDepth 100000 in
theorem leap_Leap.calls (k : Nat) (a0_0 a0_1 : Int) (A0 : Option Addr) (c0 : Nat) (rules : List (List (S37))) (st po sy : Int) (A3 : Option Addr) (c3 : Nat) (lf : List (S75)) (A4 : Option Addr) (c4 : Nat) (rt : List (S75)) (r1 r2 r3 : Int) (r4 r5 : List (S75)) (r6 : Int) (r7 : Bool) (r8 : Int) (w : World) (hr0 : Kd.C (Kd.slice 37 k37) w A0 rules.length rules) (hc0 : rules.length ≤ c0) (hr3 : Kd.C k75 w A3 lf.length lf) (hc3 : lf.length ≤ c3) (hr4 : Kd.C k75 w A4 rt.length rt) (hc4 : rt.length ≤ c4) (h : leap_Leap.f k a0_0 a0_1 rules st po sy lf rt = some (r1, r2, r3, r4, r5, r6, r7, r8)) :
    Calls Try.prog 12 #[.agg #[.int .i64 a0_0, .int .i64 a0_1, .slice A0 rules.length c0], .agg #[.int .i64 st, .int .i64 po, .int .i64 sy, .slice A3 lf.length c3, .slice A4 rt.length c4]] w fun e w' => ∃ v3_ v4_ : Value, e = .returned (.tuple #[.agg #[.int .i64 r1, .int .i64 r2, .int .i64 r3, v3_, v4_], .int .i64 r6, .bool r7, .int .i64 r8]) ∧ Kd.R k75 75 w' w.heap.size (fun k_ => some k_ ≠ (v4_ : Value).ownBlock) v3_ r4 ∧ Kd.R k75 75 w' w.heap.size (fun k_ => some k_ ≠ (v3_ : Value).ownBlock) v4_ r5 ∧ Below w.heap.size w w' := by
  unfold leap_Leap.f at h
  obtain ⟨v, hv, h1⟩ := Option.bind_eq_some_iff.1 h
  have HR0 := Aside0.mk hr0
  have HR3 := Aside0.mk hr3
  have HR4 := Aside0.mk hr4
  have HC3 := Aside0.mk hc3
  have HC4 := Aside0.mk hc4
  have HFI := Aside0.mk (fun W hW h3 h4 => leap_Fits.calls k a0_0 a0_1 A0 c0 rules st po sy A3 c3 lf A4 c4 rt v W hW hc0 h3 hc3 h4 hc4 hv)
  have H := Aside0.mk h1
  have HB0 := Aside0.mk (below_alloc (below_alloc (below_alloc (Below.refl w.heap.size w) (.cells #[.int .i64 a0_0, .int .i64 a0_1, .slice A0 rules.length c0] 24)) (.cells #[.int .i64 st, .int .i64 po, .int .i64 sy, .slice A3 lf.length c3, .slice A4 rt.length c4] 27)) (.cells #[.int .i64 0, .int .i64 0, .int .i64 0, .slice none 0 0, .slice none 0 0] 27))
  have HZ0 := Aside0.mk (blk_below (blk_new w (.cells #[.int .i64 a0_0, .int .i64 a0_1, .slice A0 rules.length c0] 24)) (below_alloc (below_alloc (Below.refl (w.alloc (.cells #[.int .i64 a0_0, .int .i64 a0_1, .slice A0 rules.length c0] 24)).heap.size (w.alloc (.cells #[.int .i64 a0_0, .int .i64 a0_1, .slice A0 rules.length c0] 24))) (.cells #[.int .i64 st, .int .i64 po, .int .i64 sy, .slice A3 lf.length c3, .slice A4 rt.length c4] 27)) (.cells #[.int .i64 0, .int .i64 0, .int .i64 0, .slice none 0 0, .slice none 0 0] 27)))
  have HZ1 := Aside0.mk (blk_below (blk_new (w.alloc (.cells #[.int .i64 a0_0, .int .i64 a0_1, .slice A0 rules.length c0] 24)) (.cells #[.int .i64 st, .int .i64 po, .int .i64 sy, .slice A3 lf.length c3, .slice A4 rt.length c4] 27)) (below_alloc (Below.refl ((w.alloc (.cells #[.int .i64 a0_0, .int .i64 a0_1, .slice A0 rules.length c0] 24)).alloc (.cells #[.int .i64 st, .int .i64 po, .int .i64 sy, .slice A3 lf.length c3, .slice A4 rt.length c4] 27)).heap.size ((w.alloc (.cells #[.int .i64 a0_0, .int .i64 a0_1, .slice A0 rules.length c0] 24)).alloc (.cells #[.int .i64 st, .int .i64 po, .int .i64 sy, .slice A3 lf.length c3, .slice A4 rt.length c4] 27))) (.cells #[.int .i64 0, .int .i64 0, .int .i64 0, .slice none 0 0, .slice none 0 0] 27)))
  have HZ2 := Aside0.mk (blk_new ((w.alloc (.cells #[.int .i64 a0_0, .int .i64 a0_1, .slice A0 rules.length c0] 24)).alloc (.cells #[.int .i64 st, .int .i64 po, .int .i64 sy, .slice A3 lf.length c3, .slice A4 rt.length c4] 27)) (.cells #[.int .i64 0, .int .i64 0, .int .i64 0, .slice none 0 0, .slice none 0 0] 27))
  have s1 : (w.alloc (.cells #[.int .i64 a0_0, .int .i64 a0_1, .slice A0 rules.length c0] 24)).heap.size = w.heap.size + 1 := by simp
  have s2 : ((w.alloc (.cells #[.int .i64 a0_0, .int .i64 a0_1, .slice A0 rules.length c0] 24)).alloc (.cells #[.int .i64 st, .int .i64 po, .int .i64 sy, .slice A3 lf.length c3, .slice A4 rt.length c4] 27)).heap.size = w.heap.size + 1 + 1 := by simp
  rw [s1] at HZ1
  rw [s2] at HZ2
  clear h h1 hv hc0 hr0 hr3 hr4 hc3 hc4 s1 s2
  go_enter Try.func12, Try.ntmps12
  go_wp2_with fail
  obtain ⟨w0, hW0⟩ : ∃ W : World, ((w.alloc (.cells #[.int .i64 a0_0, .int .i64 a0_1, .slice A0 rules.length c0] 24)).alloc (.cells #[.int .i64 st, .int .i64 po, .int .i64 sy, .slice A3 lf.length c3, .slice A4 rt.length c4] 27)).alloc (.cells #[.int .i64 0, .int .i64 0, .int .i64 0, .slice none 0 0, .slice none 0 0] 27) = W := ⟨_, rfl⟩
  rw [hW0] at HB0 HZ0 HZ1 HZ2 ⊢
  clear hW0
  obtain ⟨z2, hz2⟩ : ∃ z, w.heap.size + 1 + 1 = z := ⟨_, rfl⟩
  rw [hz2] at HZ2 ⊢
  obtain ⟨z1, hz1⟩ : ∃ z, w.heap.size + 1 = z := ⟨_, rfl⟩
  rw [hz1] at HZ1 ⊢
  obtain ⟨z0, hz0⟩ : ∃ z, w.heap.size = z := ⟨_, rfl⟩
  rw [hz0] at HZ0 ⊢
  have HZE := Aside0.mk (show w.heap.size ≤ z0 ∧ z0 < z1 ∧ z1 < z2 ∧ z2 < w0.heap.size from ⟨by omega, by omega, by omega, blk_lt HZ2.out⟩)
  clear hz0 hz1 hz2
  refine (HFI.out w0 (Kd.C_below HR0.out HB0.out) (Kd.C_below HR3.out HB0.out) (Kd.C_below HR4.out HB0.out)).mono ?_
  rintro e w1 ⟨rfl, hB1⟩
  clear HFI
  have HB1 := Aside0.mk (below_step HB0.out hB1)
  have HZ0_1 := Aside0.mk (blk_below HZ0.out hB1)
  have HZ1_1 := Aside0.mk (blk_below HZ1.out hB1)
  have HZ2_1 := Aside0.mk (blk_below HZ2.out hB1)
  have HZL := Aside0.mk (show z2 < w1.heap.size from Nat.lt_of_lt_of_le HZE.out.2.2.2 hB1.size)
  clear hB1 HB0 HZ0 HZ1 HZ2
  cases v with
  | false =>
    have h := H.out
    clear H
    simp only [Bool.false_eq_true, if_false] at h
    simp only [Option.some.injEq, Prod.mk.injEq] at h
    obtain ⟨rfl, rfl, rfl, rfl, rfl, rfl, rfl, rfl⟩ := h
    have hr0 := (blk_cell HZ2_1.out 0).trans rfl
    have ht0 := blk_frozen HZ2_1.out 0
    have hr1 := (blk_cell HZ2_1.out 1).trans rfl
    have ht1 := blk_frozen HZ2_1.out 1
    have hr2 := (blk_cell HZ2_1.out 2).trans rfl
    have ht2 := blk_frozen HZ2_1.out 2
    have hr3 := (blk_cell HZ2_1.out 3).trans rfl
    have ht3 := blk_frozen HZ2_1.out 3
    have hr4 := (blk_cell HZ2_1.out 4).trans rfl
    have ht4 := blk_frozen HZ2_1.out 4
    go_wp2_with fail
    refine bodyPost_ret (results_list (rs := [.cell 4 27, .tmp 5, .tmp 6, .tmp 7]) (vs := [.agg #[.int .i64 0, .int .i64 0, .int .i64 0, .slice none 0 0, .slice none 0 0], .int .i64 0, .bool false, .int .i64 1]) rfl (by simp) ?_) rfl ?_
    · refine Vals.cell z2 27 _ (0, 0) _ rfl ?_ Try.underlying27 rfl rfl (Vals.tmp (Vals.tmp (Vals.tmp Vals.nil)))
      exact blk_put (blk_put (blk_put (blk_put (blk_put HZ2_1.out 0 _ rfl) 1 _ rfl) 2 _ rfl) 3 _ rfl) 4 _ rfl
    · have HF : w.heap.size ≤ z2 := by have := HZE.out; omega
      have HBF := (((((HB1.out.setCell (p := ⟨z2, 0, none⟩) HF (.int .i64 0)).setCell (p := ⟨z2, 1, none⟩) HF (.int .i64 0)).setCell (p := ⟨z2, 2, none⟩) HF (.int .i64 0)).setCell (p := ⟨z2, 3, none⟩) HF (.slice none 0 0)).setCell (p := ⟨z2, 4, none⟩) HF (.slice none 0 0))
      exact ⟨.slice none 0 0, .slice none 0 0, rfl, Kd.R_nil _ _ _ _ _, Kd.R_nil _ _ _ _ _, HBF⟩
  | true =>
  have h := H.out
  clear H
  simp only [if_true] at h
  by_cases ks : st = -1
  · rw [if_pos ks] at h
    have ks1 : (st == (-1 : Int)) = true := beq_iff_eq.mpr ks
    simp only [Option.some.injEq, Prod.mk.injEq] at h
    obtain ⟨rfl, rfl, rfl, rfl, rfl, rfl, rfl, rfl⟩ := h
    have hz1_0 := (blk_cell HZ1_1.out 0).trans rfl
    have hr0 := (blk_cell HZ2_1.out 0).trans rfl
    have ht0 := blk_frozen HZ2_1.out 0
    have hr1 := (blk_cell HZ2_1.out 1).trans rfl
    have ht1 := blk_frozen HZ2_1.out 1
    have hr2 := (blk_cell HZ2_1.out 2).trans rfl
    have ht2 := blk_frozen HZ2_1.out 2
    have hr3 := (blk_cell HZ2_1.out 3).trans rfl
    have ht3 := blk_frozen HZ2_1.out 3
    have hr4 := (blk_cell HZ2_1.out 4).trans rfl
    have ht4 := blk_frozen HZ2_1.out 4
    clear ks
    go_wp2_with fail
    refine bodyPost_ret (results_list (rs := [.cell 4 27, .tmp 5, .tmp 6, .tmp 7]) (vs := [.agg #[.int .i64 0, .int .i64 0, .int .i64 0, .slice none 0 0, .slice none 0 0], .int .i64 0, .bool false, .int .i64 5]) rfl (by simp) ?_) rfl ?_
    · refine Vals.cell z2 27 _ (0, 0) _ rfl ?_ Try.underlying27 rfl rfl (Vals.tmp (Vals.tmp (Vals.tmp Vals.nil)))
      exact blk_put (blk_put (blk_put (blk_put (blk_put HZ2_1.out 0 _ rfl) 1 _ rfl) 2 _ rfl) 3 _ rfl) 4 _ rfl
    · have HF : w.heap.size ≤ z2 := by have := HZE.out; omega
      have HBF := (((((HB1.out.setCell (p := ⟨z2, 0, none⟩) HF (.int .i64 0)).setCell (p := ⟨z2, 1, none⟩) HF (.int .i64 0)).setCell (p := ⟨z2, 2, none⟩) HF (.int .i64 0)).setCell (p := ⟨z2, 3, none⟩) HF (.slice none 0 0)).setCell (p := ⟨z2, 4, none⟩) HF (.slice none 0 0))
      exact ⟨.slice none 0 0, .slice none 0 0, rfl, Kd.R_nil _ _ _ _ _, Kd.R_nil _ _ _ _ _, HBF⟩
  rw [if_neg ks] at h
  have ks1 : (st == (-1 : Int)) = false := beq_eq_false_iff_ne.mpr ks
  obtain ⟨⟨o1, o2, o3, o4, o5, o6, o7⟩, ho, h2⟩ := Option.bind_eq_some_iff.1 h
  simp only at h2
  have H := Aside0.mk h2
  have HL := Aside0.mk ho
  clear h h2 ho ks
  have hz0_0 := (blk_cell HZ0_1.out 0).trans rfl
  have hz0_1 := (blk_cell HZ0_1.out 1).trans rfl
  have hz0_2 := (blk_cell HZ0_1.out 2).trans rfl
  have hz1_0 := (blk_cell HZ1_1.out 0).trans rfl
  have hz1_1 := (blk_cell HZ1_1.out 1).trans rfl
  have hz1_2 := (blk_cell HZ1_1.out 2).trans rfl
  have hz1_3 := (blk_cell HZ1_1.out 3).trans rfl
  have hz1_4 := (blk_cell HZ1_1.out 4).trans rfl
  go_wp2_with fail
  have HLB1 := Aside0.mk HB1.out.size
  refine (leap_leap.calls a0_0 a0_1 A0 c0 rules st po sy A3 c3 lf A4 c4 rt o1 o2 o3 o4 o5 o6 o7 w1 (Kd.C_below HR0.out HB1.out) (Kd.C_below HR3.out HB1.out) HC3.out (Kd.C_below HR4.out HB1.out) HC4.out HL.out).mono ?_
  rintro e w2 ⟨B3, d3, B4, d4, rfl, hRR, hB2⟩
  have HRR := Aside0.mk hRR
  have HB2 := Aside0.mk (below_step HB1.out hB2)
  have HZ0_2 := Aside0.mk (blk_below HZ0_1.out hB2)
  have HZ1_2 := Aside0.mk (blk_below HZ1_1.out hB2)
  have HZ2_2 := Aside0.mk (blk_below HZ2_1.out hB2)
  clear HL hRR hB2
  clear hz0_0 hz0_1 hz0_2 hz1_0 hz1_1 hz1_2 hz1_3 hz1_4
  clear HZ0_1 HZ1_1 HZ2_1 ks1
  have hb3 := (below_alloc (Below.refl w2.heap.size w2) (.cells #[.int .i64 o1, .int .i64 o2, .int .i64 o3, .slice B3 o4.length d3, .slice B4 o5.length d4] 27))
  have HB3 := Aside0.mk (below_step HB2.out hb3)
  have HZ0_3 := Aside0.mk (blk_below HZ0_2.out hb3)
  have HZ1_3 := Aside0.mk (blk_below HZ1_2.out hb3)
  have HZ2_3 := Aside0.mk (blk_below HZ2_2.out hb3)
  have HO_3 := Aside0.mk (blk_new w2 (.cells #[.int .i64 o1, .int .i64 o2, .int .i64 o3, .slice B3 o4.length d3, .slice B4 o5.length d4] 27))
  clear hb3
  cases o7 with
  | true =>
    have h := H.out
    clear H
    simp only [if_true] at h
    by_cases kl : lf.length < 8000000000000 ∧ rt.length < 8000000000000
    rotate_left
    · rw [if_neg kl] at h
      cases h
    rw [if_pos kl] at h
    have KL := Aside0.mk kl
    clear kl
    simp only [Option.some.injEq, Prod.mk.injEq] at h
    obtain ⟨rfl, rfl, rfl, rfl, rfl, rfl, rfl, rfl⟩ := h
    have hz0_0 := (blk_cell HZ0_3.out 0).trans rfl
    have hz0_1 := (blk_cell HZ0_3.out 1).trans rfl
    have hz0_2 := (blk_cell HZ0_3.out 2).trans rfl
    have hz1_0 := (blk_cell HZ1_3.out 0).trans rfl
    have hz1_1 := (blk_cell HZ1_3.out 1).trans rfl
    have hz1_2 := (blk_cell HZ1_3.out 2).trans rfl
    have hz1_3 := (blk_cell HZ1_3.out 3).trans rfl
    have hz1_4 := (blk_cell HZ1_3.out 4).trans rfl
    go_wp2_with fail
    obtain ⟨w3, hW3⟩ : ∃ W : World, w2.alloc (.cells #[.int .i64 o1, .int .i64 o2, .int .i64 o3, .slice B3 o4.length d3, .slice B4 o5.length d4] 27) = W := ⟨_, rfl⟩
    rw [hW3] at HB3 HZ0_3 HZ1_3 HZ2_3 HO_3 ⊢
    clear hz0_0 hz0_1 hz0_2 hz1_0 hz1_1 hz1_2 hz1_3 hz1_4
    clear hW3
    have HLB3 := Aside0.mk HB3.out.size
    refine (leap_copied.calls st po sy A3 c3 lf A4 c4 rt st po sy lf rt w3 (Kd.C_below HR3.out HB3.out) HC3.out (Kd.C_below HR4.out HB3.out) HC4.out (by unfold leap_copied.f; rw [clone_ok lf KL.out.1, clone_ok rt KL.out.2]; rfl)).mono ?_
    rintro e w4 ⟨v3, v4, rfl, h3, h4, hB4⟩
    obtain ⟨B5, d5, rfl⟩ := Kd.R_slice h3
    obtain ⟨B6, d6, rfl⟩ := Kd.R_slice h4
    have G3 := Aside0.mk h3
    have G4 := Aside0.mk h4
    have HB4 := Aside0.mk (below_step HB3.out hB4)
    have HZ2_4 := Aside0.mk (blk_below HZ2_3.out hB4)
    have HY := Aside0.mk (blk_lt HZ2_3.out)
    clear h3 h4 hB4
    have hr0 := (blk_cell HZ2_4.out 0).trans rfl
    have ht0 := blk_frozen HZ2_4.out 0
    have hr1 := (blk_cell HZ2_4.out 1).trans rfl
    have ht1 := blk_frozen HZ2_4.out 1
    have hr2 := (blk_cell HZ2_4.out 2).trans rfl
    have ht2 := blk_frozen HZ2_4.out 2
    have hr3 := (blk_cell HZ2_4.out 3).trans rfl
    have ht3 := blk_frozen HZ2_4.out 3
    have hr4 := (blk_cell HZ2_4.out 4).trans rfl
    have ht4 := blk_frozen HZ2_4.out 4
    go_wp2_with fail
    refine bodyPost_ret (results_list (rs := [.cell 4 27, .tmp 5, .tmp 6, .tmp 7]) (vs := [.agg #[.int .i64 st, .int .i64 po, .int .i64 sy, .slice B5 lf.length d5, .slice B6 rt.length d6], .int .i64 0, .bool true, .int .i64 0]) rfl (by simp) ?_) rfl ?_
    · refine Vals.cell z2 27 _ (0, 0) _ rfl ?_ Try.underlying27 rfl rfl (Vals.tmp (Vals.tmp (Vals.tmp Vals.nil)))
      exact blk_put (blk_put (blk_put (blk_put (blk_put HZ2_4.out 0 _ rfl) 1 _ rfl) 2 _ rfl) 3 _ rfl) 4 _ rfl
    · have HF : w.heap.size ≤ z2 := by have := HZE.out; omega
      have HBF := (((((HB4.out.setCell (p := ⟨z2, 0, none⟩) HF (.int .i64 st)).setCell (p := ⟨z2, 1, none⟩) HF (.int .i64 po)).setCell (p := ⟨z2, 2, none⟩) HF (.int .i64 sy)).setCell (p := ⟨z2, 3, none⟩) HF (.slice B5 lf.length d5)).setCell (p := ⟨z2, 4, none⟩) HF (.slice B6 rt.length d6))
      have q3 := (rfar_ (rfar_ (rfar_ (rfar_ (rfar_ G3.out ⟨z2, 0, none⟩ HY.out (.int .i64 st)) ⟨z2, 1, none⟩ HY.out (.int .i64 po)) ⟨z2, 2, none⟩ HY.out (.int .i64 sy)) ⟨z2, 3, none⟩ HY.out (.slice B5 lf.length d5)) ⟨z2, 4, none⟩ HY.out (.slice B6 rt.length d6))
      have q4 := (rfar_ (rfar_ (rfar_ (rfar_ (rfar_ G4.out ⟨z2, 0, none⟩ HY.out (.int .i64 st)) ⟨z2, 1, none⟩ HY.out (.int .i64 po)) ⟨z2, 2, none⟩ HY.out (.int .i64 sy)) ⟨z2, 3, none⟩ HY.out (.slice B5 lf.length d5)) ⟨z2, 4, none⟩ HY.out (.slice B6 rt.length d6))
      exact ⟨_, _, rfl, Kd.R_lower q3 HLB3.out, Kd.R_lower q4 HLB3.out, HBF⟩
  | false =>
  have h := H.out
  clear H
  simp only [Bool.false_eq_true, if_false] at h
  obtain ⟨y, hy, h2⟩ := Option.bind_eq_some_iff.1 h
  have H := Aside0.mk h2
  have HR3 := Aside0.mk (HRR.out rfl).1
  have HR4 := Aside0.mk (HRR.out rfl).2.1
  have HAP := Aside0.mk (HRR.out rfl).2.2
  have HFT := Aside0.mk (fun W h3 h4 => leap_fits.calls k a0_0 a0_1 o1 o2 o3 B3 d3 o4 B4 d4 o5 y W h3 (Kd.R_reads' HR3.out).2.1 h4 (Kd.R_reads' HR4.out).2.1 hy)
  clear h h2 hy HRR
  have hz0_0 := (blk_cell HZ0_3.out 0).trans rfl
  have hz0_1 := (blk_cell HZ0_3.out 1).trans rfl
  have hz0_2 := (blk_cell HZ0_3.out 2).trans rfl
  have hz1_0 := (blk_cell HZ1_3.out 0).trans rfl
  have hz1_1 := (blk_cell HZ1_3.out 1).trans rfl
  have hz1_2 := (blk_cell HZ1_3.out 2).trans rfl
  have hz1_3 := (blk_cell HZ1_3.out 3).trans rfl
  have hz1_4 := (blk_cell HZ1_3.out 4).trans rfl
  have ho_0 := (blk_cell HO_3.out 0).trans rfl
  have ho_1 := (blk_cell HO_3.out 1).trans rfl
  have ho_2 := (blk_cell HO_3.out 2).trans rfl
  have ho_3 := (blk_cell HO_3.out 3).trans rfl
  have ho_4 := (blk_cell HO_3.out 4).trans rfl
  go_wp2_with fail
  obtain ⟨w3, hW3⟩ : ∃ W : World, w2.alloc (.cells #[.int .i64 o1, .int .i64 o2, .int .i64 o3, .slice B3 o4.length d3, .slice B4 o5.length d4] 27) = W := ⟨_, rfl⟩
  have HG3 := Aside0.mk (show Kd.R k75 75 w3 w1.heap.size (fun _ => True) (.slice B3 o4.length d3) o4 from by rw [← hW3]; exact Kd.R_alloc HR3.out _)
  have HG4 := Aside0.mk (show Kd.R k75 75 w3 w1.heap.size (fun _ => True) (.slice B4 o5.length d4) o5 from by rw [← hW3]; exact Kd.R_alloc HR4.out _)
  rw [hW3] at HB3 HZ0_3 HZ1_3 HZ2_3 HO_3 ⊢
  clear hz0_0 hz0_1 hz0_2 hz1_0 hz1_1 hz1_2 hz1_3 hz1_4
  clear ho_0 ho_1 ho_2 ho_3 ho_4
  obtain ⟨z8, hz8⟩ : ∃ z, w2.heap.size = z := ⟨_, rfl⟩
  rw [hz8] at HO_3 ⊢
  clear hW3 hz8
  refine (HFT.out w3 (Kd.R_reads' HG3.out).2.2 (Kd.R_reads' HG4.out).2.2).mono ?_
  rintro e w4 ⟨rfl, hB4⟩
  have HB4 := Aside0.mk (below_step HB3.out hB4)
  have HZ2_4 := Aside0.mk (blk_below HZ2_3.out hB4)
  have HO_4 := Aside0.mk (blk_below HO_3.out hB4)
  have HG3 := Aside0.mk (Kd.R_below HG3.out hB4)
  have HG4 := Aside0.mk (Kd.R_below HG4.out hB4)
  clear hB4 HFT HR3 HR4
  have hr0 := (blk_cell HZ2_4.out 0).trans rfl
  have ht0 := blk_frozen HZ2_4.out 0
  have hr1 := (blk_cell HZ2_4.out 1).trans rfl
  have ht1 := blk_frozen HZ2_4.out 1
  have hr2 := (blk_cell HZ2_4.out 2).trans rfl
  have ht2 := blk_frozen HZ2_4.out 2
  have hr3 := (blk_cell HZ2_4.out 3).trans rfl
  have ht3 := blk_frozen HZ2_4.out 3
  have hr4 := (blk_cell HZ2_4.out 4).trans rfl
  have ht4 := blk_frozen HZ2_4.out 4
  have ho_0 := (blk_cell HO_4.out 0).trans rfl
  have ho_1 := (blk_cell HO_4.out 1).trans rfl
  have ho_2 := (blk_cell HO_4.out 2).trans rfl
  have ho_3 := (blk_cell HO_4.out 3).trans rfl
  have ho_4 := (blk_cell HO_4.out 4).trans rfl
  cases y with
  | false =>
    have h := H.out
    clear H
    simp only [Bool.false_eq_true, if_false] at h
    simp only [Option.some.injEq, Prod.mk.injEq] at h
    obtain ⟨rfl, rfl, rfl, rfl, rfl, rfl, rfl, rfl⟩ := h
    go_wp2_with fail
    refine bodyPost_ret (results_list (rs := [.cell 4 27, .tmp 5, .tmp 6, .tmp 7]) (vs := [.agg #[.int .i64 0, .int .i64 0, .int .i64 0, .slice none 0 0, .slice none 0 0], .int .i64 0, .bool false, .int .i64 4]) rfl (by simp) ?_) rfl ?_
    · refine Vals.cell z2 27 _ (0, 0) _ rfl ?_ Try.underlying27 rfl rfl (Vals.tmp (Vals.tmp (Vals.tmp Vals.nil)))
      exact blk_put (blk_put (blk_put (blk_put (blk_put HZ2_4.out 0 _ rfl) 1 _ rfl) 2 _ rfl) 3 _ rfl) 4 _ rfl
    · have HF : w.heap.size ≤ z2 := by have := HZE.out; omega
      have HBF := (((((HB4.out.setCell (p := ⟨z2, 0, none⟩) HF (.int .i64 0)).setCell (p := ⟨z2, 1, none⟩) HF (.int .i64 0)).setCell (p := ⟨z2, 2, none⟩) HF (.int .i64 0)).setCell (p := ⟨z2, 3, none⟩) HF (.slice none 0 0)).setCell (p := ⟨z2, 4, none⟩) HF (.slice none 0 0))
      exact ⟨.slice none 0 0, .slice none 0 0, rfl, Kd.R_nil _ _ _ _ _, Kd.R_nil _ _ _ _ _, HBF⟩
  | true =>
  have h := H.out
  clear H
  simp only [if_true] at h
  simp only [Option.some.injEq, Prod.mk.injEq] at h
  obtain ⟨rfl, rfl, rfl, rfl, rfl, rfl, rfl, rfl⟩ := h
  go_wp2_with fail
  refine bodyPost_ret (results_list (rs := [.cell 4 27, .tmp 5, .tmp 6, .tmp 7]) (vs := [.agg #[.int .i64 o1, .int .i64 o2, .int .i64 o3, .slice B3 o4.length d3, .slice B4 o5.length d4], .int .i64 o6, .bool false, .int .i64 0]) rfl (by simp) ?_) rfl ?_
  · refine Vals.cell z2 27 _ (0, 0) _ rfl ?_ Try.underlying27 rfl rfl (Vals.tmp (Vals.tmp (Vals.tmp Vals.nil)))
    exact blk_put (blk_put (blk_put (blk_put (blk_put HZ2_4.out 0 _ rfl) 1 _ rfl) 2 _ rfl) 3 _ rfl) 4 _ rfl
  · have HF : w.heap.size ≤ z2 := by have := HZE.out; omega
    have HBF := (((((HB4.out.setCell (p := ⟨z2, 0, none⟩) HF (.int .i64 o1)).setCell (p := ⟨z2, 1, none⟩) HF (.int .i64 o2)).setCell (p := ⟨z2, 2, none⟩) HF (.int .i64 o3)).setCell (p := ⟨z2, 3, none⟩) HF (.slice B3 o4.length d3)).setCell (p := ⟨z2, 4, none⟩) HF (.slice B4 o5.length d4))
    have q3 := (rfar_ (rfar_ (rfar_ (rfar_ (rfar_ HG3.out ⟨z2, 0, none⟩ HZL.out (.int .i64 o1)) ⟨z2, 1, none⟩ HZL.out (.int .i64 o2)) ⟨z2, 2, none⟩ HZL.out (.int .i64 o3)) ⟨z2, 3, none⟩ HZL.out (.slice B3 o4.length d3)) ⟨z2, 4, none⟩ HZL.out (.slice B4 o5.length d4))
    have q4 := (rfar_ (rfar_ (rfar_ (rfar_ (rfar_ HG4.out ⟨z2, 0, none⟩ HZL.out (.int .i64 o1)) ⟨z2, 1, none⟩ HZL.out (.int .i64 o2)) ⟨z2, 2, none⟩ HZL.out (.int .i64 o3)) ⟨z2, 3, none⟩ HZL.out (.slice B3 o4.length d3)) ⟨z2, 4, none⟩ HZL.out (.slice B4 o5.length d4))
    exact ⟨_, _, rfl, Kd.R_lower (Kd.R_mono (Kd.R_tight rfl q3) (fun k hk he => HAP.out k hk.symm he.symm)) HLB1.out, Kd.R_lower (Kd.R_mono (Kd.R_tight rfl q4) (fun k hk he => HAP.out k he.symm hk.symm)) HLB1.out, HBF⟩
theorem leap_Leap.mono : ∀ a0 a1 a2 a3 a4 a5 a6 a7 k, LeO (leap_Leap.f k a0 a1 a2 a3 a4 a5 a6 a7) (leap_Leap.f (k + 1) a0 a1 a2 a3 a4 a5 a6 a7) := by
  intro a0 a1 a2 a3 a4 a5 a6 a7 k
  unfold leap_Leap.f
  repeat' first
    | (with_reducible exact leap_Fits.mono _ _ _ _ _ _ _ _ _)
    | (with_reducible exact leap_fits.mono _ _ _ _ _ _ _ _)
    | (with_reducible exact LeO.refl _)
    | (with_reducible refine LeO.ite ?_ ?_)
    | (with_reducible refine LeO.bind ?_ (fun _ => ?_))

/-! ### standstillref04_SameRuns: function 36 -/
def standstillref04_SameRuns.l0 : Nat → List (S75) → List (S75) → Int → Option (Bool)
 | 0, _, _, _ => none
 | k + 1, x0, x1, x5 => if x5 < (x0.length : Int) then (if 0 ≤ x5 then (if x5 < (x1.length : Int) then (if (!(((rd_T75 x0 x5).f0) == ((rd_T75 x1 x5).f0)) || (!(((rd_T75 x0 x5).f1) == ((rd_T75 x1 x5).f1)))) = true then (some false) else (standstillref04_SameRuns.l0 k x0 x1 (wrap64 (x5 + 1)))) else (none)) else (none)) else (some true)
def standstillref04_SameRuns.f (k : Nat) (l0 : List (S75)) (l1 : List (S75)) : Option (Bool) := if (l0.length : Int) = (l1.length : Int) then (standstillref04_SameRuns.l0 k l0 l1 0) else (some false)
theorem standstillref04_SameRuns.mono_l : ∀ k, (∀ y0 y1 y2, LeO (standstillref04_SameRuns.l0 k y0 y1 y2) (standstillref04_SameRuns.l0 (k + 1) y0 y1 y2))
 | 0 => fun _ _ _ r h => by simp [standstillref04_SameRuns.l0] at h
 | k + 1 => by
  have ih0 := standstillref04_SameRuns.mono_l k
  ·intro y0 y1 y2
   unfold standstillref04_SameRuns.l0
   repeat' first
   | (with_reducible exact ih0 _ _ _)
   | (with_reducible exact LeO.refl _)
   | (with_reducible exact LeO.none _)
   | (with_reducible refine LeO.ite ?_ ?_)
   | (with_reducible refine LeO.bind ?_ (fun _ => ?_))
   | exact ih0 _ _ _
   | exact LeO.none _
   | refine LeO.ite ?_ ?_
   | refine LeO.bind ?_ (fun _ => ?_)
theorem standstillref04_SameRuns.mono : ∀ a0 a1 k, LeO (standstillref04_SameRuns.f k a0 a1) (standstillref04_SameRuns.f (k + 1) a0 a1) := by
 intro a0 a1 k
 have ih0 := standstillref04_SameRuns.mono_l k
 unfold standstillref04_SameRuns.f
 repeat' first
   | (with_reducible exact ih0 _ _ _)
   | (with_reducible exact LeO.refl _)
   | (with_reducible exact LeO.none _)
   | (with_reducible refine LeO.ite ?_ ?_)
   | (with_reducible refine LeO.bind ?_ (fun _ => ?_))
   | exact ih0 _ _ _
   | exact LeO.none _
   | refine LeO.ite ?_ ?_
   | refine LeO.bind ?_ (fun _ => ?_)
set_option maxHeartbeats 8000000 in
set_option maxRecDepth 100000 in
theorem standstillref04_SameRuns.calls (k : Nat) (A0 : Option Addr) (c0 : Nat) (l0 : List (S75)) (A1 : Option Addr) (c1 : Nat) (l1 : List (S75)) (r : Bool) (w : World) (hr0 : Kd.C k75 w A0 l0.length l0) (hc0 : l0.length ≤ c0) (hr1 : Kd.C k75 w A1 l1.length l1) (hc1 : l1.length ≤ c1) (h : standstillref04_SameRuns.f k l0 l1 = some r) :
  Calls Try.prog 36 #[.slice A0 l0.length c0, .slice A1 l1.length c1] w fun e w' => e = .returned (.bool r) ∧ Drawn0 w w' := by
 have hu75 := Try.underlying75
 have HR0 := Aside0.mk hr0
 have HC0 := Aside0.mk hc0
 clear hr0 hc0
 have HR1 := Aside0.mk hr1
 have HC1 := Aside0.mk hc1
 clear hr1 hc1
 have H : (if (l0.length : Int) = (l1.length : Int) then (standstillref04_SameRuns.l0 k l0 l1 0) else (some false)) = some r := h
 clear h
 by_cases c3 : (l0.length : Int) = (l1.length : Int)
 ·rw [if_pos c3] at H
  have c3b0 : ((l0.length : Int) == (l1.length : Int)) = true := beq_iff_eq.mpr c3
  have c3b1 : ((l0.length : Int) != (l1.length : Int)) = false := bne_eq_false_iff_eq.mpr c3
  have c3b2 : (l0.length == l1.length) = true := by first | simpa using c3 | (simp at c3 ⊢; omega)
  clear c3
  have H' := Aside0.mk H
  clear H
  go_enter Try.func36, Try.ntmps36
  go_wp2
  repeat (go_quiet (fail); try go_wp2)
  go_loopg [5] k (fun kq v5 w' => ∃ (x5_1 : Int), v5 = .int .i64 x5_1 ∧ Aside0 (standstillref04_SameRuns.l0 kq l0 l1 x5_1 = some r) ∧ Aside0 (kq ≤ k) ∧ Drawn0 w w')
  case atStart => exact ⟨(0), jr_, H', ⟨Nat.le_refl _⟩, by repeat (first | exact Drawn0.refl _ | apply Drawn0.step)⟩
  case round =>
   clear H'
   (try clear c1); (try clear c3); (try clear c3b0); (try clear c3b1); (try clear c3b2)
   obtain ⟨x5_1, rfl, HA, HK1, ⟨m1, rfl⟩⟩ := hrel
   cases gk with
   | zero => exact absurd HA.out (by simp [standstillref04_SameRuns.l0])
   | succ k1 =>
    have H := HA.out
    clear HA
    simp only [standstillref04_SameRuns.l0] at H
    by_cases c4 : x5_1 < (l0.length : Int)
    ·rw [if_pos c4] at H
     have c4b0 : decide (x5_1 < (l0.length : Int)) = true := decide_eq_true c4
     clear c4
     by_cases c5 : 0 ≤ x5_1
     ·rw [if_pos c5] at H
      have c5b0 : decide (0 ≤ x5_1) = true := decide_eq_true c5
      clear c5
      by_cases c6 : x5_1 < (l1.length : Int)
      ·rw [if_pos c6] at H
       have c6b0 : decide (x5_1 < (l1.length : Int)) = true := decide_eq_true c6
       clear c6
       by_cases c7 : (!(((rd_T75 l0 x5_1).f0) == ((rd_T75 l1 x5_1).f0)) || (!(((rd_T75 l0 x5_1).f1) == ((rd_T75 l1 x5_1).f1)))) = true
       ·rw [if_pos c7] at H
        have c7b0 : (!(((rd_T75 l0 x5_1).f0) == ((rd_T75 l1 x5_1).f0)) || (!(((rd_T75 l0 x5_1).f1) == ((rd_T75 l1 x5_1).f1)))) = true := c7
        clear c7
        (try (have c7bs := c7b0; simp only [c3b0, c3b2, Bool.not_true, Bool.not_false, Bool.false_or, Bool.true_or, Bool.false_and, Bool.true_and] at c7bs))
        obtain rfl := Option.some.inj H
        have p158 : 0 ≤ (x5_1 : Int) := od_
        have q158 : x5_1 < (l0.length : Int) := od_
        obtain ⟨ad158, e158, hx158_0, hx158_1⟩ := at_T75 HR0.out x5_1 p158 q158
        cases e158
        replace p158 := eq_true p158
        replace q158 := eq_true q158
        have p159 : 0 ≤ (x5_1 : Int) := od_
        have q159 : x5_1 < (l1.length : Int) := od_
        obtain ⟨ad159, e159, hx159_0, hx159_1⟩ := at_T75 HR1.out x5_1 p159 q159
        cases e159
        replace p159 := eq_true p159
        replace q159 := eq_true q159
        go_wp2
        repeat (go_quiet (fail); try go_wp2)
        go_ret
        exact ⟨by first | rfl | (simp; done) | (simp [*]; done), by repeat (first | exact Drawn0.refl _ | apply Drawn0.step)⟩
       ·rw [if_neg c7] at H
        have c7b0 : (!(((rd_T75 l0 x5_1).f0) == ((rd_T75 l1 x5_1).f0)) || (!(((rd_T75 l0 x5_1).f1) == ((rd_T75 l1 x5_1).f1)))) = false := by simpa using c7
        clear c7
        (try (have c7bs := c7b0; simp only [c3b0, c3b2, Bool.not_true, Bool.not_false, Bool.false_or, Bool.true_or, Bool.false_and, Bool.true_and] at c7bs))
        have H' := Aside0.mk H
        clear H
        have p158 : 0 ≤ (x5_1 : Int) := od_
        have q158 : x5_1 < (l0.length : Int) := od_
        obtain ⟨ad158, e158, hx158_0, hx158_1⟩ := at_T75 HR0.out x5_1 p158 q158
        cases e158
        replace p158 := eq_true p158
        replace q158 := eq_true q158
        have p159 : 0 ≤ (x5_1 : Int) := od_
        have q159 : x5_1 < (l1.length : Int) := od_
        obtain ⟨ad159, e159, hx159_0, hx159_1⟩ := at_T75 HR1.out x5_1 p159 q159
        cases e159
        replace p159 := eq_true p159
        replace q159 := eq_true q159
        go_wp2
        repeat (go_quiet (fail); try go_wp2)
        go_roundg k1
        case measure => have := HK1.out; omega
        case rel => exact ⟨(wrap64 (x5_1 + 1)), jr_, H', ⟨by have := HK1.out; omega⟩, by repeat (first | exact Drawn0.refl _ | apply Drawn0.step)⟩
      ·rw [if_neg c6] at H
       exact absurd H (by simp)
     ·rw [if_neg c5] at H
      exact absurd H (by simp)
    ·rw [if_neg c4] at H
     have c4b0 : decide (x5_1 < (l0.length : Int)) = false := decide_eq_false c4
     clear c4
     obtain rfl := Option.some.inj H
     go_wp2
     repeat (go_quiet (fail); try go_wp2)
     go_ret
     exact ⟨by first | rfl | (simp; done) | (simp [*]; done), by repeat (first | exact Drawn0.refl _ | apply Drawn0.step)⟩
 ·rw [if_neg c3] at H
  have c3b0 : ((l0.length : Int) == (l1.length : Int)) = false := beq_eq_false_iff_ne.mpr c3
  have c3b1 : ((l0.length : Int) != (l1.length : Int)) = true := bne_iff_ne.mpr c3
  have c3b2 : (l0.length == l1.length) = false := by first | simpa using c3 | (simp at c3 ⊢; omega)
  obtain rfl := Option.some.inj H
  go_enter Try.func36, Try.ntmps36
  go_wp2
  repeat (go_quiet (fail); try go_wp2)
  go_ret
  exact ⟨by first | rfl | (simp; done) | (simp [*]; done), by repeat (first | exact Drawn0.refl _ | apply Drawn0.step)⟩

/-! ### standstillref04_Same: function 14 -/
def standstillref04_Same.f (k : Nat) (a0_0 : Int) (a0_1 : Int) (a0_2 : Int) (l0_3 : List (S75)) (l0_4 : List (S75)) (a1_0 : Int) (a1_1 : Int) (a1_2 : Int) (l1_3 : List (S75)) (l1_4 : List (S75)) : Option (Bool) := if a0_0 = a1_0 then (if a0_1 = a1_1 then (if a0_2 = a1_2 then ((standstillref04_SameRuns.f k l0_3 l1_3).bind fun t162 => (if t162 = true then ((standstillref04_SameRuns.f k l0_4 l1_4).bind fun t163 => (some t163)) else (some false))) else (some false)) else (some false)) else (some false)
theorem standstillref04_Same.mono : ∀ a0 a1 a2 a3 a4 a5 a6 a7 a8 a9 k, LeO (standstillref04_Same.f k a0 a1 a2 a3 a4 a5 a6 a7 a8 a9) (standstillref04_Same.f (k + 1) a0 a1 a2 a3 a4 a5 a6 a7 a8 a9) := by
 intro a0 a1 a2 a3 a4 a5 a6 a7 a8 a9 k
 unfold standstillref04_Same.f
 repeat' first
   | (with_reducible exact standstillref04_SameRuns.mono _ _ _)
   | (with_reducible exact LeO.refl _)
   | (with_reducible exact LeO.none _)
   | (with_reducible refine LeO.ite ?_ ?_)
   | (with_reducible refine LeO.bind ?_ (fun _ => ?_))
   | exact standstillref04_SameRuns.mono _ _ _
   | exact LeO.none _
   | refine LeO.ite ?_ ?_
   | refine LeO.bind ?_ (fun _ => ?_)
set_option maxHeartbeats 8000000 in
set_option maxRecDepth 100000 in
theorem standstillref04_Same.calls (k : Nat) (a0_0 : Int) (a0_1 : Int) (a0_2 : Int) (A0_3 : Option Addr) (c0_3 : Nat) (l0_3 : List (S75)) (A0_4 : Option Addr) (c0_4 : Nat) (l0_4 : List (S75)) (a1_0 : Int) (a1_1 : Int) (a1_2 : Int) (A1_3 : Option Addr) (c1_3 : Nat) (l1_3 : List (S75)) (A1_4 : Option Addr) (c1_4 : Nat) (l1_4 : List (S75)) (r : Bool) (w : World) (hr0_3 : Kd.C k75 w A0_3 l0_3.length l0_3) (hc0_3 : l0_3.length ≤ c0_3) (hr0_4 : Kd.C k75 w A0_4 l0_4.length l0_4) (hc0_4 : l0_4.length ≤ c0_4) (hr1_3 : Kd.C k75 w A1_3 l1_3.length l1_3) (hc1_3 : l1_3.length ≤ c1_3) (hr1_4 : Kd.C k75 w A1_4 l1_4.length l1_4) (hc1_4 : l1_4.length ≤ c1_4) (h : standstillref04_Same.f k a0_0 a0_1 a0_2 l0_3 l0_4 a1_0 a1_1 a1_2 l1_3 l1_4 = some r) :
  Calls Try.prog 14 #[.agg #[.int .i64 a0_0, .int .i64 a0_1, .int .i64 a0_2, .slice A0_3 l0_3.length c0_3, .slice A0_4 l0_4.length c0_4], .agg #[.int .i64 a1_0, .int .i64 a1_1, .int .i64 a1_2, .slice A1_3 l1_3.length c1_3, .slice A1_4 l1_4.length c1_4]] w fun e w' => e = .returned (.bool r) ∧ Below w.heap.size w w' := by
 have hu27 := Try.underlying27
 have HR0_3 := Aside0.mk hr0_3
 have HC0_3 := Aside0.mk hc0_3
 clear hr0_3 hc0_3
 have HR0_4 := Aside0.mk hr0_4
 have HC0_4 := Aside0.mk hc0_4
 clear hr0_4 hc0_4
 have HR1_3 := Aside0.mk hr1_3
 have HC1_3 := Aside0.mk hc1_3
 clear hr1_3 hc1_3
 have HR1_4 := Aside0.mk hr1_4
 have HC1_4 := Aside0.mk hc1_4
 clear hr1_4 hc1_4
 have HB := A_ (Below.refl w.heap.size w)
 have H : (if a0_0 = a1_0 then (if a0_1 = a1_1 then (if a0_2 = a1_2 then ((standstillref04_SameRuns.f k l0_3 l1_3).bind fun t162 => (if t162 = true then ((standstillref04_SameRuns.f k l0_4 l1_4).bind fun t163 => (some t163)) else (some false))) else (some false)) else (some false)) else (some false)) = some r := h
 clear h
 by_cases c3 : a0_0 = a1_0
 ·rw [if_pos c3] at H
  have c3b0 : (a0_0 == a1_0) = true := beq_iff_eq.mpr c3
  have c3b1 : (a0_0 != a1_0) = false := bne_eq_false_iff_eq.mpr c3
  clear c3
  by_cases c4 : a0_1 = a1_1
  ·rw [if_pos c4] at H
   have c4b0 : (a0_1 == a1_1) = true := beq_iff_eq.mpr c4
   have c4b1 : (a0_1 != a1_1) = false := bne_eq_false_iff_eq.mpr c4
   clear c4
   by_cases c5 : a0_2 = a1_2
   ·rw [if_pos c5] at H
    have c5b0 : (a0_2 == a1_2) = true := beq_iff_eq.mpr c5
    have c5b1 : (a0_2 != a1_2) = false := bne_eq_false_iff_eq.mpr c5
    clear c5
    replace H := Option.bind_eq_some_iff.mp H
    obtain ⟨t162, A60, H⟩ := H
    replace H : (if t162 = true then ((standstillref04_SameRuns.f k l0_4 l1_4).bind fun t163 => (some t163)) else (some false)) = some r := H
    have A6 := Aside0.mk A60
    clear A60
    by_cases c7 : t162 = true
    ·subst c7
     have H1 : ((standstillref04_SameRuns.f k l0_4 l1_4).bind fun t163 => (some t163)) = some r := by rw [if_pos rfl] at H; exact H
     clear H
     have H := H1
     clear H1
     replace H := Option.bind_eq_some_iff.mp H
     obtain ⟨t163, A80, H⟩ := H
     replace H : (some t163) = some r := H
     have A8 := Aside0.mk A80
     clear A80
     obtain rfl := Option.some.inj H
     go_enter Try.func14, Try.ntmps14
     go_wp2_with (first | ((with_reducible refine gate_dst (N := 2) rfl ?_); refine box_event ?hg (N := 2) ?hd (cs := #[.int .i64 a0_0, .int .i64 a0_1, .int .i64 a0_2, .slice A0_3 l0_3.length c0_3, .slice A0_4 l0_4.length c0_4]) (t := 27) ?hr ?_; (case hd => rfl); (case hg => rfl); (case hr => first | (go_simp; done) | (go_simp; rfl)); intro gb160 hg w9 hbox hb; have n0_ := A_ (below_step (bk_ HB.out) hb); have n1_ := A_ (hbox); have n2_ := A_ (bz_ hg (bk_ HB.out)); have n3_ := A_ (bz_ hg (bk_ HB.out)); clear HB; have HB := n0_; have BK160 := n1_; have GW160 := n2_; have GE160 := n3_; clear n0_ n1_ n2_ n3_ hb hbox hg) | ((with_reducible refine gate_dst (N := 3) rfl ?_); refine box_event ?hg (N := 3) ?hd (cs := #[.int .i64 a1_0, .int .i64 a1_1, .int .i64 a1_2, .slice A1_3 l1_3.length c1_3, .slice A1_4 l1_4.length c1_4]) (t := 27) ?hr ?_; (case hd => rfl); (case hg => rfl); (case hr => first | (go_simp; done) | (go_simp; rfl)); intro gb161 hg w10 hbox hb; have n0_ := A_ (blk_below (pk_ BK160.out) hb); have n1_ := A_ (below_step (bk_ HB.out) hb); have n2_ := A_ (hbox); have n3_ := A_ (bz_ hg (bk_ HB.out)); have n4_ := A_ (bz_ hg (bk_ HB.out)); have n5_ := A_ (nl_ hg (pk_ BK160.out)); have n6_ := A_ (ng_ hg (pk_ BK160.out)); clear BK160 HB; have BK160 := n0_; have HB := n1_; have BK161 := n2_; have GW161 := n3_; have GE161 := n4_; have NB160_161 := n5_; have NB161_160 := n6_; clear n0_ n1_ n2_ n3_ n4_ n5_ n6_ hb hbox hg; have hnb11 := NB160_161.out; have hnc11 := NB161_160.out; obtain ⟨hcz12_0, hcz12_1, hcz12_2, hcz12_3, hcz12_4⟩ := bc5_ BK160.out; have hfz12_0 := blk_frozen BK160.out 0; have hfz12_1 := blk_frozen BK160.out 1; have hfz12_2 := blk_frozen BK160.out 2; have hfz12_3 := blk_frozen BK160.out 3; have hfz12_4 := blk_frozen BK160.out 4; obtain ⟨hcz13_0, hcz13_1, hcz13_2, hcz13_3, hcz13_4⟩ := bc5_ BK161.out; have hfz13_0 := blk_frozen BK161.out 0; have hfz13_1 := blk_frozen BK161.out 1; have hfz13_2 := blk_frozen BK161.out 2; have hfz13_3 := blk_frozen BK161.out 3; have hfz13_4 := blk_frozen BK161.out 4) | (go_at_call 36; (with_reducible refine (standstillref04_SameRuns.calls k _ _ l0_3 _ _ l1_3 true _ ?side1 ?side2 ?side3 ?side4 A6.out).mono ?_); (case side1 => exact ck_ (Kd.C_below HR0_3.out HB.out)); (case side2 => exact HC0_3.out); (case side3 => exact ck_ (Kd.C_below HR1_3.out HB.out)); (case side4 => exact HC1_3.out); rintro e w' ⟨rfl, ⟨nd, rfl⟩⟩) | (go_at_call 36; (with_reducible refine (standstillref04_SameRuns.calls k _ _ l0_4 _ _ l1_4 t163 _ ?side1 ?side2 ?side3 ?side4 A8.out).mono ?_); (case side1 => exact ck_ (Kd.C_below HR0_4.out (bk_ HB.out))); (case side2 => exact HC0_4.out); (case side3 => exact ck_ (Kd.C_below HR1_4.out (bk_ HB.out))); (case side4 => exact HC1_4.out); rintro e w' ⟨rfl, ⟨nd, rfl⟩⟩))
     go_ret
     exact ⟨er_, bk_ HB.out⟩
    ·replace c7 := Bool.eq_false_iff.mpr c7
     subst c7
     have H1 : (some false) = some r := by rw [if_neg (show ¬ (false = true) by decide)] at H; exact H
     clear H
     have H := H1
     clear H1
     obtain rfl := Option.some.inj H
     go_enter Try.func14, Try.ntmps14
     go_wp2_with (first | ((with_reducible refine gate_dst (N := 2) rfl ?_); refine box_event ?hg (N := 2) ?hd (cs := #[.int .i64 a0_0, .int .i64 a0_1, .int .i64 a0_2, .slice A0_3 l0_3.length c0_3, .slice A0_4 l0_4.length c0_4]) (t := 27) ?hr ?_; (case hd => rfl); (case hg => rfl); (case hr => first | (go_simp; done) | (go_simp; rfl)); intro gb160 hg w14 hbox hb; have n0_ := A_ (below_step (bk_ HB.out) hb); have n1_ := A_ (hbox); have n2_ := A_ (bz_ hg (bk_ HB.out)); have n3_ := A_ (bz_ hg (bk_ HB.out)); clear HB; have HB := n0_; have BK160 := n1_; have GW160 := n2_; have GE160 := n3_; clear n0_ n1_ n2_ n3_ hb hbox hg) | ((with_reducible refine gate_dst (N := 3) rfl ?_); refine box_event ?hg (N := 3) ?hd (cs := #[.int .i64 a1_0, .int .i64 a1_1, .int .i64 a1_2, .slice A1_3 l1_3.length c1_3, .slice A1_4 l1_4.length c1_4]) (t := 27) ?hr ?_; (case hd => rfl); (case hg => rfl); (case hr => first | (go_simp; done) | (go_simp; rfl)); intro gb161 hg w15 hbox hb; have n0_ := A_ (blk_below (pk_ BK160.out) hb); have n1_ := A_ (below_step (bk_ HB.out) hb); have n2_ := A_ (hbox); have n3_ := A_ (bz_ hg (bk_ HB.out)); have n4_ := A_ (bz_ hg (bk_ HB.out)); have n5_ := A_ (nl_ hg (pk_ BK160.out)); have n6_ := A_ (ng_ hg (pk_ BK160.out)); clear BK160 HB; have BK160 := n0_; have HB := n1_; have BK161 := n2_; have GW161 := n3_; have GE161 := n4_; have NB160_161 := n5_; have NB161_160 := n6_; clear n0_ n1_ n2_ n3_ n4_ n5_ n6_ hb hbox hg; have hnb16 := NB160_161.out; have hnc16 := NB161_160.out; obtain ⟨hcz17_0, hcz17_1, hcz17_2, hcz17_3, hcz17_4⟩ := bc5_ BK160.out; have hfz17_0 := blk_frozen BK160.out 0; have hfz17_1 := blk_frozen BK160.out 1; have hfz17_2 := blk_frozen BK160.out 2; have hfz17_3 := blk_frozen BK160.out 3; have hfz17_4 := blk_frozen BK160.out 4; obtain ⟨hcz18_0, hcz18_1, hcz18_2, hcz18_3, hcz18_4⟩ := bc5_ BK161.out; have hfz18_0 := blk_frozen BK161.out 0; have hfz18_1 := blk_frozen BK161.out 1; have hfz18_2 := blk_frozen BK161.out 2; have hfz18_3 := blk_frozen BK161.out 3; have hfz18_4 := blk_frozen BK161.out 4) | (go_at_call 36; (with_reducible refine (standstillref04_SameRuns.calls k _ _ l0_3 _ _ l1_3 false _ ?side1 ?side2 ?side3 ?side4 A6.out).mono ?_); (case side1 => exact ck_ (Kd.C_below HR0_3.out HB.out)); (case side2 => exact HC0_3.out); (case side3 => exact ck_ (Kd.C_below HR1_3.out HB.out)); (case side4 => exact HC1_3.out); rintro e w' ⟨rfl, ⟨nd, rfl⟩⟩))
     go_ret
     exact ⟨er_, bk_ HB.out⟩
   ·rw [if_neg c5] at H
    have c5b0 : (a0_2 == a1_2) = false := beq_eq_false_iff_ne.mpr c5
    have c5b1 : (a0_2 != a1_2) = true := bne_iff_ne.mpr c5
    obtain rfl := Option.some.inj H
    go_enter Try.func14, Try.ntmps14
    go_wp2_with (first | ((with_reducible refine gate_dst (N := 2) rfl ?_); refine box_event ?hg (N := 2) ?hd (cs := #[.int .i64 a0_0, .int .i64 a0_1, .int .i64 a0_2, .slice A0_3 l0_3.length c0_3, .slice A0_4 l0_4.length c0_4]) (t := 27) ?hr ?_; (case hd => rfl); (case hg => rfl); (case hr => first | (go_simp; done) | (go_simp; rfl)); intro gb160 hg w19 hbox hb; have n0_ := A_ (below_step (bk_ HB.out) hb); have n1_ := A_ (hbox); have n2_ := A_ (bz_ hg (bk_ HB.out)); have n3_ := A_ (bz_ hg (bk_ HB.out)); clear HB; have HB := n0_; have BK160 := n1_; have GW160 := n2_; have GE160 := n3_; clear n0_ n1_ n2_ n3_ hb hbox hg) | ((with_reducible refine gate_dst (N := 3) rfl ?_); refine box_event ?hg (N := 3) ?hd (cs := #[.int .i64 a1_0, .int .i64 a1_1, .int .i64 a1_2, .slice A1_3 l1_3.length c1_3, .slice A1_4 l1_4.length c1_4]) (t := 27) ?hr ?_; (case hd => rfl); (case hg => rfl); (case hr => first | (go_simp; done) | (go_simp; rfl)); intro gb161 hg w20 hbox hb; have n0_ := A_ (blk_below (pk_ BK160.out) hb); have n1_ := A_ (below_step (bk_ HB.out) hb); have n2_ := A_ (hbox); have n3_ := A_ (bz_ hg (bk_ HB.out)); have n4_ := A_ (bz_ hg (bk_ HB.out)); have n5_ := A_ (nl_ hg (pk_ BK160.out)); have n6_ := A_ (ng_ hg (pk_ BK160.out)); clear BK160 HB; have BK160 := n0_; have HB := n1_; have BK161 := n2_; have GW161 := n3_; have GE161 := n4_; have NB160_161 := n5_; have NB161_160 := n6_; clear n0_ n1_ n2_ n3_ n4_ n5_ n6_ hb hbox hg; have hnb21 := NB160_161.out; have hnc21 := NB161_160.out; obtain ⟨hcz22_0, hcz22_1, hcz22_2, hcz22_3, hcz22_4⟩ := bc5_ BK160.out; have hfz22_0 := blk_frozen BK160.out 0; have hfz22_1 := blk_frozen BK160.out 1; have hfz22_2 := blk_frozen BK160.out 2; have hfz22_3 := blk_frozen BK160.out 3; have hfz22_4 := blk_frozen BK160.out 4; obtain ⟨hcz23_0, hcz23_1, hcz23_2, hcz23_3, hcz23_4⟩ := bc5_ BK161.out; have hfz23_0 := blk_frozen BK161.out 0; have hfz23_1 := blk_frozen BK161.out 1; have hfz23_2 := blk_frozen BK161.out 2; have hfz23_3 := blk_frozen BK161.out 3; have hfz23_4 := blk_frozen BK161.out 4))
    go_ret
    exact ⟨er_, bk_ HB.out⟩
  ·rw [if_neg c4] at H
   have c4b0 : (a0_1 == a1_1) = false := beq_eq_false_iff_ne.mpr c4
   have c4b1 : (a0_1 != a1_1) = true := bne_iff_ne.mpr c4
   obtain rfl := Option.some.inj H
   go_enter Try.func14, Try.ntmps14
   go_wp2_with (first | ((with_reducible refine gate_dst (N := 2) rfl ?_); refine box_event ?hg (N := 2) ?hd (cs := #[.int .i64 a0_0, .int .i64 a0_1, .int .i64 a0_2, .slice A0_3 l0_3.length c0_3, .slice A0_4 l0_4.length c0_4]) (t := 27) ?hr ?_; (case hd => rfl); (case hg => rfl); (case hr => first | (go_simp; done) | (go_simp; rfl)); intro gb160 hg w24 hbox hb; have n0_ := A_ (below_step (bk_ HB.out) hb); have n1_ := A_ (hbox); have n2_ := A_ (bz_ hg (bk_ HB.out)); have n3_ := A_ (bz_ hg (bk_ HB.out)); clear HB; have HB := n0_; have BK160 := n1_; have GW160 := n2_; have GE160 := n3_; clear n0_ n1_ n2_ n3_ hb hbox hg) | ((with_reducible refine gate_dst (N := 3) rfl ?_); refine box_event ?hg (N := 3) ?hd (cs := #[.int .i64 a1_0, .int .i64 a1_1, .int .i64 a1_2, .slice A1_3 l1_3.length c1_3, .slice A1_4 l1_4.length c1_4]) (t := 27) ?hr ?_; (case hd => rfl); (case hg => rfl); (case hr => first | (go_simp; done) | (go_simp; rfl)); intro gb161 hg w25 hbox hb; have n0_ := A_ (blk_below (pk_ BK160.out) hb); have n1_ := A_ (below_step (bk_ HB.out) hb); have n2_ := A_ (hbox); have n3_ := A_ (bz_ hg (bk_ HB.out)); have n4_ := A_ (bz_ hg (bk_ HB.out)); have n5_ := A_ (nl_ hg (pk_ BK160.out)); have n6_ := A_ (ng_ hg (pk_ BK160.out)); clear BK160 HB; have BK160 := n0_; have HB := n1_; have BK161 := n2_; have GW161 := n3_; have GE161 := n4_; have NB160_161 := n5_; have NB161_160 := n6_; clear n0_ n1_ n2_ n3_ n4_ n5_ n6_ hb hbox hg; have hnb26 := NB160_161.out; have hnc26 := NB161_160.out; obtain ⟨hcz27_0, hcz27_1, hcz27_2, hcz27_3, hcz27_4⟩ := bc5_ BK160.out; have hfz27_0 := blk_frozen BK160.out 0; have hfz27_1 := blk_frozen BK160.out 1; have hfz27_2 := blk_frozen BK160.out 2; have hfz27_3 := blk_frozen BK160.out 3; have hfz27_4 := blk_frozen BK160.out 4; obtain ⟨hcz28_0, hcz28_1, hcz28_2, hcz28_3, hcz28_4⟩ := bc5_ BK161.out; have hfz28_0 := blk_frozen BK161.out 0; have hfz28_1 := blk_frozen BK161.out 1; have hfz28_2 := blk_frozen BK161.out 2; have hfz28_3 := blk_frozen BK161.out 3; have hfz28_4 := blk_frozen BK161.out 4))
   go_ret
   exact ⟨er_, bk_ HB.out⟩
 ·rw [if_neg c3] at H
  have c3b0 : (a0_0 == a1_0) = false := beq_eq_false_iff_ne.mpr c3
  have c3b1 : (a0_0 != a1_0) = true := bne_iff_ne.mpr c3
  obtain rfl := Option.some.inj H
  go_enter Try.func14, Try.ntmps14
  go_wp2_with (first | ((with_reducible refine gate_dst (N := 2) rfl ?_); refine box_event ?hg (N := 2) ?hd (cs := #[.int .i64 a0_0, .int .i64 a0_1, .int .i64 a0_2, .slice A0_3 l0_3.length c0_3, .slice A0_4 l0_4.length c0_4]) (t := 27) ?hr ?_; (case hd => rfl); (case hg => rfl); (case hr => first | (go_simp; done) | (go_simp; rfl)); intro gb160 hg w29 hbox hb; have n0_ := A_ (below_step (bk_ HB.out) hb); have n1_ := A_ (hbox); have n2_ := A_ (bz_ hg (bk_ HB.out)); have n3_ := A_ (bz_ hg (bk_ HB.out)); clear HB; have HB := n0_; have BK160 := n1_; have GW160 := n2_; have GE160 := n3_; clear n0_ n1_ n2_ n3_ hb hbox hg) | ((with_reducible refine gate_dst (N := 3) rfl ?_); refine box_event ?hg (N := 3) ?hd (cs := #[.int .i64 a1_0, .int .i64 a1_1, .int .i64 a1_2, .slice A1_3 l1_3.length c1_3, .slice A1_4 l1_4.length c1_4]) (t := 27) ?hr ?_; (case hd => rfl); (case hg => rfl); (case hr => first | (go_simp; done) | (go_simp; rfl)); intro gb161 hg w30 hbox hb; have n0_ := A_ (blk_below (pk_ BK160.out) hb); have n1_ := A_ (below_step (bk_ HB.out) hb); have n2_ := A_ (hbox); have n3_ := A_ (bz_ hg (bk_ HB.out)); have n4_ := A_ (bz_ hg (bk_ HB.out)); have n5_ := A_ (nl_ hg (pk_ BK160.out)); have n6_ := A_ (ng_ hg (pk_ BK160.out)); clear BK160 HB; have BK160 := n0_; have HB := n1_; have BK161 := n2_; have GW161 := n3_; have GE161 := n4_; have NB160_161 := n5_; have NB161_160 := n6_; clear n0_ n1_ n2_ n3_ n4_ n5_ n6_ hb hbox hg; have hnb31 := NB160_161.out; have hnc31 := NB161_160.out; obtain ⟨hcz32_0, hcz32_1, hcz32_2, hcz32_3, hcz32_4⟩ := bc5_ BK160.out; have hfz32_0 := blk_frozen BK160.out 0; have hfz32_1 := blk_frozen BK160.out 1; have hfz32_2 := blk_frozen BK160.out 2; have hfz32_3 := blk_frozen BK160.out 3; have hfz32_4 := blk_frozen BK160.out 4; obtain ⟨hcz33_0, hcz33_1, hcz33_2, hcz33_3, hcz33_4⟩ := bc5_ BK161.out; have hfz33_0 := blk_frozen BK161.out 0; have hfz33_1 := blk_frozen BK161.out 1; have hfz33_2 := blk_frozen BK161.out 2; have hfz33_3 := blk_frozen BK161.out 3; have hfz33_4 := blk_frozen BK161.out 4))
  go_ret
  exact ⟨er_, bk_ HB.out⟩

end Go.Proofs.Ytdkcociababjdaa.PLeapLong
