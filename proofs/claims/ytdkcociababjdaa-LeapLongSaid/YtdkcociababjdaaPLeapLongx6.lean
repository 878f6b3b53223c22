-- out of a turned copy of the print, by a program of this session; Lean checks it
import Derived.Test.YtdkcociababjdaaPLeapLongx0
import Derived.Test.YtdkcociababjdaaPLeapLongx5
namespace Go.Proofs.Ytdkcociababjdaa.PLeapLong
open Go.RowKit Go.Proofs.YtdkcociababjdaaW.PrintWords Go.Proofs.YtdkcociababjdaaW.PrintLast Go.Proofs.YtdkcociababjdaaW.PrintMore
attribute [local go_sem] max2_int min2_int max_two min_two max_three min_three max_four min_four   -- for this text's walks alone
set_option linter.unusedVariables false
set_option linter.unusedSimpArgs false

attribute [local go_sem] isSome_put_
/-! ### leap_leap: function 33 (by hand) -/
def leap_ahead (nx st sy : Int) (ah : List (S75)) : Option (Int × List (S75)) :=
  if nx = st then (if (ah.length : Int) = 0 ∧ sy = 0 then none else if 0 < ah.length ∧ (rd_T75 ah 0).f0 = sy then some (wrap64 (1 + (rd_T75 ah 0).f1), ah.drop 1) else some (1, ah)) else some (1, ah)
def leap_leap.g (rules : List (List (S37))) (st po sy : Int) (lf rt : List (S75)) : Option (Int × Int × Int × List (S75) × List (S75) × Int × Bool) :=
  if 0 ≤ st ∧ st < (rules.length : Int) ∧ 0 ≤ sy ∧ sy < ((rd_L2 rules st).length : Int) ∧ lf.length < 7000000000000 ∧ rt.length < 7000000000000 then
    match leap_ahead (rd_T37 (rd_L2 rules st) sy).f2 st sy (if (rd_T37 (rd_L2 rules st) sy).f1 < 0 then lf else rt) with
    | none => some (st, po, sy, lf, rt, 0, true)
    | some (k, ah) => (leap_before.g (rd_T37 (rd_L2 rules st) sy).f0 k (if (rd_T37 (rd_L2 rules st) sy).f1 < 0 then rt else lf)).bind fun bh => (leap_split.g ah).bind fun s =>
        if bh.length < 8000000000000 ∧ s.2.length < 8000000000000 then some ((rd_T37 (rd_L2 rules st) sy).f2, wrap64 (po + wrap64 ((rd_T37 (rd_L2 rules st) sy).f1 * k)), s.1, (if (rd_T37 (rd_L2 rules st) sy).f1 < 0 then s.2 else bh), (if (rd_T37 (rd_L2 rules st) sy).f1 < 0 then bh else s.2), k, false) else none
  else none
theorem clone_ok (l : List (S75)) (h : l.length < 8000000000000) : api_Run.f l = some l := by
  unfold api_Run.f
  rw [if_pos (by omega)]
theorem rfar_ {w : World} {base : Nat} {ok : Nat → Prop} {v : Value} {xs : List (S75)} (h : Kd.R k75 75 w base ok v xs) (p : Addr) (hg : p.block < base) (u : Value) : Kd.R k75 75 (w.setCell p u) base ok v xs :=
  Kd.R_mono (Kd.R_far (Kd.R_bound h) (fun k hk => by have h1 := hk.2.1; omega) u) (fun k hk => hk.1)
set_option maxHeartbeats 8000000 in
set_option maxRecDepth 100000 in
theorem leap_leap.calls (a0_0 a0_1 : Int) (A0 : Option Addr) (c0 : Nat) (rules : List (List (S37))) (st po sy : Int) (A3 : Option Addr) (c3 : Nat) (lf : List (S75)) (A4 : Option Addr) (c4 : Nat) (rt : List (S75)) (r1 r2 r3 : Int) (r4 r5 : List (S75)) (r6 : Int) (r7 : Bool) (w : World) (hr0 : Kd.C (Kd.slice 37 k37) w A0 rules.length rules) (hr3 : Kd.C k75 w A3 lf.length lf) (hc3 : lf.length ≤ c3) (hr4 : Kd.C k75 w A4 rt.length rt) (hc4 : rt.length ≤ c4) (h : leap_leap.g rules st po sy lf rt = some (r1, r2, r3, r4, r5, r6, r7)) :
    Calls Try.prog 33 #[.agg #[.int .i64 a0_0, .int .i64 a0_1, .slice A0 rules.length c0], .agg #[.int .i64 st, .int .i64 po, .int .i64 sy, .slice A3 lf.length c3, .slice A4 rt.length c4]] w fun e w' => ∃ B3 d3 B4 d4, e = .returned (.tuple #[.agg #[.int .i64 r1, .int .i64 r2, .int .i64 r3, .slice B3 r4.length d3, .slice B4 r5.length d4], .int .i64 r6, .bool r7]) ∧ (r7 = false → Kd.R k75 75 w' w.heap.size (fun _ => True) (.slice B3 r4.length d3) r4 ∧ Kd.R k75 75 w' w.heap.size (fun _ => True) (.slice B4 r5.length d4) r5 ∧ (∀ k, (Value.slice B3 r4.length d3).ownBlock = some k → (Value.slice B4 r5.length d4).ownBlock ≠ some k)) ∧ Below w.heap.size w w' := by
  unfold leap_leap.g at h
  by_cases c1 : 0 ≤ st ∧ st < (rules.length : Int) ∧ 0 ≤ sy ∧ sy < ((rd_L2 rules st).length : Int) ∧ lf.length < 7000000000000 ∧ rt.length < 7000000000000
  rotate_left
  · rw [if_neg c1] at h
    cases h
  rw [if_pos c1] at h
  obtain ⟨g0, g1, g2, g3, g4, g5⟩ := c1
  obtain ⟨row, hrow⟩ : ∃ r, rd_L2 rules st = r := ⟨_, rfl⟩
  rw [hrow] at g3 h
  obtain ⟨u, hu⟩ : ∃ u, rd_T37 row sy = u := ⟨_, rfl⟩
  rw [hu] at h
  obtain ⟨f0, f1, f2⟩ := u
  simp only at h
  obtain ⟨ad0, A1, c1_, rfl, hx0, hlc, hC1⟩ := at_L2 hr0 st g0 g1
  rw [hrow] at hx0 hlc hC1
  obtain ⟨ad1, rfl, hy0, hy1, hy2⟩ := at_T37 hC1 sy g2 g3
  rw [hu] at hy0 hy1 hy2
  simp only at hy0 hy1 hy2
  have H := Aside0.mk h
  have G := Aside0.mk (show lf.length < 7000000000000 ∧ rt.length < 7000000000000 from ⟨g4, g5⟩)
  have HC3 := Aside0.mk hc3
  have HC4 := Aside0.mk hc4
  have HB0 := Aside0.mk (below_alloc (below_alloc (below_alloc (Below.refl w.heap.size w) (.cells #[.int .i64 a0_0, .int .i64 a0_1, .slice (some ad0) rules.length c0] 24)) (.cells #[.int .i64 st, .int .i64 po, .int .i64 sy, .slice A3 lf.length c3, .slice A4 rt.length c4] 27)) (.cells #[.int .i64 0, .int .i64 0, .int .i64 0, .slice none 0 0, .slice none 0 0] 27))
  have HR3 := Aside0.mk hr3
  have HR4 := Aside0.mk hr4
  have HZ0 := Aside0.mk (blk_below (blk_new w (.cells #[.int .i64 a0_0, .int .i64 a0_1, .slice (some ad0) rules.length c0] 24)) (below_alloc (below_alloc (Below.refl (w.alloc (.cells #[.int .i64 a0_0, .int .i64 a0_1, .slice (some ad0) rules.length c0] 24)).heap.size (w.alloc (.cells #[.int .i64 a0_0, .int .i64 a0_1, .slice (some ad0) rules.length c0] 24))) (.cells #[.int .i64 st, .int .i64 po, .int .i64 sy, .slice A3 lf.length c3, .slice A4 rt.length c4] 27)) (.cells #[.int .i64 0, .int .i64 0, .int .i64 0, .slice none 0 0, .slice none 0 0] 27)))
  have HZ1 := Aside0.mk (blk_below (blk_new (w.alloc (.cells #[.int .i64 a0_0, .int .i64 a0_1, .slice (some ad0) rules.length c0] 24)) (.cells #[.int .i64 st, .int .i64 po, .int .i64 sy, .slice A3 lf.length c3, .slice A4 rt.length c4] 27)) (below_alloc (Below.refl ((w.alloc (.cells #[.int .i64 a0_0, .int .i64 a0_1, .slice (some ad0) rules.length c0] 24)).alloc (.cells #[.int .i64 st, .int .i64 po, .int .i64 sy, .slice A3 lf.length c3, .slice A4 rt.length c4] 27)).heap.size ((w.alloc (.cells #[.int .i64 a0_0, .int .i64 a0_1, .slice (some ad0) rules.length c0] 24)).alloc (.cells #[.int .i64 st, .int .i64 po, .int .i64 sy, .slice A3 lf.length c3, .slice A4 rt.length c4] 27))) (.cells #[.int .i64 0, .int .i64 0, .int .i64 0, .slice none 0 0, .slice none 0 0] 27)))
  have HZ2 := Aside0.mk (blk_new ((w.alloc (.cells #[.int .i64 a0_0, .int .i64 a0_1, .slice (some ad0) rules.length c0] 24)).alloc (.cells #[.int .i64 st, .int .i64 po, .int .i64 sy, .slice A3 lf.length c3, .slice A4 rt.length c4] 27)) (.cells #[.int .i64 0, .int .i64 0, .int .i64 0, .slice none 0 0, .slice none 0 0] 27))
  have s1 : (w.alloc (.cells #[.int .i64 a0_0, .int .i64 a0_1, .slice (some ad0) rules.length c0] 24)).heap.size = w.heap.size + 1 := by simp
  have s2 : ((w.alloc (.cells #[.int .i64 a0_0, .int .i64 a0_1, .slice (some ad0) rules.length c0] 24)).alloc (.cells #[.int .i64 st, .int .i64 po, .int .i64 sy, .slice A3 lf.length c3, .slice A4 rt.length c4] 27)).heap.size = w.heap.size + 1 + 1 := by simp
  rw [s1] at HZ1
  rw [s2] at HZ2
  have hx0' := lf_ HB0.out hx0
  have hy0' := lf_ HB0.out hy0
  have hy1' := lf_ HB0.out hy1
  have hy2' := lf_ HB0.out hy2
  clear h hrow hu hc3 hc4 hr0 hr3 hr4 hx0 hlc hC1 hy0 hy1 hy2 s1 s2 g4 g5
  go_enter Try.func33, Try.ntmps33
  go_wp2_with fail
  obtain ⟨w0, hW0⟩ : ∃ W : World, ((w.alloc (.cells #[.int .i64 a0_0, .int .i64 a0_1, .slice (some ad0) rules.length c0] 24)).alloc (.cells #[.int .i64 st, .int .i64 po, .int .i64 sy, .slice A3 lf.length c3, .slice A4 rt.length c4] 27)).alloc (.cells #[.int .i64 0, .int .i64 0, .int .i64 0, .slice none 0 0, .slice none 0 0] 27) = W := ⟨_, rfl⟩
  rw [hW0] at HB0 HZ0 HZ1 HZ2 hx0' hy0' hy1' hy2' ⊢
  clear hW0
  obtain ⟨z2, hz2⟩ : ∃ z, w.heap.size + 1 + 1 = z := ⟨_, rfl⟩
  rw [hz2] at HZ2 ⊢
  obtain ⟨z1, hz1⟩ : ∃ z, w.heap.size + 1 = z := ⟨_, rfl⟩
  rw [hz1] at HZ1 ⊢
  obtain ⟨z0, hz0⟩ : ∃ z, w.heap.size = z := ⟨_, rfl⟩
  rw [hz0] at HZ0 ⊢
  have HZE := Aside0.mk (show w.heap.size ≤ z0 ∧ z0 < z1 ∧ z1 < z2 ∧ z2 < w0.heap.size from ⟨by omega, by omega, by omega, blk_lt HZ2.out⟩)
  clear hz0 hz1 hz2
  have hs0 := (blk_cell HZ0.out 2).trans rfl
  have hs1 := (blk_cell HZ1.out 0).trans rfl
  have hs2 := (blk_cell HZ1.out 2).trans rfl
  replace g0 := eq_true g0
  replace g1 := eq_true g1
  replace g2 := eq_true g2
  replace g3 := eq_true g3
  refine start_ (n := 12) (S := fun w' => w'.cell? ⟨z0, 2, none⟩ = some (.slice (some ad0) rules.length c0) ∧ w'.cell? ⟨z1, 0, none⟩ = some (.int .i64 st) ∧ w'.cell? ⟨z1, 2, none⟩ = some (.int .i64 sy) ∧ w'.cell? (ad0.add st.toNat) = some (.slice (some ad1) row.length c1_) ∧ w'.cell? (ad1.add (sy.toNat * 3)) = some (.int .i64 f0) ∧ w'.cell? ⟨(ad1.add (sy.toNat * 3)).block, (ad1.add (sy.toNat * 3)).off + 1, none⟩ = some (.int .i64 f1) ∧ w'.cell? ⟨(ad1.add (sy.toNat * 3)).block, (ad1.add (sy.toNat * 3)).off + 2, none⟩ = some (.int .i64 f2)) (ds := [11]) #[false, false, false, false, false, false, false, false, false, false, false, false] (by kernel_rfl) rfl rfl ⟨hs0, hs1, hs2, hx0', hy0', hy1', hy2'⟩ (fun hHeld => ?_)
  refine pure_ (i := 0) (N := some 14) (v := ?_) (a' := ?_) #[true, false, false, false, false, false, false, false, false, false, false, false] rfl rfl (by kernel_rfl) (fun _ _ _ h => h) (Or.inl ⟨by rfl, ?_⟩) ?_ ?_
  rotate_left
  · intro w'
    go_simp
    with_reducible rfl
  rotate_left
  · simp only [Act.put, List.setIfInBounds_toArray, List.set_cons_zero, List.set_cons_succ, i64_w, i32_w]
    rfl
  refine pure_ (i := 2) (N := some 16) (v := ?_) (a' := ?_) #[true, false, true, false, false, false, false, false, false, false, false, false] rfl rfl (by kernel_rfl) (fun _ _ _ h => h) (Or.inl ⟨by rfl, ?_⟩) ?_ ?_
  rotate_left
  · intro w'
    go_simp
    with_reducible rfl
  rotate_left
  · simp only [Act.put, List.setIfInBounds_toArray, List.set_cons_zero, List.set_cons_succ, i64_w, i32_w]
    rfl
  refine pure_ (i := 6) (N := some 20) (v := ?_) (a' := ?_) #[true, false, true, false, false, false, true, false, false, false, false, false] rfl rfl (by kernel_rfl) (fun _ _ _ h => h) (Or.inl ⟨by rfl, ?_⟩) ?_ ?_
  rotate_left
  · intro w'
    go_simp
    with_reducible rfl
  rotate_left
  · simp only [Act.put, List.setIfInBounds_toArray, List.set_cons_zero, List.set_cons_succ, i64_w, i32_w]
    rfl
  refine take_ (i := 1) (N := some 15) (v := ?_) (a' := ?_) #[true, true, true, false, false, false, true, false, false, false, false, false] rfl rfl (by kernel_rfl) (fun _ _ _ h => h) (Or.inl ⟨by rfl, ?_⟩) hHeld ?_ ?_
  rotate_left
  · rintro w' ⟨s0, s1, s2, s3, s4, s5, s6⟩
    go_simp
    with_reducible rfl
  rotate_left
  · simp only [Act.put, List.setIfInBounds_toArray, List.set_cons_zero, List.set_cons_succ, i64_w, i32_w]
    rfl
  refine take_ (i := 3) (N := some 17) (v := ?_) (a' := ?_) #[true, true, true, true, false, false, true, false, false, false, false, false] rfl rfl (by kernel_rfl) (fun _ _ _ h => h) (Or.inl ⟨by rfl, ?_⟩) hHeld ?_ ?_
  rotate_left
  · rintro w' ⟨s0, s1, s2, s3, s4, s5, s6⟩
    go_simp
    with_reducible rfl
  rotate_left
  · simp only [Act.put, List.setIfInBounds_toArray, List.set_cons_zero, List.set_cons_succ, i64_w, i32_w]
    rfl
  refine pure_ (i := 4) (N := some 18) (v := ?_) (a' := ?_) #[true, true, true, true, true, false, true, false, false, false, false, false] rfl rfl (by kernel_rfl) (fun _ _ _ h => h) (Or.inl ⟨by rfl, ?_⟩) ?_ ?_
  rotate_left
  · intro w'
    go_simp
    with_reducible rfl
  rotate_left
  · simp only [Act.put, List.setIfInBounds_toArray, List.set_cons_zero, List.set_cons_succ, i64_w, i32_w]
    rfl
  refine take_ (i := 5) (N := some 19) (v := ?_) (a' := ?_) #[true, true, true, true, true, true, true, false, false, false, false, false] rfl rfl (by kernel_rfl) (fun _ _ _ h => h) (Or.inl ⟨by rfl, ?_⟩) hHeld ?_ ?_
  rotate_left
  · rintro w' ⟨s0, s1, s2, s3, s4, s5, s6⟩
    go_simp
    with_reducible rfl
  rotate_left
  · simp only [Act.put, List.setIfInBounds_toArray, List.set_cons_zero, List.set_cons_succ, i64_w, i32_w]
    rfl
  refine take_ (i := 7) (N := some 21) (v := ?_) (a' := ?_) #[true, true, true, true, true, true, true, true, false, false, false, false] rfl rfl (by kernel_rfl) (fun _ _ _ h => h) (Or.inl ⟨by rfl, ?_⟩) hHeld ?_ ?_
  rotate_left
  · rintro w' ⟨s0, s1, s2, s3, s4, s5, s6⟩
    go_simp
    with_reducible rfl
  rotate_left
  · simp only [Act.put, List.setIfInBounds_toArray, List.set_cons_zero, List.set_cons_succ, i64_w, i32_w]
    rfl
  refine pure_ (i := 8) (N := some 22) (v := ?_) (a' := ?_) #[true, true, true, true, true, true, true, true, true, false, false, false] rfl rfl (by kernel_rfl) (fun _ _ _ h => h) (Or.inl ⟨by rfl, ?_⟩) ?_ ?_
  rotate_left
  · intro w'
    go_simp
    with_reducible rfl
  rotate_left
  · simp only [Act.put, List.setIfInBounds_toArray, List.set_cons_zero, List.set_cons_succ, i64_w, i32_w]
    rfl
  refine take_ (i := 9) (N := some 23) (v := ?_) (a' := ?_) #[true, true, true, true, true, true, true, true, true, true, false, false] rfl rfl (by kernel_rfl) (fun _ _ _ h => h) (Or.inl ⟨by rfl, ?_⟩) hHeld ?_ ?_
  rotate_left
  · rintro w' ⟨s0, s1, s2, s3, s4, s5, s6⟩
    go_simp
    with_reducible rfl
  rotate_left
  · simp only [Act.put, List.setIfInBounds_toArray, List.set_cons_zero, List.set_cons_succ, i64_w, i32_w]
    rfl
  refine one_ (i := 10) (N := some 7) #[true, true, true, true, true, true, true, true, true, true, true, false] rfl rfl (by kernel_rfl) (by decide) (fun K hK => ?_)
  refine value_ (w1 := ?_) (v := ?_) (by rfl) rfl ?_ ?_
  rotate_left 2
  · go_simp
    constructor
    · rfl
    · rfl
  refine hK.out _ _ ⟨(lf_ (below_alloc (Below.refl _ _) _) hHeld.1), (lf_ (below_alloc (Below.refl _ _) _) hHeld.2.1), (lf_ (below_alloc (Below.refl _ _) _) hHeld.2.2.1), (lf_ (below_alloc (Below.refl _ _) _) hHeld.2.2.2.1), (lf_ (below_alloc (Below.refl _ _) _) hHeld.2.2.2.2.1), (lf_ (below_alloc (Below.refl _ _) _) hHeld.2.2.2.2.2.1), (lf_ (below_alloc (Below.refl _ _) _) hHeld.2.2.2.2.2.2)⟩ (fun hHeld => ?_)
  clear hK K
  refine norm_ (a' := ?_) ?_ ?_
  rotate_left
  · show Act.put _ (some 7) _ = _
    simp only [Act.put, List.setIfInBounds_toArray, List.set_cons_zero, List.set_cons_succ, i64_w, i32_w]
    rfl
  refine last_ (i := 11) (N := none) #[true, true, true, true, true, true, true, true, true, true, true, true] rfl rfl (by kernel_rfl) (by decide) (fun K hK => ?_)
  have hnz := blk_new w0.drew (.cells #[.int .i64 0, .int .i64 0, .int .i64 0] 37)
  have hn0 := (blk_cell hnz 0).trans rfl
  have hn1 := (blk_cell hnz 1).trans rfl
  have hn2 := (blk_cell hnz 2).trans rfl
  have hf0 := blk_frozen hnz 0
  have hf1 := blk_frozen hnz 1
  have hf2 := blk_frozen hnz 2
  refine skip_ (w1 := ?_) (by rfl) rfl ?_ ?_
  rotate_left
  · go_simp
    rfl
  refine hK.out _ _ ?_
  clear hK K
  refine done_ (by kernel_rfl) ?_
  clear hs0 hs1 hs2 hx0' hy0' hy1' hy2' g0 g1 g2 g3
  obtain ⟨w1, hW1⟩ : ∃ W : World, (w0.alloc (.cells #[.int .i64 f0, .int .i64 f1, .int .i64 f2] 37)).drew = W := ⟨_, rfl⟩
  have hb1 : Below w0.heap.size w0 w1 := by rw [← hW1]; exact below_drew (below_alloc (Below.refl _ _) _)
  have HZ3_1 := Aside0.mk (show w1.heap[w0.heap.size]? = some (.cells #[.int .i64 f0, .int .i64 f1, .int .i64 f2] 37 (0, 0)) from by rw [← hW1]; exact blk_new w0 (.cells #[.int .i64 f0, .int .i64 f1, .int .i64 f2] 37))
  have HB1 := Aside0.mk (below_step HB0.out hb1)
  have HZ0_1 := Aside0.mk (blk_below HZ0.out hb1)
  have HZ1_1 := Aside0.mk (blk_below HZ1.out hb1)
  have HZ2_1 := Aside0.mk (blk_below HZ2.out hb1)
  have HRl_1 := Aside0.mk (Kd.C_below HR3.out HB1.out)
  have HRr_1 := Aside0.mk (Kd.C_below HR4.out HB1.out)
  rw [hW1]
  obtain ⟨z3, hz3⟩ : ∃ z, w0.heap.size = z := ⟨_, rfl⟩
  rw [hz3] at HZ3_1 ⊢
  have HZE := Aside0.mk (show w.heap.size ≤ z0 ∧ z0 < z1 ∧ z1 < z2 ∧ z2 < z3 from hz3 ▸ HZE.out)
  clear hW1 hb1 HB0 HZ0 HZ1 HZ2 hz3
  have hHZ1_1_0 := (blk_cell HZ1_1.out 0).trans rfl
  have hHZ1_1_1 := (blk_cell HZ1_1.out 1).trans rfl
  have hHZ1_1_2 := (blk_cell HZ1_1.out 2).trans rfl
  have hHZ1_1_3 := (blk_cell HZ1_1.out 3).trans rfl
  have hHZ1_1_4 := (blk_cell HZ1_1.out 4).trans rfl
  have hHZ3_1_0 := (blk_cell HZ3_1.out 0).trans rfl
  have hHZ3_1_1 := (blk_cell HZ3_1.out 1).trans rfl
  have hHZ3_1_2 := (blk_cell HZ3_1.out 2).trans rfl
  go_wp2_with fail
  go_quiet (fail)
  clear hHZ1_1_0 hHZ1_1_1 hHZ1_1_2 hHZ1_1_3 hHZ1_1_4 hHZ3_1_0 hHZ3_1_1 hHZ3_1_2
  obtain ⟨w2, hW2⟩ : ∃ W : World, w1.drewN nq = W := ⟨_, rfl⟩
  have hb2 : Below w1.heap.size w1 w2 := by rw [← hW2]; exact pw_below_drewN (Below.refl _ _) _
  have HB2 := Aside0.mk (below_step HB1.out hb2)
  have HZ0_2 := Aside0.mk (blk_below HZ0_1.out hb2)
  have HZ1_2 := Aside0.mk (blk_below HZ1_1.out hb2)
  have HZ2_2 := Aside0.mk (blk_below HZ2_1.out hb2)
  have HZ3_2 := Aside0.mk (blk_below HZ3_1.out hb2)
  have HRl_2 := Aside0.mk (Kd.C_below HRl_1.out hb2)
  have HRr_2 := Aside0.mk (Kd.C_below HRr_1.out hb2)
  clear HB1 HZ0_1 HZ1_1 HZ2_1 HZ3_1 HRl_1 HRr_1
  rw [hW2]
  clear hW2 hb2
  have hHZ1_2_0 := (blk_cell HZ1_2.out 0).trans rfl
  have hHZ1_2_1 := (blk_cell HZ1_2.out 1).trans rfl
  have hHZ1_2_2 := (blk_cell HZ1_2.out 2).trans rfl
  have hHZ1_2_3 := (blk_cell HZ1_2.out 3).trans rfl
  have hHZ1_2_4 := (blk_cell HZ1_2.out 4).trans rfl
  have hHZ3_2_0 := (blk_cell HZ3_2.out 0).trans rfl
  have hHZ3_2_1 := (blk_cell HZ3_2.out 1).trans rfl
  have hHZ3_2_2 := (blk_cell HZ3_2.out 2).trans rfl
  have H2_ := H.out
  clear H
  by_cases kn : f1 < 0
  · skip
    have kna : (f1 < 0) = True := eq_true kn
    have knb : decide (f1 < 0) = true := decide_eq_true kn
    have KN := Aside0.mk kn
    simp only [if_pos kn] at H2_
    clear kn
    by_cases ke : f2 = st
    rotate_left
    · skip
      have e : leap_ahead f2 st sy lf = some (1, lf) := by unfold leap_ahead; rw [if_neg ke]
      rw [e] at H2_
      have k6 : (f2 == st) = false := beq_eq_false_iff_ne.mpr ke
      have H := Aside0.mk H2_
      clear H2_ e ke
      go_wp2_with fail
      go_quiet (fail)
      clear hHZ1_2_0 hHZ1_2_1 hHZ1_2_2 hHZ1_2_3 hHZ1_2_4 hHZ3_2_0 hHZ3_2_1 hHZ3_2_2
      obtain ⟨w3, hW3⟩ : ∃ W : World, w2.drewN nq = W := ⟨_, rfl⟩
      have hb3 : Below w2.heap.size w2 w3 := by rw [← hW3]; exact pw_below_drewN (Below.refl _ _) _
      have HB3 := Aside0.mk (below_step HB2.out hb3)
      have HZ0_3 := Aside0.mk (blk_below HZ0_2.out hb3)
      have HZ1_3 := Aside0.mk (blk_below HZ1_2.out hb3)
      have HZ2_3 := Aside0.mk (blk_below HZ2_2.out hb3)
      have HZ3_3 := Aside0.mk (blk_below HZ3_2.out hb3)
      have HRl_3 := Aside0.mk (Kd.C_below HRl_2.out hb3)
      have HRr_3 := Aside0.mk (Kd.C_below HRr_2.out hb3)
      clear HB2 HZ0_2 HZ1_2 HZ2_2 HZ3_2 HRl_2 HRr_2
      rw [hW3]
      clear hW3 hb3
      have hHZ1_3_0 := (blk_cell HZ1_3.out 0).trans rfl
      have hHZ1_3_1 := (blk_cell HZ1_3.out 1).trans rfl
      have hHZ1_3_2 := (blk_cell HZ1_3.out 2).trans rfl
      have hHZ1_3_3 := (blk_cell HZ1_3.out 3).trans rfl
      have hHZ1_3_4 := (blk_cell HZ1_3.out 4).trans rfl
      have hHZ3_3_0 := (blk_cell HZ3_3.out 0).trans rfl
      have hHZ3_3_1 := (blk_cell HZ3_3.out 1).trans rfl
      have hHZ3_3_2 := (blk_cell HZ3_3.out 2).trans rfl
      go_wp2_with fail
      have h := H.out
      clear H
      try simp only at h
      obtain ⟨bh, hbh, h1⟩ := Option.bind_eq_some_iff.1 h
      obtain ⟨⟨x1, x2⟩, hsp, h2⟩ := Option.bind_eq_some_iff.1 h1
      try simp only at h2
      by_cases kl : bh.length < 8000000000000 ∧ x2.length < 8000000000000
      rotate_left
      · rw [if_neg kl] at h2
        cases h2
      rw [if_pos kl] at h2
      simp only [Option.some.injEq, Prod.mk.injEq] at h2
      obtain ⟨e1, e2, e3, e4, e5, e6, e7⟩ := h2
      subst e1 e3 e4 e5 e6 e7
      obtain ⟨mv, hmv⟩ : ∃ m, wrap64 (f1 * 1) = m := ⟨_, rfl⟩
      rw [hmv] at e2
      have E2 := Aside0.mk e2
      have EM := Aside0.mk hmv
      have KL := Aside0.mk kl
      have HBH := Aside0.mk hbh
      have HSP := Aside0.mk hsp
      clear h h1 hbh hsp kl e2 hmv
      refine (leap_before.callsC f0 1 A4 c4 rt bh _ HRr_3.out HC4.out HBH.out).mono ?_
      rintro e w10 ⟨A5, c5, rfl, hC5, hc5, hB10⟩
      clear hHZ1_3_0 hHZ1_3_1 hHZ1_3_2 hHZ1_3_3 hHZ1_3_4 hHZ3_3_0 hHZ3_3_1 hHZ3_3_2
      have HB10 := Aside0.mk (below_step HB3.out hB10)
      have HZ0_10 := Aside0.mk (blk_below HZ0_3.out hB10)
      have HZ1_10 := Aside0.mk (blk_below HZ1_3.out hB10)
      have HZ2_10 := Aside0.mk (blk_below HZ2_3.out hB10)
      have HZ3_10 := Aside0.mk (blk_below HZ3_3.out hB10)
      have HRl_10 := Aside0.mk (Kd.C_below HRl_3.out hB10)
      have HRr_10 := Aside0.mk (Kd.C_below HRr_3.out hB10)
      clear HB3 HZ0_3 HZ1_3 HZ2_3 HZ3_3 HRl_3 HRr_3
      have HRb_10 := Aside0.mk hC5
      have HCb := Aside0.mk hc5
      clear hB10 hC5 hc5 HBH
      have hHZ1_10_0 := (blk_cell HZ1_10.out 0).trans rfl
      have hHZ1_10_1 := (blk_cell HZ1_10.out 1).trans rfl
      have hHZ1_10_2 := (blk_cell HZ1_10.out 2).trans rfl
      have hHZ1_10_3 := (blk_cell HZ1_10.out 3).trans rfl
      have hHZ1_10_4 := (blk_cell HZ1_10.out 4).trans rfl
      have hHZ3_10_0 := (blk_cell HZ3_10.out 0).trans rfl
      have hHZ3_10_1 := (blk_cell HZ3_10.out 1).trans rfl
      have hHZ3_10_2 := (blk_cell HZ3_10.out 2).trans rfl
      go_wp2_with fail
      refine (leap_split.callsC A3 c3 lf x1 x2 _ HRl_10.out HC3.out HSP.out).mono ?_
      rintro e w11 ⟨A6, c6, rfl, hC6, hc6, hB11⟩
      clear hHZ1_10_0 hHZ1_10_1 hHZ1_10_2 hHZ1_10_3 hHZ1_10_4 hHZ3_10_0 hHZ3_10_1 hHZ3_10_2
      have HB11 := Aside0.mk (below_step HB10.out hB11)
      have HZ0_11 := Aside0.mk (blk_below HZ0_10.out hB11)
      have HZ1_11 := Aside0.mk (blk_below HZ1_10.out hB11)
      have HZ2_11 := Aside0.mk (blk_below HZ2_10.out hB11)
      have HZ3_11 := Aside0.mk (blk_below HZ3_10.out hB11)
      have HRl_11 := Aside0.mk (Kd.C_below HRl_10.out hB11)
      have HRr_11 := Aside0.mk (Kd.C_below HRr_10.out hB11)
      have HRb_11 := Aside0.mk (Kd.C_below HRb_10.out hB11)
      clear HB10 HZ0_10 HZ1_10 HZ2_10 HZ3_10 HRl_10 HRr_10 HRb_10
      have HRs_11 := Aside0.mk hC6
      have HCs := Aside0.mk hc6
      clear hB11 hC6 hc6 HSP
      have hHZ1_11_0 := (blk_cell HZ1_11.out 0).trans rfl
      have hHZ1_11_1 := (blk_cell HZ1_11.out 1).trans rfl
      have hHZ1_11_2 := (blk_cell HZ1_11.out 2).trans rfl
      have hHZ1_11_3 := (blk_cell HZ1_11.out 3).trans rfl
      have hHZ1_11_4 := (blk_cell HZ1_11.out 4).trans rfl
      have hHZ3_11_0 := (blk_cell HZ3_11.out 0).trans rfl
      have hHZ3_11_1 := (blk_cell HZ3_11.out 1).trans rfl
      have hHZ3_11_2 := (blk_cell HZ3_11.out 2).trans rfl
      have e1 := EM.out
      have e2 := E2.out
      have e3 := (i64_w _).trans e1
      have e4 := (i64_w _).trans e2
      have e5 : wrap64 f1 = mv := by rw [← e1, Int.mul_one]
      have e6 : IntKind.i64.wrap f1 = mv := (i64_w _).trans e5
      have hbO := (below_alloc (Below.refl w11.heap.size w11) (.cells #[.int .i64 f2, .int .i64 r2, .int .i64 x1, .slice A5 bh.length c5, .slice A6 x2.length c6] 27))
      have HO_12 := Aside0.mk (blk_new w11 (.cells #[.int .i64 f2, .int .i64 r2, .int .i64 x1, .slice A5 bh.length c5, .slice A6 x2.length c6] 27))
      have hr31 := (blk_cell (blk_below HZ3_11.out hbO) 1).trans rfl
      have hw3 := (blk_cell HO_12.out 3).trans rfl
      have hv3 := blk_frozen HO_12.out 3
      have hw4 := (blk_cell HO_12.out 4).trans rfl
      have hv4 := blk_frozen HO_12.out 4
      go_wp2_with fail
      clear HO_12 hbO hr31 e1 e2 e3 e4 e5 e6 hw3 hv3 hw4 hv4
      clear hHZ1_11_0 hHZ1_11_1 hHZ1_11_2 hHZ1_11_3 hHZ1_11_4 hHZ3_11_0 hHZ3_11_1 hHZ3_11_2
      obtain ⟨w12, hW12⟩ : ∃ W : World, w11.alloc (.cells #[.int .i64 f2, .int .i64 r2, .int .i64 x1, .slice A6 x2.length c6, .slice A5 bh.length c5] 27) = W := ⟨_, rfl⟩
      have hb12 : Below w11.heap.size w11 w12 := by rw [← hW12]; exact below_alloc (Below.refl _ _) _
      have HO_12 := Aside0.mk (show w12.heap[w11.heap.size]? = some (.cells #[.int .i64 f2, .int .i64 r2, .int .i64 x1, .slice A6 x2.length c6, .slice A5 bh.length c5] 27 (0, 0)) from by rw [← hW12]; exact blk_new w11 (.cells #[.int .i64 f2, .int .i64 r2, .int .i64 x1, .slice A6 x2.length c6, .slice A5 bh.length c5] 27))
      obtain ⟨z7, hz7⟩ : ∃ z, w11.heap.size = z := ⟨_, rfl⟩
      have HZ7 := Aside0.mk (show w.heap.size ≤ z7 ∧ z2 < z7 ∧ z7 < w12.heap.size from ⟨hz7 ▸ HB11.out.size, hz7 ▸ blk_lt HZ2_11.out, hz7 ▸ blk_lt HO_12.out⟩)
      have HB12 := Aside0.mk (below_step HB11.out hb12)
      have HZ0_12 := Aside0.mk (blk_below HZ0_11.out hb12)
      have HZ1_12 := Aside0.mk (blk_below HZ1_11.out hb12)
      have HZ2_12 := Aside0.mk (blk_below HZ2_11.out hb12)
      have HZ3_12 := Aside0.mk (blk_below HZ3_11.out hb12)
      have HRl_12 := Aside0.mk (Kd.C_below HRl_11.out hb12)
      have HRr_12 := Aside0.mk (Kd.C_below HRr_11.out hb12)
      have HRb_12 := Aside0.mk (Kd.C_below HRb_11.out hb12)
      have HRs_12 := Aside0.mk (Kd.C_below HRs_11.out hb12)
      clear HB11 HZ0_11 HZ1_11 HZ2_11 HZ3_11 HRl_11 HRr_11 HRb_11 HRs_11
      rw [hW12]
      rw [hz7] at HO_12 ⊢
      clear hW12 hb12 hz7
      have ho3 := (blk_cell HO_12.out 3).trans rfl
      have ho4 := (blk_cell HO_12.out 4).trans rfl
      refine start_ (n := 10) (S := fun w' => w'.cell? ⟨z7, 3, none⟩ = some (.slice A6 x2.length c6) ∧ w'.cell? ⟨z7, 4, none⟩ = some (.slice A5 bh.length c5)) (ds := [7, 9]) #[false, false, false, false, false, false, false, false, false, false] (by kernel_rfl) rfl rfl ⟨ho3, ho4⟩ (fun hHeld => ?_)
      refine pure_ (i := 0) (N := some 101) (v := ?_) (a' := ?_) #[true, false, false, false, false, false, false, false, false, false] rfl rfl (by kernel_rfl) (fun _ _ _ h => h) (Or.inl ⟨by rfl, ?_⟩) ?_ ?_
      rotate_left
      · intro w'
        go_simp
        with_reducible rfl
      rotate_left
      · simp only [Act.put, List.setIfInBounds_toArray, List.set_cons_zero, List.set_cons_succ, i64_w, i32_w]
        rfl
      refine pure_ (i := 3) (N := some 104) (v := ?_) (a' := ?_) #[true, false, false, true, false, false, false, false, false, false] rfl rfl (by kernel_rfl) (fun _ _ _ h => h) (Or.inl ⟨by rfl, ?_⟩) ?_ ?_
      rotate_left
      · intro w'
        go_simp
        with_reducible rfl
      rotate_left
      · simp only [Act.put, List.setIfInBounds_toArray, List.set_cons_zero, List.set_cons_succ, i64_w, i32_w]
        rfl
      refine take_ (i := 1) (N := some 102) (v := ?_) (a' := ?_) #[true, true, false, true, false, false, false, false, false, false] rfl rfl (by kernel_rfl) (fun _ _ _ h => h) (Or.inl ⟨by rfl, ?_⟩) hHeld ?_ ?_
      rotate_left
      · rintro w' ⟨s0, s1⟩
        go_simp
        with_reducible rfl
      rotate_left
      · simp only [Act.put, List.setIfInBounds_toArray, List.set_cons_zero, List.set_cons_succ, i64_w, i32_w]
        rfl
      refine take_ (i := 4) (N := some 105) (v := ?_) (a' := ?_) #[true, true, false, true, true, false, false, false, false, false] rfl rfl (by kernel_rfl) (fun _ _ _ h => h) (Or.inl ⟨by rfl, ?_⟩) hHeld ?_ ?_
      rotate_left
      · rintro w' ⟨s0, s1⟩
        go_simp
        with_reducible rfl
      rotate_left
      · simp only [Act.put, List.setIfInBounds_toArray, List.set_cons_zero, List.set_cons_succ, i64_w, i32_w]
        rfl
      refine one_ (i := 2) (N := some 103) #[true, true, true, true, true, false, false, false, false, false] rfl rfl (by kernel_rfl) (by decide) (fun K hK => ?_)
      refine goes_ Try.func57 (by kernel_rfl) rfl #[.slice A6 x2.length c6] (by rfl) rfl rfl (by simp only [List.map_toArray, List.map_cons, List.map_nil]; rfl) ?_
      with_reducible refine (api_Run.calls A6 c6 x2 x2 w12.drew (Kd.C_below HRs_12.out (show Below w12.heap.size w12 w12.drew from bk_ (Below.refl _ _))) HCs.out (clone_ok _ (by have := KL.out; omega))).mono ?_
      rintro e w13 ⟨v13, rfl, ho13, hB13⟩
      refine ⟨_, rfl, ?_⟩
      obtain ⟨A13, c13, rfl⟩ := Kd.R_slice ho13
      have HE13 := Aside0.mk (below_step (bk_ (Below.refl w12.heap.size w12)) hB13)
      have HG13 := Aside0.mk ho13
      have HL13 := Aside0.mk (Kd.R_lt ho13)
      clear ho13 hB13
      refine hK.out _ _ ⟨(lf_ HE13.out ho3), (lf_ HE13.out ho4)⟩ (fun hHeld => ?_)
      clear hK K
      refine norm_ (a' := ?_) ?_ ?_
      rotate_left
      · show Act.put _ (some 103) _ = _
        simp only [Act.put, List.setIfInBounds_toArray, List.set_cons_zero, List.set_cons_succ, i64_w, i32_w]
        rfl
      refine pure_ (i := 6) (N := some 107) (v := ?_) (a' := ?_) #[true, true, true, true, true, false, true, false, false, false] rfl rfl (by kernel_rfl) (fun _ _ _ h => h) (Or.inl ⟨by rfl, ?_⟩) ?_ ?_
      rotate_left
      · intro w'
        go_simp
        with_reducible rfl
      rotate_left
      · simp only [Act.put, List.setIfInBounds_toArray, List.set_cons_zero, List.set_cons_succ, i64_w, i32_w]
        rfl
      refine one_ (i := 5) (N := some 106) #[true, true, true, true, true, true, true, false, false, false] rfl rfl (by kernel_rfl) (by decide) (fun K hK => ?_)
      refine goes_ Try.func57 (by kernel_rfl) rfl #[.slice A5 bh.length c5] (by rfl) rfl rfl (by simp only [List.map_toArray, List.map_cons, List.map_nil]; rfl) ?_
      with_reducible refine (api_Run.calls A5 c5 bh bh w13 (Kd.C_below HRb_12.out HE13.out) HCb.out (clone_ok _ (by have := KL.out; omega))).mono ?_
      rintro e w14 ⟨v14, rfl, ho14, hB14⟩
      refine ⟨_, rfl, ?_⟩
      obtain ⟨A14, c14, rfl⟩ := Kd.R_slice ho14
      have HE14 := Aside0.mk (below_step HE13.out hB14)
      have HG14 := Aside0.mk ho14
      have HL14 := Aside0.mk (Kd.R_base ho14)
      have HG13 := Aside0.mk (Kd.R_below HG13.out hB14)
      clear ho14 hB14
      refine hK.out _ _ ⟨(lf_ HE14.out ho3), (lf_ HE14.out ho4)⟩ (fun hHeld => ?_)
      clear hK K
      refine norm_ (a' := ?_) ?_ ?_
      rotate_left
      · show Act.put _ (some 106) _ = _
        simp only [Act.put, List.setIfInBounds_toArray, List.set_cons_zero, List.set_cons_succ, i64_w, i32_w]
        rfl
      refine last_ (i := 7) (N := none) #[true, true, true, true, true, true, true, true, false, false] rfl rfl (by kernel_rfl) (by decide) (fun K hK => ?_)
      have hz14 := blk_below HO_12.out HE14.out
      have hc3_ := (blk_cell hz14 3).trans rfl
      have hf3_ := blk_frozen hz14 3
      refine skip_ (w1 := ?_) (by rfl) rfl ?_ ?_
      rotate_left
      · go_simp
        rfl
      refine hK.out _ _ ?_
      clear hK K
      refine pure_ (i := 8) (N := some 108) (v := ?_) (a' := ?_) #[true, true, true, true, true, true, true, true, true, false] rfl rfl (by kernel_rfl) (fun _ _ _ h => h) (Or.inl ⟨by rfl, ?_⟩) ?_ ?_
      rotate_left
      · intro w'
        go_simp
        with_reducible rfl
      rotate_left
      · simp only [Act.put, List.setIfInBounds_toArray, List.set_cons_zero, List.set_cons_succ, i64_w, i32_w]
        rfl
      refine last_ (i := 9) (N := none) #[true, true, true, true, true, true, true, true, true, true] rfl rfl (by kernel_rfl) (by decide) (fun K hK => ?_)
      have hz14 := blk_put (blk_below HO_12.out HE14.out) 3 (.slice A13 x2.length c13) rfl
      have hc4_ := (blk_cell hz14 4).trans rfl
      have hf4_ := blk_frozen hz14 4
      refine skip_ (w1 := ?_) (by rfl) rfl ?_ ?_
      rotate_left
      · go_simp
        rfl
      refine hK.out _ _ ?_
      clear hK K
      refine done_ (by kernel_rfl) ?_
      obtain ⟨w15, hW15⟩ : ∃ W : World, (w14.setCell ⟨z7, 3, none⟩ (.slice A13 x2.length c13)).setCell ⟨z7, 4, none⟩ (.slice A14 bh.length c14) = W := ⟨_, rfl⟩
      have HO_15 := Aside0.mk (show w15.heap[z7]? = some (.cells #[.int .i64 f2, .int .i64 r2, .int .i64 x1, .slice A13 x2.length c13, .slice A14 bh.length c14] 27 (0, 0)) from by rw [← hW15]; exact blk_put (blk_put (blk_below HO_12.out HE14.out) 3 _ rfl) 4 _ rfl)
      have HZ2_15 := Aside0.mk (show w15.heap[z2]? = some (.cells #[.int .i64 0, .int .i64 0, .int .i64 0, .slice none 0 0, .slice none 0 0] 27 (0, 0)) from by rw [← hW15]; exact blk_far (p := ⟨z7, 4, none⟩) (blk_far (p := ⟨z7, 3, none⟩) (blk_below HZ2_12.out HE14.out) (by have := HZ7.out; show z2 ≠ z7; omega) _) (by have := HZ7.out; show z2 ≠ z7; omega) _)
      have HG13 := Aside0.mk (show Kd.R k75 75 w15 w12.drew.heap.size (fun _ => True) (.slice A13 x2.length c13) x2 from by rw [← hW15]; exact rfar_ (rfar_ HG13.out ⟨z7, 3, none⟩ (by have := HZ7.out; exact this.2.2) _) ⟨z7, 4, none⟩ (by have := HZ7.out; exact this.2.2) _)
      have HG14 := Aside0.mk (show Kd.R k75 75 w15 w13.heap.size (fun _ => True) (.slice A14 bh.length c14) bh from by rw [← hW15]; exact rfar_ (rfar_ HG14.out ⟨z7, 3, none⟩ (by have h1 := HZ7.out; have h2 := HE13.out.size; show z7 < _; omega) _) ⟨z7, 4, none⟩ (by have h1 := HZ7.out; have h2 := HE13.out.size; show z7 < _; omega) _)
      have HB15 := Aside0.mk (show Below w.heap.size w w15 from by rw [← hW15]; exact ((below_step HB12.out HE14.out).setCell (p := ⟨z7, 3, none⟩) HZ7.out.1 _).setCell (p := ⟨z7, 4, none⟩) HZ7.out.1 _)
      try rw [hW15]
      clear hW15 ho3 ho4 HO_12 HE14
      have hr0 := (blk_cell HZ2_15.out 0).trans rfl
      have ht0 := blk_frozen HZ2_15.out 0
      have hs0 := (blk_cell HO_15.out 0).trans rfl
      have hr1 := (blk_cell HZ2_15.out 1).trans rfl
      have ht1 := blk_frozen HZ2_15.out 1
      have hs1 := (blk_cell HO_15.out 1).trans rfl
      have hr2 := (blk_cell HZ2_15.out 2).trans rfl
      have ht2 := blk_frozen HZ2_15.out 2
      have hs2 := (blk_cell HO_15.out 2).trans rfl
      have hr3 := (blk_cell HZ2_15.out 3).trans rfl
      have ht3 := blk_frozen HZ2_15.out 3
      have hs3 := (blk_cell HO_15.out 3).trans rfl
      have hr4 := (blk_cell HZ2_15.out 4).trans rfl
      have ht4 := blk_frozen HZ2_15.out 4
      have hs4 := (blk_cell HO_15.out 4).trans rfl
      go_wp2_with fail
      refine bodyPost_ret (results_list (rs := [.cell 4 27, .tmp 5, .tmp 6]) (vs := [.agg #[.int .i64 f2, .int .i64 r2, .int .i64 x1, .slice A13 x2.length c13, .slice A14 bh.length c14], .int .i64 1, .bool false]) rfl (by simp) ?_) rfl ?_
      · refine Vals.cell z2 27 _ (0, 0) _ rfl ?_ Try.underlying27 rfl rfl (Vals.tmp (Vals.tmp Vals.nil))
        exact blk_put (blk_put (blk_put (blk_put (blk_put HZ2_15.out 0 _ rfl) 1 _ rfl) 2 _ rfl) 3 _ rfl) 4 _ rfl
      · have HF : w.heap.size ≤ z2 := by have := HZE.out; omega
        have HY : z2 < w12.drew.heap.size := by have h1 := HZ7.out; show z2 < w12.heap.size; omega
        have HY2 : z2 < w13.heap.size := by have h1 := HZ7.out; have h2 := HE13.out.size; omega
        have HBF := (((((HB15.out.setCell (p := ⟨z2, 0, none⟩) HF (.int .i64 f2)).setCell (p := ⟨z2, 1, none⟩) HF (.int .i64 r2)).setCell (p := ⟨z2, 2, none⟩) HF (.int .i64 x1)).setCell (p := ⟨z2, 3, none⟩) HF (.slice A13 x2.length c13)).setCell (p := ⟨z2, 4, none⟩) HF (.slice A14 bh.length c14))
        have q3 := (rfar_ (rfar_ (rfar_ (rfar_ (rfar_ HG13.out ⟨z2, 0, none⟩ HY (.int .i64 f2)) ⟨z2, 1, none⟩ HY (.int .i64 r2)) ⟨z2, 2, none⟩ HY (.int .i64 x1)) ⟨z2, 3, none⟩ HY (.slice A13 x2.length c13)) ⟨z2, 4, none⟩ HY (.slice A14 bh.length c14))
        have q4 := (rfar_ (rfar_ (rfar_ (rfar_ (rfar_ HG14.out ⟨z2, 0, none⟩ HY2 (.int .i64 f2)) ⟨z2, 1, none⟩ HY2 (.int .i64 r2)) ⟨z2, 2, none⟩ HY2 (.int .i64 x1)) ⟨z2, 3, none⟩ HY2 (.slice A13 x2.length c13)) ⟨z2, 4, none⟩ HY2 (.slice A14 bh.length c14))
        exact ⟨A13, c13, A14, c14, rfl, ⟨Kd.R_lower q3 (by have h1 := HZ7.out; show w.heap.size ≤ w12.heap.size; omega), Kd.R_lower q4 (by have h1 := HZ7.out; have h2 := HE13.out.size; omega), fun k hk he => by have h1 := HL13.out k hk; have h2 := HL14.out k he; omega⟩, HBF⟩
    by_cases kz : (lf.length : Int) = 0
    · skip
      by_cases ks : sy = 0
      · skip
        have e : leap_ahead f2 st sy lf = none := by unfold leap_ahead; rw [if_pos ke, if_pos ⟨kz, ks⟩]
        rw [e] at H2_
        have k7 : ((lf.length : Int) == 0) = true := beq_iff_eq.mpr kz
        have k8 : (sy == 0) = true := beq_iff_eq.mpr ks
        have k6 : (f2 == st) = true := beq_iff_eq.mpr ke
        have H := Aside0.mk H2_
        clear H2_ e ke kz ks
        go_wp2_with fail
        go_quiet (fail)
        clear hHZ1_2_0 hHZ1_2_1 hHZ1_2_2 hHZ1_2_3 hHZ1_2_4 hHZ3_2_0 hHZ3_2_1 hHZ3_2_2
        obtain ⟨w3, hW3⟩ : ∃ W : World, w2.drewN nq = W := ⟨_, rfl⟩
        have hb3 : Below w2.heap.size w2 w3 := by rw [← hW3]; exact pw_below_drewN (Below.refl _ _) _
        have HB3 := Aside0.mk (below_step HB2.out hb3)
        have HZ0_3 := Aside0.mk (blk_below HZ0_2.out hb3)
        have HZ1_3 := Aside0.mk (blk_below HZ1_2.out hb3)
        have HZ2_3 := Aside0.mk (blk_below HZ2_2.out hb3)
        have HZ3_3 := Aside0.mk (blk_below HZ3_2.out hb3)
        have HRl_3 := Aside0.mk (Kd.C_below HRl_2.out hb3)
        have HRr_3 := Aside0.mk (Kd.C_below HRr_2.out hb3)
        clear HB2 HZ0_2 HZ1_2 HZ2_2 HZ3_2 HRl_2 HRr_2
        rw [hW3]
        clear hW3 hb3
        have hHZ1_3_0 := (blk_cell HZ1_3.out 0).trans rfl
        have hHZ1_3_1 := (blk_cell HZ1_3.out 1).trans rfl
        have hHZ1_3_2 := (blk_cell HZ1_3.out 2).trans rfl
        have hHZ1_3_3 := (blk_cell HZ1_3.out 3).trans rfl
        have hHZ1_3_4 := (blk_cell HZ1_3.out 4).trans rfl
        have hHZ3_3_0 := (blk_cell HZ3_3.out 0).trans rfl
        have hHZ3_3_1 := (blk_cell HZ3_3.out 1).trans rfl
        have hHZ3_3_2 := (blk_cell HZ3_3.out 2).trans rfl
        have hr0 := (blk_cell HZ2_3.out 0).trans rfl
        have ht0 := blk_frozen HZ2_3.out 0
        have hr1 := (blk_cell HZ2_3.out 1).trans rfl
        have ht1 := blk_frozen HZ2_3.out 1
        have hr2 := (blk_cell HZ2_3.out 2).trans rfl
        have ht2 := blk_frozen HZ2_3.out 2
        have hr3 := (blk_cell HZ2_3.out 3).trans rfl
        have ht3 := blk_frozen HZ2_3.out 3
        have hr4 := (blk_cell HZ2_3.out 4).trans rfl
        have ht4 := blk_frozen HZ2_3.out 4
        go_wp2_with fail
        have h := H.out
        simp only [Option.some.injEq, Prod.mk.injEq] at h
        obtain ⟨rfl, rfl, rfl, rfl, rfl, rfl, rfl⟩ := h
        refine bodyPost_ret (results_list (rs := [.cell 4 27, .tmp 5, .tmp 6]) (vs := [.agg #[.int .i64 st, .int .i64 po, .int .i64 sy, .slice A3 lf.length c3, .slice A4 rt.length c4], .int .i64 0, .bool true]) rfl (by simp) ?_) rfl ?_
        · refine Vals.cell z2 27 _ (0, 0) _ rfl ?_ Try.underlying27 rfl rfl (Vals.tmp (Vals.tmp Vals.nil))
          exact blk_put (blk_put (blk_put (blk_put (blk_put HZ2_3.out 0 _ rfl) 1 _ rfl) 2 _ rfl) 3 _ rfl) 4 _ rfl
        · have HF : w.heap.size ≤ z2 := by have := HZE.out; omega
          have HBF := (((((HB3.out.setCell (p := ⟨z2, 0, none⟩) HF (.int .i64 st)).setCell (p := ⟨z2, 1, none⟩) HF (.int .i64 po)).setCell (p := ⟨z2, 2, none⟩) HF (.int .i64 sy)).setCell (p := ⟨z2, 3, none⟩) HF (.slice A3 lf.length c3)).setCell (p := ⟨z2, 4, none⟩) HF (.slice A4 rt.length c4))
          exact ⟨A3, c3, A4, c4, rfl, (fun hh => by cases hh), HBF⟩
      have e : leap_ahead f2 st sy lf = some (1, lf) := by unfold leap_ahead; rw [if_pos ke, if_neg (fun hh => ks hh.2), if_neg (fun hh => by have := hh.1; omega)]
      rw [e] at H2_
      have k7 : ((lf.length : Int) == 0) = true := beq_iff_eq.mpr kz
      have k8 : (sy == 0) = false := beq_eq_false_iff_ne.mpr ks
      have q1 : decide (0 < lf.length) = false := decide_eq_false (by omega)
      have q3 : decide ((0 : Int) < (lf.length : Int)) = false := decide_eq_false (by omega)
      have q0 : (0 < lf.length) = False := eq_false (by omega)
      have q2 : ((0 : Int) < (lf.length : Int)) = False := eq_false (by omega)
      have k6 : (f2 == st) = true := beq_iff_eq.mpr ke
      have H := Aside0.mk H2_
      clear H2_ e ke kz ks
      go_wp2_with fail
      go_quiet (fail)
      clear hHZ1_2_0 hHZ1_2_1 hHZ1_2_2 hHZ1_2_3 hHZ1_2_4 hHZ3_2_0 hHZ3_2_1 hHZ3_2_2
      obtain ⟨w3, hW3⟩ : ∃ W : World, w2.drewN nq = W := ⟨_, rfl⟩
      have hb3 : Below w2.heap.size w2 w3 := by rw [← hW3]; exact pw_below_drewN (Below.refl _ _) _
      have HB3 := Aside0.mk (below_step HB2.out hb3)
      have HZ0_3 := Aside0.mk (blk_below HZ0_2.out hb3)
      have HZ1_3 := Aside0.mk (blk_below HZ1_2.out hb3)
      have HZ2_3 := Aside0.mk (blk_below HZ2_2.out hb3)
      have HZ3_3 := Aside0.mk (blk_below HZ3_2.out hb3)
      have HRl_3 := Aside0.mk (Kd.C_below HRl_2.out hb3)
      have HRr_3 := Aside0.mk (Kd.C_below HRr_2.out hb3)
      clear HB2 HZ0_2 HZ1_2 HZ2_2 HZ3_2 HRl_2 HRr_2
      rw [hW3]
      clear hW3 hb3
      have hHZ1_3_0 := (blk_cell HZ1_3.out 0).trans rfl
      have hHZ1_3_1 := (blk_cell HZ1_3.out 1).trans rfl
      have hHZ1_3_2 := (blk_cell HZ1_3.out 2).trans rfl
      have hHZ1_3_3 := (blk_cell HZ1_3.out 3).trans rfl
      have hHZ1_3_4 := (blk_cell HZ1_3.out 4).trans rfl
      have hHZ3_3_0 := (blk_cell HZ3_3.out 0).trans rfl
      have hHZ3_3_1 := (blk_cell HZ3_3.out 1).trans rfl
      have hHZ3_3_2 := (blk_cell HZ3_3.out 2).trans rfl
      go_wp2_with fail
      go_quiet (fail)
      clear hHZ1_3_0 hHZ1_3_1 hHZ1_3_2 hHZ1_3_3 hHZ1_3_4 hHZ3_3_0 hHZ3_3_1 hHZ3_3_2
      obtain ⟨w4, hW4⟩ : ∃ W : World, w3.drewN nq = W := ⟨_, rfl⟩
      have hb4 : Below w3.heap.size w3 w4 := by rw [← hW4]; exact pw_below_drewN (Below.refl _ _) _
      have HB4 := Aside0.mk (below_step HB3.out hb4)
      have HZ0_4 := Aside0.mk (blk_below HZ0_3.out hb4)
      have HZ1_4 := Aside0.mk (blk_below HZ1_3.out hb4)
      have HZ2_4 := Aside0.mk (blk_below HZ2_3.out hb4)
      have HZ3_4 := Aside0.mk (blk_below HZ3_3.out hb4)
      have HRl_4 := Aside0.mk (Kd.C_below HRl_3.out hb4)
      have HRr_4 := Aside0.mk (Kd.C_below HRr_3.out hb4)
      clear HB3 HZ0_3 HZ1_3 HZ2_3 HZ3_3 HRl_3 HRr_3
      rw [hW4]
      clear hW4 hb4
      have hHZ1_4_0 := (blk_cell HZ1_4.out 0).trans rfl
      have hHZ1_4_1 := (blk_cell HZ1_4.out 1).trans rfl
      have hHZ1_4_2 := (blk_cell HZ1_4.out 2).trans rfl
      have hHZ1_4_3 := (blk_cell HZ1_4.out 3).trans rfl
      have hHZ1_4_4 := (blk_cell HZ1_4.out 4).trans rfl
      have hHZ3_4_0 := (blk_cell HZ3_4.out 0).trans rfl
      have hHZ3_4_1 := (blk_cell HZ3_4.out 1).trans rfl
      have hHZ3_4_2 := (blk_cell HZ3_4.out 2).trans rfl
      go_wp2_with fail
      have h := H.out
      clear H
      try simp only at h
      obtain ⟨bh, hbh, h1⟩ := Option.bind_eq_some_iff.1 h
      obtain ⟨⟨x1, x2⟩, hsp, h2⟩ := Option.bind_eq_some_iff.1 h1
      try simp only at h2
      by_cases kl : bh.length < 8000000000000 ∧ x2.length < 8000000000000
      rotate_left
      · rw [if_neg kl] at h2
        cases h2
      rw [if_pos kl] at h2
      simp only [Option.some.injEq, Prod.mk.injEq] at h2
      obtain ⟨e1, e2, e3, e4, e5, e6, e7⟩ := h2
      subst e1 e3 e4 e5 e6 e7
      obtain ⟨mv, hmv⟩ : ∃ m, wrap64 (f1 * 1) = m := ⟨_, rfl⟩
      rw [hmv] at e2
      have E2 := Aside0.mk e2
      have EM := Aside0.mk hmv
      have KL := Aside0.mk kl
      have HBH := Aside0.mk hbh
      have HSP := Aside0.mk hsp
      clear h h1 hbh hsp kl e2 hmv
      refine (leap_before.callsC f0 1 A4 c4 rt bh _ HRr_4.out HC4.out HBH.out).mono ?_
      rintro e w10 ⟨A5, c5, rfl, hC5, hc5, hB10⟩
      clear hHZ1_4_0 hHZ1_4_1 hHZ1_4_2 hHZ1_4_3 hHZ1_4_4 hHZ3_4_0 hHZ3_4_1 hHZ3_4_2
      have HB10 := Aside0.mk (below_step HB4.out hB10)
      have HZ0_10 := Aside0.mk (blk_below HZ0_4.out hB10)
      have HZ1_10 := Aside0.mk (blk_below HZ1_4.out hB10)
      have HZ2_10 := Aside0.mk (blk_below HZ2_4.out hB10)
      have HZ3_10 := Aside0.mk (blk_below HZ3_4.out hB10)
      have HRl_10 := Aside0.mk (Kd.C_below HRl_4.out hB10)
      have HRr_10 := Aside0.mk (Kd.C_below HRr_4.out hB10)
      clear HB4 HZ0_4 HZ1_4 HZ2_4 HZ3_4 HRl_4 HRr_4
      have HRb_10 := Aside0.mk hC5
      have HCb := Aside0.mk hc5
      clear hB10 hC5 hc5 HBH
      have hHZ1_10_0 := (blk_cell HZ1_10.out 0).trans rfl
      have hHZ1_10_1 := (blk_cell HZ1_10.out 1).trans rfl
      have hHZ1_10_2 := (blk_cell HZ1_10.out 2).trans rfl
      have hHZ1_10_3 := (blk_cell HZ1_10.out 3).trans rfl
      have hHZ1_10_4 := (blk_cell HZ1_10.out 4).trans rfl
      have hHZ3_10_0 := (blk_cell HZ3_10.out 0).trans rfl
      have hHZ3_10_1 := (blk_cell HZ3_10.out 1).trans rfl
      have hHZ3_10_2 := (blk_cell HZ3_10.out 2).trans rfl
      go_wp2_with fail
      refine (leap_split.callsC A3 c3 lf x1 x2 _ HRl_10.out HC3.out HSP.out).mono ?_
      rintro e w11 ⟨A6, c6, rfl, hC6, hc6, hB11⟩
      clear hHZ1_10_0 hHZ1_10_1 hHZ1_10_2 hHZ1_10_3 hHZ1_10_4 hHZ3_10_0 hHZ3_10_1 hHZ3_10_2
      have HB11 := Aside0.mk (below_step HB10.out hB11)
      have HZ0_11 := Aside0.mk (blk_below HZ0_10.out hB11)
      have HZ1_11 := Aside0.mk (blk_below HZ1_10.out hB11)
      have HZ2_11 := Aside0.mk (blk_below HZ2_10.out hB11)
      have HZ3_11 := Aside0.mk (blk_below HZ3_10.out hB11)
      have HRl_11 := Aside0.mk (Kd.C_below HRl_10.out hB11)
      have HRr_11 := Aside0.mk (Kd.C_below HRr_10.out hB11)
      have HRb_11 := Aside0.mk (Kd.C_below HRb_10.out hB11)
      clear HB10 HZ0_10 HZ1_10 HZ2_10 HZ3_10 HRl_10 HRr_10 HRb_10
      have HRs_11 := Aside0.mk hC6
      have HCs := Aside0.mk hc6
      clear hB11 hC6 hc6 HSP
      have hHZ1_11_0 := (blk_cell HZ1_11.out 0).trans rfl
      have hHZ1_11_1 := (blk_cell HZ1_11.out 1).trans rfl
      have hHZ1_11_2 := (blk_cell HZ1_11.out 2).trans rfl
      have hHZ1_11_3 := (blk_cell HZ1_11.out 3).trans rfl
      have hHZ1_11_4 := (blk_cell HZ1_11.out 4).trans rfl
      have hHZ3_11_0 := (blk_cell HZ3_11.out 0).trans rfl
      have hHZ3_11_1 := (blk_cell HZ3_11.out 1).trans rfl
      have hHZ3_11_2 := (blk_cell HZ3_11.out 2).trans rfl
      have e1 := EM.out
      have e2 := E2.out
      have e3 := (i64_w _).trans e1
      have e4 := (i64_w _).trans e2
      have e5 : wrap64 f1 = mv := by rw [← e1, Int.mul_one]
      have e6 : IntKind.i64.wrap f1 = mv := (i64_w _).trans e5
      have hbO := (below_alloc (Below.refl w11.heap.size w11) (.cells #[.int .i64 f2, .int .i64 r2, .int .i64 x1, .slice A5 bh.length c5, .slice A6 x2.length c6] 27))
      have HO_12 := Aside0.mk (blk_new w11 (.cells #[.int .i64 f2, .int .i64 r2, .int .i64 x1, .slice A5 bh.length c5, .slice A6 x2.length c6] 27))
      have hr31 := (blk_cell (blk_below HZ3_11.out hbO) 1).trans rfl
      have hw3 := (blk_cell HO_12.out 3).trans rfl
      have hv3 := blk_frozen HO_12.out 3
      have hw4 := (blk_cell HO_12.out 4).trans rfl
      have hv4 := blk_frozen HO_12.out 4
      go_wp2_with fail
      clear HO_12 hbO hr31 e1 e2 e3 e4 e5 e6 hw3 hv3 hw4 hv4
      clear hHZ1_11_0 hHZ1_11_1 hHZ1_11_2 hHZ1_11_3 hHZ1_11_4 hHZ3_11_0 hHZ3_11_1 hHZ3_11_2
      obtain ⟨w12, hW12⟩ : ∃ W : World, w11.alloc (.cells #[.int .i64 f2, .int .i64 r2, .int .i64 x1, .slice A6 x2.length c6, .slice A5 bh.length c5] 27) = W := ⟨_, rfl⟩
      have hb12 : Below w11.heap.size w11 w12 := by rw [← hW12]; exact below_alloc (Below.refl _ _) _
      have HO_12 := Aside0.mk (show w12.heap[w11.heap.size]? = some (.cells #[.int .i64 f2, .int .i64 r2, .int .i64 x1, .slice A6 x2.length c6, .slice A5 bh.length c5] 27 (0, 0)) from by rw [← hW12]; exact blk_new w11 (.cells #[.int .i64 f2, .int .i64 r2, .int .i64 x1, .slice A6 x2.length c6, .slice A5 bh.length c5] 27))
      obtain ⟨z7, hz7⟩ : ∃ z, w11.heap.size = z := ⟨_, rfl⟩
      have HZ7 := Aside0.mk (show w.heap.size ≤ z7 ∧ z2 < z7 ∧ z7 < w12.heap.size from ⟨hz7 ▸ HB11.out.size, hz7 ▸ blk_lt HZ2_11.out, hz7 ▸ blk_lt HO_12.out⟩)
      have HB12 := Aside0.mk (below_step HB11.out hb12)
      have HZ0_12 := Aside0.mk (blk_below HZ0_11.out hb12)
      have HZ1_12 := Aside0.mk (blk_below HZ1_11.out hb12)
      have HZ2_12 := Aside0.mk (blk_below HZ2_11.out hb12)
      have HZ3_12 := Aside0.mk (blk_below HZ3_11.out hb12)
      have HRl_12 := Aside0.mk (Kd.C_below HRl_11.out hb12)
      have HRr_12 := Aside0.mk (Kd.C_below HRr_11.out hb12)
      have HRb_12 := Aside0.mk (Kd.C_below HRb_11.out hb12)
      have HRs_12 := Aside0.mk (Kd.C_below HRs_11.out hb12)
      clear HB11 HZ0_11 HZ1_11 HZ2_11 HZ3_11 HRl_11 HRr_11 HRb_11 HRs_11
      rw [hW12]
      rw [hz7] at HO_12 ⊢
      clear hW12 hb12 hz7
      have ho3 := (blk_cell HO_12.out 3).trans rfl
      have ho4 := (blk_cell HO_12.out 4).trans rfl
      refine start_ (n := 10) (S := fun w' => w'.cell? ⟨z7, 3, none⟩ = some (.slice A6 x2.length c6) ∧ w'.cell? ⟨z7, 4, none⟩ = some (.slice A5 bh.length c5)) (ds := [7, 9]) #[false, false, false, false, false, false, false, false, false, false] (by kernel_rfl) rfl rfl ⟨ho3, ho4⟩ (fun hHeld => ?_)
      refine pure_ (i := 0) (N := some 101) (v := ?_) (a' := ?_) #[true, false, false, false, false, false, false, false, false, false] rfl rfl (by kernel_rfl) (fun _ _ _ h => h) (Or.inl ⟨by rfl, ?_⟩) ?_ ?_
      rotate_left
      · intro w'
        go_simp
        with_reducible rfl
      rotate_left
      · simp only [Act.put, List.setIfInBounds_toArray, List.set_cons_zero, List.set_cons_succ, i64_w, i32_w]
        rfl
      refine pure_ (i := 3) (N := some 104) (v := ?_) (a' := ?_) #[true, false, false, true, false, false, false, false, false, false] rfl rfl (by kernel_rfl) (fun _ _ _ h => h) (Or.inl ⟨by rfl, ?_⟩) ?_ ?_
      rotate_left
      · intro w'
        go_simp
        with_reducible rfl
      rotate_left
      · simp only [Act.put, List.setIfInBounds_toArray, List.set_cons_zero, List.set_cons_succ, i64_w, i32_w]
        rfl
      refine take_ (i := 1) (N := some 102) (v := ?_) (a' := ?_) #[true, true, false, true, false, false, false, false, false, false] rfl rfl (by kernel_rfl) (fun _ _ _ h => h) (Or.inl ⟨by rfl, ?_⟩) hHeld ?_ ?_
      rotate_left
      · rintro w' ⟨s0, s1⟩
        go_simp
        with_reducible rfl
      rotate_left
      · simp only [Act.put, List.setIfInBounds_toArray, List.set_cons_zero, List.set_cons_succ, i64_w, i32_w]
        rfl
      refine take_ (i := 4) (N := some 105) (v := ?_) (a' := ?_) #[true, true, false, true, true, false, false, false, false, false] rfl rfl (by kernel_rfl) (fun _ _ _ h => h) (Or.inl ⟨by rfl, ?_⟩) hHeld ?_ ?_
      rotate_left
      · rintro w' ⟨s0, s1⟩
        go_simp
        with_reducible rfl
      rotate_left
      · simp only [Act.put, List.setIfInBounds_toArray, List.set_cons_zero, List.set_cons_succ, i64_w, i32_w]
        rfl
      refine one_ (i := 2) (N := some 103) #[true, true, true, true, true, false, false, false, false, false] rfl rfl (by kernel_rfl) (by decide) (fun K hK => ?_)
      refine goes_ Try.func57 (by kernel_rfl) rfl #[.slice A6 x2.length c6] (by rfl) rfl rfl (by simp only [List.map_toArray, List.map_cons, List.map_nil]; rfl) ?_
      with_reducible refine (api_Run.calls A6 c6 x2 x2 w12.drew (Kd.C_below HRs_12.out (show Below w12.heap.size w12 w12.drew from bk_ (Below.refl _ _))) HCs.out (clone_ok _ (by have := KL.out; omega))).mono ?_
      rintro e w13 ⟨v13, rfl, ho13, hB13⟩
      refine ⟨_, rfl, ?_⟩
      obtain ⟨A13, c13, rfl⟩ := Kd.R_slice ho13
      have HE13 := Aside0.mk (below_step (bk_ (Below.refl w12.heap.size w12)) hB13)
      have HG13 := Aside0.mk ho13
      have HL13 := Aside0.mk (Kd.R_lt ho13)
      clear ho13 hB13
      refine hK.out _ _ ⟨(lf_ HE13.out ho3), (lf_ HE13.out ho4)⟩ (fun hHeld => ?_)
      clear hK K
      refine norm_ (a' := ?_) ?_ ?_
      rotate_left
      · show Act.put _ (some 103) _ = _
        simp only [Act.put, List.setIfInBounds_toArray, List.set_cons_zero, List.set_cons_succ, i64_w, i32_w]
        rfl
      refine pure_ (i := 6) (N := some 107) (v := ?_) (a' := ?_) #[true, true, true, true, true, false, true, false, false, false] rfl rfl (by kernel_rfl) (fun _ _ _ h => h) (Or.inl ⟨by rfl, ?_⟩) ?_ ?_
      rotate_left
      · intro w'
        go_simp
        with_reducible rfl
      rotate_left
      · simp only [Act.put, List.setIfInBounds_toArray, List.set_cons_zero, List.set_cons_succ, i64_w, i32_w]
        rfl
      refine one_ (i := 5) (N := some 106) #[true, true, true, true, true, true, true, false, false, false] rfl rfl (by kernel_rfl) (by decide) (fun K hK => ?_)
      refine goes_ Try.func57 (by kernel_rfl) rfl #[.slice A5 bh.length c5] (by rfl) rfl rfl (by simp only [List.map_toArray, List.map_cons, List.map_nil]; rfl) ?_
      with_reducible refine (api_Run.calls A5 c5 bh bh w13 (Kd.C_below HRb_12.out HE13.out) HCb.out (clone_ok _ (by have := KL.out; omega))).mono ?_
      rintro e w14 ⟨v14, rfl, ho14, hB14⟩
      refine ⟨_, rfl, ?_⟩
      obtain ⟨A14, c14, rfl⟩ := Kd.R_slice ho14
      have HE14 := Aside0.mk (below_step HE13.out hB14)
      have HG14 := Aside0.mk ho14
      have HL14 := Aside0.mk (Kd.R_base ho14)
      have HG13 := Aside0.mk (Kd.R_below HG13.out hB14)
      clear ho14 hB14
      refine hK.out _ _ ⟨(lf_ HE14.out ho3), (lf_ HE14.out ho4)⟩ (fun hHeld => ?_)
      clear hK K
      refine norm_ (a' := ?_) ?_ ?_
      rotate_left
      · show Act.put _ (some 106) _ = _
        simp only [Act.put, List.setIfInBounds_toArray, List.set_cons_zero, List.set_cons_succ, i64_w, i32_w]
        rfl
      refine last_ (i := 7) (N := none) #[true, true, true, true, true, true, true, true, false, false] rfl rfl (by kernel_rfl) (by decide) (fun K hK => ?_)
      have hz14 := blk_below HO_12.out HE14.out
      have hc3_ := (blk_cell hz14 3).trans rfl
      have hf3_ := blk_frozen hz14 3
      refine skip_ (w1 := ?_) (by rfl) rfl ?_ ?_
      rotate_left
      · go_simp
        rfl
      refine hK.out _ _ ?_
      clear hK K
      refine pure_ (i := 8) (N := some 108) (v := ?_) (a' := ?_) #[true, true, true, true, true, true, true, true, true, false] rfl rfl (by kernel_rfl) (fun _ _ _ h => h) (Or.inl ⟨by rfl, ?_⟩) ?_ ?_
      rotate_left
      · intro w'
        go_simp
        with_reducible rfl
      rotate_left
      · simp only [Act.put, List.setIfInBounds_toArray, List.set_cons_zero, List.set_cons_succ, i64_w, i32_w]
        rfl
      refine last_ (i := 9) (N := none) #[true, true, true, true, true, true, true, true, true, true] rfl rfl (by kernel_rfl) (by decide) (fun K hK => ?_)
      have hz14 := blk_put (blk_below HO_12.out HE14.out) 3 (.slice A13 x2.length c13) rfl
      have hc4_ := (blk_cell hz14 4).trans rfl
      have hf4_ := blk_frozen hz14 4
      refine skip_ (w1 := ?_) (by rfl) rfl ?_ ?_
      rotate_left
      · go_simp
        rfl
      refine hK.out _ _ ?_
      clear hK K
      refine done_ (by kernel_rfl) ?_
      obtain ⟨w15, hW15⟩ : ∃ W : World, (w14.setCell ⟨z7, 3, none⟩ (.slice A13 x2.length c13)).setCell ⟨z7, 4, none⟩ (.slice A14 bh.length c14) = W := ⟨_, rfl⟩
      have HO_15 := Aside0.mk (show w15.heap[z7]? = some (.cells #[.int .i64 f2, .int .i64 r2, .int .i64 x1, .slice A13 x2.length c13, .slice A14 bh.length c14] 27 (0, 0)) from by rw [← hW15]; exact blk_put (blk_put (blk_below HO_12.out HE14.out) 3 _ rfl) 4 _ rfl)
      have HZ2_15 := Aside0.mk (show w15.heap[z2]? = some (.cells #[.int .i64 0, .int .i64 0, .int .i64 0, .slice none 0 0, .slice none 0 0] 27 (0, 0)) from by rw [← hW15]; exact blk_far (p := ⟨z7, 4, none⟩) (blk_far (p := ⟨z7, 3, none⟩) (blk_below HZ2_12.out HE14.out) (by have := HZ7.out; show z2 ≠ z7; omega) _) (by have := HZ7.out; show z2 ≠ z7; omega) _)
      have HG13 := Aside0.mk (show Kd.R k75 75 w15 w12.drew.heap.size (fun _ => True) (.slice A13 x2.length c13) x2 from by rw [← hW15]; exact rfar_ (rfar_ HG13.out ⟨z7, 3, none⟩ (by have := HZ7.out; exact this.2.2) _) ⟨z7, 4, none⟩ (by have := HZ7.out; exact this.2.2) _)
      have HG14 := Aside0.mk (show Kd.R k75 75 w15 w13.heap.size (fun _ => True) (.slice A14 bh.length c14) bh from by rw [← hW15]; exact rfar_ (rfar_ HG14.out ⟨z7, 3, none⟩ (by have h1 := HZ7.out; have h2 := HE13.out.size; show z7 < _; omega) _) ⟨z7, 4, none⟩ (by have h1 := HZ7.out; have h2 := HE13.out.size; show z7 < _; omega) _)
      have HB15 := Aside0.mk (show Below w.heap.size w w15 from by rw [← hW15]; exact ((below_step HB12.out HE14.out).setCell (p := ⟨z7, 3, none⟩) HZ7.out.1 _).setCell (p := ⟨z7, 4, none⟩) HZ7.out.1 _)
      try rw [hW15]
      clear hW15 ho3 ho4 HO_12 HE14
      have hr0 := (blk_cell HZ2_15.out 0).trans rfl
      have ht0 := blk_frozen HZ2_15.out 0
      have hs0 := (blk_cell HO_15.out 0).trans rfl
      have hr1 := (blk_cell HZ2_15.out 1).trans rfl
      have ht1 := blk_frozen HZ2_15.out 1
      have hs1 := (blk_cell HO_15.out 1).trans rfl
      have hr2 := (blk_cell HZ2_15.out 2).trans rfl
      have ht2 := blk_frozen HZ2_15.out 2
      have hs2 := (blk_cell HO_15.out 2).trans rfl
      have hr3 := (blk_cell HZ2_15.out 3).trans rfl
      have ht3 := blk_frozen HZ2_15.out 3
      have hs3 := (blk_cell HO_15.out 3).trans rfl
      have hr4 := (blk_cell HZ2_15.out 4).trans rfl
      have ht4 := blk_frozen HZ2_15.out 4
      have hs4 := (blk_cell HO_15.out 4).trans rfl
      go_wp2_with fail
      refine bodyPost_ret (results_list (rs := [.cell 4 27, .tmp 5, .tmp 6]) (vs := [.agg #[.int .i64 f2, .int .i64 r2, .int .i64 x1, .slice A13 x2.length c13, .slice A14 bh.length c14], .int .i64 1, .bool false]) rfl (by simp) ?_) rfl ?_
      · refine Vals.cell z2 27 _ (0, 0) _ rfl ?_ Try.underlying27 rfl rfl (Vals.tmp (Vals.tmp Vals.nil))
        exact blk_put (blk_put (blk_put (blk_put (blk_put HZ2_15.out 0 _ rfl) 1 _ rfl) 2 _ rfl) 3 _ rfl) 4 _ rfl
      · have HF : w.heap.size ≤ z2 := by have := HZE.out; omega
        have HY : z2 < w12.drew.heap.size := by have h1 := HZ7.out; show z2 < w12.heap.size; omega
        have HY2 : z2 < w13.heap.size := by have h1 := HZ7.out; have h2 := HE13.out.size; omega
        have HBF := (((((HB15.out.setCell (p := ⟨z2, 0, none⟩) HF (.int .i64 f2)).setCell (p := ⟨z2, 1, none⟩) HF (.int .i64 r2)).setCell (p := ⟨z2, 2, none⟩) HF (.int .i64 x1)).setCell (p := ⟨z2, 3, none⟩) HF (.slice A13 x2.length c13)).setCell (p := ⟨z2, 4, none⟩) HF (.slice A14 bh.length c14))
        have q3 := (rfar_ (rfar_ (rfar_ (rfar_ (rfar_ HG13.out ⟨z2, 0, none⟩ HY (.int .i64 f2)) ⟨z2, 1, none⟩ HY (.int .i64 r2)) ⟨z2, 2, none⟩ HY (.int .i64 x1)) ⟨z2, 3, none⟩ HY (.slice A13 x2.length c13)) ⟨z2, 4, none⟩ HY (.slice A14 bh.length c14))
        have q4 := (rfar_ (rfar_ (rfar_ (rfar_ (rfar_ HG14.out ⟨z2, 0, none⟩ HY2 (.int .i64 f2)) ⟨z2, 1, none⟩ HY2 (.int .i64 r2)) ⟨z2, 2, none⟩ HY2 (.int .i64 x1)) ⟨z2, 3, none⟩ HY2 (.slice A13 x2.length c13)) ⟨z2, 4, none⟩ HY2 (.slice A14 bh.length c14))
        exact ⟨A13, c13, A14, c14, rfl, ⟨Kd.R_lower q3 (by have h1 := HZ7.out; show w.heap.size ≤ w12.heap.size; omega), Kd.R_lower q4 (by have h1 := HZ7.out; have h2 := HE13.out.size; omega), fun k hk he => by have h1 := HL13.out k hk; have h2 := HL14.out k he; omega⟩, HBF⟩
    by_cases ks : (rd_T75 lf 0).f0 = sy
    · skip
      have k7 : ((lf.length : Int) == 0) = false := beq_eq_false_iff_ne.mpr kz
      have hl0 := Aside0.mk (show 0 < lf.length by omega)
      have q0 : (0 < lf.length) = True := eq_true hl0.out
      have q1 : decide (0 < lf.length) = true := decide_eq_true hl0.out
      have q2 : ((0 : Int) < (lf.length : Int)) = True := eq_true (by omega)
      have q3 : decide ((0 : Int) < (lf.length : Int)) = true := decide_eq_true (by omega)
      have e : leap_ahead f2 st sy lf = some (wrap64 (1 + (rd_T75 lf 0).f1), lf.drop 1) := by unfold leap_ahead; rw [if_pos ke, if_neg (fun hh => kz hh.1), if_pos ⟨hl0.out, ks⟩]
      rw [e] at H2_
      have k8 : ((rd_T75 lf 0).f0 == sy) = true := beq_iff_eq.mpr ks
      have k6 : (f2 == st) = true := beq_iff_eq.mpr ke
      obtain ⟨ad_, e_, hx0, hx1⟩ := at_T75 HRl_2.out 0 (by omega) (by have := hl0.out; omega)
      cases e_
      try rw [show ((0 : Int)).toNat = 0 from rfl] at hx0 hx1
      try rw [show 0 * 2 = 0 from rfl] at hx0 hx1
      try rw [Addr.add_zero'] at hx0
      try rw [Addr.add_zero'] at hx1
      have H := Aside0.mk H2_
      clear H2_ e ke kz ks
      go_wp2_with fail
      go_quiet (fail)
      clear hHZ1_2_0 hHZ1_2_1 hHZ1_2_2 hHZ1_2_3 hHZ1_2_4 hHZ3_2_0 hHZ3_2_1 hHZ3_2_2
      obtain ⟨w3, hW3⟩ : ∃ W : World, w2.drewN nq = W := ⟨_, rfl⟩
      have hb3 : Below w2.heap.size w2 w3 := by rw [← hW3]; exact pw_below_drewN (Below.refl _ _) _
      have HB3 := Aside0.mk (below_step HB2.out hb3)
      have HZ0_3 := Aside0.mk (blk_below HZ0_2.out hb3)
      have HZ1_3 := Aside0.mk (blk_below HZ1_2.out hb3)
      have HZ2_3 := Aside0.mk (blk_below HZ2_2.out hb3)
      have HZ3_3 := Aside0.mk (blk_below HZ3_2.out hb3)
      have HRl_3 := Aside0.mk (Kd.C_below HRl_2.out hb3)
      have HRr_3 := Aside0.mk (Kd.C_below HRr_2.out hb3)
      clear HB2 HZ0_2 HZ1_2 HZ2_2 HZ3_2 HRl_2 HRr_2
      rw [hW3]
      clear hW3 hb3
      have hHZ1_3_0 := (blk_cell HZ1_3.out 0).trans rfl
      have hHZ1_3_1 := (blk_cell HZ1_3.out 1).trans rfl
      have hHZ1_3_2 := (blk_cell HZ1_3.out 2).trans rfl
      have hHZ1_3_3 := (blk_cell HZ1_3.out 3).trans rfl
      have hHZ1_3_4 := (blk_cell HZ1_3.out 4).trans rfl
      have hHZ3_3_0 := (blk_cell HZ3_3.out 0).trans rfl
      have hHZ3_3_1 := (blk_cell HZ3_3.out 1).trans rfl
      have hHZ3_3_2 := (blk_cell HZ3_3.out 2).trans rfl
      clear hx0 hx1
      obtain ⟨ad_, e_, hx0, hx1⟩ := at_T75 HRl_3.out 0 (by omega) (by have := hl0.out; omega)
      cases e_
      try rw [show ((0 : Int)).toNat = 0 from rfl] at hx0 hx1
      try rw [show 0 * 2 = 0 from rfl] at hx0 hx1
      try rw [Addr.add_zero'] at hx0
      try rw [Addr.add_zero'] at hx1
      go_wp2_with fail
      go_quiet (fail)
      clear hHZ1_3_0 hHZ1_3_1 hHZ1_3_2 hHZ1_3_3 hHZ1_3_4 hHZ3_3_0 hHZ3_3_1 hHZ3_3_2
      obtain ⟨w4, hW4⟩ : ∃ W : World, w3.drewN nq = W := ⟨_, rfl⟩
      have hb4 : Below w3.heap.size w3 w4 := by rw [← hW4]; exact pw_below_drewN (Below.refl _ _) _
      have HB4 := Aside0.mk (below_step HB3.out hb4)
      have HZ0_4 := Aside0.mk (blk_below HZ0_3.out hb4)
      have HZ1_4 := Aside0.mk (blk_below HZ1_3.out hb4)
      have HZ2_4 := Aside0.mk (blk_below HZ2_3.out hb4)
      have HZ3_4 := Aside0.mk (blk_below HZ3_3.out hb4)
      have HRl_4 := Aside0.mk (Kd.C_below HRl_3.out hb4)
      have HRr_4 := Aside0.mk (Kd.C_below HRr_3.out hb4)
      clear HB3 HZ0_3 HZ1_3 HZ2_3 HZ3_3 HRl_3 HRr_3
      rw [hW4]
      clear hW4 hb4
      have hHZ1_4_0 := (blk_cell HZ1_4.out 0).trans rfl
      have hHZ1_4_1 := (blk_cell HZ1_4.out 1).trans rfl
      have hHZ1_4_2 := (blk_cell HZ1_4.out 2).trans rfl
      have hHZ1_4_3 := (blk_cell HZ1_4.out 3).trans rfl
      have hHZ1_4_4 := (blk_cell HZ1_4.out 4).trans rfl
      have hHZ3_4_0 := (blk_cell HZ3_4.out 0).trans rfl
      have hHZ3_4_1 := (blk_cell HZ3_4.out 1).trans rfl
      have hHZ3_4_2 := (blk_cell HZ3_4.out 2).trans rfl
      clear hx0 hx1
      obtain ⟨ad_, e_, hx0, hx1⟩ := at_T75 HRl_4.out 0 (by omega) (by have := hl0.out; omega)
      cases e_
      try rw [show ((0 : Int)).toNat = 0 from rfl] at hx0 hx1
      try rw [show 0 * 2 = 0 from rfl] at hx0 hx1
      try rw [Addr.add_zero'] at hx0
      try rw [Addr.add_zero'] at hx1
      obtain ⟨kst, hkst⟩ : ∃ k, wrap64 (1 + (rd_T75 lf 0).f1) = k := ⟨_, rfl⟩
      have hkst' : IntKind.i64.wrap (1 + (rd_T75 lf 0).f1) = kst := (i64_w _).trans hkst
      obtain ⟨ya, hya⟩ : ∃ y, y = lf.drop 1 := ⟨_, rfl⟩
      have H := Aside0.mk (hkst ▸ hya.symm ▸ H.out)
      have hcd := Aside0.mk (Kd.C_drop (m := 1) (c := c3) HRl_4.out (by have := hl0.out; omega) HC3.out)
      obtain ⟨i0, hi0, _, hsz0, _⟩ := info_parts info75
      have hcut := cut_from (P := Try.prog) 25 75 .i64 Try.underlying25 hi0 2 hsz0 (some ad_) lf.length c3 1 (by omega) (by have := hl0.out; omega)
      obtain ⟨A8, hA8⟩ : ∃ A1, A1 = (if c3 = (1 : Int).toNat then (some ad_) else ((some ad_) : Option Addr).map (·.add ((1 : Int).toNat * 2))) := ⟨_, rfl⟩
      have hyl : ya.length = lf.length - (1 : Int).toNat := by rw [hya, List.length_drop]; rfl
      rw [← hyl, ← hA8] at hcut
      have HRa_4 := Aside0.mk (show Kd.C k75 w4 A8 ya.length ya by rw [hA8, hya]; exact hcd.out)
      have HCa := Aside0.mk (show ya.length ≤ c3 - (1 : Int).toNat by have h2 := HC3.out; have h3 : (1 : Int).toNat = 1 := rfl; omega)
      have qs : (1 : Int) ≤ (lf.length : Int) := by have := hl0.out; omega
      clear hA8 hya hi0 hsz0 hyl hcd
      replace qs := eq_true qs
      go_wp2_with fail
      have h := H.out
      clear H
      try simp only at h
      obtain ⟨bh, hbh, h1⟩ := Option.bind_eq_some_iff.1 h
      obtain ⟨⟨x1, x2⟩, hsp, h2⟩ := Option.bind_eq_some_iff.1 h1
      try simp only at h2
      by_cases kl : bh.length < 8000000000000 ∧ x2.length < 8000000000000
      rotate_left
      · rw [if_neg kl] at h2
        cases h2
      rw [if_pos kl] at h2
      simp only [Option.some.injEq, Prod.mk.injEq] at h2
      obtain ⟨e1, e2, e3, e4, e5, e6, e7⟩ := h2
      subst e1 e3 e4 e5 e6 e7
      obtain ⟨mv, hmv⟩ : ∃ m, wrap64 (f1 * kst) = m := ⟨_, rfl⟩
      rw [hmv] at e2
      have E2 := Aside0.mk e2
      have EM := Aside0.mk hmv
      have KL := Aside0.mk kl
      have HBH := Aside0.mk hbh
      have HSP := Aside0.mk hsp
      clear h h1 hbh hsp kl e2 hmv
      refine (leap_before.callsC f0 kst A4 c4 rt bh _ HRr_4.out HC4.out HBH.out).mono ?_
      rintro e w10 ⟨A5, c5, rfl, hC5, hc5, hB10⟩
      clear hHZ1_4_0 hHZ1_4_1 hHZ1_4_2 hHZ1_4_3 hHZ1_4_4 hHZ3_4_0 hHZ3_4_1 hHZ3_4_2
      have HB10 := Aside0.mk (below_step HB4.out hB10)
      have HZ0_10 := Aside0.mk (blk_below HZ0_4.out hB10)
      have HZ1_10 := Aside0.mk (blk_below HZ1_4.out hB10)
      have HZ2_10 := Aside0.mk (blk_below HZ2_4.out hB10)
      have HZ3_10 := Aside0.mk (blk_below HZ3_4.out hB10)
      have HRl_10 := Aside0.mk (Kd.C_below HRl_4.out hB10)
      have HRr_10 := Aside0.mk (Kd.C_below HRr_4.out hB10)
      have HRa_10 := Aside0.mk (Kd.C_below HRa_4.out hB10)
      clear HB4 HZ0_4 HZ1_4 HZ2_4 HZ3_4 HRl_4 HRr_4 HRa_4
      have HRb_10 := Aside0.mk hC5
      have HCb := Aside0.mk hc5
      clear hB10 hC5 hc5 HBH
      have hHZ1_10_0 := (blk_cell HZ1_10.out 0).trans rfl
      have hHZ1_10_1 := (blk_cell HZ1_10.out 1).trans rfl
      have hHZ1_10_2 := (blk_cell HZ1_10.out 2).trans rfl
      have hHZ1_10_3 := (blk_cell HZ1_10.out 3).trans rfl
      have hHZ1_10_4 := (blk_cell HZ1_10.out 4).trans rfl
      have hHZ3_10_0 := (blk_cell HZ3_10.out 0).trans rfl
      have hHZ3_10_1 := (blk_cell HZ3_10.out 1).trans rfl
      have hHZ3_10_2 := (blk_cell HZ3_10.out 2).trans rfl
      go_wp2_with fail
      refine (leap_split.callsC A8 (c3 - (1 : Int).toNat) ya x1 x2 _ HRa_10.out HCa.out HSP.out).mono ?_
      rintro e w11 ⟨A6, c6, rfl, hC6, hc6, hB11⟩
      clear hHZ1_10_0 hHZ1_10_1 hHZ1_10_2 hHZ1_10_3 hHZ1_10_4 hHZ3_10_0 hHZ3_10_1 hHZ3_10_2
      have HB11 := Aside0.mk (below_step HB10.out hB11)
      have HZ0_11 := Aside0.mk (blk_below HZ0_10.out hB11)
      have HZ1_11 := Aside0.mk (blk_below HZ1_10.out hB11)
      have HZ2_11 := Aside0.mk (blk_below HZ2_10.out hB11)
      have HZ3_11 := Aside0.mk (blk_below HZ3_10.out hB11)
      have HRl_11 := Aside0.mk (Kd.C_below HRl_10.out hB11)
      have HRr_11 := Aside0.mk (Kd.C_below HRr_10.out hB11)
      have HRa_11 := Aside0.mk (Kd.C_below HRa_10.out hB11)
      have HRb_11 := Aside0.mk (Kd.C_below HRb_10.out hB11)
      clear HB10 HZ0_10 HZ1_10 HZ2_10 HZ3_10 HRl_10 HRr_10 HRa_10 HRb_10
      have HRs_11 := Aside0.mk hC6
      have HCs := Aside0.mk hc6
      clear hB11 hC6 hc6 HSP
      have hHZ1_11_0 := (blk_cell HZ1_11.out 0).trans rfl
      have hHZ1_11_1 := (blk_cell HZ1_11.out 1).trans rfl
      have hHZ1_11_2 := (blk_cell HZ1_11.out 2).trans rfl
      have hHZ1_11_3 := (blk_cell HZ1_11.out 3).trans rfl
      have hHZ1_11_4 := (blk_cell HZ1_11.out 4).trans rfl
      have hHZ3_11_0 := (blk_cell HZ3_11.out 0).trans rfl
      have hHZ3_11_1 := (blk_cell HZ3_11.out 1).trans rfl
      have hHZ3_11_2 := (blk_cell HZ3_11.out 2).trans rfl
      have e1 := EM.out
      have e2 := E2.out
      have e3 := (i64_w _).trans e1
      have e4 := (i64_w _).trans e2
      have hbO := (below_alloc (Below.refl w11.heap.size w11) (.cells #[.int .i64 f2, .int .i64 r2, .int .i64 x1, .slice A5 bh.length c5, .slice A6 x2.length c6] 27))
      have HO_12 := Aside0.mk (blk_new w11 (.cells #[.int .i64 f2, .int .i64 r2, .int .i64 x1, .slice A5 bh.length c5, .slice A6 x2.length c6] 27))
      have hr31 := (blk_cell (blk_below HZ3_11.out hbO) 1).trans rfl
      have hw3 := (blk_cell HO_12.out 3).trans rfl
      have hv3 := blk_frozen HO_12.out 3
      have hw4 := (blk_cell HO_12.out 4).trans rfl
      have hv4 := blk_frozen HO_12.out 4
      go_wp2_with fail
      clear HO_12 hbO hr31 e1 e2 e3 e4 hw3 hv3 hw4 hv4
      clear hHZ1_11_0 hHZ1_11_1 hHZ1_11_2 hHZ1_11_3 hHZ1_11_4 hHZ3_11_0 hHZ3_11_1 hHZ3_11_2
      obtain ⟨w12, hW12⟩ : ∃ W : World, w11.alloc (.cells #[.int .i64 f2, .int .i64 r2, .int .i64 x1, .slice A6 x2.length c6, .slice A5 bh.length c5] 27) = W := ⟨_, rfl⟩
      have hb12 : Below w11.heap.size w11 w12 := by rw [← hW12]; exact below_alloc (Below.refl _ _) _
      have HO_12 := Aside0.mk (show w12.heap[w11.heap.size]? = some (.cells #[.int .i64 f2, .int .i64 r2, .int .i64 x1, .slice A6 x2.length c6, .slice A5 bh.length c5] 27 (0, 0)) from by rw [← hW12]; exact blk_new w11 (.cells #[.int .i64 f2, .int .i64 r2, .int .i64 x1, .slice A6 x2.length c6, .slice A5 bh.length c5] 27))
      obtain ⟨z7, hz7⟩ : ∃ z, w11.heap.size = z := ⟨_, rfl⟩
      have HZ7 := Aside0.mk (show w.heap.size ≤ z7 ∧ z2 < z7 ∧ z7 < w12.heap.size from ⟨hz7 ▸ HB11.out.size, hz7 ▸ blk_lt HZ2_11.out, hz7 ▸ blk_lt HO_12.out⟩)
      have HB12 := Aside0.mk (below_step HB11.out hb12)
      have HZ0_12 := Aside0.mk (blk_below HZ0_11.out hb12)
      have HZ1_12 := Aside0.mk (blk_below HZ1_11.out hb12)
      have HZ2_12 := Aside0.mk (blk_below HZ2_11.out hb12)
      have HZ3_12 := Aside0.mk (blk_below HZ3_11.out hb12)
      have HRl_12 := Aside0.mk (Kd.C_below HRl_11.out hb12)
      have HRr_12 := Aside0.mk (Kd.C_below HRr_11.out hb12)
      have HRa_12 := Aside0.mk (Kd.C_below HRa_11.out hb12)
      have HRb_12 := Aside0.mk (Kd.C_below HRb_11.out hb12)
      have HRs_12 := Aside0.mk (Kd.C_below HRs_11.out hb12)
      clear HB11 HZ0_11 HZ1_11 HZ2_11 HZ3_11 HRl_11 HRr_11 HRa_11 HRb_11 HRs_11
      rw [hW12]
      rw [hz7] at HO_12 ⊢
      clear hW12 hb12 hz7
      have ho3 := (blk_cell HO_12.out 3).trans rfl
      have ho4 := (blk_cell HO_12.out 4).trans rfl
      refine start_ (n := 10) (S := fun w' => w'.cell? ⟨z7, 3, none⟩ = some (.slice A6 x2.length c6) ∧ w'.cell? ⟨z7, 4, none⟩ = some (.slice A5 bh.length c5)) (ds := [7, 9]) #[false, false, false, false, false, false, false, false, false, false] (by kernel_rfl) rfl rfl ⟨ho3, ho4⟩ (fun hHeld => ?_)
      refine pure_ (i := 0) (N := some 101) (v := ?_) (a' := ?_) #[true, false, false, false, false, false, false, false, false, false] rfl rfl (by kernel_rfl) (fun _ _ _ h => h) (Or.inl ⟨by rfl, ?_⟩) ?_ ?_
      rotate_left
      · intro w'
        go_simp
        with_reducible rfl
      rotate_left
      · simp only [Act.put, List.setIfInBounds_toArray, List.set_cons_zero, List.set_cons_succ, i64_w, i32_w]
        rfl
      refine pure_ (i := 3) (N := some 104) (v := ?_) (a' := ?_) #[true, false, false, true, false, false, false, false, false, false] rfl rfl (by kernel_rfl) (fun _ _ _ h => h) (Or.inl ⟨by rfl, ?_⟩) ?_ ?_
      rotate_left
      · intro w'
        go_simp
        with_reducible rfl
      rotate_left
      · simp only [Act.put, List.setIfInBounds_toArray, List.set_cons_zero, List.set_cons_succ, i64_w, i32_w]
        rfl
      refine take_ (i := 1) (N := some 102) (v := ?_) (a' := ?_) #[true, true, false, true, false, false, false, false, false, false] rfl rfl (by kernel_rfl) (fun _ _ _ h => h) (Or.inl ⟨by rfl, ?_⟩) hHeld ?_ ?_
      rotate_left
      · rintro w' ⟨s0, s1⟩
        go_simp
        with_reducible rfl
      rotate_left
      · simp only [Act.put, List.setIfInBounds_toArray, List.set_cons_zero, List.set_cons_succ, i64_w, i32_w]
        rfl
      refine take_ (i := 4) (N := some 105) (v := ?_) (a' := ?_) #[true, true, false, true, true, false, false, false, false, false] rfl rfl (by kernel_rfl) (fun _ _ _ h => h) (Or.inl ⟨by rfl, ?_⟩) hHeld ?_ ?_
      rotate_left
      · rintro w' ⟨s0, s1⟩
        go_simp
        with_reducible rfl
      rotate_left
      · simp only [Act.put, List.setIfInBounds_toArray, List.set_cons_zero, List.set_cons_succ, i64_w, i32_w]
        rfl
      refine one_ (i := 2) (N := some 103) #[true, true, true, true, true, false, false, false, false, false] rfl rfl (by kernel_rfl) (by decide) (fun K hK => ?_)
      refine goes_ Try.func57 (by kernel_rfl) rfl #[.slice A6 x2.length c6] (by rfl) rfl rfl (by simp only [List.map_toArray, List.map_cons, List.map_nil]; rfl) ?_
      with_reducible refine (api_Run.calls A6 c6 x2 x2 w12.drew (Kd.C_below HRs_12.out (show Below w12.heap.size w12 w12.drew from bk_ (Below.refl _ _))) HCs.out (clone_ok _ (by have := KL.out; omega))).mono ?_
      rintro e w13 ⟨v13, rfl, ho13, hB13⟩
      refine ⟨_, rfl, ?_⟩
      obtain ⟨A13, c13, rfl⟩ := Kd.R_slice ho13
      have HE13 := Aside0.mk (below_step (bk_ (Below.refl w12.heap.size w12)) hB13)
      have HG13 := Aside0.mk ho13
      have HL13 := Aside0.mk (Kd.R_lt ho13)
      clear ho13 hB13
      refine hK.out _ _ ⟨(lf_ HE13.out ho3), (lf_ HE13.out ho4)⟩ (fun hHeld => ?_)
      clear hK K
      refine norm_ (a' := ?_) ?_ ?_
      rotate_left
      · show Act.put _ (some 103) _ = _
        simp only [Act.put, List.setIfInBounds_toArray, List.set_cons_zero, List.set_cons_succ, i64_w, i32_w]
        rfl
      refine pure_ (i := 6) (N := some 107) (v := ?_) (a' := ?_) #[true, true, true, true, true, false, true, false, false, false] rfl rfl (by kernel_rfl) (fun _ _ _ h => h) (Or.inl ⟨by rfl, ?_⟩) ?_ ?_
      rotate_left
      · intro w'
        go_simp
        with_reducible rfl
      rotate_left
      · simp only [Act.put, List.setIfInBounds_toArray, List.set_cons_zero, List.set_cons_succ, i64_w, i32_w]
        rfl
      refine one_ (i := 5) (N := some 106) #[true, true, true, true, true, true, true, false, false, false] rfl rfl (by kernel_rfl) (by decide) (fun K hK => ?_)
      refine goes_ Try.func57 (by kernel_rfl) rfl #[.slice A5 bh.length c5] (by rfl) rfl rfl (by simp only [List.map_toArray, List.map_cons, List.map_nil]; rfl) ?_
      with_reducible refine (api_Run.calls A5 c5 bh bh w13 (Kd.C_below HRb_12.out HE13.out) HCb.out (clone_ok _ (by have := KL.out; omega))).mono ?_
      rintro e w14 ⟨v14, rfl, ho14, hB14⟩
      refine ⟨_, rfl, ?_⟩
      obtain ⟨A14, c14, rfl⟩ := Kd.R_slice ho14
      have HE14 := Aside0.mk (below_step HE13.out hB14)
      have HG14 := Aside0.mk ho14
      have HL14 := Aside0.mk (Kd.R_base ho14)
      have HG13 := Aside0.mk (Kd.R_below HG13.out hB14)
      clear ho14 hB14
      refine hK.out _ _ ⟨(lf_ HE14.out ho3), (lf_ HE14.out ho4)⟩ (fun hHeld => ?_)
      clear hK K
      refine norm_ (a' := ?_) ?_ ?_
      rotate_left
      · show Act.put _ (some 106) _ = _
        simp only [Act.put, List.setIfInBounds_toArray, List.set_cons_zero, List.set_cons_succ, i64_w, i32_w]
        rfl
      refine last_ (i := 7) (N := none) #[true, true, true, true, true, true, true, true, false, false] rfl rfl (by kernel_rfl) (by decide) (fun K hK => ?_)
      have hz14 := blk_below HO_12.out HE14.out
      have hc3_ := (blk_cell hz14 3).trans rfl
      have hf3_ := blk_frozen hz14 3
      refine skip_ (w1 := ?_) (by rfl) rfl ?_ ?_
      rotate_left
      · go_simp
        rfl
      refine hK.out _ _ ?_
      clear hK K
      refine pure_ (i := 8) (N := some 108) (v := ?_) (a' := ?_) #[true, true, true, true, true, true, true, true, true, false] rfl rfl (by kernel_rfl) (fun _ _ _ h => h) (Or.inl ⟨by rfl, ?_⟩) ?_ ?_
      rotate_left
      · intro w'
        go_simp
        with_reducible rfl
      rotate_left
      · simp only [Act.put, List.setIfInBounds_toArray, List.set_cons_zero, List.set_cons_succ, i64_w, i32_w]
        rfl
      refine last_ (i := 9) (N := none) #[true, true, true, true, true, true, true, true, true, true] rfl rfl (by kernel_rfl) (by decide) (fun K hK => ?_)
      have hz14 := blk_put (blk_below HO_12.out HE14.out) 3 (.slice A13 x2.length c13) rfl
      have hc4_ := (blk_cell hz14 4).trans rfl
      have hf4_ := blk_frozen hz14 4
      refine skip_ (w1 := ?_) (by rfl) rfl ?_ ?_
      rotate_left
      · go_simp
        rfl
      refine hK.out _ _ ?_
      clear hK K
      refine done_ (by kernel_rfl) ?_
      obtain ⟨w15, hW15⟩ : ∃ W : World, (w14.setCell ⟨z7, 3, none⟩ (.slice A13 x2.length c13)).setCell ⟨z7, 4, none⟩ (.slice A14 bh.length c14) = W := ⟨_, rfl⟩
      have HO_15 := Aside0.mk (show w15.heap[z7]? = some (.cells #[.int .i64 f2, .int .i64 r2, .int .i64 x1, .slice A13 x2.length c13, .slice A14 bh.length c14] 27 (0, 0)) from by rw [← hW15]; exact blk_put (blk_put (blk_below HO_12.out HE14.out) 3 _ rfl) 4 _ rfl)
      have HZ2_15 := Aside0.mk (show w15.heap[z2]? = some (.cells #[.int .i64 0, .int .i64 0, .int .i64 0, .slice none 0 0, .slice none 0 0] 27 (0, 0)) from by rw [← hW15]; exact blk_far (p := ⟨z7, 4, none⟩) (blk_far (p := ⟨z7, 3, none⟩) (blk_below HZ2_12.out HE14.out) (by have := HZ7.out; show z2 ≠ z7; omega) _) (by have := HZ7.out; show z2 ≠ z7; omega) _)
      have HG13 := Aside0.mk (show Kd.R k75 75 w15 w12.drew.heap.size (fun _ => True) (.slice A13 x2.length c13) x2 from by rw [← hW15]; exact rfar_ (rfar_ HG13.out ⟨z7, 3, none⟩ (by have := HZ7.out; exact this.2.2) _) ⟨z7, 4, none⟩ (by have := HZ7.out; exact this.2.2) _)
      have HG14 := Aside0.mk (show Kd.R k75 75 w15 w13.heap.size (fun _ => True) (.slice A14 bh.length c14) bh from by rw [← hW15]; exact rfar_ (rfar_ HG14.out ⟨z7, 3, none⟩ (by have h1 := HZ7.out; have h2 := HE13.out.size; show z7 < _; omega) _) ⟨z7, 4, none⟩ (by have h1 := HZ7.out; have h2 := HE13.out.size; show z7 < _; omega) _)
      have HB15 := Aside0.mk (show Below w.heap.size w w15 from by rw [← hW15]; exact ((below_step HB12.out HE14.out).setCell (p := ⟨z7, 3, none⟩) HZ7.out.1 _).setCell (p := ⟨z7, 4, none⟩) HZ7.out.1 _)
      try rw [hW15]
      clear hW15 ho3 ho4 HO_12 HE14
      have hr0 := (blk_cell HZ2_15.out 0).trans rfl
      have ht0 := blk_frozen HZ2_15.out 0
      have hs0 := (blk_cell HO_15.out 0).trans rfl
      have hr1 := (blk_cell HZ2_15.out 1).trans rfl
      have ht1 := blk_frozen HZ2_15.out 1
      have hs1 := (blk_cell HO_15.out 1).trans rfl
      have hr2 := (blk_cell HZ2_15.out 2).trans rfl
      have ht2 := blk_frozen HZ2_15.out 2
      have hs2 := (blk_cell HO_15.out 2).trans rfl
      have hr3 := (blk_cell HZ2_15.out 3).trans rfl
      have ht3 := blk_frozen HZ2_15.out 3
      have hs3 := (blk_cell HO_15.out 3).trans rfl
      have hr4 := (blk_cell HZ2_15.out 4).trans rfl
      have ht4 := blk_frozen HZ2_15.out 4
      have hs4 := (blk_cell HO_15.out 4).trans rfl
      go_wp2_with fail
      refine bodyPost_ret (results_list (rs := [.cell 4 27, .tmp 5, .tmp 6]) (vs := [.agg #[.int .i64 f2, .int .i64 r2, .int .i64 x1, .slice A13 x2.length c13, .slice A14 bh.length c14], .int .i64 kst, .bool false]) rfl (by simp) ?_) rfl ?_
      · refine Vals.cell z2 27 _ (0, 0) _ rfl ?_ Try.underlying27 rfl rfl (Vals.tmp (Vals.tmp Vals.nil))
        exact blk_put (blk_put (blk_put (blk_put (blk_put HZ2_15.out 0 _ rfl) 1 _ rfl) 2 _ rfl) 3 _ rfl) 4 _ rfl
      · have HF : w.heap.size ≤ z2 := by have := HZE.out; omega
        have HY : z2 < w12.drew.heap.size := by have h1 := HZ7.out; show z2 < w12.heap.size; omega
        have HY2 : z2 < w13.heap.size := by have h1 := HZ7.out; have h2 := HE13.out.size; omega
        have HBF := (((((HB15.out.setCell (p := ⟨z2, 0, none⟩) HF (.int .i64 f2)).setCell (p := ⟨z2, 1, none⟩) HF (.int .i64 r2)).setCell (p := ⟨z2, 2, none⟩) HF (.int .i64 x1)).setCell (p := ⟨z2, 3, none⟩) HF (.slice A13 x2.length c13)).setCell (p := ⟨z2, 4, none⟩) HF (.slice A14 bh.length c14))
        have q3 := (rfar_ (rfar_ (rfar_ (rfar_ (rfar_ HG13.out ⟨z2, 0, none⟩ HY (.int .i64 f2)) ⟨z2, 1, none⟩ HY (.int .i64 r2)) ⟨z2, 2, none⟩ HY (.int .i64 x1)) ⟨z2, 3, none⟩ HY (.slice A13 x2.length c13)) ⟨z2, 4, none⟩ HY (.slice A14 bh.length c14))
        have q4 := (rfar_ (rfar_ (rfar_ (rfar_ (rfar_ HG14.out ⟨z2, 0, none⟩ HY2 (.int .i64 f2)) ⟨z2, 1, none⟩ HY2 (.int .i64 r2)) ⟨z2, 2, none⟩ HY2 (.int .i64 x1)) ⟨z2, 3, none⟩ HY2 (.slice A13 x2.length c13)) ⟨z2, 4, none⟩ HY2 (.slice A14 bh.length c14))
        exact ⟨A13, c13, A14, c14, rfl, ⟨Kd.R_lower q3 (by have h1 := HZ7.out; show w.heap.size ≤ w12.heap.size; omega), Kd.R_lower q4 (by have h1 := HZ7.out; have h2 := HE13.out.size; omega), fun k hk he => by have h1 := HL13.out k hk; have h2 := HL14.out k he; omega⟩, HBF⟩
    have k7 : ((lf.length : Int) == 0) = false := beq_eq_false_iff_ne.mpr kz
    have hl0 := Aside0.mk (show 0 < lf.length by omega)
    have q0 : (0 < lf.length) = True := eq_true hl0.out
    have q1 : decide (0 < lf.length) = true := decide_eq_true hl0.out
    have q2 : ((0 : Int) < (lf.length : Int)) = True := eq_true (by omega)
    have q3 : decide ((0 : Int) < (lf.length : Int)) = true := decide_eq_true (by omega)
    have e : leap_ahead f2 st sy lf = some (1, lf) := by unfold leap_ahead; rw [if_pos ke, if_neg (fun hh => kz hh.1), if_neg (fun hh => ks hh.2)]
    rw [e] at H2_
    have k8 : ((rd_T75 lf 0).f0 == sy) = false := beq_eq_false_iff_ne.mpr ks
    have k6 : (f2 == st) = true := beq_iff_eq.mpr ke
    obtain ⟨ad_, e_, hx0, hx1⟩ := at_T75 HRl_2.out 0 (by omega) (by have := hl0.out; omega)
    cases e_
    try rw [show ((0 : Int)).toNat = 0 from rfl] at hx0 hx1
    try rw [show 0 * 2 = 0 from rfl] at hx0 hx1
    try rw [Addr.add_zero'] at hx0
    try rw [Addr.add_zero'] at hx1
    have H := Aside0.mk H2_
    clear H2_ e ke kz ks
    go_wp2_with fail
    go_quiet (fail)
    clear hHZ1_2_0 hHZ1_2_1 hHZ1_2_2 hHZ1_2_3 hHZ1_2_4 hHZ3_2_0 hHZ3_2_1 hHZ3_2_2
    obtain ⟨w3, hW3⟩ : ∃ W : World, w2.drewN nq = W := ⟨_, rfl⟩
    have hb3 : Below w2.heap.size w2 w3 := by rw [← hW3]; exact pw_below_drewN (Below.refl _ _) _
    have HB3 := Aside0.mk (below_step HB2.out hb3)
    have HZ0_3 := Aside0.mk (blk_below HZ0_2.out hb3)
    have HZ1_3 := Aside0.mk (blk_below HZ1_2.out hb3)
    have HZ2_3 := Aside0.mk (blk_below HZ2_2.out hb3)
    have HZ3_3 := Aside0.mk (blk_below HZ3_2.out hb3)
    have HRl_3 := Aside0.mk (Kd.C_below HRl_2.out hb3)
    have HRr_3 := Aside0.mk (Kd.C_below HRr_2.out hb3)
    clear HB2 HZ0_2 HZ1_2 HZ2_2 HZ3_2 HRl_2 HRr_2
    rw [hW3]
    clear hW3 hb3
    have hHZ1_3_0 := (blk_cell HZ1_3.out 0).trans rfl
    have hHZ1_3_1 := (blk_cell HZ1_3.out 1).trans rfl
    have hHZ1_3_2 := (blk_cell HZ1_3.out 2).trans rfl
    have hHZ1_3_3 := (blk_cell HZ1_3.out 3).trans rfl
    have hHZ1_3_4 := (blk_cell HZ1_3.out 4).trans rfl
    have hHZ3_3_0 := (blk_cell HZ3_3.out 0).trans rfl
    have hHZ3_3_1 := (blk_cell HZ3_3.out 1).trans rfl
    have hHZ3_3_2 := (blk_cell HZ3_3.out 2).trans rfl
    clear hx0 hx1
    obtain ⟨ad_, e_, hx0, hx1⟩ := at_T75 HRl_3.out 0 (by omega) (by have := hl0.out; omega)
    cases e_
    try rw [show ((0 : Int)).toNat = 0 from rfl] at hx0 hx1
    try rw [show 0 * 2 = 0 from rfl] at hx0 hx1
    try rw [Addr.add_zero'] at hx0
    try rw [Addr.add_zero'] at hx1
    go_wp2_with fail
    go_quiet (fail)
    clear hHZ1_3_0 hHZ1_3_1 hHZ1_3_2 hHZ1_3_3 hHZ1_3_4 hHZ3_3_0 hHZ3_3_1 hHZ3_3_2
    obtain ⟨w4, hW4⟩ : ∃ W : World, w3.drewN nq = W := ⟨_, rfl⟩
    have hb4 : Below w3.heap.size w3 w4 := by rw [← hW4]; exact pw_below_drewN (Below.refl _ _) _
    have HB4 := Aside0.mk (below_step HB3.out hb4)
    have HZ0_4 := Aside0.mk (blk_below HZ0_3.out hb4)
    have HZ1_4 := Aside0.mk (blk_below HZ1_3.out hb4)
    have HZ2_4 := Aside0.mk (blk_below HZ2_3.out hb4)
    have HZ3_4 := Aside0.mk (blk_below HZ3_3.out hb4)
    have HRl_4 := Aside0.mk (Kd.C_below HRl_3.out hb4)
    have HRr_4 := Aside0.mk (Kd.C_below HRr_3.out hb4)
    clear HB3 HZ0_3 HZ1_3 HZ2_3 HZ3_3 HRl_3 HRr_3
    rw [hW4]
    clear hW4 hb4
    have hHZ1_4_0 := (blk_cell HZ1_4.out 0).trans rfl
    have hHZ1_4_1 := (blk_cell HZ1_4.out 1).trans rfl
    have hHZ1_4_2 := (blk_cell HZ1_4.out 2).trans rfl
    have hHZ1_4_3 := (blk_cell HZ1_4.out 3).trans rfl
    have hHZ1_4_4 := (blk_cell HZ1_4.out 4).trans rfl
    have hHZ3_4_0 := (blk_cell HZ3_4.out 0).trans rfl
    have hHZ3_4_1 := (blk_cell HZ3_4.out 1).trans rfl
    have hHZ3_4_2 := (blk_cell HZ3_4.out 2).trans rfl
    go_wp2_with fail
    have h := H.out
    clear H
    try simp only at h
    obtain ⟨bh, hbh, h1⟩ := Option.bind_eq_some_iff.1 h
    obtain ⟨⟨x1, x2⟩, hsp, h2⟩ := Option.bind_eq_some_iff.1 h1
    try simp only at h2
    by_cases kl : bh.length < 8000000000000 ∧ x2.length < 8000000000000
    rotate_left
    · rw [if_neg kl] at h2
      cases h2
    rw [if_pos kl] at h2
    simp only [Option.some.injEq, Prod.mk.injEq] at h2
    obtain ⟨e1, e2, e3, e4, e5, e6, e7⟩ := h2
    subst e1 e3 e4 e5 e6 e7
    obtain ⟨mv, hmv⟩ : ∃ m, wrap64 (f1 * 1) = m := ⟨_, rfl⟩
    rw [hmv] at e2
    have E2 := Aside0.mk e2
    have EM := Aside0.mk hmv
    have KL := Aside0.mk kl
    have HBH := Aside0.mk hbh
    have HSP := Aside0.mk hsp
    clear h h1 hbh hsp kl e2 hmv
    refine (leap_before.callsC f0 1 A4 c4 rt bh _ HRr_4.out HC4.out HBH.out).mono ?_
    rintro e w10 ⟨A5, c5, rfl, hC5, hc5, hB10⟩
    clear hHZ1_4_0 hHZ1_4_1 hHZ1_4_2 hHZ1_4_3 hHZ1_4_4 hHZ3_4_0 hHZ3_4_1 hHZ3_4_2
    have HB10 := Aside0.mk (below_step HB4.out hB10)
    have HZ0_10 := Aside0.mk (blk_below HZ0_4.out hB10)
    have HZ1_10 := Aside0.mk (blk_below HZ1_4.out hB10)
    have HZ2_10 := Aside0.mk (blk_below HZ2_4.out hB10)
    have HZ3_10 := Aside0.mk (blk_below HZ3_4.out hB10)
    have HRl_10 := Aside0.mk (Kd.C_below HRl_4.out hB10)
    have HRr_10 := Aside0.mk (Kd.C_below HRr_4.out hB10)
    clear HB4 HZ0_4 HZ1_4 HZ2_4 HZ3_4 HRl_4 HRr_4
    have HRb_10 := Aside0.mk hC5
    have HCb := Aside0.mk hc5
    clear hB10 hC5 hc5 HBH
    have hHZ1_10_0 := (blk_cell HZ1_10.out 0).trans rfl
    have hHZ1_10_1 := (blk_cell HZ1_10.out 1).trans rfl
    have hHZ1_10_2 := (blk_cell HZ1_10.out 2).trans rfl
    have hHZ1_10_3 := (blk_cell HZ1_10.out 3).trans rfl
    have hHZ1_10_4 := (blk_cell HZ1_10.out 4).trans rfl
    have hHZ3_10_0 := (blk_cell HZ3_10.out 0).trans rfl
    have hHZ3_10_1 := (blk_cell HZ3_10.out 1).trans rfl
    have hHZ3_10_2 := (blk_cell HZ3_10.out 2).trans rfl
    go_wp2_with fail
    refine (leap_split.callsC (some ad_) c3 lf x1 x2 _ HRl_10.out HC3.out HSP.out).mono ?_
    rintro e w11 ⟨A6, c6, rfl, hC6, hc6, hB11⟩
    clear hHZ1_10_0 hHZ1_10_1 hHZ1_10_2 hHZ1_10_3 hHZ1_10_4 hHZ3_10_0 hHZ3_10_1 hHZ3_10_2
    have HB11 := Aside0.mk (below_step HB10.out hB11)
    have HZ0_11 := Aside0.mk (blk_below HZ0_10.out hB11)
    have HZ1_11 := Aside0.mk (blk_below HZ1_10.out hB11)
    have HZ2_11 := Aside0.mk (blk_below HZ2_10.out hB11)
    have HZ3_11 := Aside0.mk (blk_below HZ3_10.out hB11)
    have HRl_11 := Aside0.mk (Kd.C_below HRl_10.out hB11)
    have HRr_11 := Aside0.mk (Kd.C_below HRr_10.out hB11)
    have HRb_11 := Aside0.mk (Kd.C_below HRb_10.out hB11)
    clear HB10 HZ0_10 HZ1_10 HZ2_10 HZ3_10 HRl_10 HRr_10 HRb_10
    have HRs_11 := Aside0.mk hC6
    have HCs := Aside0.mk hc6
    clear hB11 hC6 hc6 HSP
    have hHZ1_11_0 := (blk_cell HZ1_11.out 0).trans rfl
    have hHZ1_11_1 := (blk_cell HZ1_11.out 1).trans rfl
    have hHZ1_11_2 := (blk_cell HZ1_11.out 2).trans rfl
    have hHZ1_11_3 := (blk_cell HZ1_11.out 3).trans rfl
    have hHZ1_11_4 := (blk_cell HZ1_11.out 4).trans rfl
    have hHZ3_11_0 := (blk_cell HZ3_11.out 0).trans rfl
    have hHZ3_11_1 := (blk_cell HZ3_11.out 1).trans rfl
    have hHZ3_11_2 := (blk_cell HZ3_11.out 2).trans rfl
    have e1 := EM.out
    have e2 := E2.out
    have e3 := (i64_w _).trans e1
    have e4 := (i64_w _).trans e2
    have e5 : wrap64 f1 = mv := by rw [← e1, Int.mul_one]
    have e6 : IntKind.i64.wrap f1 = mv := (i64_w _).trans e5
    have hbO := (below_alloc (Below.refl w11.heap.size w11) (.cells #[.int .i64 f2, .int .i64 r2, .int .i64 x1, .slice A5 bh.length c5, .slice A6 x2.length c6] 27))
    have HO_12 := Aside0.mk (blk_new w11 (.cells #[.int .i64 f2, .int .i64 r2, .int .i64 x1, .slice A5 bh.length c5, .slice A6 x2.length c6] 27))
    have hr31 := (blk_cell (blk_below HZ3_11.out hbO) 1).trans rfl
    have hw3 := (blk_cell HO_12.out 3).trans rfl
    have hv3 := blk_frozen HO_12.out 3
    have hw4 := (blk_cell HO_12.out 4).trans rfl
    have hv4 := blk_frozen HO_12.out 4
    go_wp2_with fail
    clear HO_12 hbO hr31 e1 e2 e3 e4 e5 e6 hw3 hv3 hw4 hv4
    clear hHZ1_11_0 hHZ1_11_1 hHZ1_11_2 hHZ1_11_3 hHZ1_11_4 hHZ3_11_0 hHZ3_11_1 hHZ3_11_2
    obtain ⟨w12, hW12⟩ : ∃ W : World, w11.alloc (.cells #[.int .i64 f2, .int .i64 r2, .int .i64 x1, .slice A6 x2.length c6, .slice A5 bh.length c5] 27) = W := ⟨_, rfl⟩
    have hb12 : Below w11.heap.size w11 w12 := by rw [← hW12]; exact below_alloc (Below.refl _ _) _
    have HO_12 := Aside0.mk (show w12.heap[w11.heap.size]? = some (.cells #[.int .i64 f2, .int .i64 r2, .int .i64 x1, .slice A6 x2.length c6, .slice A5 bh.length c5] 27 (0, 0)) from by rw [← hW12]; exact blk_new w11 (.cells #[.int .i64 f2, .int .i64 r2, .int .i64 x1, .slice A6 x2.length c6, .slice A5 bh.length c5] 27))
    obtain ⟨z7, hz7⟩ : ∃ z, w11.heap.size = z := ⟨_, rfl⟩
    have HZ7 := Aside0.mk (show w.heap.size ≤ z7 ∧ z2 < z7 ∧ z7 < w12.heap.size from ⟨hz7 ▸ HB11.out.size, hz7 ▸ blk_lt HZ2_11.out, hz7 ▸ blk_lt HO_12.out⟩)
    have HB12 := Aside0.mk (below_step HB11.out hb12)
    have HZ0_12 := Aside0.mk (blk_below HZ0_11.out hb12)
    have HZ1_12 := Aside0.mk (blk_below HZ1_11.out hb12)
    have HZ2_12 := Aside0.mk (blk_below HZ2_11.out hb12)
    have HZ3_12 := Aside0.mk (blk_below HZ3_11.out hb12)
    have HRl_12 := Aside0.mk (Kd.C_below HRl_11.out hb12)
    have HRr_12 := Aside0.mk (Kd.C_below HRr_11.out hb12)
    have HRb_12 := Aside0.mk (Kd.C_below HRb_11.out hb12)
    have HRs_12 := Aside0.mk (Kd.C_below HRs_11.out hb12)
    clear HB11 HZ0_11 HZ1_11 HZ2_11 HZ3_11 HRl_11 HRr_11 HRb_11 HRs_11
    rw [hW12]
    rw [hz7] at HO_12 ⊢
    clear hW12 hb12 hz7
    have ho3 := (blk_cell HO_12.out 3).trans rfl
    have ho4 := (blk_cell HO_12.out 4).trans rfl
    refine start_ (n := 10) (S := fun w' => w'.cell? ⟨z7, 3, none⟩ = some (.slice A6 x2.length c6) ∧ w'.cell? ⟨z7, 4, none⟩ = some (.slice A5 bh.length c5)) (ds := [7, 9]) #[false, false, false, false, false, false, false, false, false, false] (by kernel_rfl) rfl rfl ⟨ho3, ho4⟩ (fun hHeld => ?_)
    refine pure_ (i := 0) (N := some 101) (v := ?_) (a' := ?_) #[true, false, false, false, false, false, false, false, false, false] rfl rfl (by kernel_rfl) (fun _ _ _ h => h) (Or.inl ⟨by rfl, ?_⟩) ?_ ?_
    rotate_left
    · intro w'
      go_simp
      with_reducible rfl
    rotate_left
    · simp only [Act.put, List.setIfInBounds_toArray, List.set_cons_zero, List.set_cons_succ, i64_w, i32_w]
      rfl
    refine pure_ (i := 3) (N := some 104) (v := ?_) (a' := ?_) #[true, false, false, true, false, false, false, false, false, false] rfl rfl (by kernel_rfl) (fun _ _ _ h => h) (Or.inl ⟨by rfl, ?_⟩) ?_ ?_
    rotate_left
    · intro w'
      go_simp
      with_reducible rfl
    rotate_left
    · simp only [Act.put, List.setIfInBounds_toArray, List.set_cons_zero, List.set_cons_succ, i64_w, i32_w]
      rfl
    refine take_ (i := 1) (N := some 102) (v := ?_) (a' := ?_) #[true, true, false, true, false, false, false, false, false, false] rfl rfl (by kernel_rfl) (fun _ _ _ h => h) (Or.inl ⟨by rfl, ?_⟩) hHeld ?_ ?_
    rotate_left
    · rintro w' ⟨s0, s1⟩
      go_simp
      with_reducible rfl
    rotate_left
    · simp only [Act.put, List.setIfInBounds_toArray, List.set_cons_zero, List.set_cons_succ, i64_w, i32_w]
      rfl
    refine take_ (i := 4) (N := some 105) (v := ?_) (a' := ?_) #[true, true, false, true, true, false, false, false, false, false] rfl rfl (by kernel_rfl) (fun _ _ _ h => h) (Or.inl ⟨by rfl, ?_⟩) hHeld ?_ ?_
    rotate_left
    · rintro w' ⟨s0, s1⟩
      go_simp
      with_reducible rfl
    rotate_left
    · simp only [Act.put, List.setIfInBounds_toArray, List.set_cons_zero, List.set_cons_succ, i64_w, i32_w]
      rfl
    refine one_ (i := 2) (N := some 103) #[true, true, true, true, true, false, false, false, false, false] rfl rfl (by kernel_rfl) (by decide) (fun K hK => ?_)
    refine goes_ Try.func57 (by kernel_rfl) rfl #[.slice A6 x2.length c6] (by rfl) rfl rfl (by simp only [List.map_toArray, List.map_cons, List.map_nil]; rfl) ?_
    with_reducible refine (api_Run.calls A6 c6 x2 x2 w12.drew (Kd.C_below HRs_12.out (show Below w12.heap.size w12 w12.drew from bk_ (Below.refl _ _))) HCs.out (clone_ok _ (by have := KL.out; omega))).mono ?_
    rintro e w13 ⟨v13, rfl, ho13, hB13⟩
    refine ⟨_, rfl, ?_⟩
    obtain ⟨A13, c13, rfl⟩ := Kd.R_slice ho13
    have HE13 := Aside0.mk (below_step (bk_ (Below.refl w12.heap.size w12)) hB13)
    have HG13 := Aside0.mk ho13
    have HL13 := Aside0.mk (Kd.R_lt ho13)
    clear ho13 hB13
    refine hK.out _ _ ⟨(lf_ HE13.out ho3), (lf_ HE13.out ho4)⟩ (fun hHeld => ?_)
    clear hK K
    refine norm_ (a' := ?_) ?_ ?_
    rotate_left
    · show Act.put _ (some 103) _ = _
      simp only [Act.put, List.setIfInBounds_toArray, List.set_cons_zero, List.set_cons_succ, i64_w, i32_w]
      rfl
    refine pure_ (i := 6) (N := some 107) (v := ?_) (a' := ?_) #[true, true, true, true, true, false, true, false, false, false] rfl rfl (by kernel_rfl) (fun _ _ _ h => h) (Or.inl ⟨by rfl, ?_⟩) ?_ ?_
    rotate_left
    · intro w'
      go_simp
      with_reducible rfl
    rotate_left
    · simp only [Act.put, List.setIfInBounds_toArray, List.set_cons_zero, List.set_cons_succ, i64_w, i32_w]
      rfl
    refine one_ (i := 5) (N := some 106) #[true, true, true, true, true, true, true, false, false, false] rfl rfl (by kernel_rfl) (by decide) (fun K hK => ?_)
    refine goes_ Try.func57 (by kernel_rfl) rfl #[.slice A5 bh.length c5] (by rfl) rfl rfl (by simp only [List.map_toArray, List.map_cons, List.map_nil]; rfl) ?_
    with_reducible refine (api_Run.calls A5 c5 bh bh w13 (Kd.C_below HRb_12.out HE13.out) HCb.out (clone_ok _ (by have := KL.out; omega))).mono ?_
    rintro e w14 ⟨v14, rfl, ho14, hB14⟩
    refine ⟨_, rfl, ?_⟩
    obtain ⟨A14, c14, rfl⟩ := Kd.R_slice ho14
    have HE14 := Aside0.mk (below_step HE13.out hB14)
    have HG14 := Aside0.mk ho14
    have HL14 := Aside0.mk (Kd.R_base ho14)
    have HG13 := Aside0.mk (Kd.R_below HG13.out hB14)
    clear ho14 hB14
    refine hK.out _ _ ⟨(lf_ HE14.out ho3), (lf_ HE14.out ho4)⟩ (fun hHeld => ?_)
    clear hK K
    refine norm_ (a' := ?_) ?_ ?_
    rotate_left
    · show Act.put _ (some 106) _ = _
      simp only [Act.put, List.setIfInBounds_toArray, List.set_cons_zero, List.set_cons_succ, i64_w, i32_w]
      rfl
    refine last_ (i := 7) (N := none) #[true, true, true, true, true, true, true, true, false, false] rfl rfl (by kernel_rfl) (by decide) (fun K hK => ?_)
    have hz14 := blk_below HO_12.out HE14.out
    have hc3_ := (blk_cell hz14 3).trans rfl
    have hf3_ := blk_frozen hz14 3
    refine skip_ (w1 := ?_) (by rfl) rfl ?_ ?_
    rotate_left
    · go_simp
      rfl
    refine hK.out _ _ ?_
    clear hK K
    refine pure_ (i := 8) (N := some 108) (v := ?_) (a' := ?_) #[true, true, true, true, true, true, true, true, true, false] rfl rfl (by kernel_rfl) (fun _ _ _ h => h) (Or.inl ⟨by rfl, ?_⟩) ?_ ?_
    rotate_left
    · intro w'
      go_simp
      with_reducible rfl
    rotate_left
    · simp only [Act.put, List.setIfInBounds_toArray, List.set_cons_zero, List.set_cons_succ, i64_w, i32_w]
      rfl
    refine last_ (i := 9) (N := none) #[true, true, true, true, true, true, true, true, true, true] rfl rfl (by kernel_rfl) (by decide) (fun K hK => ?_)
    have hz14 := blk_put (blk_below HO_12.out HE14.out) 3 (.slice A13 x2.length c13) rfl
    have hc4_ := (blk_cell hz14 4).trans rfl
    have hf4_ := blk_frozen hz14 4
    refine skip_ (w1 := ?_) (by rfl) rfl ?_ ?_
    rotate_left
    · go_simp
      rfl
    refine hK.out _ _ ?_
    clear hK K
    refine done_ (by kernel_rfl) ?_
    obtain ⟨w15, hW15⟩ : ∃ W : World, (w14.setCell ⟨z7, 3, none⟩ (.slice A13 x2.length c13)).setCell ⟨z7, 4, none⟩ (.slice A14 bh.length c14) = W := ⟨_, rfl⟩
    have HO_15 := Aside0.mk (show w15.heap[z7]? = some (.cells #[.int .i64 f2, .int .i64 r2, .int .i64 x1, .slice A13 x2.length c13, .slice A14 bh.length c14] 27 (0, 0)) from by rw [← hW15]; exact blk_put (blk_put (blk_below HO_12.out HE14.out) 3 _ rfl) 4 _ rfl)
    have HZ2_15 := Aside0.mk (show w15.heap[z2]? = some (.cells #[.int .i64 0, .int .i64 0, .int .i64 0, .slice none 0 0, .slice none 0 0] 27 (0, 0)) from by rw [← hW15]; exact blk_far (p := ⟨z7, 4, none⟩) (blk_far (p := ⟨z7, 3, none⟩) (blk_below HZ2_12.out HE14.out) (by have := HZ7.out; show z2 ≠ z7; omega) _) (by have := HZ7.out; show z2 ≠ z7; omega) _)
    have HG13 := Aside0.mk (show Kd.R k75 75 w15 w12.drew.heap.size (fun _ => True) (.slice A13 x2.length c13) x2 from by rw [← hW15]; exact rfar_ (rfar_ HG13.out ⟨z7, 3, none⟩ (by have := HZ7.out; exact this.2.2) _) ⟨z7, 4, none⟩ (by have := HZ7.out; exact this.2.2) _)
    have HG14 := Aside0.mk (show Kd.R k75 75 w15 w13.heap.size (fun _ => True) (.slice A14 bh.length c14) bh from by rw [← hW15]; exact rfar_ (rfar_ HG14.out ⟨z7, 3, none⟩ (by have h1 := HZ7.out; have h2 := HE13.out.size; show z7 < _; omega) _) ⟨z7, 4, none⟩ (by have h1 := HZ7.out; have h2 := HE13.out.size; show z7 < _; omega) _)
    have HB15 := Aside0.mk (show Below w.heap.size w w15 from by rw [← hW15]; exact ((below_step HB12.out HE14.out).setCell (p := ⟨z7, 3, none⟩) HZ7.out.1 _).setCell (p := ⟨z7, 4, none⟩) HZ7.out.1 _)
    try rw [hW15]
    clear hW15 ho3 ho4 HO_12 HE14
    have hr0 := (blk_cell HZ2_15.out 0).trans rfl
    have ht0 := blk_frozen HZ2_15.out 0
    have hs0 := (blk_cell HO_15.out 0).trans rfl
    have hr1 := (blk_cell HZ2_15.out 1).trans rfl
    have ht1 := blk_frozen HZ2_15.out 1
    have hs1 := (blk_cell HO_15.out 1).trans rfl
    have hr2 := (blk_cell HZ2_15.out 2).trans rfl
    have ht2 := blk_frozen HZ2_15.out 2
    have hs2 := (blk_cell HO_15.out 2).trans rfl
    have hr3 := (blk_cell HZ2_15.out 3).trans rfl
    have ht3 := blk_frozen HZ2_15.out 3
    have hs3 := (blk_cell HO_15.out 3).trans rfl
    have hr4 := (blk_cell HZ2_15.out 4).trans rfl
    have ht4 := blk_frozen HZ2_15.out 4
    have hs4 := (blk_cell HO_15.out 4).trans rfl
    go_wp2_with fail
    refine bodyPost_ret (results_list (rs := [.cell 4 27, .tmp 5, .tmp 6]) (vs := [.agg #[.int .i64 f2, .int .i64 r2, .int .i64 x1, .slice A13 x2.length c13, .slice A14 bh.length c14], .int .i64 1, .bool false]) rfl (by simp) ?_) rfl ?_
    · refine Vals.cell z2 27 _ (0, 0) _ rfl ?_ Try.underlying27 rfl rfl (Vals.tmp (Vals.tmp Vals.nil))
      exact blk_put (blk_put (blk_put (blk_put (blk_put HZ2_15.out 0 _ rfl) 1 _ rfl) 2 _ rfl) 3 _ rfl) 4 _ rfl
    · have HF : w.heap.size ≤ z2 := by have := HZE.out; omega
      have HY : z2 < w12.drew.heap.size := by have h1 := HZ7.out; show z2 < w12.heap.size; omega
      have HY2 : z2 < w13.heap.size := by have h1 := HZ7.out; have h2 := HE13.out.size; omega
      have HBF := (((((HB15.out.setCell (p := ⟨z2, 0, none⟩) HF (.int .i64 f2)).setCell (p := ⟨z2, 1, none⟩) HF (.int .i64 r2)).setCell (p := ⟨z2, 2, none⟩) HF (.int .i64 x1)).setCell (p := ⟨z2, 3, none⟩) HF (.slice A13 x2.length c13)).setCell (p := ⟨z2, 4, none⟩) HF (.slice A14 bh.length c14))
      have q3 := (rfar_ (rfar_ (rfar_ (rfar_ (rfar_ HG13.out ⟨z2, 0, none⟩ HY (.int .i64 f2)) ⟨z2, 1, none⟩ HY (.int .i64 r2)) ⟨z2, 2, none⟩ HY (.int .i64 x1)) ⟨z2, 3, none⟩ HY (.slice A13 x2.length c13)) ⟨z2, 4, none⟩ HY (.slice A14 bh.length c14))
      have q4 := (rfar_ (rfar_ (rfar_ (rfar_ (rfar_ HG14.out ⟨z2, 0, none⟩ HY2 (.int .i64 f2)) ⟨z2, 1, none⟩ HY2 (.int .i64 r2)) ⟨z2, 2, none⟩ HY2 (.int .i64 x1)) ⟨z2, 3, none⟩ HY2 (.slice A13 x2.length c13)) ⟨z2, 4, none⟩ HY2 (.slice A14 bh.length c14))
      exact ⟨A13, c13, A14, c14, rfl, ⟨Kd.R_lower q3 (by have h1 := HZ7.out; show w.heap.size ≤ w12.heap.size; omega), Kd.R_lower q4 (by have h1 := HZ7.out; have h2 := HE13.out.size; omega), fun k hk he => by have h1 := HL13.out k hk; have h2 := HL14.out k he; omega⟩, HBF⟩
  have kna : (f1 < 0) = False := eq_false kn
  have knb : decide (f1 < 0) = false := decide_eq_false kn
  have KN := Aside0.mk kn
  simp only [if_neg kn] at H2_
  clear kn
  by_cases ke : f2 = st
  rotate_left
  · skip
    have e : leap_ahead f2 st sy rt = some (1, rt) := by unfold leap_ahead; rw [if_neg ke]
    rw [e] at H2_
    have k6 : (f2 == st) = false := beq_eq_false_iff_ne.mpr ke
    have H := Aside0.mk H2_
    clear H2_ e ke
    go_wp2_with fail
    have h := H.out
    clear H
    try simp only at h
    obtain ⟨bh, hbh, h1⟩ := Option.bind_eq_some_iff.1 h
    obtain ⟨⟨x1, x2⟩, hsp, h2⟩ := Option.bind_eq_some_iff.1 h1
    try simp only at h2
    by_cases kl : bh.length < 8000000000000 ∧ x2.length < 8000000000000
    rotate_left
    · rw [if_neg kl] at h2
      cases h2
    rw [if_pos kl] at h2
    simp only [Option.some.injEq, Prod.mk.injEq] at h2
    obtain ⟨e1, e2, e3, e4, e5, e6, e7⟩ := h2
    subst e1 e3 e4 e5 e6 e7
    obtain ⟨mv, hmv⟩ : ∃ m, wrap64 (f1 * 1) = m := ⟨_, rfl⟩
    rw [hmv] at e2
    have E2 := Aside0.mk e2
    have EM := Aside0.mk hmv
    have KL := Aside0.mk kl
    have HBH := Aside0.mk hbh
    have HSP := Aside0.mk hsp
    clear h h1 hbh hsp kl e2 hmv
    refine (leap_before.callsC f0 1 A3 c3 lf bh _ HRl_2.out HC3.out HBH.out).mono ?_
    rintro e w10 ⟨A5, c5, rfl, hC5, hc5, hB10⟩
    clear hHZ1_2_0 hHZ1_2_1 hHZ1_2_2 hHZ1_2_3 hHZ1_2_4 hHZ3_2_0 hHZ3_2_1 hHZ3_2_2
    have HB10 := Aside0.mk (below_step HB2.out hB10)
    have HZ0_10 := Aside0.mk (blk_below HZ0_2.out hB10)
    have HZ1_10 := Aside0.mk (blk_below HZ1_2.out hB10)
    have HZ2_10 := Aside0.mk (blk_below HZ2_2.out hB10)
    have HZ3_10 := Aside0.mk (blk_below HZ3_2.out hB10)
    have HRl_10 := Aside0.mk (Kd.C_below HRl_2.out hB10)
    have HRr_10 := Aside0.mk (Kd.C_below HRr_2.out hB10)
    clear HB2 HZ0_2 HZ1_2 HZ2_2 HZ3_2 HRl_2 HRr_2
    have HRb_10 := Aside0.mk hC5
    have HCb := Aside0.mk hc5
    clear hB10 hC5 hc5 HBH
    have hHZ1_10_0 := (blk_cell HZ1_10.out 0).trans rfl
    have hHZ1_10_1 := (blk_cell HZ1_10.out 1).trans rfl
    have hHZ1_10_2 := (blk_cell HZ1_10.out 2).trans rfl
    have hHZ1_10_3 := (blk_cell HZ1_10.out 3).trans rfl
    have hHZ1_10_4 := (blk_cell HZ1_10.out 4).trans rfl
    have hHZ3_10_0 := (blk_cell HZ3_10.out 0).trans rfl
    have hHZ3_10_1 := (blk_cell HZ3_10.out 1).trans rfl
    have hHZ3_10_2 := (blk_cell HZ3_10.out 2).trans rfl
    go_wp2_with fail
    refine (leap_split.callsC A4 c4 rt x1 x2 _ HRr_10.out HC4.out HSP.out).mono ?_
    rintro e w11 ⟨A6, c6, rfl, hC6, hc6, hB11⟩
    clear hHZ1_10_0 hHZ1_10_1 hHZ1_10_2 hHZ1_10_3 hHZ1_10_4 hHZ3_10_0 hHZ3_10_1 hHZ3_10_2
    have HB11 := Aside0.mk (below_step HB10.out hB11)
    have HZ0_11 := Aside0.mk (blk_below HZ0_10.out hB11)
    have HZ1_11 := Aside0.mk (blk_below HZ1_10.out hB11)
    have HZ2_11 := Aside0.mk (blk_below HZ2_10.out hB11)
    have HZ3_11 := Aside0.mk (blk_below HZ3_10.out hB11)
    have HRl_11 := Aside0.mk (Kd.C_below HRl_10.out hB11)
    have HRr_11 := Aside0.mk (Kd.C_below HRr_10.out hB11)
    have HRb_11 := Aside0.mk (Kd.C_below HRb_10.out hB11)
    clear HB10 HZ0_10 HZ1_10 HZ2_10 HZ3_10 HRl_10 HRr_10 HRb_10
    have HRs_11 := Aside0.mk hC6
    have HCs := Aside0.mk hc6
    clear hB11 hC6 hc6 HSP
    have hHZ1_11_0 := (blk_cell HZ1_11.out 0).trans rfl
    have hHZ1_11_1 := (blk_cell HZ1_11.out 1).trans rfl
    have hHZ1_11_2 := (blk_cell HZ1_11.out 2).trans rfl
    have hHZ1_11_3 := (blk_cell HZ1_11.out 3).trans rfl
    have hHZ1_11_4 := (blk_cell HZ1_11.out 4).trans rfl
    have hHZ3_11_0 := (blk_cell HZ3_11.out 0).trans rfl
    have hHZ3_11_1 := (blk_cell HZ3_11.out 1).trans rfl
    have hHZ3_11_2 := (blk_cell HZ3_11.out 2).trans rfl
    have e1 := EM.out
    have e2 := E2.out
    have e3 := (i64_w _).trans e1
    have e4 := (i64_w _).trans e2
    have e5 : wrap64 f1 = mv := by rw [← e1, Int.mul_one]
    have e6 : IntKind.i64.wrap f1 = mv := (i64_w _).trans e5
    have hbO := (below_alloc (Below.refl w11.heap.size w11) (.cells #[.int .i64 f2, .int .i64 r2, .int .i64 x1, .slice A5 bh.length c5, .slice A6 x2.length c6] 27))
    have HO_12 := Aside0.mk (blk_new w11 (.cells #[.int .i64 f2, .int .i64 r2, .int .i64 x1, .slice A5 bh.length c5, .slice A6 x2.length c6] 27))
    have hr31 := (blk_cell (blk_below HZ3_11.out hbO) 1).trans rfl
    go_wp2_with fail
    clear HO_12 hbO hr31 e1 e2 e3 e4 e5 e6
    clear hHZ1_11_0 hHZ1_11_1 hHZ1_11_2 hHZ1_11_3 hHZ1_11_4 hHZ3_11_0 hHZ3_11_1 hHZ3_11_2
    obtain ⟨w12, hW12⟩ : ∃ W : World, w11.alloc (.cells #[.int .i64 f2, .int .i64 r2, .int .i64 x1, .slice A5 bh.length c5, .slice A6 x2.length c6] 27) = W := ⟨_, rfl⟩
    have hb12 : Below w11.heap.size w11 w12 := by rw [← hW12]; exact below_alloc (Below.refl _ _) _
    have HO_12 := Aside0.mk (show w12.heap[w11.heap.size]? = some (.cells #[.int .i64 f2, .int .i64 r2, .int .i64 x1, .slice A5 bh.length c5, .slice A6 x2.length c6] 27 (0, 0)) from by rw [← hW12]; exact blk_new w11 (.cells #[.int .i64 f2, .int .i64 r2, .int .i64 x1, .slice A5 bh.length c5, .slice A6 x2.length c6] 27))
    obtain ⟨z7, hz7⟩ : ∃ z, w11.heap.size = z := ⟨_, rfl⟩
    have HZ7 := Aside0.mk (show w.heap.size ≤ z7 ∧ z2 < z7 ∧ z7 < w12.heap.size from ⟨hz7 ▸ HB11.out.size, hz7 ▸ blk_lt HZ2_11.out, hz7 ▸ blk_lt HO_12.out⟩)
    have HB12 := Aside0.mk (below_step HB11.out hb12)
    have HZ0_12 := Aside0.mk (blk_below HZ0_11.out hb12)
    have HZ1_12 := Aside0.mk (blk_below HZ1_11.out hb12)
    have HZ2_12 := Aside0.mk (blk_below HZ2_11.out hb12)
    have HZ3_12 := Aside0.mk (blk_below HZ3_11.out hb12)
    have HRl_12 := Aside0.mk (Kd.C_below HRl_11.out hb12)
    have HRr_12 := Aside0.mk (Kd.C_below HRr_11.out hb12)
    have HRb_12 := Aside0.mk (Kd.C_below HRb_11.out hb12)
    have HRs_12 := Aside0.mk (Kd.C_below HRs_11.out hb12)
    clear HB11 HZ0_11 HZ1_11 HZ2_11 HZ3_11 HRl_11 HRr_11 HRb_11 HRs_11
    rw [hW12]
    rw [hz7] at HO_12 ⊢
    clear hW12 hb12 hz7
    have ho3 := (blk_cell HO_12.out 3).trans rfl
    have ho4 := (blk_cell HO_12.out 4).trans rfl
    refine start_ (n := 10) (S := fun w' => w'.cell? ⟨z7, 3, none⟩ = some (.slice A5 bh.length c5) ∧ w'.cell? ⟨z7, 4, none⟩ = some (.slice A6 x2.length c6)) (ds := [7, 9]) #[false, false, false, false, false, false, false, false, false, false] (by kernel_rfl) rfl rfl ⟨ho3, ho4⟩ (fun hHeld => ?_)
    refine pure_ (i := 0) (N := some 101) (v := ?_) (a' := ?_) #[true, false, false, false, false, false, false, false, false, false] rfl rfl (by kernel_rfl) (fun _ _ _ h => h) (Or.inl ⟨by rfl, ?_⟩) ?_ ?_
    rotate_left
    · intro w'
      go_simp
      with_reducible rfl
    rotate_left
    · simp only [Act.put, List.setIfInBounds_toArray, List.set_cons_zero, List.set_cons_succ, i64_w, i32_w]
      rfl
    refine pure_ (i := 3) (N := some 104) (v := ?_) (a' := ?_) #[true, false, false, true, false, false, false, false, false, false] rfl rfl (by kernel_rfl) (fun _ _ _ h => h) (Or.inl ⟨by rfl, ?_⟩) ?_ ?_
    rotate_left
    · intro w'
      go_simp
      with_reducible rfl
    rotate_left
    · simp only [Act.put, List.setIfInBounds_toArray, List.set_cons_zero, List.set_cons_succ, i64_w, i32_w]
      rfl
    refine take_ (i := 1) (N := some 102) (v := ?_) (a' := ?_) #[true, true, false, true, false, false, false, false, false, false] rfl rfl (by kernel_rfl) (fun _ _ _ h => h) (Or.inl ⟨by rfl, ?_⟩) hHeld ?_ ?_
    rotate_left
    · rintro w' ⟨s0, s1⟩
      go_simp
      with_reducible rfl
    rotate_left
    · simp only [Act.put, List.setIfInBounds_toArray, List.set_cons_zero, List.set_cons_succ, i64_w, i32_w]
      rfl
    refine take_ (i := 4) (N := some 105) (v := ?_) (a' := ?_) #[true, true, false, true, true, false, false, false, false, false] rfl rfl (by kernel_rfl) (fun _ _ _ h => h) (Or.inl ⟨by rfl, ?_⟩) hHeld ?_ ?_
    rotate_left
    · rintro w' ⟨s0, s1⟩
      go_simp
      with_reducible rfl
    rotate_left
    · simp only [Act.put, List.setIfInBounds_toArray, List.set_cons_zero, List.set_cons_succ, i64_w, i32_w]
      rfl
    refine one_ (i := 2) (N := some 103) #[true, true, true, true, true, false, false, false, false, false] rfl rfl (by kernel_rfl) (by decide) (fun K hK => ?_)
    refine goes_ Try.func57 (by kernel_rfl) rfl #[.slice A5 bh.length c5] (by rfl) rfl rfl (by simp only [List.map_toArray, List.map_cons, List.map_nil]; rfl) ?_
    with_reducible refine (api_Run.calls A5 c5 bh bh w12.drew (Kd.C_below HRb_12.out (show Below w12.heap.size w12 w12.drew from bk_ (Below.refl _ _))) HCb.out (clone_ok _ (by have := KL.out; omega))).mono ?_
    rintro e w13 ⟨v13, rfl, ho13, hB13⟩
    refine ⟨_, rfl, ?_⟩
    obtain ⟨A13, c13, rfl⟩ := Kd.R_slice ho13
    have HE13 := Aside0.mk (below_step (bk_ (Below.refl w12.heap.size w12)) hB13)
    have HG13 := Aside0.mk ho13
    have HL13 := Aside0.mk (Kd.R_lt ho13)
    clear ho13 hB13
    refine hK.out _ _ ⟨(lf_ HE13.out ho3), (lf_ HE13.out ho4)⟩ (fun hHeld => ?_)
    clear hK K
    refine norm_ (a' := ?_) ?_ ?_
    rotate_left
    · show Act.put _ (some 103) _ = _
      simp only [Act.put, List.setIfInBounds_toArray, List.set_cons_zero, List.set_cons_succ, i64_w, i32_w]
      rfl
    refine pure_ (i := 6) (N := some 107) (v := ?_) (a' := ?_) #[true, true, true, true, true, false, true, false, false, false] rfl rfl (by kernel_rfl) (fun _ _ _ h => h) (Or.inl ⟨by rfl, ?_⟩) ?_ ?_
    rotate_left
    · intro w'
      go_simp
      with_reducible rfl
    rotate_left
    · simp only [Act.put, List.setIfInBounds_toArray, List.set_cons_zero, List.set_cons_succ, i64_w, i32_w]
      rfl
    refine one_ (i := 5) (N := some 106) #[true, true, true, true, true, true, true, false, false, false] rfl rfl (by kernel_rfl) (by decide) (fun K hK => ?_)
    refine goes_ Try.func57 (by kernel_rfl) rfl #[.slice A6 x2.length c6] (by rfl) rfl rfl (by simp only [List.map_toArray, List.map_cons, List.map_nil]; rfl) ?_
    with_reducible refine (api_Run.calls A6 c6 x2 x2 w13 (Kd.C_below HRs_12.out HE13.out) HCs.out (clone_ok _ (by have := KL.out; omega))).mono ?_
    rintro e w14 ⟨v14, rfl, ho14, hB14⟩
    refine ⟨_, rfl, ?_⟩
    obtain ⟨A14, c14, rfl⟩ := Kd.R_slice ho14
    have HE14 := Aside0.mk (below_step HE13.out hB14)
    have HG14 := Aside0.mk ho14
    have HL14 := Aside0.mk (Kd.R_base ho14)
    have HG13 := Aside0.mk (Kd.R_below HG13.out hB14)
    clear ho14 hB14
    refine hK.out _ _ ⟨(lf_ HE14.out ho3), (lf_ HE14.out ho4)⟩ (fun hHeld => ?_)
    clear hK K
    refine norm_ (a' := ?_) ?_ ?_
    rotate_left
    · show Act.put _ (some 106) _ = _
      simp only [Act.put, List.setIfInBounds_toArray, List.set_cons_zero, List.set_cons_succ, i64_w, i32_w]
      rfl
    refine last_ (i := 7) (N := none) #[true, true, true, true, true, true, true, true, false, false] rfl rfl (by kernel_rfl) (by decide) (fun K hK => ?_)
    have hz14 := blk_below HO_12.out HE14.out
    have hc3_ := (blk_cell hz14 3).trans rfl
    have hf3_ := blk_frozen hz14 3
    refine skip_ (w1 := ?_) (by rfl) rfl ?_ ?_
    rotate_left
    · go_simp
      rfl
    refine hK.out _ _ ?_
    clear hK K
    refine pure_ (i := 8) (N := some 108) (v := ?_) (a' := ?_) #[true, true, true, true, true, true, true, true, true, false] rfl rfl (by kernel_rfl) (fun _ _ _ h => h) (Or.inl ⟨by rfl, ?_⟩) ?_ ?_
    rotate_left
    · intro w'
      go_simp
      with_reducible rfl
    rotate_left
    · simp only [Act.put, List.setIfInBounds_toArray, List.set_cons_zero, List.set_cons_succ, i64_w, i32_w]
      rfl
    refine last_ (i := 9) (N := none) #[true, true, true, true, true, true, true, true, true, true] rfl rfl (by kernel_rfl) (by decide) (fun K hK => ?_)
    have hz14 := blk_put (blk_below HO_12.out HE14.out) 3 (.slice A13 bh.length c13) rfl
    have hc4_ := (blk_cell hz14 4).trans rfl
    have hf4_ := blk_frozen hz14 4
    refine skip_ (w1 := ?_) (by rfl) rfl ?_ ?_
    rotate_left
    · go_simp
      rfl
    refine hK.out _ _ ?_
    clear hK K
    refine done_ (by kernel_rfl) ?_
    obtain ⟨w15, hW15⟩ : ∃ W : World, (w14.setCell ⟨z7, 3, none⟩ (.slice A13 bh.length c13)).setCell ⟨z7, 4, none⟩ (.slice A14 x2.length c14) = W := ⟨_, rfl⟩
    have HO_15 := Aside0.mk (show w15.heap[z7]? = some (.cells #[.int .i64 f2, .int .i64 r2, .int .i64 x1, .slice A13 bh.length c13, .slice A14 x2.length c14] 27 (0, 0)) from by rw [← hW15]; exact blk_put (blk_put (blk_below HO_12.out HE14.out) 3 _ rfl) 4 _ rfl)
    have HZ2_15 := Aside0.mk (show w15.heap[z2]? = some (.cells #[.int .i64 0, .int .i64 0, .int .i64 0, .slice none 0 0, .slice none 0 0] 27 (0, 0)) from by rw [← hW15]; exact blk_far (p := ⟨z7, 4, none⟩) (blk_far (p := ⟨z7, 3, none⟩) (blk_below HZ2_12.out HE14.out) (by have := HZ7.out; show z2 ≠ z7; omega) _) (by have := HZ7.out; show z2 ≠ z7; omega) _)
    have HG13 := Aside0.mk (show Kd.R k75 75 w15 w12.drew.heap.size (fun _ => True) (.slice A13 bh.length c13) bh from by rw [← hW15]; exact rfar_ (rfar_ HG13.out ⟨z7, 3, none⟩ (by have := HZ7.out; exact this.2.2) _) ⟨z7, 4, none⟩ (by have := HZ7.out; exact this.2.2) _)
    have HG14 := Aside0.mk (show Kd.R k75 75 w15 w13.heap.size (fun _ => True) (.slice A14 x2.length c14) x2 from by rw [← hW15]; exact rfar_ (rfar_ HG14.out ⟨z7, 3, none⟩ (by have h1 := HZ7.out; have h2 := HE13.out.size; show z7 < _; omega) _) ⟨z7, 4, none⟩ (by have h1 := HZ7.out; have h2 := HE13.out.size; show z7 < _; omega) _)
    have HB15 := Aside0.mk (show Below w.heap.size w w15 from by rw [← hW15]; exact ((below_step HB12.out HE14.out).setCell (p := ⟨z7, 3, none⟩) HZ7.out.1 _).setCell (p := ⟨z7, 4, none⟩) HZ7.out.1 _)
    try rw [hW15]
    clear hW15 ho3 ho4 HO_12 HE14
    have hr0 := (blk_cell HZ2_15.out 0).trans rfl
    have ht0 := blk_frozen HZ2_15.out 0
    have hs0 := (blk_cell HO_15.out 0).trans rfl
    have hr1 := (blk_cell HZ2_15.out 1).trans rfl
    have ht1 := blk_frozen HZ2_15.out 1
    have hs1 := (blk_cell HO_15.out 1).trans rfl
    have hr2 := (blk_cell HZ2_15.out 2).trans rfl
    have ht2 := blk_frozen HZ2_15.out 2
    have hs2 := (blk_cell HO_15.out 2).trans rfl
    have hr3 := (blk_cell HZ2_15.out 3).trans rfl
    have ht3 := blk_frozen HZ2_15.out 3
    have hs3 := (blk_cell HO_15.out 3).trans rfl
    have hr4 := (blk_cell HZ2_15.out 4).trans rfl
    have ht4 := blk_frozen HZ2_15.out 4
    have hs4 := (blk_cell HO_15.out 4).trans rfl
    go_wp2_with fail
    refine bodyPost_ret (results_list (rs := [.cell 4 27, .tmp 5, .tmp 6]) (vs := [.agg #[.int .i64 f2, .int .i64 r2, .int .i64 x1, .slice A13 bh.length c13, .slice A14 x2.length c14], .int .i64 1, .bool false]) rfl (by simp) ?_) rfl ?_
    · refine Vals.cell z2 27 _ (0, 0) _ rfl ?_ Try.underlying27 rfl rfl (Vals.tmp (Vals.tmp Vals.nil))
      exact blk_put (blk_put (blk_put (blk_put (blk_put HZ2_15.out 0 _ rfl) 1 _ rfl) 2 _ rfl) 3 _ rfl) 4 _ rfl
    · have HF : w.heap.size ≤ z2 := by have := HZE.out; omega
      have HY : z2 < w12.drew.heap.size := by have h1 := HZ7.out; show z2 < w12.heap.size; omega
      have HY2 : z2 < w13.heap.size := by have h1 := HZ7.out; have h2 := HE13.out.size; omega
      have HBF := (((((HB15.out.setCell (p := ⟨z2, 0, none⟩) HF (.int .i64 f2)).setCell (p := ⟨z2, 1, none⟩) HF (.int .i64 r2)).setCell (p := ⟨z2, 2, none⟩) HF (.int .i64 x1)).setCell (p := ⟨z2, 3, none⟩) HF (.slice A13 bh.length c13)).setCell (p := ⟨z2, 4, none⟩) HF (.slice A14 x2.length c14))
      have q3 := (rfar_ (rfar_ (rfar_ (rfar_ (rfar_ HG13.out ⟨z2, 0, none⟩ HY (.int .i64 f2)) ⟨z2, 1, none⟩ HY (.int .i64 r2)) ⟨z2, 2, none⟩ HY (.int .i64 x1)) ⟨z2, 3, none⟩ HY (.slice A13 bh.length c13)) ⟨z2, 4, none⟩ HY (.slice A14 x2.length c14))
      have q4 := (rfar_ (rfar_ (rfar_ (rfar_ (rfar_ HG14.out ⟨z2, 0, none⟩ HY2 (.int .i64 f2)) ⟨z2, 1, none⟩ HY2 (.int .i64 r2)) ⟨z2, 2, none⟩ HY2 (.int .i64 x1)) ⟨z2, 3, none⟩ HY2 (.slice A13 bh.length c13)) ⟨z2, 4, none⟩ HY2 (.slice A14 x2.length c14))
      exact ⟨A13, c13, A14, c14, rfl, ⟨Kd.R_lower q3 (by have h1 := HZ7.out; show w.heap.size ≤ w12.heap.size; omega), Kd.R_lower q4 (by have h1 := HZ7.out; have h2 := HE13.out.size; omega), fun k hk he => by have h1 := HL13.out k hk; have h2 := HL14.out k he; omega⟩, HBF⟩
  by_cases kz : (rt.length : Int) = 0
  · skip
    by_cases ks : sy = 0
    · skip
      have e : leap_ahead f2 st sy rt = none := by unfold leap_ahead; rw [if_pos ke, if_pos ⟨kz, ks⟩]
      rw [e] at H2_
      have k7 : ((rt.length : Int) == 0) = true := beq_iff_eq.mpr kz
      have k8 : (sy == 0) = true := beq_iff_eq.mpr ks
      have k6 : (f2 == st) = true := beq_iff_eq.mpr ke
      have H := Aside0.mk H2_
      clear H2_ e ke kz ks
      have hr0 := (blk_cell HZ2_2.out 0).trans rfl
      have ht0 := blk_frozen HZ2_2.out 0
      have hr1 := (blk_cell HZ2_2.out 1).trans rfl
      have ht1 := blk_frozen HZ2_2.out 1
      have hr2 := (blk_cell HZ2_2.out 2).trans rfl
      have ht2 := blk_frozen HZ2_2.out 2
      have hr3 := (blk_cell HZ2_2.out 3).trans rfl
      have ht3 := blk_frozen HZ2_2.out 3
      have hr4 := (blk_cell HZ2_2.out 4).trans rfl
      have ht4 := blk_frozen HZ2_2.out 4
      go_wp2_with fail
      have h := H.out
      simp only [Option.some.injEq, Prod.mk.injEq] at h
      obtain ⟨rfl, rfl, rfl, rfl, rfl, rfl, rfl⟩ := h
      refine bodyPost_ret (results_list (rs := [.cell 4 27, .tmp 5, .tmp 6]) (vs := [.agg #[.int .i64 st, .int .i64 po, .int .i64 sy, .slice A3 lf.length c3, .slice A4 rt.length c4], .int .i64 0, .bool true]) rfl (by simp) ?_) rfl ?_
      · refine Vals.cell z2 27 _ (0, 0) _ rfl ?_ Try.underlying27 rfl rfl (Vals.tmp (Vals.tmp Vals.nil))
        exact blk_put (blk_put (blk_put (blk_put (blk_put HZ2_2.out 0 _ rfl) 1 _ rfl) 2 _ rfl) 3 _ rfl) 4 _ rfl
      · have HF : w.heap.size ≤ z2 := by have := HZE.out; omega
        have HBF := (((((HB2.out.setCell (p := ⟨z2, 0, none⟩) HF (.int .i64 st)).setCell (p := ⟨z2, 1, none⟩) HF (.int .i64 po)).setCell (p := ⟨z2, 2, none⟩) HF (.int .i64 sy)).setCell (p := ⟨z2, 3, none⟩) HF (.slice A3 lf.length c3)).setCell (p := ⟨z2, 4, none⟩) HF (.slice A4 rt.length c4))
        exact ⟨A3, c3, A4, c4, rfl, (fun hh => by cases hh), HBF⟩
    have e : leap_ahead f2 st sy rt = some (1, rt) := by unfold leap_ahead; rw [if_pos ke, if_neg (fun hh => ks hh.2), if_neg (fun hh => by have := hh.1; omega)]
    rw [e] at H2_
    have k7 : ((rt.length : Int) == 0) = true := beq_iff_eq.mpr kz
    have k8 : (sy == 0) = false := beq_eq_false_iff_ne.mpr ks
    have q1 : decide (0 < rt.length) = false := decide_eq_false (by omega)
    have q3 : decide ((0 : Int) < (rt.length : Int)) = false := decide_eq_false (by omega)
    have q0 : (0 < rt.length) = False := eq_false (by omega)
    have q2 : ((0 : Int) < (rt.length : Int)) = False := eq_false (by omega)
    have k6 : (f2 == st) = true := beq_iff_eq.mpr ke
    have H := Aside0.mk H2_
    clear H2_ e ke kz ks
    go_wp2_with fail
    go_quiet (fail)
    clear hHZ1_2_0 hHZ1_2_1 hHZ1_2_2 hHZ1_2_3 hHZ1_2_4 hHZ3_2_0 hHZ3_2_1 hHZ3_2_2
    obtain ⟨w3, hW3⟩ : ∃ W : World, w2.drewN nq = W := ⟨_, rfl⟩
    have hb3 : Below w2.heap.size w2 w3 := by rw [← hW3]; exact pw_below_drewN (Below.refl _ _) _
    have HB3 := Aside0.mk (below_step HB2.out hb3)
    have HZ0_3 := Aside0.mk (blk_below HZ0_2.out hb3)
    have HZ1_3 := Aside0.mk (blk_below HZ1_2.out hb3)
    have HZ2_3 := Aside0.mk (blk_below HZ2_2.out hb3)
    have HZ3_3 := Aside0.mk (blk_below HZ3_2.out hb3)
    have HRl_3 := Aside0.mk (Kd.C_below HRl_2.out hb3)
    have HRr_3 := Aside0.mk (Kd.C_below HRr_2.out hb3)
    clear HB2 HZ0_2 HZ1_2 HZ2_2 HZ3_2 HRl_2 HRr_2
    rw [hW3]
    clear hW3 hb3
    have hHZ1_3_0 := (blk_cell HZ1_3.out 0).trans rfl
    have hHZ1_3_1 := (blk_cell HZ1_3.out 1).trans rfl
    have hHZ1_3_2 := (blk_cell HZ1_3.out 2).trans rfl
    have hHZ1_3_3 := (blk_cell HZ1_3.out 3).trans rfl
    have hHZ1_3_4 := (blk_cell HZ1_3.out 4).trans rfl
    have hHZ3_3_0 := (blk_cell HZ3_3.out 0).trans rfl
    have hHZ3_3_1 := (blk_cell HZ3_3.out 1).trans rfl
    have hHZ3_3_2 := (blk_cell HZ3_3.out 2).trans rfl
    go_wp2_with fail
    have h := H.out
    clear H
    try simp only at h
    obtain ⟨bh, hbh, h1⟩ := Option.bind_eq_some_iff.1 h
    obtain ⟨⟨x1, x2⟩, hsp, h2⟩ := Option.bind_eq_some_iff.1 h1
    try simp only at h2
    by_cases kl : bh.length < 8000000000000 ∧ x2.length < 8000000000000
    rotate_left
    · rw [if_neg kl] at h2
      cases h2
    rw [if_pos kl] at h2
    simp only [Option.some.injEq, Prod.mk.injEq] at h2
    obtain ⟨e1, e2, e3, e4, e5, e6, e7⟩ := h2
    subst e1 e3 e4 e5 e6 e7
    obtain ⟨mv, hmv⟩ : ∃ m, wrap64 (f1 * 1) = m := ⟨_, rfl⟩
    rw [hmv] at e2
    have E2 := Aside0.mk e2
    have EM := Aside0.mk hmv
    have KL := Aside0.mk kl
    have HBH := Aside0.mk hbh
    have HSP := Aside0.mk hsp
    clear h h1 hbh hsp kl e2 hmv
    refine (leap_before.callsC f0 1 A3 c3 lf bh _ HRl_3.out HC3.out HBH.out).mono ?_
    rintro e w10 ⟨A5, c5, rfl, hC5, hc5, hB10⟩
    clear hHZ1_3_0 hHZ1_3_1 hHZ1_3_2 hHZ1_3_3 hHZ1_3_4 hHZ3_3_0 hHZ3_3_1 hHZ3_3_2
    have HB10 := Aside0.mk (below_step HB3.out hB10)
    have HZ0_10 := Aside0.mk (blk_below HZ0_3.out hB10)
    have HZ1_10 := Aside0.mk (blk_below HZ1_3.out hB10)
    have HZ2_10 := Aside0.mk (blk_below HZ2_3.out hB10)
    have HZ3_10 := Aside0.mk (blk_below HZ3_3.out hB10)
    have HRl_10 := Aside0.mk (Kd.C_below HRl_3.out hB10)
    have HRr_10 := Aside0.mk (Kd.C_below HRr_3.out hB10)
    clear HB3 HZ0_3 HZ1_3 HZ2_3 HZ3_3 HRl_3 HRr_3
    have HRb_10 := Aside0.mk hC5
    have HCb := Aside0.mk hc5
    clear hB10 hC5 hc5 HBH
    have hHZ1_10_0 := (blk_cell HZ1_10.out 0).trans rfl
    have hHZ1_10_1 := (blk_cell HZ1_10.out 1).trans rfl
    have hHZ1_10_2 := (blk_cell HZ1_10.out 2).trans rfl
    have hHZ1_10_3 := (blk_cell HZ1_10.out 3).trans rfl
    have hHZ1_10_4 := (blk_cell HZ1_10.out 4).trans rfl
    have hHZ3_10_0 := (blk_cell HZ3_10.out 0).trans rfl
    have hHZ3_10_1 := (blk_cell HZ3_10.out 1).trans rfl
    have hHZ3_10_2 := (blk_cell HZ3_10.out 2).trans rfl
    go_wp2_with fail
    refine (leap_split.callsC A4 c4 rt x1 x2 _ HRr_10.out HC4.out HSP.out).mono ?_
    rintro e w11 ⟨A6, c6, rfl, hC6, hc6, hB11⟩
    clear hHZ1_10_0 hHZ1_10_1 hHZ1_10_2 hHZ1_10_3 hHZ1_10_4 hHZ3_10_0 hHZ3_10_1 hHZ3_10_2
    have HB11 := Aside0.mk (below_step HB10.out hB11)
    have HZ0_11 := Aside0.mk (blk_below HZ0_10.out hB11)
    have HZ1_11 := Aside0.mk (blk_below HZ1_10.out hB11)
    have HZ2_11 := Aside0.mk (blk_below HZ2_10.out hB11)
    have HZ3_11 := Aside0.mk (blk_below HZ3_10.out hB11)
    have HRl_11 := Aside0.mk (Kd.C_below HRl_10.out hB11)
    have HRr_11 := Aside0.mk (Kd.C_below HRr_10.out hB11)
    have HRb_11 := Aside0.mk (Kd.C_below HRb_10.out hB11)
    clear HB10 HZ0_10 HZ1_10 HZ2_10 HZ3_10 HRl_10 HRr_10 HRb_10
    have HRs_11 := Aside0.mk hC6
    have HCs := Aside0.mk hc6
    clear hB11 hC6 hc6 HSP
    have hHZ1_11_0 := (blk_cell HZ1_11.out 0).trans rfl
    have hHZ1_11_1 := (blk_cell HZ1_11.out 1).trans rfl
    have hHZ1_11_2 := (blk_cell HZ1_11.out 2).trans rfl
    have hHZ1_11_3 := (blk_cell HZ1_11.out 3).trans rfl
    have hHZ1_11_4 := (blk_cell HZ1_11.out 4).trans rfl
    have hHZ3_11_0 := (blk_cell HZ3_11.out 0).trans rfl
    have hHZ3_11_1 := (blk_cell HZ3_11.out 1).trans rfl
    have hHZ3_11_2 := (blk_cell HZ3_11.out 2).trans rfl
    have e1 := EM.out
    have e2 := E2.out
    have e3 := (i64_w _).trans e1
    have e4 := (i64_w _).trans e2
    have e5 : wrap64 f1 = mv := by rw [← e1, Int.mul_one]
    have e6 : IntKind.i64.wrap f1 = mv := (i64_w _).trans e5
    have hbO := (below_alloc (Below.refl w11.heap.size w11) (.cells #[.int .i64 f2, .int .i64 r2, .int .i64 x1, .slice A5 bh.length c5, .slice A6 x2.length c6] 27))
    have HO_12 := Aside0.mk (blk_new w11 (.cells #[.int .i64 f2, .int .i64 r2, .int .i64 x1, .slice A5 bh.length c5, .slice A6 x2.length c6] 27))
    have hr31 := (blk_cell (blk_below HZ3_11.out hbO) 1).trans rfl
    go_wp2_with fail
    clear HO_12 hbO hr31 e1 e2 e3 e4 e5 e6
    clear hHZ1_11_0 hHZ1_11_1 hHZ1_11_2 hHZ1_11_3 hHZ1_11_4 hHZ3_11_0 hHZ3_11_1 hHZ3_11_2
    obtain ⟨w12, hW12⟩ : ∃ W : World, w11.alloc (.cells #[.int .i64 f2, .int .i64 r2, .int .i64 x1, .slice A5 bh.length c5, .slice A6 x2.length c6] 27) = W := ⟨_, rfl⟩
    have hb12 : Below w11.heap.size w11 w12 := by rw [← hW12]; exact below_alloc (Below.refl _ _) _
    have HO_12 := Aside0.mk (show w12.heap[w11.heap.size]? = some (.cells #[.int .i64 f2, .int .i64 r2, .int .i64 x1, .slice A5 bh.length c5, .slice A6 x2.length c6] 27 (0, 0)) from by rw [← hW12]; exact blk_new w11 (.cells #[.int .i64 f2, .int .i64 r2, .int .i64 x1, .slice A5 bh.length c5, .slice A6 x2.length c6] 27))
    obtain ⟨z7, hz7⟩ : ∃ z, w11.heap.size = z := ⟨_, rfl⟩
    have HZ7 := Aside0.mk (show w.heap.size ≤ z7 ∧ z2 < z7 ∧ z7 < w12.heap.size from ⟨hz7 ▸ HB11.out.size, hz7 ▸ blk_lt HZ2_11.out, hz7 ▸ blk_lt HO_12.out⟩)
    have HB12 := Aside0.mk (below_step HB11.out hb12)
    have HZ0_12 := Aside0.mk (blk_below HZ0_11.out hb12)
    have HZ1_12 := Aside0.mk (blk_below HZ1_11.out hb12)
    have HZ2_12 := Aside0.mk (blk_below HZ2_11.out hb12)
    have HZ3_12 := Aside0.mk (blk_below HZ3_11.out hb12)
    have HRl_12 := Aside0.mk (Kd.C_below HRl_11.out hb12)
    have HRr_12 := Aside0.mk (Kd.C_below HRr_11.out hb12)
    have HRb_12 := Aside0.mk (Kd.C_below HRb_11.out hb12)
    have HRs_12 := Aside0.mk (Kd.C_below HRs_11.out hb12)
    clear HB11 HZ0_11 HZ1_11 HZ2_11 HZ3_11 HRl_11 HRr_11 HRb_11 HRs_11
    rw [hW12]
    rw [hz7] at HO_12 ⊢
    clear hW12 hb12 hz7
    have ho3 := (blk_cell HO_12.out 3).trans rfl
    have ho4 := (blk_cell HO_12.out 4).trans rfl
    refine start_ (n := 10) (S := fun w' => w'.cell? ⟨z7, 3, none⟩ = some (.slice A5 bh.length c5) ∧ w'.cell? ⟨z7, 4, none⟩ = some (.slice A6 x2.length c6)) (ds := [7, 9]) #[false, false, false, false, false, false, false, false, false, false] (by kernel_rfl) rfl rfl ⟨ho3, ho4⟩ (fun hHeld => ?_)
    refine pure_ (i := 0) (N := some 101) (v := ?_) (a' := ?_) #[true, false, false, false, false, false, false, false, false, false] rfl rfl (by kernel_rfl) (fun _ _ _ h => h) (Or.inl ⟨by rfl, ?_⟩) ?_ ?_
    rotate_left
    · intro w'
      go_simp
      with_reducible rfl
    rotate_left
    · simp only [Act.put, List.setIfInBounds_toArray, List.set_cons_zero, List.set_cons_succ, i64_w, i32_w]
      rfl
    refine pure_ (i := 3) (N := some 104) (v := ?_) (a' := ?_) #[true, false, false, true, false, false, false, false, false, false] rfl rfl (by kernel_rfl) (fun _ _ _ h => h) (Or.inl ⟨by rfl, ?_⟩) ?_ ?_
    rotate_left
    · intro w'
      go_simp
      with_reducible rfl
    rotate_left
    · simp only [Act.put, List.setIfInBounds_toArray, List.set_cons_zero, List.set_cons_succ, i64_w, i32_w]
      rfl
    refine take_ (i := 1) (N := some 102) (v := ?_) (a' := ?_) #[true, true, false, true, false, false, false, false, false, false] rfl rfl (by kernel_rfl) (fun _ _ _ h => h) (Or.inl ⟨by rfl, ?_⟩) hHeld ?_ ?_
    rotate_left
    · rintro w' ⟨s0, s1⟩
      go_simp
      with_reducible rfl
    rotate_left
    · simp only [Act.put, List.setIfInBounds_toArray, List.set_cons_zero, List.set_cons_succ, i64_w, i32_w]
      rfl
    refine take_ (i := 4) (N := some 105) (v := ?_) (a' := ?_) #[true, true, false, true, true, false, false, false, false, false] rfl rfl (by kernel_rfl) (fun _ _ _ h => h) (Or.inl ⟨by rfl, ?_⟩) hHeld ?_ ?_
    rotate_left
    · rintro w' ⟨s0, s1⟩
      go_simp
      with_reducible rfl
    rotate_left
    · simp only [Act.put, List.setIfInBounds_toArray, List.set_cons_zero, List.set_cons_succ, i64_w, i32_w]
      rfl
    refine one_ (i := 2) (N := some 103) #[true, true, true, true, true, false, false, false, false, false] rfl rfl (by kernel_rfl) (by decide) (fun K hK => ?_)
    refine goes_ Try.func57 (by kernel_rfl) rfl #[.slice A5 bh.length c5] (by rfl) rfl rfl (by simp only [List.map_toArray, List.map_cons, List.map_nil]; rfl) ?_
    with_reducible refine (api_Run.calls A5 c5 bh bh w12.drew (Kd.C_below HRb_12.out (show Below w12.heap.size w12 w12.drew from bk_ (Below.refl _ _))) HCb.out (clone_ok _ (by have := KL.out; omega))).mono ?_
    rintro e w13 ⟨v13, rfl, ho13, hB13⟩
    refine ⟨_, rfl, ?_⟩
    obtain ⟨A13, c13, rfl⟩ := Kd.R_slice ho13
    have HE13 := Aside0.mk (below_step (bk_ (Below.refl w12.heap.size w12)) hB13)
    have HG13 := Aside0.mk ho13
    have HL13 := Aside0.mk (Kd.R_lt ho13)
    clear ho13 hB13
    refine hK.out _ _ ⟨(lf_ HE13.out ho3), (lf_ HE13.out ho4)⟩ (fun hHeld => ?_)
    clear hK K
    refine norm_ (a' := ?_) ?_ ?_
    rotate_left
    · show Act.put _ (some 103) _ = _
      simp only [Act.put, List.setIfInBounds_toArray, List.set_cons_zero, List.set_cons_succ, i64_w, i32_w]
      rfl
    refine pure_ (i := 6) (N := some 107) (v := ?_) (a' := ?_) #[true, true, true, true, true, false, true, false, false, false] rfl rfl (by kernel_rfl) (fun _ _ _ h => h) (Or.inl ⟨by rfl, ?_⟩) ?_ ?_
    rotate_left
    · intro w'
      go_simp
      with_reducible rfl
    rotate_left
    · simp only [Act.put, List.setIfInBounds_toArray, List.set_cons_zero, List.set_cons_succ, i64_w, i32_w]
      rfl
    refine one_ (i := 5) (N := some 106) #[true, true, true, true, true, true, true, false, false, false] rfl rfl (by kernel_rfl) (by decide) (fun K hK => ?_)
    refine goes_ Try.func57 (by kernel_rfl) rfl #[.slice A6 x2.length c6] (by rfl) rfl rfl (by simp only [List.map_toArray, List.map_cons, List.map_nil]; rfl) ?_
    with_reducible refine (api_Run.calls A6 c6 x2 x2 w13 (Kd.C_below HRs_12.out HE13.out) HCs.out (clone_ok _ (by have := KL.out; omega))).mono ?_
    rintro e w14 ⟨v14, rfl, ho14, hB14⟩
    refine ⟨_, rfl, ?_⟩
    obtain ⟨A14, c14, rfl⟩ := Kd.R_slice ho14
    have HE14 := Aside0.mk (below_step HE13.out hB14)
    have HG14 := Aside0.mk ho14
    have HL14 := Aside0.mk (Kd.R_base ho14)
    have HG13 := Aside0.mk (Kd.R_below HG13.out hB14)
    clear ho14 hB14
    refine hK.out _ _ ⟨(lf_ HE14.out ho3), (lf_ HE14.out ho4)⟩ (fun hHeld => ?_)
    clear hK K
    refine norm_ (a' := ?_) ?_ ?_
    rotate_left
    · show Act.put _ (some 106) _ = _
      simp only [Act.put, List.setIfInBounds_toArray, List.set_cons_zero, List.set_cons_succ, i64_w, i32_w]
      rfl
    refine last_ (i := 7) (N := none) #[true, true, true, true, true, true, true, true, false, false] rfl rfl (by kernel_rfl) (by decide) (fun K hK => ?_)
    have hz14 := blk_below HO_12.out HE14.out
    have hc3_ := (blk_cell hz14 3).trans rfl
    have hf3_ := blk_frozen hz14 3
    refine skip_ (w1 := ?_) (by rfl) rfl ?_ ?_
    rotate_left
    · go_simp
      rfl
    refine hK.out _ _ ?_
    clear hK K
    refine pure_ (i := 8) (N := some 108) (v := ?_) (a' := ?_) #[true, true, true, true, true, true, true, true, true, false] rfl rfl (by kernel_rfl) (fun _ _ _ h => h) (Or.inl ⟨by rfl, ?_⟩) ?_ ?_
    rotate_left
    · intro w'
      go_simp
      with_reducible rfl
    rotate_left
    · simp only [Act.put, List.setIfInBounds_toArray, List.set_cons_zero, List.set_cons_succ, i64_w, i32_w]
      rfl
    refine last_ (i := 9) (N := none) #[true, true, true, true, true, true, true, true, true, true] rfl rfl (by kernel_rfl) (by decide) (fun K hK => ?_)
    have hz14 := blk_put (blk_below HO_12.out HE14.out) 3 (.slice A13 bh.length c13) rfl
    have hc4_ := (blk_cell hz14 4).trans rfl
    have hf4_ := blk_frozen hz14 4
    refine skip_ (w1 := ?_) (by rfl) rfl ?_ ?_
    rotate_left
    · go_simp
      rfl
    refine hK.out _ _ ?_
    clear hK K
    refine done_ (by kernel_rfl) ?_
    obtain ⟨w15, hW15⟩ : ∃ W : World, (w14.setCell ⟨z7, 3, none⟩ (.slice A13 bh.length c13)).setCell ⟨z7, 4, none⟩ (.slice A14 x2.length c14) = W := ⟨_, rfl⟩
    have HO_15 := Aside0.mk (show w15.heap[z7]? = some (.cells #[.int .i64 f2, .int .i64 r2, .int .i64 x1, .slice A13 bh.length c13, .slice A14 x2.length c14] 27 (0, 0)) from by rw [← hW15]; exact blk_put (blk_put (blk_below HO_12.out HE14.out) 3 _ rfl) 4 _ rfl)
    have HZ2_15 := Aside0.mk (show w15.heap[z2]? = some (.cells #[.int .i64 0, .int .i64 0, .int .i64 0, .slice none 0 0, .slice none 0 0] 27 (0, 0)) from by rw [← hW15]; exact blk_far (p := ⟨z7, 4, none⟩) (blk_far (p := ⟨z7, 3, none⟩) (blk_below HZ2_12.out HE14.out) (by have := HZ7.out; show z2 ≠ z7; omega) _) (by have := HZ7.out; show z2 ≠ z7; omega) _)
    have HG13 := Aside0.mk (show Kd.R k75 75 w15 w12.drew.heap.size (fun _ => True) (.slice A13 bh.length c13) bh from by rw [← hW15]; exact rfar_ (rfar_ HG13.out ⟨z7, 3, none⟩ (by have := HZ7.out; exact this.2.2) _) ⟨z7, 4, none⟩ (by have := HZ7.out; exact this.2.2) _)
    have HG14 := Aside0.mk (show Kd.R k75 75 w15 w13.heap.size (fun _ => True) (.slice A14 x2.length c14) x2 from by rw [← hW15]; exact rfar_ (rfar_ HG14.out ⟨z7, 3, none⟩ (by have h1 := HZ7.out; have h2 := HE13.out.size; show z7 < _; omega) _) ⟨z7, 4, none⟩ (by have h1 := HZ7.out; have h2 := HE13.out.size; show z7 < _; omega) _)
    have HB15 := Aside0.mk (show Below w.heap.size w w15 from by rw [← hW15]; exact ((below_step HB12.out HE14.out).setCell (p := ⟨z7, 3, none⟩) HZ7.out.1 _).setCell (p := ⟨z7, 4, none⟩) HZ7.out.1 _)
    try rw [hW15]
    clear hW15 ho3 ho4 HO_12 HE14
    have hr0 := (blk_cell HZ2_15.out 0).trans rfl
    have ht0 := blk_frozen HZ2_15.out 0
    have hs0 := (blk_cell HO_15.out 0).trans rfl
    have hr1 := (blk_cell HZ2_15.out 1).trans rfl
    have ht1 := blk_frozen HZ2_15.out 1
    have hs1 := (blk_cell HO_15.out 1).trans rfl
    have hr2 := (blk_cell HZ2_15.out 2).trans rfl
    have ht2 := blk_frozen HZ2_15.out 2
    have hs2 := (blk_cell HO_15.out 2).trans rfl
    have hr3 := (blk_cell HZ2_15.out 3).trans rfl
    have ht3 := blk_frozen HZ2_15.out 3
    have hs3 := (blk_cell HO_15.out 3).trans rfl
    have hr4 := (blk_cell HZ2_15.out 4).trans rfl
    have ht4 := blk_frozen HZ2_15.out 4
    have hs4 := (blk_cell HO_15.out 4).trans rfl
    go_wp2_with fail
    refine bodyPost_ret (results_list (rs := [.cell 4 27, .tmp 5, .tmp 6]) (vs := [.agg #[.int .i64 f2, .int .i64 r2, .int .i64 x1, .slice A13 bh.length c13, .slice A14 x2.length c14], .int .i64 1, .bool false]) rfl (by simp) ?_) rfl ?_
    · refine Vals.cell z2 27 _ (0, 0) _ rfl ?_ Try.underlying27 rfl rfl (Vals.tmp (Vals.tmp Vals.nil))
      exact blk_put (blk_put (blk_put (blk_put (blk_put HZ2_15.out 0 _ rfl) 1 _ rfl) 2 _ rfl) 3 _ rfl) 4 _ rfl
    · have HF : w.heap.size ≤ z2 := by have := HZE.out; omega
      have HY : z2 < w12.drew.heap.size := by have h1 := HZ7.out; show z2 < w12.heap.size; omega
      have HY2 : z2 < w13.heap.size := by have h1 := HZ7.out; have h2 := HE13.out.size; omega
      have HBF := (((((HB15.out.setCell (p := ⟨z2, 0, none⟩) HF (.int .i64 f2)).setCell (p := ⟨z2, 1, none⟩) HF (.int .i64 r2)).setCell (p := ⟨z2, 2, none⟩) HF (.int .i64 x1)).setCell (p := ⟨z2, 3, none⟩) HF (.slice A13 bh.length c13)).setCell (p := ⟨z2, 4, none⟩) HF (.slice A14 x2.length c14))
      have q3 := (rfar_ (rfar_ (rfar_ (rfar_ (rfar_ HG13.out ⟨z2, 0, none⟩ HY (.int .i64 f2)) ⟨z2, 1, none⟩ HY (.int .i64 r2)) ⟨z2, 2, none⟩ HY (.int .i64 x1)) ⟨z2, 3, none⟩ HY (.slice A13 bh.length c13)) ⟨z2, 4, none⟩ HY (.slice A14 x2.length c14))
      have q4 := (rfar_ (rfar_ (rfar_ (rfar_ (rfar_ HG14.out ⟨z2, 0, none⟩ HY2 (.int .i64 f2)) ⟨z2, 1, none⟩ HY2 (.int .i64 r2)) ⟨z2, 2, none⟩ HY2 (.int .i64 x1)) ⟨z2, 3, none⟩ HY2 (.slice A13 bh.length c13)) ⟨z2, 4, none⟩ HY2 (.slice A14 x2.length c14))
      exact ⟨A13, c13, A14, c14, rfl, ⟨Kd.R_lower q3 (by have h1 := HZ7.out; show w.heap.size ≤ w12.heap.size; omega), Kd.R_lower q4 (by have h1 := HZ7.out; have h2 := HE13.out.size; omega), fun k hk he => by have h1 := HL13.out k hk; have h2 := HL14.out k he; omega⟩, HBF⟩
  by_cases ks : (rd_T75 rt 0).f0 = sy
  · skip
    have k7 : ((rt.length : Int) == 0) = false := beq_eq_false_iff_ne.mpr kz
    have hl0 := Aside0.mk (show 0 < rt.length by omega)
    have q0 : (0 < rt.length) = True := eq_true hl0.out
    have q1 : decide (0 < rt.length) = true := decide_eq_true hl0.out
    have q2 : ((0 : Int) < (rt.length : Int)) = True := eq_true (by omega)
    have q3 : decide ((0 : Int) < (rt.length : Int)) = true := decide_eq_true (by omega)
    have e : leap_ahead f2 st sy rt = some (wrap64 (1 + (rd_T75 rt 0).f1), rt.drop 1) := by unfold leap_ahead; rw [if_pos ke, if_neg (fun hh => kz hh.1), if_pos ⟨hl0.out, ks⟩]
    rw [e] at H2_
    have k8 : ((rd_T75 rt 0).f0 == sy) = true := beq_iff_eq.mpr ks
    have k6 : (f2 == st) = true := beq_iff_eq.mpr ke
    obtain ⟨ad_, e_, hx0, hx1⟩ := at_T75 HRr_2.out 0 (by omega) (by have := hl0.out; omega)
    cases e_
    try rw [show ((0 : Int)).toNat = 0 from rfl] at hx0 hx1
    try rw [show 0 * 2 = 0 from rfl] at hx0 hx1
    try rw [Addr.add_zero'] at hx0
    try rw [Addr.add_zero'] at hx1
    have H := Aside0.mk H2_
    clear H2_ e ke kz ks
    go_wp2_with fail
    go_quiet (fail)
    clear hHZ1_2_0 hHZ1_2_1 hHZ1_2_2 hHZ1_2_3 hHZ1_2_4 hHZ3_2_0 hHZ3_2_1 hHZ3_2_2
    obtain ⟨w3, hW3⟩ : ∃ W : World, w2.drewN nq = W := ⟨_, rfl⟩
    have hb3 : Below w2.heap.size w2 w3 := by rw [← hW3]; exact pw_below_drewN (Below.refl _ _) _
    have HB3 := Aside0.mk (below_step HB2.out hb3)
    have HZ0_3 := Aside0.mk (blk_below HZ0_2.out hb3)
    have HZ1_3 := Aside0.mk (blk_below HZ1_2.out hb3)
    have HZ2_3 := Aside0.mk (blk_below HZ2_2.out hb3)
    have HZ3_3 := Aside0.mk (blk_below HZ3_2.out hb3)
    have HRl_3 := Aside0.mk (Kd.C_below HRl_2.out hb3)
    have HRr_3 := Aside0.mk (Kd.C_below HRr_2.out hb3)
    clear HB2 HZ0_2 HZ1_2 HZ2_2 HZ3_2 HRl_2 HRr_2
    rw [hW3]
    clear hW3 hb3
    have hHZ1_3_0 := (blk_cell HZ1_3.out 0).trans rfl
    have hHZ1_3_1 := (blk_cell HZ1_3.out 1).trans rfl
    have hHZ1_3_2 := (blk_cell HZ1_3.out 2).trans rfl
    have hHZ1_3_3 := (blk_cell HZ1_3.out 3).trans rfl
    have hHZ1_3_4 := (blk_cell HZ1_3.out 4).trans rfl
    have hHZ3_3_0 := (blk_cell HZ3_3.out 0).trans rfl
    have hHZ3_3_1 := (blk_cell HZ3_3.out 1).trans rfl
    have hHZ3_3_2 := (blk_cell HZ3_3.out 2).trans rfl
    clear hx0 hx1
    obtain ⟨ad_, e_, hx0, hx1⟩ := at_T75 HRr_3.out 0 (by omega) (by have := hl0.out; omega)
    cases e_
    try rw [show ((0 : Int)).toNat = 0 from rfl] at hx0 hx1
    try rw [show 0 * 2 = 0 from rfl] at hx0 hx1
    try rw [Addr.add_zero'] at hx0
    try rw [Addr.add_zero'] at hx1
    obtain ⟨kst, hkst⟩ : ∃ k, wrap64 (1 + (rd_T75 rt 0).f1) = k := ⟨_, rfl⟩
    have hkst' : IntKind.i64.wrap (1 + (rd_T75 rt 0).f1) = kst := (i64_w _).trans hkst
    obtain ⟨ya, hya⟩ : ∃ y, y = rt.drop 1 := ⟨_, rfl⟩
    have H := Aside0.mk (hkst ▸ hya.symm ▸ H.out)
    have hcd := Aside0.mk (Kd.C_drop (m := 1) (c := c4) HRr_3.out (by have := hl0.out; omega) HC4.out)
    obtain ⟨i0, hi0, _, hsz0, _⟩ := info_parts info75
    have hcut := cut_from (P := Try.prog) 25 75 .i64 Try.underlying25 hi0 2 hsz0 (some ad_) rt.length c4 1 (by omega) (by have := hl0.out; omega)
    obtain ⟨A8, hA8⟩ : ∃ A1, A1 = (if c4 = (1 : Int).toNat then (some ad_) else ((some ad_) : Option Addr).map (·.add ((1 : Int).toNat * 2))) := ⟨_, rfl⟩
    have hyl : ya.length = rt.length - (1 : Int).toNat := by rw [hya, List.length_drop]; rfl
    rw [← hyl, ← hA8] at hcut
    have HRa_3 := Aside0.mk (show Kd.C k75 w3 A8 ya.length ya by rw [hA8, hya]; exact hcd.out)
    have HCa := Aside0.mk (show ya.length ≤ c4 - (1 : Int).toNat by have h2 := HC4.out; have h3 : (1 : Int).toNat = 1 := rfl; omega)
    have qs : (1 : Int) ≤ (rt.length : Int) := by have := hl0.out; omega
    clear hA8 hya hi0 hsz0 hyl hcd
    replace qs := eq_true qs
    go_wp2_with fail
    have h := H.out
    clear H
    try simp only at h
    obtain ⟨bh, hbh, h1⟩ := Option.bind_eq_some_iff.1 h
    obtain ⟨⟨x1, x2⟩, hsp, h2⟩ := Option.bind_eq_some_iff.1 h1
    try simp only at h2
    by_cases kl : bh.length < 8000000000000 ∧ x2.length < 8000000000000
    rotate_left
    · rw [if_neg kl] at h2
      cases h2
    rw [if_pos kl] at h2
    simp only [Option.some.injEq, Prod.mk.injEq] at h2
    obtain ⟨e1, e2, e3, e4, e5, e6, e7⟩ := h2
    subst e1 e3 e4 e5 e6 e7
    obtain ⟨mv, hmv⟩ : ∃ m, wrap64 (f1 * kst) = m := ⟨_, rfl⟩
    rw [hmv] at e2
    have E2 := Aside0.mk e2
    have EM := Aside0.mk hmv
    have KL := Aside0.mk kl
    have HBH := Aside0.mk hbh
    have HSP := Aside0.mk hsp
    clear h h1 hbh hsp kl e2 hmv
    refine (leap_before.callsC f0 kst A3 c3 lf bh _ HRl_3.out HC3.out HBH.out).mono ?_
    rintro e w10 ⟨A5, c5, rfl, hC5, hc5, hB10⟩
    clear hHZ1_3_0 hHZ1_3_1 hHZ1_3_2 hHZ1_3_3 hHZ1_3_4 hHZ3_3_0 hHZ3_3_1 hHZ3_3_2
    have HB10 := Aside0.mk (below_step HB3.out hB10)
    have HZ0_10 := Aside0.mk (blk_below HZ0_3.out hB10)
    have HZ1_10 := Aside0.mk (blk_below HZ1_3.out hB10)
    have HZ2_10 := Aside0.mk (blk_below HZ2_3.out hB10)
    have HZ3_10 := Aside0.mk (blk_below HZ3_3.out hB10)
    have HRl_10 := Aside0.mk (Kd.C_below HRl_3.out hB10)
    have HRr_10 := Aside0.mk (Kd.C_below HRr_3.out hB10)
    have HRa_10 := Aside0.mk (Kd.C_below HRa_3.out hB10)
    clear HB3 HZ0_3 HZ1_3 HZ2_3 HZ3_3 HRl_3 HRr_3 HRa_3
    have HRb_10 := Aside0.mk hC5
    have HCb := Aside0.mk hc5
    clear hB10 hC5 hc5 HBH
    have hHZ1_10_0 := (blk_cell HZ1_10.out 0).trans rfl
    have hHZ1_10_1 := (blk_cell HZ1_10.out 1).trans rfl
    have hHZ1_10_2 := (blk_cell HZ1_10.out 2).trans rfl
    have hHZ1_10_3 := (blk_cell HZ1_10.out 3).trans rfl
    have hHZ1_10_4 := (blk_cell HZ1_10.out 4).trans rfl
    have hHZ3_10_0 := (blk_cell HZ3_10.out 0).trans rfl
    have hHZ3_10_1 := (blk_cell HZ3_10.out 1).trans rfl
    have hHZ3_10_2 := (blk_cell HZ3_10.out 2).trans rfl
    go_wp2_with fail
    refine (leap_split.callsC A8 (c4 - (1 : Int).toNat) ya x1 x2 _ HRa_10.out HCa.out HSP.out).mono ?_
    rintro e w11 ⟨A6, c6, rfl, hC6, hc6, hB11⟩
    clear hHZ1_10_0 hHZ1_10_1 hHZ1_10_2 hHZ1_10_3 hHZ1_10_4 hHZ3_10_0 hHZ3_10_1 hHZ3_10_2
    have HB11 := Aside0.mk (below_step HB10.out hB11)
    have HZ0_11 := Aside0.mk (blk_below HZ0_10.out hB11)
    have HZ1_11 := Aside0.mk (blk_below HZ1_10.out hB11)
    have HZ2_11 := Aside0.mk (blk_below HZ2_10.out hB11)
    have HZ3_11 := Aside0.mk (blk_below HZ3_10.out hB11)
    have HRl_11 := Aside0.mk (Kd.C_below HRl_10.out hB11)
    have HRr_11 := Aside0.mk (Kd.C_below HRr_10.out hB11)
    have HRa_11 := Aside0.mk (Kd.C_below HRa_10.out hB11)
    have HRb_11 := Aside0.mk (Kd.C_below HRb_10.out hB11)
    clear HB10 HZ0_10 HZ1_10 HZ2_10 HZ3_10 HRl_10 HRr_10 HRa_10 HRb_10
    have HRs_11 := Aside0.mk hC6
    have HCs := Aside0.mk hc6
    clear hB11 hC6 hc6 HSP
    have hHZ1_11_0 := (blk_cell HZ1_11.out 0).trans rfl
    have hHZ1_11_1 := (blk_cell HZ1_11.out 1).trans rfl
    have hHZ1_11_2 := (blk_cell HZ1_11.out 2).trans rfl
    have hHZ1_11_3 := (blk_cell HZ1_11.out 3).trans rfl
    have hHZ1_11_4 := (blk_cell HZ1_11.out 4).trans rfl
    have hHZ3_11_0 := (blk_cell HZ3_11.out 0).trans rfl
    have hHZ3_11_1 := (blk_cell HZ3_11.out 1).trans rfl
    have hHZ3_11_2 := (blk_cell HZ3_11.out 2).trans rfl
    have e1 := EM.out
    have e2 := E2.out
    have e3 := (i64_w _).trans e1
    have e4 := (i64_w _).trans e2
    have hbO := (below_alloc (Below.refl w11.heap.size w11) (.cells #[.int .i64 f2, .int .i64 r2, .int .i64 x1, .slice A5 bh.length c5, .slice A6 x2.length c6] 27))
    have HO_12 := Aside0.mk (blk_new w11 (.cells #[.int .i64 f2, .int .i64 r2, .int .i64 x1, .slice A5 bh.length c5, .slice A6 x2.length c6] 27))
    have hr31 := (blk_cell (blk_below HZ3_11.out hbO) 1).trans rfl
    go_wp2_with fail
    clear HO_12 hbO hr31 e1 e2 e3 e4
    clear hHZ1_11_0 hHZ1_11_1 hHZ1_11_2 hHZ1_11_3 hHZ1_11_4 hHZ3_11_0 hHZ3_11_1 hHZ3_11_2
    obtain ⟨w12, hW12⟩ : ∃ W : World, w11.alloc (.cells #[.int .i64 f2, .int .i64 r2, .int .i64 x1, .slice A5 bh.length c5, .slice A6 x2.length c6] 27) = W := ⟨_, rfl⟩
    have hb12 : Below w11.heap.size w11 w12 := by rw [← hW12]; exact below_alloc (Below.refl _ _) _
    have HO_12 := Aside0.mk (show w12.heap[w11.heap.size]? = some (.cells #[.int .i64 f2, .int .i64 r2, .int .i64 x1, .slice A5 bh.length c5, .slice A6 x2.length c6] 27 (0, 0)) from by rw [← hW12]; exact blk_new w11 (.cells #[.int .i64 f2, .int .i64 r2, .int .i64 x1, .slice A5 bh.length c5, .slice A6 x2.length c6] 27))
    obtain ⟨z7, hz7⟩ : ∃ z, w11.heap.size = z := ⟨_, rfl⟩
    have HZ7 := Aside0.mk (show w.heap.size ≤ z7 ∧ z2 < z7 ∧ z7 < w12.heap.size from ⟨hz7 ▸ HB11.out.size, hz7 ▸ blk_lt HZ2_11.out, hz7 ▸ blk_lt HO_12.out⟩)
    have HB12 := Aside0.mk (below_step HB11.out hb12)
    have HZ0_12 := Aside0.mk (blk_below HZ0_11.out hb12)
    have HZ1_12 := Aside0.mk (blk_below HZ1_11.out hb12)
    have HZ2_12 := Aside0.mk (blk_below HZ2_11.out hb12)
    have HZ3_12 := Aside0.mk (blk_below HZ3_11.out hb12)
    have HRl_12 := Aside0.mk (Kd.C_below HRl_11.out hb12)
    have HRr_12 := Aside0.mk (Kd.C_below HRr_11.out hb12)
    have HRa_12 := Aside0.mk (Kd.C_below HRa_11.out hb12)
    have HRb_12 := Aside0.mk (Kd.C_below HRb_11.out hb12)
    have HRs_12 := Aside0.mk (Kd.C_below HRs_11.out hb12)
    clear HB11 HZ0_11 HZ1_11 HZ2_11 HZ3_11 HRl_11 HRr_11 HRa_11 HRb_11 HRs_11
    rw [hW12]
    rw [hz7] at HO_12 ⊢
    clear hW12 hb12 hz7
    have ho3 := (blk_cell HO_12.out 3).trans rfl
    have ho4 := (blk_cell HO_12.out 4).trans rfl
    refine start_ (n := 10) (S := fun w' => w'.cell? ⟨z7, 3, none⟩ = some (.slice A5 bh.length c5) ∧ w'.cell? ⟨z7, 4, none⟩ = some (.slice A6 x2.length c6)) (ds := [7, 9]) #[false, false, false, false, false, false, false, false, false, false] (by kernel_rfl) rfl rfl ⟨ho3, ho4⟩ (fun hHeld => ?_)
    refine pure_ (i := 0) (N := some 101) (v := ?_) (a' := ?_) #[true, false, false, false, false, false, false, false, false, false] rfl rfl (by kernel_rfl) (fun _ _ _ h => h) (Or.inl ⟨by rfl, ?_⟩) ?_ ?_
    rotate_left
    · intro w'
      go_simp
      with_reducible rfl
    rotate_left
    · simp only [Act.put, List.setIfInBounds_toArray, List.set_cons_zero, List.set_cons_succ, i64_w, i32_w]
      rfl
    refine pure_ (i := 3) (N := some 104) (v := ?_) (a' := ?_) #[true, false, false, true, false, false, false, false, false, false] rfl rfl (by kernel_rfl) (fun _ _ _ h => h) (Or.inl ⟨by rfl, ?_⟩) ?_ ?_
    rotate_left
    · intro w'
      go_simp
      with_reducible rfl
    rotate_left
    · simp only [Act.put, List.setIfInBounds_toArray, List.set_cons_zero, List.set_cons_succ, i64_w, i32_w]
      rfl
    refine take_ (i := 1) (N := some 102) (v := ?_) (a' := ?_) #[true, true, false, true, false, false, false, false, false, false] rfl rfl (by kernel_rfl) (fun _ _ _ h => h) (Or.inl ⟨by rfl, ?_⟩) hHeld ?_ ?_
    rotate_left
    · rintro w' ⟨s0, s1⟩
      go_simp
      with_reducible rfl
    rotate_left
    · simp only [Act.put, List.setIfInBounds_toArray, List.set_cons_zero, List.set_cons_succ, i64_w, i32_w]
      rfl
    refine take_ (i := 4) (N := some 105) (v := ?_) (a' := ?_) #[true, true, false, true, true, false, false, false, false, false] rfl rfl (by kernel_rfl) (fun _ _ _ h => h) (Or.inl ⟨by rfl, ?_⟩) hHeld ?_ ?_
    rotate_left
    · rintro w' ⟨s0, s1⟩
      go_simp
      with_reducible rfl
    rotate_left
    · simp only [Act.put, List.setIfInBounds_toArray, List.set_cons_zero, List.set_cons_succ, i64_w, i32_w]
      rfl
    refine one_ (i := 2) (N := some 103) #[true, true, true, true, true, false, false, false, false, false] rfl rfl (by kernel_rfl) (by decide) (fun K hK => ?_)
    refine goes_ Try.func57 (by kernel_rfl) rfl #[.slice A5 bh.length c5] (by rfl) rfl rfl (by simp only [List.map_toArray, List.map_cons, List.map_nil]; rfl) ?_
    with_reducible refine (api_Run.calls A5 c5 bh bh w12.drew (Kd.C_below HRb_12.out (show Below w12.heap.size w12 w12.drew from bk_ (Below.refl _ _))) HCb.out (clone_ok _ (by have := KL.out; omega))).mono ?_
    rintro e w13 ⟨v13, rfl, ho13, hB13⟩
    refine ⟨_, rfl, ?_⟩
    obtain ⟨A13, c13, rfl⟩ := Kd.R_slice ho13
    have HE13 := Aside0.mk (below_step (bk_ (Below.refl w12.heap.size w12)) hB13)
    have HG13 := Aside0.mk ho13
    have HL13 := Aside0.mk (Kd.R_lt ho13)
    clear ho13 hB13
    refine hK.out _ _ ⟨(lf_ HE13.out ho3), (lf_ HE13.out ho4)⟩ (fun hHeld => ?_)
    clear hK K
    refine norm_ (a' := ?_) ?_ ?_
    rotate_left
    · show Act.put _ (some 103) _ = _
      simp only [Act.put, List.setIfInBounds_toArray, List.set_cons_zero, List.set_cons_succ, i64_w, i32_w]
      rfl
    refine pure_ (i := 6) (N := some 107) (v := ?_) (a' := ?_) #[true, true, true, true, true, false, true, false, false, false] rfl rfl (by kernel_rfl) (fun _ _ _ h => h) (Or.inl ⟨by rfl, ?_⟩) ?_ ?_
    rotate_left
    · intro w'
      go_simp
      with_reducible rfl
    rotate_left
    · simp only [Act.put, List.setIfInBounds_toArray, List.set_cons_zero, List.set_cons_succ, i64_w, i32_w]
      rfl
    refine one_ (i := 5) (N := some 106) #[true, true, true, true, true, true, true, false, false, false] rfl rfl (by kernel_rfl) (by decide) (fun K hK => ?_)
    refine goes_ Try.func57 (by kernel_rfl) rfl #[.slice A6 x2.length c6] (by rfl) rfl rfl (by simp only [List.map_toArray, List.map_cons, List.map_nil]; rfl) ?_
    with_reducible refine (api_Run.calls A6 c6 x2 x2 w13 (Kd.C_below HRs_12.out HE13.out) HCs.out (clone_ok _ (by have := KL.out; omega))).mono ?_
    rintro e w14 ⟨v14, rfl, ho14, hB14⟩
    refine ⟨_, rfl, ?_⟩
    obtain ⟨A14, c14, rfl⟩ := Kd.R_slice ho14
    have HE14 := Aside0.mk (below_step HE13.out hB14)
    have HG14 := Aside0.mk ho14
    have HL14 := Aside0.mk (Kd.R_base ho14)
    have HG13 := Aside0.mk (Kd.R_below HG13.out hB14)
    clear ho14 hB14
    refine hK.out _ _ ⟨(lf_ HE14.out ho3), (lf_ HE14.out ho4)⟩ (fun hHeld => ?_)
    clear hK K
    refine norm_ (a' := ?_) ?_ ?_
    rotate_left
    · show Act.put _ (some 106) _ = _
      simp only [Act.put, List.setIfInBounds_toArray, List.set_cons_zero, List.set_cons_succ, i64_w, i32_w]
      rfl
    refine last_ (i := 7) (N := none) #[true, true, true, true, true, true, true, true, false, false] rfl rfl (by kernel_rfl) (by decide) (fun K hK => ?_)
    have hz14 := blk_below HO_12.out HE14.out
    have hc3_ := (blk_cell hz14 3).trans rfl
    have hf3_ := blk_frozen hz14 3
    refine skip_ (w1 := ?_) (by rfl) rfl ?_ ?_
    rotate_left
    · go_simp
      rfl
    refine hK.out _ _ ?_
    clear hK K
    refine pure_ (i := 8) (N := some 108) (v := ?_) (a' := ?_) #[true, true, true, true, true, true, true, true, true, false] rfl rfl (by kernel_rfl) (fun _ _ _ h => h) (Or.inl ⟨by rfl, ?_⟩) ?_ ?_
    rotate_left
    · intro w'
      go_simp
      with_reducible rfl
    rotate_left
    · simp only [Act.put, List.setIfInBounds_toArray, List.set_cons_zero, List.set_cons_succ, i64_w, i32_w]
      rfl
    refine last_ (i := 9) (N := none) #[true, true, true, true, true, true, true, true, true, true] rfl rfl (by kernel_rfl) (by decide) (fun K hK => ?_)
    have hz14 := blk_put (blk_below HO_12.out HE14.out) 3 (.slice A13 bh.length c13) rfl
    have hc4_ := (blk_cell hz14 4).trans rfl
    have hf4_ := blk_frozen hz14 4
    refine skip_ (w1 := ?_) (by rfl) rfl ?_ ?_
    rotate_left
    · go_simp
      rfl
    refine hK.out _ _ ?_
    clear hK K
    refine done_ (by kernel_rfl) ?_
    obtain ⟨w15, hW15⟩ : ∃ W : World, (w14.setCell ⟨z7, 3, none⟩ (.slice A13 bh.length c13)).setCell ⟨z7, 4, none⟩ (.slice A14 x2.length c14) = W := ⟨_, rfl⟩
    have HO_15 := Aside0.mk (show w15.heap[z7]? = some (.cells #[.int .i64 f2, .int .i64 r2, .int .i64 x1, .slice A13 bh.length c13, .slice A14 x2.length c14] 27 (0, 0)) from by rw [← hW15]; exact blk_put (blk_put (blk_below HO_12.out HE14.out) 3 _ rfl) 4 _ rfl)
    have HZ2_15 := Aside0.mk (show w15.heap[z2]? = some (.cells #[.int .i64 0, .int .i64 0, .int .i64 0, .slice none 0 0, .slice none 0 0] 27 (0, 0)) from by rw [← hW15]; exact blk_far (p := ⟨z7, 4, none⟩) (blk_far (p := ⟨z7, 3, none⟩) (blk_below HZ2_12.out HE14.out) (by have := HZ7.out; show z2 ≠ z7; omega) _) (by have := HZ7.out; show z2 ≠ z7; omega) _)
    have HG13 := Aside0.mk (show Kd.R k75 75 w15 w12.drew.heap.size (fun _ => True) (.slice A13 bh.length c13) bh from by rw [← hW15]; exact rfar_ (rfar_ HG13.out ⟨z7, 3, none⟩ (by have := HZ7.out; exact this.2.2) _) ⟨z7, 4, none⟩ (by have := HZ7.out; exact this.2.2) _)
    have HG14 := Aside0.mk (show Kd.R k75 75 w15 w13.heap.size (fun _ => True) (.slice A14 x2.length c14) x2 from by rw [← hW15]; exact rfar_ (rfar_ HG14.out ⟨z7, 3, none⟩ (by have h1 := HZ7.out; have h2 := HE13.out.size; show z7 < _; omega) _) ⟨z7, 4, none⟩ (by have h1 := HZ7.out; have h2 := HE13.out.size; show z7 < _; omega) _)
    have HB15 := Aside0.mk (show Below w.heap.size w w15 from by rw [← hW15]; exact ((below_step HB12.out HE14.out).setCell (p := ⟨z7, 3, none⟩) HZ7.out.1 _).setCell (p := ⟨z7, 4, none⟩) HZ7.out.1 _)
    try rw [hW15]
    clear hW15 ho3 ho4 HO_12 HE14
    have hr0 := (blk_cell HZ2_15.out 0).trans rfl
    have ht0 := blk_frozen HZ2_15.out 0
    have hs0 := (blk_cell HO_15.out 0).trans rfl
    have hr1 := (blk_cell HZ2_15.out 1).trans rfl
    have ht1 := blk_frozen HZ2_15.out 1
    have hs1 := (blk_cell HO_15.out 1).trans rfl
    have hr2 := (blk_cell HZ2_15.out 2).trans rfl
    have ht2 := blk_frozen HZ2_15.out 2
    have hs2 := (blk_cell HO_15.out 2).trans rfl
    have hr3 := (blk_cell HZ2_15.out 3).trans rfl
    have ht3 := blk_frozen HZ2_15.out 3
    have hs3 := (blk_cell HO_15.out 3).trans rfl
    have hr4 := (blk_cell HZ2_15.out 4).trans rfl
    have ht4 := blk_frozen HZ2_15.out 4
    have hs4 := (blk_cell HO_15.out 4).trans rfl
    go_wp2_with fail
    refine bodyPost_ret (results_list (rs := [.cell 4 27, .tmp 5, .tmp 6]) (vs := [.agg #[.int .i64 f2, .int .i64 r2, .int .i64 x1, .slice A13 bh.length c13, .slice A14 x2.length c14], .int .i64 kst, .bool false]) rfl (by simp) ?_) rfl ?_
    · refine Vals.cell z2 27 _ (0, 0) _ rfl ?_ Try.underlying27 rfl rfl (Vals.tmp (Vals.tmp Vals.nil))
      exact blk_put (blk_put (blk_put (blk_put (blk_put HZ2_15.out 0 _ rfl) 1 _ rfl) 2 _ rfl) 3 _ rfl) 4 _ rfl
    · have HF : w.heap.size ≤ z2 := by have := HZE.out; omega
      have HY : z2 < w12.drew.heap.size := by have h1 := HZ7.out; show z2 < w12.heap.size; omega
      have HY2 : z2 < w13.heap.size := by have h1 := HZ7.out; have h2 := HE13.out.size; omega
      have HBF := (((((HB15.out.setCell (p := ⟨z2, 0, none⟩) HF (.int .i64 f2)).setCell (p := ⟨z2, 1, none⟩) HF (.int .i64 r2)).setCell (p := ⟨z2, 2, none⟩) HF (.int .i64 x1)).setCell (p := ⟨z2, 3, none⟩) HF (.slice A13 bh.length c13)).setCell (p := ⟨z2, 4, none⟩) HF (.slice A14 x2.length c14))
      have q3 := (rfar_ (rfar_ (rfar_ (rfar_ (rfar_ HG13.out ⟨z2, 0, none⟩ HY (.int .i64 f2)) ⟨z2, 1, none⟩ HY (.int .i64 r2)) ⟨z2, 2, none⟩ HY (.int .i64 x1)) ⟨z2, 3, none⟩ HY (.slice A13 bh.length c13)) ⟨z2, 4, none⟩ HY (.slice A14 x2.length c14))
      have q4 := (rfar_ (rfar_ (rfar_ (rfar_ (rfar_ HG14.out ⟨z2, 0, none⟩ HY2 (.int .i64 f2)) ⟨z2, 1, none⟩ HY2 (.int .i64 r2)) ⟨z2, 2, none⟩ HY2 (.int .i64 x1)) ⟨z2, 3, none⟩ HY2 (.slice A13 bh.length c13)) ⟨z2, 4, none⟩ HY2 (.slice A14 x2.length c14))
      exact ⟨A13, c13, A14, c14, rfl, ⟨Kd.R_lower q3 (by have h1 := HZ7.out; show w.heap.size ≤ w12.heap.size; omega), Kd.R_lower q4 (by have h1 := HZ7.out; have h2 := HE13.out.size; omega), fun k hk he => by have h1 := HL13.out k hk; have h2 := HL14.out k he; omega⟩, HBF⟩
  have k7 : ((rt.length : Int) == 0) = false := beq_eq_false_iff_ne.mpr kz
  have hl0 := Aside0.mk (show 0 < rt.length by omega)
  have q0 : (0 < rt.length) = True := eq_true hl0.out
  have q1 : decide (0 < rt.length) = true := decide_eq_true hl0.out
  have q2 : ((0 : Int) < (rt.length : Int)) = True := eq_true (by omega)
  have q3 : decide ((0 : Int) < (rt.length : Int)) = true := decide_eq_true (by omega)
  have e : leap_ahead f2 st sy rt = some (1, rt) := by unfold leap_ahead; rw [if_pos ke, if_neg (fun hh => kz hh.1), if_neg (fun hh => ks hh.2)]
  rw [e] at H2_
  have k8 : ((rd_T75 rt 0).f0 == sy) = false := beq_eq_false_iff_ne.mpr ks
  have k6 : (f2 == st) = true := beq_iff_eq.mpr ke
  obtain ⟨ad_, e_, hx0, hx1⟩ := at_T75 HRr_2.out 0 (by omega) (by have := hl0.out; omega)
  cases e_
  try rw [show ((0 : Int)).toNat = 0 from rfl] at hx0 hx1
  try rw [show 0 * 2 = 0 from rfl] at hx0 hx1
  try rw [Addr.add_zero'] at hx0
  try rw [Addr.add_zero'] at hx1
  have H := Aside0.mk H2_
  clear H2_ e ke kz ks
  go_wp2_with fail
  go_quiet (fail)
  clear hHZ1_2_0 hHZ1_2_1 hHZ1_2_2 hHZ1_2_3 hHZ1_2_4 hHZ3_2_0 hHZ3_2_1 hHZ3_2_2
  obtain ⟨w3, hW3⟩ : ∃ W : World, w2.drewN nq = W := ⟨_, rfl⟩
  have hb3 : Below w2.heap.size w2 w3 := by rw [← hW3]; exact pw_below_drewN (Below.refl _ _) _
  have HB3 := Aside0.mk (below_step HB2.out hb3)
  have HZ0_3 := Aside0.mk (blk_below HZ0_2.out hb3)
  have HZ1_3 := Aside0.mk (blk_below HZ1_2.out hb3)
  have HZ2_3 := Aside0.mk (blk_below HZ2_2.out hb3)
  have HZ3_3 := Aside0.mk (blk_below HZ3_2.out hb3)
  have HRl_3 := Aside0.mk (Kd.C_below HRl_2.out hb3)
  have HRr_3 := Aside0.mk (Kd.C_below HRr_2.out hb3)
  clear HB2 HZ0_2 HZ1_2 HZ2_2 HZ3_2 HRl_2 HRr_2
  rw [hW3]
  clear hW3 hb3
  have hHZ1_3_0 := (blk_cell HZ1_3.out 0).trans rfl
  have hHZ1_3_1 := (blk_cell HZ1_3.out 1).trans rfl
  have hHZ1_3_2 := (blk_cell HZ1_3.out 2).trans rfl
  have hHZ1_3_3 := (blk_cell HZ1_3.out 3).trans rfl
  have hHZ1_3_4 := (blk_cell HZ1_3.out 4).trans rfl
  have hHZ3_3_0 := (blk_cell HZ3_3.out 0).trans rfl
  have hHZ3_3_1 := (blk_cell HZ3_3.out 1).trans rfl
  have hHZ3_3_2 := (blk_cell HZ3_3.out 2).trans rfl
  go_wp2_with fail
  have h := H.out
  clear H
  try simp only at h
  obtain ⟨bh, hbh, h1⟩ := Option.bind_eq_some_iff.1 h
  obtain ⟨⟨x1, x2⟩, hsp, h2⟩ := Option.bind_eq_some_iff.1 h1
  try simp only at h2
  by_cases kl : bh.length < 8000000000000 ∧ x2.length < 8000000000000
  rotate_left
  · rw [if_neg kl] at h2
    cases h2
  rw [if_pos kl] at h2
  simp only [Option.some.injEq, Prod.mk.injEq] at h2
  obtain ⟨e1, e2, e3, e4, e5, e6, e7⟩ := h2
  subst e1 e3 e4 e5 e6 e7
  obtain ⟨mv, hmv⟩ : ∃ m, wrap64 (f1 * 1) = m := ⟨_, rfl⟩
  rw [hmv] at e2
  have E2 := Aside0.mk e2
  have EM := Aside0.mk hmv
  have KL := Aside0.mk kl
  have HBH := Aside0.mk hbh
  have HSP := Aside0.mk hsp
  clear h h1 hbh hsp kl e2 hmv
  refine (leap_before.callsC f0 1 A3 c3 lf bh _ HRl_3.out HC3.out HBH.out).mono ?_
  rintro e w10 ⟨A5, c5, rfl, hC5, hc5, hB10⟩
  clear hHZ1_3_0 hHZ1_3_1 hHZ1_3_2 hHZ1_3_3 hHZ1_3_4 hHZ3_3_0 hHZ3_3_1 hHZ3_3_2
  have HB10 := Aside0.mk (below_step HB3.out hB10)
  have HZ0_10 := Aside0.mk (blk_below HZ0_3.out hB10)
  have HZ1_10 := Aside0.mk (blk_below HZ1_3.out hB10)
  have HZ2_10 := Aside0.mk (blk_below HZ2_3.out hB10)
  have HZ3_10 := Aside0.mk (blk_below HZ3_3.out hB10)
  have HRl_10 := Aside0.mk (Kd.C_below HRl_3.out hB10)
  have HRr_10 := Aside0.mk (Kd.C_below HRr_3.out hB10)
  clear HB3 HZ0_3 HZ1_3 HZ2_3 HZ3_3 HRl_3 HRr_3
  have HRb_10 := Aside0.mk hC5
  have HCb := Aside0.mk hc5
  clear hB10 hC5 hc5 HBH
  have hHZ1_10_0 := (blk_cell HZ1_10.out 0).trans rfl
  have hHZ1_10_1 := (blk_cell HZ1_10.out 1).trans rfl
  have hHZ1_10_2 := (blk_cell HZ1_10.out 2).trans rfl
  have hHZ1_10_3 := (blk_cell HZ1_10.out 3).trans rfl
  have hHZ1_10_4 := (blk_cell HZ1_10.out 4).trans rfl
  have hHZ3_10_0 := (blk_cell HZ3_10.out 0).trans rfl
  have hHZ3_10_1 := (blk_cell HZ3_10.out 1).trans rfl
  have hHZ3_10_2 := (blk_cell HZ3_10.out 2).trans rfl
  go_wp2_with fail
  refine (leap_split.callsC (some ad_) c4 rt x1 x2 _ HRr_10.out HC4.out HSP.out).mono ?_
  rintro e w11 ⟨A6, c6, rfl, hC6, hc6, hB11⟩
  clear hHZ1_10_0 hHZ1_10_1 hHZ1_10_2 hHZ1_10_3 hHZ1_10_4 hHZ3_10_0 hHZ3_10_1 hHZ3_10_2
  have HB11 := Aside0.mk (below_step HB10.out hB11)
  have HZ0_11 := Aside0.mk (blk_below HZ0_10.out hB11)
  have HZ1_11 := Aside0.mk (blk_below HZ1_10.out hB11)
  have HZ2_11 := Aside0.mk (blk_below HZ2_10.out hB11)
  have HZ3_11 := Aside0.mk (blk_below HZ3_10.out hB11)
  have HRl_11 := Aside0.mk (Kd.C_below HRl_10.out hB11)
  have HRr_11 := Aside0.mk (Kd.C_below HRr_10.out hB11)
  have HRb_11 := Aside0.mk (Kd.C_below HRb_10.out hB11)
  clear HB10 HZ0_10 HZ1_10 HZ2_10 HZ3_10 HRl_10 HRr_10 HRb_10
  have HRs_11 := Aside0.mk hC6
  have HCs := Aside0.mk hc6
  clear hB11 hC6 hc6 HSP
  have hHZ1_11_0 := (blk_cell HZ1_11.out 0).trans rfl
  have hHZ1_11_1 := (blk_cell HZ1_11.out 1).trans rfl
  have hHZ1_11_2 := (blk_cell HZ1_11.out 2).trans rfl
  have hHZ1_11_3 := (blk_cell HZ1_11.out 3).trans rfl
  have hHZ1_11_4 := (blk_cell HZ1_11.out 4).trans rfl
  have hHZ3_11_0 := (blk_cell HZ3_11.out 0).trans rfl
  have hHZ3_11_1 := (blk_cell HZ3_11.out 1).trans rfl
  have hHZ3_11_2 := (blk_cell HZ3_11.out 2).trans rfl
  have e1 := EM.out
  have e2 := E2.out
  have e3 := (i64_w _).trans e1
  have e4 := (i64_w _).trans e2
  have e5 : wrap64 f1 = mv := by rw [← e1, Int.mul_one]
  have e6 : IntKind.i64.wrap f1 = mv := (i64_w _).trans e5
  have hbO := (below_alloc (Below.refl w11.heap.size w11) (.cells #[.int .i64 f2, .int .i64 r2, .int .i64 x1, .slice A5 bh.length c5, .slice A6 x2.length c6] 27))
  have HO_12 := Aside0.mk (blk_new w11 (.cells #[.int .i64 f2, .int .i64 r2, .int .i64 x1, .slice A5 bh.length c5, .slice A6 x2.length c6] 27))
  have hr31 := (blk_cell (blk_below HZ3_11.out hbO) 1).trans rfl
  go_wp2_with fail
  clear HO_12 hbO hr31 e1 e2 e3 e4 e5 e6
  clear hHZ1_11_0 hHZ1_11_1 hHZ1_11_2 hHZ1_11_3 hHZ1_11_4 hHZ3_11_0 hHZ3_11_1 hHZ3_11_2
  obtain ⟨w12, hW12⟩ : ∃ W : World, w11.alloc (.cells #[.int .i64 f2, .int .i64 r2, .int .i64 x1, .slice A5 bh.length c5, .slice A6 x2.length c6] 27) = W := ⟨_, rfl⟩
  have hb12 : Below w11.heap.size w11 w12 := by rw [← hW12]; exact below_alloc (Below.refl _ _) _
  have HO_12 := Aside0.mk (show w12.heap[w11.heap.size]? = some (.cells #[.int .i64 f2, .int .i64 r2, .int .i64 x1, .slice A5 bh.length c5, .slice A6 x2.length c6] 27 (0, 0)) from by rw [← hW12]; exact blk_new w11 (.cells #[.int .i64 f2, .int .i64 r2, .int .i64 x1, .slice A5 bh.length c5, .slice A6 x2.length c6] 27))
  obtain ⟨z7, hz7⟩ : ∃ z, w11.heap.size = z := ⟨_, rfl⟩
  have HZ7 := Aside0.mk (show w.heap.size ≤ z7 ∧ z2 < z7 ∧ z7 < w12.heap.size from ⟨hz7 ▸ HB11.out.size, hz7 ▸ blk_lt HZ2_11.out, hz7 ▸ blk_lt HO_12.out⟩)
  have HB12 := Aside0.mk (below_step HB11.out hb12)
  have HZ0_12 := Aside0.mk (blk_below HZ0_11.out hb12)
  have HZ1_12 := Aside0.mk (blk_below HZ1_11.out hb12)
  have HZ2_12 := Aside0.mk (blk_below HZ2_11.out hb12)
  have HZ3_12 := Aside0.mk (blk_below HZ3_11.out hb12)
  have HRl_12 := Aside0.mk (Kd.C_below HRl_11.out hb12)
  have HRr_12 := Aside0.mk (Kd.C_below HRr_11.out hb12)
  have HRb_12 := Aside0.mk (Kd.C_below HRb_11.out hb12)
  have HRs_12 := Aside0.mk (Kd.C_below HRs_11.out hb12)
  clear HB11 HZ0_11 HZ1_11 HZ2_11 HZ3_11 HRl_11 HRr_11 HRb_11 HRs_11
  rw [hW12]
  rw [hz7] at HO_12 ⊢
  clear hW12 hb12 hz7
  have ho3 := (blk_cell HO_12.out 3).trans rfl
  have ho4 := (blk_cell HO_12.out 4).trans rfl
  refine start_ (n := 10) (S := fun w' => w'.cell? ⟨z7, 3, none⟩ = some (.slice A5 bh.length c5) ∧ w'.cell? ⟨z7, 4, none⟩ = some (.slice A6 x2.length c6)) (ds := [7, 9]) #[false, false, false, false, false, false, false, false, false, false] (by kernel_rfl) rfl rfl ⟨ho3, ho4⟩ (fun hHeld => ?_)
  refine pure_ (i := 0) (N := some 101) (v := ?_) (a' := ?_) #[true, false, false, false, false, false, false, false, false, false] rfl rfl (by kernel_rfl) (fun _ _ _ h => h) (Or.inl ⟨by rfl, ?_⟩) ?_ ?_
  rotate_left
  · intro w'
    go_simp
    with_reducible rfl
  rotate_left
  · simp only [Act.put, List.setIfInBounds_toArray, List.set_cons_zero, List.set_cons_succ, i64_w, i32_w]
    rfl
  refine pure_ (i := 3) (N := some 104) (v := ?_) (a' := ?_) #[true, false, false, true, false, false, false, false, false, false] rfl rfl (by kernel_rfl) (fun _ _ _ h => h) (Or.inl ⟨by rfl, ?_⟩) ?_ ?_
  rotate_left
  · intro w'
    go_simp
    with_reducible rfl
  rotate_left
  · simp only [Act.put, List.setIfInBounds_toArray, List.set_cons_zero, List.set_cons_succ, i64_w, i32_w]
    rfl
  refine take_ (i := 1) (N := some 102) (v := ?_) (a' := ?_) #[true, true, false, true, false, false, false, false, false, false] rfl rfl (by kernel_rfl) (fun _ _ _ h => h) (Or.inl ⟨by rfl, ?_⟩) hHeld ?_ ?_
  rotate_left
  · rintro w' ⟨s0, s1⟩
    go_simp
    with_reducible rfl
  rotate_left
  · simp only [Act.put, List.setIfInBounds_toArray, List.set_cons_zero, List.set_cons_succ, i64_w, i32_w]
    rfl
  refine take_ (i := 4) (N := some 105) (v := ?_) (a' := ?_) #[true, true, false, true, true, false, false, false, false, false] rfl rfl (by kernel_rfl) (fun _ _ _ h => h) (Or.inl ⟨by rfl, ?_⟩) hHeld ?_ ?_
  rotate_left
  · rintro w' ⟨s0, s1⟩
    go_simp
    with_reducible rfl
  rotate_left
  · simp only [Act.put, List.setIfInBounds_toArray, List.set_cons_zero, List.set_cons_succ, i64_w, i32_w]
    rfl
  refine one_ (i := 2) (N := some 103) #[true, true, true, true, true, false, false, false, false, false] rfl rfl (by kernel_rfl) (by decide) (fun K hK => ?_)
  refine goes_ Try.func57 (by kernel_rfl) rfl #[.slice A5 bh.length c5] (by rfl) rfl rfl (by simp only [List.map_toArray, List.map_cons, List.map_nil]; rfl) ?_
  with_reducible refine (api_Run.calls A5 c5 bh bh w12.drew (Kd.C_below HRb_12.out (show Below w12.heap.size w12 w12.drew from bk_ (Below.refl _ _))) HCb.out (clone_ok _ (by have := KL.out; omega))).mono ?_
  rintro e w13 ⟨v13, rfl, ho13, hB13⟩
  refine ⟨_, rfl, ?_⟩
  obtain ⟨A13, c13, rfl⟩ := Kd.R_slice ho13
  have HE13 := Aside0.mk (below_step (bk_ (Below.refl w12.heap.size w12)) hB13)
  have HG13 := Aside0.mk ho13
  have HL13 := Aside0.mk (Kd.R_lt ho13)
  clear ho13 hB13
  refine hK.out _ _ ⟨(lf_ HE13.out ho3), (lf_ HE13.out ho4)⟩ (fun hHeld => ?_)
  clear hK K
  refine norm_ (a' := ?_) ?_ ?_
  rotate_left
  · show Act.put _ (some 103) _ = _
    simp only [Act.put, List.setIfInBounds_toArray, List.set_cons_zero, List.set_cons_succ, i64_w, i32_w]
    rfl
  refine pure_ (i := 6) (N := some 107) (v := ?_) (a' := ?_) #[true, true, true, true, true, false, true, false, false, false] rfl rfl (by kernel_rfl) (fun _ _ _ h => h) (Or.inl ⟨by rfl, ?_⟩) ?_ ?_
  rotate_left
  · intro w'
    go_simp
    with_reducible rfl
  rotate_left
  · simp only [Act.put, List.setIfInBounds_toArray, List.set_cons_zero, List.set_cons_succ, i64_w, i32_w]
    rfl
  refine one_ (i := 5) (N := some 106) #[true, true, true, true, true, true, true, false, false, false] rfl rfl (by kernel_rfl) (by decide) (fun K hK => ?_)
  refine goes_ Try.func57 (by kernel_rfl) rfl #[.slice A6 x2.length c6] (by rfl) rfl rfl (by simp only [List.map_toArray, List.map_cons, List.map_nil]; rfl) ?_
  with_reducible refine (api_Run.calls A6 c6 x2 x2 w13 (Kd.C_below HRs_12.out HE13.out) HCs.out (clone_ok _ (by have := KL.out; omega))).mono ?_
  rintro e w14 ⟨v14, rfl, ho14, hB14⟩
  refine ⟨_, rfl, ?_⟩
  obtain ⟨A14, c14, rfl⟩ := Kd.R_slice ho14
  have HE14 := Aside0.mk (below_step HE13.out hB14)
  have HG14 := Aside0.mk ho14
  have HL14 := Aside0.mk (Kd.R_base ho14)
  have HG13 := Aside0.mk (Kd.R_below HG13.out hB14)
  clear ho14 hB14
  refine hK.out _ _ ⟨(lf_ HE14.out ho3), (lf_ HE14.out ho4)⟩ (fun hHeld => ?_)
  clear hK K
  refine norm_ (a' := ?_) ?_ ?_
  rotate_left
  · show Act.put _ (some 106) _ = _
    simp only [Act.put, List.setIfInBounds_toArray, List.set_cons_zero, List.set_cons_succ, i64_w, i32_w]
    rfl
  refine last_ (i := 7) (N := none) #[true, true, true, true, true, true, true, true, false, false] rfl rfl (by kernel_rfl) (by decide) (fun K hK => ?_)
  have hz14 := blk_below HO_12.out HE14.out
  have hc3_ := (blk_cell hz14 3).trans rfl
  have hf3_ := blk_frozen hz14 3
  refine skip_ (w1 := ?_) (by rfl) rfl ?_ ?_
  rotate_left
  · go_simp
    rfl
  refine hK.out _ _ ?_
  clear hK K
  refine pure_ (i := 8) (N := some 108) (v := ?_) (a' := ?_) #[true, true, true, true, true, true, true, true, true, false] rfl rfl (by kernel_rfl) (fun _ _ _ h => h) (Or.inl ⟨by rfl, ?_⟩) ?_ ?_
  rotate_left
  · intro w'
    go_simp
    with_reducible rfl
  rotate_left
  · simp only [Act.put, List.setIfInBounds_toArray, List.set_cons_zero, List.set_cons_succ, i64_w, i32_w]
    rfl
  refine last_ (i := 9) (N := none) #[true, true, true, true, true, true, true, true, true, true] rfl rfl (by kernel_rfl) (by decide) (fun K hK => ?_)
  have hz14 := blk_put (blk_below HO_12.out HE14.out) 3 (.slice A13 bh.length c13) rfl
  have hc4_ := (blk_cell hz14 4).trans rfl
  have hf4_ := blk_frozen hz14 4
  refine skip_ (w1 := ?_) (by rfl) rfl ?_ ?_
  rotate_left
  · go_simp
    rfl
  refine hK.out _ _ ?_
  clear hK K
  refine done_ (by kernel_rfl) ?_
  obtain ⟨w15, hW15⟩ : ∃ W : World, (w14.setCell ⟨z7, 3, none⟩ (.slice A13 bh.length c13)).setCell ⟨z7, 4, none⟩ (.slice A14 x2.length c14) = W := ⟨_, rfl⟩
  have HO_15 := Aside0.mk (show w15.heap[z7]? = some (.cells #[.int .i64 f2, .int .i64 r2, .int .i64 x1, .slice A13 bh.length c13, .slice A14 x2.length c14] 27 (0, 0)) from by rw [← hW15]; exact blk_put (blk_put (blk_below HO_12.out HE14.out) 3 _ rfl) 4 _ rfl)
  have HZ2_15 := Aside0.mk (show w15.heap[z2]? = some (.cells #[.int .i64 0, .int .i64 0, .int .i64 0, .slice none 0 0, .slice none 0 0] 27 (0, 0)) from by rw [← hW15]; exact blk_far (p := ⟨z7, 4, none⟩) (blk_far (p := ⟨z7, 3, none⟩) (blk_below HZ2_12.out HE14.out) (by have := HZ7.out; show z2 ≠ z7; omega) _) (by have := HZ7.out; show z2 ≠ z7; omega) _)
  have HG13 := Aside0.mk (show Kd.R k75 75 w15 w12.drew.heap.size (fun _ => True) (.slice A13 bh.length c13) bh from by rw [← hW15]; exact rfar_ (rfar_ HG13.out ⟨z7, 3, none⟩ (by have := HZ7.out; exact this.2.2) _) ⟨z7, 4, none⟩ (by have := HZ7.out; exact this.2.2) _)
  have HG14 := Aside0.mk (show Kd.R k75 75 w15 w13.heap.size (fun _ => True) (.slice A14 x2.length c14) x2 from by rw [← hW15]; exact rfar_ (rfar_ HG14.out ⟨z7, 3, none⟩ (by have h1 := HZ7.out; have h2 := HE13.out.size; show z7 < _; omega) _) ⟨z7, 4, none⟩ (by have h1 := HZ7.out; have h2 := HE13.out.size; show z7 < _; omega) _)
  have HB15 := Aside0.mk (show Below w.heap.size w w15 from by rw [← hW15]; exact ((below_step HB12.out HE14.out).setCell (p := ⟨z7, 3, none⟩) HZ7.out.1 _).setCell (p := ⟨z7, 4, none⟩) HZ7.out.1 _)
  try rw [hW15]
  clear hW15 ho3 ho4 HO_12 HE14
  have hr0 := (blk_cell HZ2_15.out 0).trans rfl
  have ht0 := blk_frozen HZ2_15.out 0
  have hs0 := (blk_cell HO_15.out 0).trans rfl
  have hr1 := (blk_cell HZ2_15.out 1).trans rfl
  have ht1 := blk_frozen HZ2_15.out 1
  have hs1 := (blk_cell HO_15.out 1).trans rfl
  have hr2 := (blk_cell HZ2_15.out 2).trans rfl
  have ht2 := blk_frozen HZ2_15.out 2
  have hs2 := (blk_cell HO_15.out 2).trans rfl
  have hr3 := (blk_cell HZ2_15.out 3).trans rfl
  have ht3 := blk_frozen HZ2_15.out 3
  have hs3 := (blk_cell HO_15.out 3).trans rfl
  have hr4 := (blk_cell HZ2_15.out 4).trans rfl
  have ht4 := blk_frozen HZ2_15.out 4
  have hs4 := (blk_cell HO_15.out 4).trans rfl
  go_wp2_with fail
  refine bodyPost_ret (results_list (rs := [.cell 4 27, .tmp 5, .tmp 6]) (vs := [.agg #[.int .i64 f2, .int .i64 r2, .int .i64 x1, .slice A13 bh.length c13, .slice A14 x2.length c14], .int .i64 1, .bool false]) rfl (by simp) ?_) rfl ?_
  · refine Vals.cell z2 27 _ (0, 0) _ rfl ?_ Try.underlying27 rfl rfl (Vals.tmp (Vals.tmp Vals.nil))
    exact blk_put (blk_put (blk_put (blk_put (blk_put HZ2_15.out 0 _ rfl) 1 _ rfl) 2 _ rfl) 3 _ rfl) 4 _ rfl
  · have HF : w.heap.size ≤ z2 := by have := HZE.out; omega
    have HY : z2 < w12.drew.heap.size := by have h1 := HZ7.out; show z2 < w12.heap.size; omega
    have HY2 : z2 < w13.heap.size := by have h1 := HZ7.out; have h2 := HE13.out.size; omega
    have HBF := (((((HB15.out.setCell (p := ⟨z2, 0, none⟩) HF (.int .i64 f2)).setCell (p := ⟨z2, 1, none⟩) HF (.int .i64 r2)).setCell (p := ⟨z2, 2, none⟩) HF (.int .i64 x1)).setCell (p := ⟨z2, 3, none⟩) HF (.slice A13 bh.length c13)).setCell (p := ⟨z2, 4, none⟩) HF (.slice A14 x2.length c14))
    have q3 := (rfar_ (rfar_ (rfar_ (rfar_ (rfar_ HG13.out ⟨z2, 0, none⟩ HY (.int .i64 f2)) ⟨z2, 1, none⟩ HY (.int .i64 r2)) ⟨z2, 2, none⟩ HY (.int .i64 x1)) ⟨z2, 3, none⟩ HY (.slice A13 bh.length c13)) ⟨z2, 4, none⟩ HY (.slice A14 x2.length c14))
    have q4 := (rfar_ (rfar_ (rfar_ (rfar_ (rfar_ HG14.out ⟨z2, 0, none⟩ HY2 (.int .i64 f2)) ⟨z2, 1, none⟩ HY2 (.int .i64 r2)) ⟨z2, 2, none⟩ HY2 (.int .i64 x1)) ⟨z2, 3, none⟩ HY2 (.slice A13 bh.length c13)) ⟨z2, 4, none⟩ HY2 (.slice A14 x2.length c14))
    exact ⟨A13, c13, A14, c14, rfl, ⟨Kd.R_lower q3 (by have h1 := HZ7.out; show w.heap.size ≤ w12.heap.size; omega), Kd.R_lower q4 (by have h1 := HZ7.out; have h2 := HE13.out.size; omega), fun k hk he => by have h1 := HL13.out k hk; have h2 := HL14.out k he; omega⟩, HBF⟩

end Go.Proofs.Ytdkcociababjdaa.PLeapLong
