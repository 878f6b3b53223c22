-- out of a turned copy of the print, by a program of this session; Lean checks it
import Derived.Test.YtngmdidegmbpfaaPLoopAfterx0
import Derived.Test.YtngmdidegmbpfaaPLoopAfterx1
namespace Go.Proofs.Ytngmdidegmbpfaa.PLoopAfter
open Go.RowKit Go.Proofs.YtngmdidegmbpfaaW.PrintWords Go.Proofs.YtngmdidegmbpfaaW.PrintLast Go.Proofs.YtngmdidegmbpfaaW.PrintMore
attribute [local go_sem] max2_int min2_int max_two min_two max_three min_three max_four min_four   -- for this text's walks alone
set_option linter.unusedVariables false
set_option linter.unusedSimpArgs false

attribute [local go_sem] isSome_put_
/-! ### runner_Runner_room: function 38 (by hand) -/
set_option maxHeartbeats 8000000 in
set_option maxRecDepth 100000 in
theorem rn_room (w0 w : World) (base : Nat) (S : Nat → Prop) (g : Nat) (V : Value) (s : RS) (h : IsRn w base S g V s) (hB : Below base w0 w) (hs : base ≤ w.heap.size) (hF : ∀ k, w.heap.size ≤ k → S k) (hok : s.ok) :
    Calls Try.prog 38 #[.pointer (some ⟨g, 0, none⟩)] w fun e w' => e = .returned (.tuple #[]) ∧ IsRn w' base S g V s.room ∧ Below base w0 w' ∧ Kept w w' S := by
  obtain ⟨hg, hS, v, hb, hr⟩ := h
  obtain ⟨cells, fr, on_, st, po⟩ := s
  obtain ⟨A, c, rfl⟩ := Kd.R_slice hr
  obtain ⟨b1, b2, b3, b4, b5, b6, b7⟩ := hok
  simp only at hb hr b1 b2 b3 b4 b5 b6 b7
  have HK := Aside0.mk hb
  have HR := Aside0.mk hr
  have HB := Aside0.mk hB
  have HS := Aside0.mk hs
  have HF := Aside0.mk hF
  have HG := Aside0.mk hg
  have hc1 := (blk_cell hb 1).trans rfl
  have hc2 := (blk_cell hb 2).trans rfl
  have hc5 := (blk_cell hb 5).trans rfl
  clear hb hr hB hs hF hg
  go_enter Try.func38, Try.ntmps38
  have e1 : IntKind.i64.wrap (po - fr) = po - fr := IntWalk.i64_in _ (by omega)
  by_cases c1 : po - fr < 0
  · replace c1 := eq_true c1
    go_wp2
    go_quiet (fail)
    go_wp2
    have hl2 : (cells.length : Int).toNat = cells.length := by omega
    refine start_ (n := 11) (S := fun w' => w'.cell? ⟨g, 1, none⟩ = some (.slice A cells.length c)) (ds := [10]) #[false, false, false, false, false, false, false, false, false, false, false] (by kernel_rfl) rfl rfl (hc1) (fun hHeld => ?_)
    refine pure_ (i := 0) (N := some 21) (v := ?_) (a' := ?_) #[true, false, false, false, false, false, false, false, false, false, false] rfl rfl (by kernel_rfl) (fun _ _ _ h => h) (Or.inl ⟨by rfl, ?_⟩) ?_ ?_
    rotate_left
    · intro w'
      go_simp
      with_reducible rfl
    rotate_left
    · simp only [Act.put, List.setIfInBounds_toArray, List.set_cons_zero, List.set_cons_succ, i64_w, i32_w]
      rfl
    refine pure_ (i := 1) (N := some 22) (v := ?_) (a' := ?_) #[true, true, false, false, false, false, false, false, false, false, false] rfl rfl (by kernel_rfl) (fun _ _ _ h => h) (Or.inl ⟨by rfl, ?_⟩) ?_ ?_
    rotate_left
    · intro w'
      go_simp
      with_reducible rfl
    rotate_left
    · simp only [Act.put, List.setIfInBounds_toArray, List.set_cons_zero, List.set_cons_succ, i64_w, i32_w]
      rfl
    refine pure_ (i := 3) (N := some 24) (v := ?_) (a' := ?_) #[true, true, false, true, false, false, false, false, false, false, false] rfl rfl (by kernel_rfl) (fun _ _ _ h => h) (Or.inl ⟨by rfl, ?_⟩) ?_ ?_
    rotate_left
    · intro w'
      go_simp
      with_reducible rfl
    rotate_left
    · simp only [Act.put, List.setIfInBounds_toArray, List.set_cons_zero, List.set_cons_succ, i64_w, i32_w]
      rfl
    refine pure_ (i := 4) (N := some 25) (v := ?_) (a' := ?_) #[true, true, false, true, true, false, false, false, false, false, false] rfl rfl (by kernel_rfl) (fun _ _ _ h => h) (Or.inl ⟨by rfl, ?_⟩) ?_ ?_
    rotate_left
    · intro w'
      go_simp
      with_reducible rfl
    rotate_left
    · simp only [Act.put, List.setIfInBounds_toArray, List.set_cons_zero, List.set_cons_succ, i64_w, i32_w]
      rfl
    refine pure_ (i := 5) (N := some 26) (v := ?_) (a' := ?_) #[true, true, false, true, true, true, false, false, false, false, false] rfl rfl (by kernel_rfl) (fun _ _ _ h => h) (Or.inl ⟨by rfl, ?_⟩) ?_ ?_
    rotate_left
    · intro w'
      go_simp
      with_reducible rfl
    rotate_left
    · simp only [Act.put, List.setIfInBounds_toArray, List.set_cons_zero, List.set_cons_succ, i64_w, i32_w]
      rfl
    refine take_ (i := 6) (N := some 27) (v := ?_) (a' := ?_) #[true, true, false, true, true, true, true, false, false, false, false] rfl rfl (by kernel_rfl) (fun _ _ _ h => h) (Or.inl ⟨by rfl, ?_⟩) hHeld ?_ ?_
    rotate_left
    · intro w' s0
      go_simp
      with_reducible rfl
    rotate_left
    · simp only [Act.put, List.setIfInBounds_toArray, List.set_cons_zero, List.set_cons_succ, i64_w, i32_w]
      rfl
    refine one_ (i := 2) (N := some 23) #[true, true, true, true, true, true, true, false, false, false, false] rfl rfl (by kernel_rfl) (by decide) (fun K hK => ?_)
    refine Kd.R_make_step (Kd.int .i64) (w0 := w) w.heap.size 3 (by rfl) rfl 41 _ _ rfl (cells.length : Int) rfl rfl Try.underlying41 (.int .i64 0) 8 info3 rfl (by decide) (by omega) 0 (ok := fun k => S k ∧ k ≠ g) (okp := fun _ => False) rfl (fun _ h => h.elim) ⟨HF.out _ (Nat.le_refl _), Nat.ne_of_gt (blk_lt HK.out)⟩ (by omega) (by omega) (bk_ (Below.refl _ _)) (Nat.le_refl _) ?_
    intro v1 w1 hR1 hB1 hG1 hat1
    obtain ⟨A9, c9, rfl⟩ := Kd.R_slice hR1
    rw [hl2] at hR1
    have HR1 := Aside0.mk hR1
    have HB1 := Aside0.mk hB1
    clear hR1 hB1 hG1 hat1
    refine hK.out _ _ ((blk_cell (blk_below HK.out HB1.out) 1).trans rfl) (fun hHeld => ?_)
    clear hK K
    refine norm_ (a' := ?_) ?_ ?_
    rotate_left
    · show Act.put _ (some 23) _ = _
      simp only [Act.put, List.setIfInBounds_toArray, List.set_cons_zero, List.set_cons_succ, i64_w, i32_w]
      rfl
    refine one_ (i := 7) (N := some 28) #[true, true, true, true, true, true, true, true, false, false, false] rfl rfl (by kernel_rfl) (by decide) (fun K hK => ?_)
    refine Kd.R_append_rows_step (Kd.int .i64) (w0 := w) w.heap.size (by rfl) (.tmp 23) (.tmp 27) 41 3 (.int .i64 0) 8 rfl Try.underlying41 info3 rfl (by decide) (by omega) _ _ cells _ _ _ (fun k => S k ∧ k ≠ g) (fun _ => False) rfl rfl HR1.out (Kd.C_below (Kd.R_reads' HR.out).2.2 HB1.out) (fun _ _ h => h) (fun _ h => h.elim) (fun k hk => ⟨HF.out _ (Nat.le_trans HB1.out.size hk), fun e => by have := blk_lt HK.out; have := HB1.out.size; omega⟩) HB1.out HB1.out.size (by simp; omega) ?_
    intro v2 w2 hR2 hB2 hG2 hat2
    obtain ⟨A8, c8, rfl⟩ := Kd.R_slice hR2
    have HR2 := Aside0.mk hR2
    have HB2 := Aside0.mk hB2
    have HK2 := Aside0.mk (blk_below HK.out HB2.out)
    have hz2 := (blk_cell HK2.out 1).trans rfl
    have hf2 := blk_frozen HK2.out 1
    clear hR2 hB2 hG2 hat2 hc1
    refine hK.out _ _ (hz2) (fun hHeld => ?_)
    clear hK K
    refine norm_ (a' := ?_) ?_ ?_
    rotate_left
    · show Act.put _ (some 28) _ = _
      simp only [Act.put, List.setIfInBounds_toArray, List.set_cons_zero, List.set_cons_succ, i64_w, i32_w]
      rfl
    refine pure_ (i := 8) (N := some 29) (v := ?_) (a' := ?_) #[true, true, true, true, true, true, true, true, true, false, false] rfl rfl (by kernel_rfl) (fun _ _ _ h => h) (Or.inl ⟨by rfl, ?_⟩) ?_ ?_
    rotate_left
    · intro w'
      go_simp
      with_reducible rfl
    rotate_left
    · simp only [Act.put, List.setIfInBounds_toArray, List.set_cons_zero, List.set_cons_succ, i64_w, i32_w]
      rfl
    refine pure_ (i := 9) (N := some 30) (v := ?_) (a' := ?_) #[true, true, true, true, true, true, true, true, true, true, false] rfl rfl (by kernel_rfl) (fun _ _ _ h => h) (Or.inl ⟨by rfl, ?_⟩) ?_ ?_
    rotate_left
    · intro w'
      go_simp
      with_reducible rfl
    rotate_left
    · simp only [Act.put, List.setIfInBounds_toArray, List.set_cons_zero, List.set_cons_succ, i64_w, i32_w]
      rfl
    refine last_ (i := 10) (N := none) #[true, true, true, true, true, true, true, true, true, true, true] rfl rfl (by kernel_rfl) (by decide) (fun K hK => ?_)
    refine skip_ (w1 := ?_) (by rfl) rfl ?_ ?_
    rotate_left
    · go_simp
      rfl
    refine hK.out _ _ ?_
    clear hK K
    refine done_ (by kernel_rfl) ?_

    obtain ⟨W3, hW3⟩ : ∃ W : World, W = w2.setCell ⟨g, 1, none⟩ (.slice A8 (cells.length + cells.length) c8) := ⟨_, rfl⟩
    have HK3 := Aside0.mk (show W3.heap[g]? = some (.cells #[V, .slice A8 (cells.length + cells.length) c8, .int .i64 fr, .int .i64 on_, .int .i64 st, .int .i64 po] 61 (0, 0)) from by rw [hW3]; exact by simpa using blk_set HK2.out 1 (.slice A8 (cells.length + cells.length) c8))
    have HR3 := Aside0.mk (show Kd.R (Kd.int .i64) 3 W3 base (fun k => S k ∧ k ≠ g) (.slice A8 (cells.length + cells.length) c8) (List.replicate cells.length 0 ++ cells) from by rw [hW3]; exact by have h := Kd.R_lower HR2.out HS.out; simp only [List.length_append, List.length_replicate] at h; exact Kd.R_far h (fun k hk => hk.2) _)
    have HB3 := Aside0.mk (show Below base w0 W3 from by rw [hW3]; exact (below_then HB.out HS.out HB2.out).setCell HG.out _)
    have HKP3 := Aside0.mk (show Kept w W3 S from by rw [hW3]; exact (Kept.of_below HB2.out S).setCell (.inl hS) _)
    rw [← hW3]
    clear hW3
    have hc2 := (blk_cell HK3.out 2).trans rfl
    have hf2 := blk_frozen HK3.out 2
    go_wp2
    refine bodyPost_end (results_none rfl _ _ _) rfl ?_
    refine ⟨rfl, ?_, HB3.out.setCell HG.out _, HKP3.out.setCell (.inl hS) _⟩
    rw [show RS.room ⟨cells, fr, on_, st, po⟩ = ⟨List.replicate cells.length 0 ++ cells, fr - cells.length, on_, st, po⟩ from if_pos (of_eq_true c1)]
    exact ⟨HG.out, hS, _, by simpa using blk_set HK3.out 2 (.int .i64 (fr - (cells.length : Int))), Kd.R_far HR3.out (fun k hk => hk.2) _⟩
  · by_cases c2 : (cells.length : Int) ≤ po - fr
    · replace c1 := eq_false c1
      replace c2 := eq_true c2
      have hl2 : (cells.length : Int).toNat = cells.length := by omega
      go_wp2
      go_quiet (fail)
      go_wp2
      refine start_ (n := 14) (S := fun w' => w'.cell? ⟨g, 1, none⟩ = some (.slice A cells.length c)) (ds := [13]) #[false, false, false, false, false, false, false, false, false, false, false, false, false, false] (by kernel_rfl) rfl rfl (hc1) (fun hHeld => ?_)
      refine pure_ (i := 0) (N := some 47) (v := ?_) (a' := ?_) #[true, false, false, false, false, false, false, false, false, false, false, false, false, false] rfl rfl (by kernel_rfl) (fun _ _ _ h => h) (Or.inl ⟨by rfl, ?_⟩) ?_ ?_
      rotate_left
      · intro w'
        go_simp
        with_reducible rfl
      rotate_left
      · simp only [Act.put, List.setIfInBounds_toArray, List.set_cons_zero, List.set_cons_succ, i64_w, i32_w]
        rfl
      refine pure_ (i := 1) (N := some 48) (v := ?_) (a' := ?_) #[true, true, false, false, false, false, false, false, false, false, false, false, false, false] rfl rfl (by kernel_rfl) (fun _ _ _ h => h) (Or.inl ⟨by rfl, ?_⟩) ?_ ?_
      rotate_left
      · intro w'
        go_simp
        with_reducible rfl
      rotate_left
      · simp only [Act.put, List.setIfInBounds_toArray, List.set_cons_zero, List.set_cons_succ, i64_w, i32_w]
        rfl
      refine pure_ (i := 2) (N := some 49) (v := ?_) (a' := ?_) #[true, true, true, false, false, false, false, false, false, false, false, false, false, false] rfl rfl (by kernel_rfl) (fun _ _ _ h => h) (Or.inl ⟨by rfl, ?_⟩) ?_ ?_
      rotate_left
      · intro w'
        go_simp
        with_reducible rfl
      rotate_left
      · simp only [Act.put, List.setIfInBounds_toArray, List.set_cons_zero, List.set_cons_succ, i64_w, i32_w]
        rfl
      refine pure_ (i := 3) (N := some 50) (v := ?_) (a' := ?_) #[true, true, true, true, false, false, false, false, false, false, false, false, false, false] rfl rfl (by kernel_rfl) (fun _ _ _ h => h) (Or.inl ⟨by rfl, ?_⟩) ?_ ?_
      rotate_left
      · intro w'
        go_simp
        with_reducible rfl
      rotate_left
      · simp only [Act.put, List.setIfInBounds_toArray, List.set_cons_zero, List.set_cons_succ, i64_w, i32_w]
        rfl
      refine pure_ (i := 5) (N := some 52) (v := ?_) (a' := ?_) #[true, true, true, true, false, true, false, false, false, false, false, false, false, false] rfl rfl (by kernel_rfl) (fun _ _ _ h => h) (Or.inl ⟨by rfl, ?_⟩) ?_ ?_
      rotate_left
      · intro w'
        go_simp
        with_reducible rfl
      rotate_left
      · simp only [Act.put, List.setIfInBounds_toArray, List.set_cons_zero, List.set_cons_succ, i64_w, i32_w]
        rfl
      refine pure_ (i := 6) (N := some 53) (v := ?_) (a' := ?_) #[true, true, true, true, false, true, true, false, false, false, false, false, false, false] rfl rfl (by kernel_rfl) (fun _ _ _ h => h) (Or.inl ⟨by rfl, ?_⟩) ?_ ?_
      rotate_left
      · intro w'
        go_simp
        with_reducible rfl
      rotate_left
      · simp only [Act.put, List.setIfInBounds_toArray, List.set_cons_zero, List.set_cons_succ, i64_w, i32_w]
        rfl
      refine pure_ (i := 7) (N := some 54) (v := ?_) (a' := ?_) #[true, true, true, true, false, true, true, true, false, false, false, false, false, false] rfl rfl (by kernel_rfl) (fun _ _ _ h => h) (Or.inl ⟨by rfl, ?_⟩) ?_ ?_
      rotate_left
      · intro w'
        go_simp
        with_reducible rfl
      rotate_left
      · simp only [Act.put, List.setIfInBounds_toArray, List.set_cons_zero, List.set_cons_succ, i64_w, i32_w]
        rfl
      refine take_ (i := 4) (N := some 51) (v := ?_) (a' := ?_) #[true, true, true, true, true, true, true, true, false, false, false, false, false, false] rfl rfl (by kernel_rfl) (fun _ _ _ h => h) (Or.inl ⟨by rfl, ?_⟩) hHeld ?_ ?_
      rotate_left
      · intro w' s0
        go_simp
        with_reducible rfl
      rotate_left
      · simp only [Act.put, List.setIfInBounds_toArray, List.set_cons_zero, List.set_cons_succ, i64_w, i32_w]
        rfl
      refine take_ (i := 8) (N := some 55) (v := ?_) (a' := ?_) #[true, true, true, true, true, true, true, true, true, false, false, false, false, false] rfl rfl (by kernel_rfl) (fun _ _ _ h => h) (Or.inl ⟨by rfl, ?_⟩) hHeld ?_ ?_
      rotate_left
      · intro w' s0
        go_simp
        with_reducible rfl
      rotate_left
      · simp only [Act.put, List.setIfInBounds_toArray, List.set_cons_zero, List.set_cons_succ, i64_w, i32_w]
        rfl
      refine pure_ (i := 9) (N := some 56) (v := ?_) (a' := ?_) #[true, true, true, true, true, true, true, true, true, true, false, false, false, false] rfl rfl (by kernel_rfl) (fun _ _ _ h => h) (Or.inl ⟨by rfl, ?_⟩) ?_ ?_
      rotate_left
      · intro w'
        go_simp
        with_reducible rfl
      rotate_left
      · simp only [Act.put, List.setIfInBounds_toArray, List.set_cons_zero, List.set_cons_succ, i64_w, i32_w]
        rfl
      refine one_ (i := 10) (N := some 57) #[true, true, true, true, true, true, true, true, true, true, true, false, false, false] rfl rfl (by kernel_rfl) (by decide) (fun K hK => ?_)
      refine Kd.R_append_zeros_step (Kd.int .i64) (w0 := w0) base (by rfl) (.tmp 51) (.tmp 56) 41 3 3 (.int .i64 0) 8 rfl Try.underlying41 Try.underlying3 info3 rfl (by decide) (by omega) (.slice A cells.length c) cells 0 (kx := .i64) (cells.length : Int) (fun k => S k ∧ k ≠ g) rfl rfl rfl (fun k hk => ⟨HF.out _ hk, fun e => by have := blk_lt HK.out; have : w.heap.size ≤ k := hk; omega⟩) (rk_ HR.out) (by omega) (below_drew (pw_below_drewN HB.out _)) HS.out (by omega) ?_
      intro v2 w2 hR2 hB2 hG2 hat2
      obtain ⟨A8, c8, rfl⟩ := Kd.R_slice hR2
      have HR2 := Aside0.mk hR2
      have HB2 := Aside0.mk hB2
      have HKP2 := Aside0.mk (Kept.of_grown hG2 (((Kept.refl w S).drewN nq).drew) (fun k hk => .inl (HR.out.1 k hk).1))
      have HK2 := Aside0.mk (blk_grown (show (w.drewN nq).drew.heap[g]? = _ from HK.out) hG2 (Kd.R_ne HR.out HK.out (by decide)))
      have hz2 := (blk_cell HK2.out 1).trans rfl
      have hf2 := blk_frozen HK2.out 1
      clear hR2 hB2 hG2 hat2 hc1
      refine hK.out _ _ (hz2) (fun hHeld => ?_)
      clear hK K
      refine norm_ (a' := ?_) ?_ ?_
      rotate_left
      · show Act.put _ (some 57) _ = _
        simp only [Act.put, List.setIfInBounds_toArray, List.set_cons_zero, List.set_cons_succ, i64_w, i32_w]
        rfl
      refine pure_ (i := 11) (N := some 58) (v := ?_) (a' := ?_) #[true, true, true, true, true, true, true, true, true, true, true, true, false, false] rfl rfl (by kernel_rfl) (fun _ _ _ h => h) (Or.inl ⟨by rfl, ?_⟩) ?_ ?_
      rotate_left
      · intro w'
        go_simp
        with_reducible rfl
      rotate_left
      · simp only [Act.put, List.setIfInBounds_toArray, List.set_cons_zero, List.set_cons_succ, i64_w, i32_w]
        rfl
      refine pure_ (i := 12) (N := some 59) (v := ?_) (a' := ?_) #[true, true, true, true, true, true, true, true, true, true, true, true, true, false] rfl rfl (by kernel_rfl) (fun _ _ _ h => h) (Or.inl ⟨by rfl, ?_⟩) ?_ ?_
      rotate_left
      · intro w'
        go_simp
        with_reducible rfl
      rotate_left
      · simp only [Act.put, List.setIfInBounds_toArray, List.set_cons_zero, List.set_cons_succ, i64_w, i32_w]
        rfl
      refine last_ (i := 13) (N := none) #[true, true, true, true, true, true, true, true, true, true, true, true, true, true] rfl rfl (by kernel_rfl) (by decide) (fun K hK => ?_)
      refine skip_ (w1 := ?_) (by rfl) rfl ?_ ?_
      rotate_left
      · go_simp
        rfl
      refine hK.out _ _ ?_
      clear hK K
      refine done_ (by kernel_rfl) ?_

      obtain ⟨W3, hW3⟩ : ∃ W : World, W = w2.setCell ⟨g, 1, none⟩ (.slice A8 (cells.length + cells.length) c8) := ⟨_, rfl⟩
      have HK3 := Aside0.mk (show W3.heap[g]? = some (.cells #[V, .slice A8 (cells.length + cells.length) c8, .int .i64 fr, .int .i64 on_, .int .i64 st, .int .i64 po] 61 (0, 0)) from by rw [hW3]; exact by simpa using blk_set HK2.out 1 (.slice A8 (cells.length + cells.length) c8))
      have HR3 := Aside0.mk (show Kd.R (Kd.int .i64) 3 W3 base (fun k => S k ∧ k ≠ g) (.slice A8 (cells.length + cells.length) c8) (cells ++ List.replicate cells.length 0) from by rw [hW3]; exact by have h := HR2.out; rw [hl2] at h; simp only [List.length_append, List.length_replicate] at h; exact Kd.R_far h (fun k hk => hk.2) _)
      have HB3 := Aside0.mk (show Below base w0 W3 from by rw [hW3]; exact HB2.out.setCell HG.out _)
      have HKP3 := Aside0.mk (show Kept w W3 S from by rw [hW3]; exact HKP2.out.setCell (.inl hS) _)
      rw [← hW3]
      clear hW3
      go_wp2
      refine bodyPost_end (results_none rfl _ _ _) rfl ?_
      refine ⟨rfl, ?_, HB3.out, HKP3.out⟩
      rw [show RS.room ⟨cells, fr, on_, st, po⟩ = ⟨cells ++ List.replicate cells.length 0, fr, on_, st, po⟩ from (if_neg (of_eq_false c1)).trans (if_pos (of_eq_true c2))]
      exact ⟨HG.out, hS, _, HK3.out, HR3.out⟩
    · replace c1 := eq_false c1
      replace c2 := eq_false c2
      go_wp2
      go_quiet (fail)
      go_wp2
      refine bodyPost_end (results_none rfl _ _ _) rfl ?_
      refine ⟨rfl, ?_, pw_below_drewN HB.out _, Kept.drewN (Kept.refl _ _) _⟩
      rw [show RS.room ⟨cells, fr, on_, st, po⟩ = ⟨cells, fr, on_, st, po⟩ from (if_neg (of_eq_false c1)).trans (if_neg (of_eq_false c2))]
      exact ⟨HG.out, hS, _, HK.out, Kd.R_drewN HR.out _⟩

/-! ### runner_count: function 39 -/
def runner_count.f (a0 : Int) : Option (Int) := some (mn a0 1)
set_option maxHeartbeats 8000000 in
set_option maxRecDepth 100000 in
theorem runner_count.calls (a0 : Int) (r : Int) (w : World) (h : runner_count.f a0 = some r) :
  Calls Try.prog 39 #[.int .i64 a0] w fun e w' => e = .returned (.int .i64 r) ∧ Below w.heap.size w w' := by
 have HB := A_ (Below.refl w.heap.size w)
 have H : (some (mn a0 1)) = some r := h
 clear h
 obtain ⟨ji2, hji2⟩ : ∃ j_ : Int, (mn a0 1) = j_ := ⟨_, rfl⟩
 replace H : (some ji2) = some r := by first | (rw [hji2] at H; exact H) | (simp only [hji2] at H ⊢; exact H)
 (try (have hji2h : ji2 ≤ 1 := by (rw [← hji2]; unfold mn; (repeat' split) <;> omega)))
 (try (have hji2g : ji2 ≤ 64 := by omega))
 have hji2_ : (if 1 < a0 then 1 else a0) = ji2 := hji2
 obtain rfl := Option.some.inj H
 go_enter Try.func39, Try.ntmps39
 go_wp2
 go_ret
 exact ⟨by first | rfl | (simp [errW_none, errW_some] <;> rfl) | (simp only [← hji2]; first | rfl | (simp [errW_none, errW_some] <;> rfl)) | (simp [*, errW_none, errW_some] <;> rfl), bk_ HB.out⟩

end Go.Proofs.Ytngmdidegmbpfaa.PLoopAfter
