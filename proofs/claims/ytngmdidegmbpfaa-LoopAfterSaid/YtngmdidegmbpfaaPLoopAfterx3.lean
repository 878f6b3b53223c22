-- out of a turned copy of the print, by a program of this session; Lean checks it
import Derived.Test.YtngmdidegmbpfaaPLoopAfterx0
import Derived.Test.YtngmdidegmbpfaaPLoopAfterx1
import Derived.Test.YtngmdidegmbpfaaPLoopAfterx2
namespace Go.Proofs.Ytngmdidegmbpfaa.PLoopAfter
open Go.RowKit Go.Proofs.YtngmdidegmbpfaaW.PrintWords Go.Proofs.YtngmdidegmbpfaaW.PrintLast Go.Proofs.YtngmdidegmbpfaaW.PrintMore
attribute [local go_sem] max2_int min2_int max_two min_two max_three min_three max_four min_four   -- for this text's walks alone
set_option linter.unusedVariables false
set_option linter.unusedSimpArgs false

attribute [local go_sem] isSome_put_
/-! ### runner_Runner_Step: function 29 (by hand) -/
def RS.step (rules : List (List (S52))) (s : RS) : Option (RS × Bool) :=
  if s.st = -1 then some (s, false)
  else if s.ok ∧ 0 ≤ s.room.po - s.room.fr ∧ s.room.po - s.room.fr < (s.room.cells.length : Int) ∧ 0 ≤ s.st ∧ s.st < (rules.length : Int) then
    if 0 ≤ rd s.room.cells (s.room.po - s.room.fr) ∧ rd s.room.cells (s.room.po - s.room.fr) < ((rd_L2 rules s.st).length : Int) then
      if 0 ≤ (rd_T52 (rd_L2 rules s.st) (rd s.room.cells (s.room.po - s.room.fr))).f0 ∧ -100 ≤ (rd_T52 (rd_L2 rules s.st) (rd s.room.cells (s.room.po - s.room.fr))).f1 ∧ (rd_T52 (rd_L2 rules s.st) (rd s.room.cells (s.room.po - s.room.fr))).f1 ≤ 100 then
        some (⟨s.room.cells.set (s.room.po - s.room.fr).toNat (rd_T52 (rd_L2 rules s.st) (rd s.room.cells (s.room.po - s.room.fr))).f0, s.room.fr, s.on + (mn (rd_T52 (rd_L2 rules s.st) (rd s.room.cells (s.room.po - s.room.fr))).f0 1 - mn (rd s.room.cells (s.room.po - s.room.fr)) 1), (rd_T52 (rd_L2 rules s.st) (rd s.room.cells (s.room.po - s.room.fr))).f2, s.po + (rd_T52 (rd_L2 rules s.st) (rd s.room.cells (s.room.po - s.room.fr))).f1⟩, true)
      else none
    else none
  else none
set_option maxHeartbeats 8000000 in
set_option maxRecDepth 100000 in
theorem rn_step (A0 : Option Addr) (c0 : Nat) (rules : List (List (S52))) (w0 w : World) (base : Nat) (S : Nat → Prop) (g : Nat) (s s' : RS) (b : Bool) (h : IsRn w base S g (.slice A0 rules.length c0) s) (hr0 : Kd.C (Kd.slice 52 k52) w0 A0 rules.length rules) (hB0 : w0.heap.size ≤ base) (hB : Below base w0 w) (hs : base ≤ w.heap.size) (hF : ∀ k, w.heap.size ≤ k → S k) (hst : RS.step rules s = some (s', b)) :
    Calls Try.prog 29 #[.pointer (some ⟨g, 0, none⟩)] w fun e w' => e = .returned (.bool b) ∧ IsRn w' base S g (.slice A0 rules.length c0) s' ∧ Below base w0 w' ∧ Kept w w' S := by
  obtain ⟨hg, hS, v, hb, hr⟩ := h
  unfold RS.step at hst
  by_cases c1 : s.st = -1
  · rw [if_pos c1] at hst
    obtain ⟨rfl, rfl⟩ := Prod.mk.inj (Option.some.inj hst)
    obtain ⟨cells, fr, on_, st, po⟩ := s
    simp only at c1
    subst c1
    clear hst
    have HK := Aside0.mk hb
    have HR := Aside0.mk hr
    have HB := Aside0.mk hB
    have HS := Aside0.mk hs
    have HF := Aside0.mk hF
    have HG := Aside0.mk hg
    have HR0 := Aside0.mk hr0
    have HB0 := Aside0.mk hB0
    clear hb hr hB hs hF hg hr0 hB0
    have hc4 := (blk_cell HK.out 4).trans rfl
    go_enter Try.func29, Try.ntmps29
    go_wp2
    go_ret
    exact ⟨rfl, ⟨HG.out, hS, v, HK.out, HR.out⟩, HB.out, Kept.refl _ _⟩
  · rw [if_neg c1] at hst
    have hsame := RS.room_same s
    obtain ⟨t, ht⟩ : ∃ t, s.room = t := ⟨_, rfl⟩
    rw [ht] at hst hsame
    obtain ⟨i, hi⟩ : ∃ i, t.po - t.fr = i := ⟨_, rfl⟩
    rw [hi] at hst
    by_cases c2 : s.ok ∧ 0 ≤ i ∧ i < (t.cells.length : Int) ∧ 0 ≤ s.st ∧ s.st < (rules.length : Int)
    rotate_left
    · rw [if_neg c2] at hst
      cases hst
    rw [if_pos c2] at hst
    obtain ⟨hok, d0, d1, d2, d3⟩ := c2
    obtain ⟨x, hx⟩ : ∃ x, rd t.cells i = x := ⟨_, rfl⟩
    obtain ⟨row, hrow⟩ : ∃ r, rd_L2 rules s.st = r := ⟨_, rfl⟩
    rw [hx, hrow] at hst
    by_cases c3 : 0 ≤ x ∧ x < (row.length : Int)
    rotate_left
    · rw [if_neg c3] at hst
      cases hst
    rw [if_pos c3] at hst
    obtain ⟨d4, d5⟩ := c3
    obtain ⟨r, hr_⟩ : ∃ r, rd_T52 row x = r := ⟨_, rfl⟩
    rw [hr_] at hst
    by_cases c4 : 0 ≤ r.f0 ∧ -100 ≤ r.f1 ∧ r.f1 ≤ 100
    rotate_left
    · rw [if_neg c4] at hst
      cases hst
    rw [if_pos c4] at hst
    obtain ⟨d6, d7, d8⟩ := c4
    obtain ⟨rfl, rfl⟩ := Prod.mk.inj (Option.some.inj hst)
    clear hst
    have hroom := rn_room w0 w base S g (.slice A0 rules.length c0) s ⟨hg, hS, v, hb, hr⟩ hB hs hF hok
    rw [ht] at hroom
    have HROOM := Aside0.mk hroom
    obtain ⟨cells, fr, on_, st, po⟩ := s
    obtain ⟨t0, t1, t2, t3, t4⟩ := t
    obtain ⟨f0, f1, f2⟩ := r
    obtain ⟨rfl, rfl, rfl, b8⟩ := hsame
    obtain ⟨b1, b2, b3, b4, b5, b6, b7⟩ := hok
    simp only at c1 d0 d1 d2 d3 d6 d7 d8 hx hi hrow b1 b2 b3 b4 b5 b6 b7 b8
    have HX := Aside0.mk hx
    have HROW := Aside0.mk hrow
    have HRR := Aside0.mk hr_
    have hc4 := (blk_cell hb 4).trans rfl
    have HK := Aside0.mk hb
    have HR := Aside0.mk hr
    have HB := Aside0.mk hB
    have HS := Aside0.mk hs
    have HF := Aside0.mk hF
    have HR0 := Aside0.mk hr0
    have HB0 := Aside0.mk hB0
    clear hb hr hB hs hF hr0 hB0
    clear hroom hx hrow hr_ ht
    have c1' : (t3 == (-1 : Int)) = false := by simpa using c1
    go_enter Try.func29, Try.ntmps29
    go_wp2_with (go_at_call 38; refine HROOM.out.mono ?_; rintro e w1 ⟨rfl, hI1, hB1, hKP1⟩)
    obtain ⟨hg1, hS1, v1, hb1, hr1⟩ := hI1
    simp only at hb1 hr1
    obtain ⟨gb, cap, rfl, hgb, hgl, hbe⟩ := Kd.R_form hr1 (by omega)
    clear hc4
    have hc1 := (blk_cell hb1 1).trans rfl
    have hc2 := (blk_cell hb1 2).trans rfl
    have hc5 := (blk_cell hb1 5).trans rfl
    have e1 : IntKind.i64.wrap (t4 - t1) = i := (IntWalk.i64_in _ (by omega)).trans hi
    have HK1 := Aside0.mk hb1
    have HR1 := Aside0.mk hr1
    have HB1 := Aside0.mk hB1
    have HKP1 := Aside0.mk hKP1
    have HGB := Aside0.mk (show some gb ≠ some g from fun e => (hr1.1 gb rfl).2 (by cases e; rfl))
    clear hb1 hr1 hB1 hKP1 hgb hgl hbe
    clear hi
    replace d0 := eq_true d0
    replace d1 := eq_true d1
    go_quiet (fail)
    go_wp2
    have HW0 := Aside0.mk (HB1.out.mono HB0.out)
    obtain ⟨ad0, A1, c1_, rfl, hx0, hlc, hC1⟩ := at_L2 HR0.out t3 d2 d3
    rw [HROW.out] at hx0 hlc hC1
    obtain ⟨ad1, rfl, hy0, hy1, hy2⟩ := at_T52 hC1 x d4 d5
    rw [HRR.out] at hy0 hy1 hy2
    simp only at hy0 hy1 hy2
    have hel : w1.cell? ⟨gb, i.toNat, none⟩ = some (.int .i64 x) := by
      have h := (Kd.R_cell (0 : Int) HR1.out i (of_eq_true d0) (of_eq_true d1)).1
      rw [← HX.out]; exact h
    have hx0' := lf_ HW0.out hx0
    have hy0' := lf_ HW0.out hy0
    have hy1' := lf_ HW0.out hy1
    have hy2' := lf_ HW0.out hy2
    have hc0 := (blk_cell HK1.out 0).trans rfl
    have hc4 := (blk_cell HK1.out 4).trans rfl
    clear hx0 hlc hC1 hy0 hy1 hy2 hc1 hc2 hc5
    replace d2 := eq_true d2
    replace d3 := eq_true d3
    replace d4 := eq_true d4
    replace d5 := eq_true d5

    refine start_ (n := 17) (S := fun w' => w'.cell? ⟨g, 0, none⟩ = some (.slice (some ad0) rules.length c0) ∧ w'.cell? ⟨g, 4, none⟩ = some (.int .i64 t3) ∧ w'.cell? (ad0.add t3.toNat) = some (.slice (some ad1) row.length c1_) ∧ w'.cell? ⟨gb, i.toNat, none⟩ = some (.int .i64 x) ∧ w'.cell? (ad1.add (x.toNat * 3)) = some (.int .i64 f0) ∧ w'.cell? ⟨(ad1.add (x.toNat * 3)).block, (ad1.add (x.toNat * 3)).off + 1, none⟩ = some (.int .i64 f1) ∧ w'.cell? ⟨(ad1.add (x.toNat * 3)).block, (ad1.add (x.toNat * 3)).off + 2, none⟩ = some (.int .i64 f2)) (ds := [16]) #[false, false, false, false, false, false, false, false, false, false, false, false, false, false, false, false, false] (by kernel_rfl) rfl rfl ⟨hc0, hc4, hx0', hel, hy0', hy1', hy2'⟩ (fun hHeld => ?_)
    refine pure_ (i := 0) (N := some 26) (v := ?_) (a' := ?_) #[true, false, false, false, false, false, false, false, false, false, false, false, false, false, false, false, false] rfl rfl (by kernel_rfl) (fun _ _ _ h => h) (Or.inl ⟨by rfl, ?_⟩) ?_ ?_
    rotate_left
    · intro w'
      go_simp
      with_reducible rfl
    rotate_left
    · simp only [Act.put, List.setIfInBounds_toArray, List.set_cons_zero, List.set_cons_succ, i64_w, i32_w]
      rfl
    refine pure_ (i := 1) (N := some 27) (v := ?_) (a' := ?_) #[true, true, false, false, false, false, false, false, false, false, false, false, false, false, false, false, false] rfl rfl (by kernel_rfl) (fun _ _ _ h => h) (Or.inl ⟨by rfl, ?_⟩) ?_ ?_
    rotate_left
    · intro w'
      go_simp
      with_reducible rfl
    rotate_left
    · simp only [Act.put, List.setIfInBounds_toArray, List.set_cons_zero, List.set_cons_succ, i64_w, i32_w]
      rfl
    refine pure_ (i := 2) (N := some 28) (v := ?_) (a' := ?_) #[true, true, true, false, false, false, false, false, false, false, false, false, false, false, false, false, false] rfl rfl (by kernel_rfl) (fun _ _ _ h => h) (Or.inl ⟨by rfl, ?_⟩) ?_ ?_
    rotate_left
    · intro w'
      go_simp
      with_reducible rfl
    rotate_left
    · simp only [Act.put, List.setIfInBounds_toArray, List.set_cons_zero, List.set_cons_succ, i64_w, i32_w]
      rfl
    refine pure_ (i := 4) (N := some 30) (v := ?_) (a' := ?_) #[true, true, true, false, true, false, false, false, false, false, false, false, false, false, false, false, false] rfl rfl (by kernel_rfl) (fun _ _ _ h => h) (Or.inl ⟨by rfl, ?_⟩) ?_ ?_
    rotate_left
    · intro w'
      go_simp
      with_reducible rfl
    rotate_left
    · simp only [Act.put, List.setIfInBounds_toArray, List.set_cons_zero, List.set_cons_succ, i64_w, i32_w]
      rfl
    refine pure_ (i := 5) (N := some 31) (v := ?_) (a' := ?_) #[true, true, true, false, true, true, false, false, false, false, false, false, false, false, false, false, false] rfl rfl (by kernel_rfl) (fun _ _ _ h => h) (Or.inl ⟨by rfl, ?_⟩) ?_ ?_
    rotate_left
    · intro w'
      go_simp
      with_reducible rfl
    rotate_left
    · simp only [Act.put, List.setIfInBounds_toArray, List.set_cons_zero, List.set_cons_succ, i64_w, i32_w]
      rfl
    refine pure_ (i := 6) (N := some 32) (v := ?_) (a' := ?_) #[true, true, true, false, true, true, true, false, false, false, false, false, false, false, false, false, false] rfl rfl (by kernel_rfl) (fun _ _ _ h => h) (Or.inl ⟨by rfl, ?_⟩) ?_ ?_
    rotate_left
    · intro w'
      go_simp
      with_reducible rfl
    rotate_left
    · simp only [Act.put, List.setIfInBounds_toArray, List.set_cons_zero, List.set_cons_succ, i64_w, i32_w]
      rfl
    refine pure_ (i := 10) (N := some 36) (v := ?_) (a' := ?_) #[true, true, true, false, true, true, true, false, false, false, true, false, false, false, false, false, false] rfl rfl (by kernel_rfl) (fun _ _ _ h => h) (Or.inl ⟨by rfl, ?_⟩) ?_ ?_
    rotate_left
    · intro w'
      go_simp
      with_reducible rfl
    rotate_left
    · simp only [Act.put, List.setIfInBounds_toArray, List.set_cons_zero, List.set_cons_succ, i64_w, i32_w]
      rfl
    refine pure_ (i := 11) (N := some 37) (v := ?_) (a' := ?_) #[true, true, true, false, true, true, true, false, false, false, true, true, false, false, false, false, false] rfl rfl (by kernel_rfl) (fun _ _ _ h => h) (Or.inl ⟨by rfl, ?_⟩) ?_ ?_
    rotate_left
    · intro w'
      go_simp
      with_reducible rfl
    rotate_left
    · simp only [Act.put, List.setIfInBounds_toArray, List.set_cons_zero, List.set_cons_succ, i64_w, i32_w]
      rfl
    refine take_ (i := 3) (N := some 29) (v := ?_) (a' := ?_) #[true, true, true, true, true, true, true, false, false, false, true, true, false, false, false, false, false] rfl rfl (by kernel_rfl) (fun _ _ _ h => h) (Or.inl ⟨by rfl, ?_⟩) hHeld ?_ ?_
    rotate_left
    · rintro w' ⟨s0, s1, s2, s3, s4, s5, s6⟩
      go_simp
      with_reducible rfl
    rotate_left
    · simp only [Act.put, List.setIfInBounds_toArray, List.set_cons_zero, List.set_cons_succ, i64_w, i32_w]
      rfl
    refine take_ (i := 7) (N := some 33) (v := ?_) (a' := ?_) #[true, true, true, true, true, true, true, true, false, false, true, true, false, false, false, false, false] rfl rfl (by kernel_rfl) (fun _ _ _ h => h) (Or.inl ⟨by rfl, ?_⟩) hHeld ?_ ?_
    rotate_left
    · rintro w' ⟨s0, s1, s2, s3, s4, s5, s6⟩
      go_simp
      with_reducible rfl
    rotate_left
    · simp only [Act.put, List.setIfInBounds_toArray, List.set_cons_zero, List.set_cons_succ, i64_w, i32_w]
      rfl
    refine pure_ (i := 8) (N := some 34) (v := ?_) (a' := ?_) #[true, true, true, true, true, true, true, true, true, false, true, true, false, false, false, false, false] rfl rfl (by kernel_rfl) (fun _ _ _ h => h) (Or.inl ⟨by rfl, ?_⟩) ?_ ?_
    rotate_left
    · intro w'
      go_simp
      with_reducible rfl
    rotate_left
    · simp only [Act.put, List.setIfInBounds_toArray, List.set_cons_zero, List.set_cons_succ, i64_w, i32_w]
      rfl
    refine take_ (i := 9) (N := some 35) (v := ?_) (a' := ?_) #[true, true, true, true, true, true, true, true, true, true, true, true, false, false, false, false, false] rfl rfl (by kernel_rfl) (fun _ _ _ h => h) (Or.inl ⟨by rfl, ?_⟩) hHeld ?_ ?_
    rotate_left
    · rintro w' ⟨s0, s1, s2, s3, s4, s5, s6⟩
      go_simp
      with_reducible rfl
    rotate_left
    · simp only [Act.put, List.setIfInBounds_toArray, List.set_cons_zero, List.set_cons_succ, i64_w, i32_w]
      rfl
    refine take_ (i := 12) (N := some 38) (v := ?_) (a' := ?_) #[true, true, true, true, true, true, true, true, true, true, true, true, true, false, false, false, false] rfl rfl (by kernel_rfl) (fun _ _ _ h => h) (Or.inl ⟨by rfl, ?_⟩) hHeld ?_ ?_
    rotate_left
    · rintro w' ⟨s0, s1, s2, s3, s4, s5, s6⟩
      go_simp
      with_reducible rfl
    rotate_left
    · simp only [Act.put, List.setIfInBounds_toArray, List.set_cons_zero, List.set_cons_succ, i64_w, i32_w]
      rfl
    refine pure_ (i := 13) (N := some 39) (v := ?_) (a' := ?_) #[true, true, true, true, true, true, true, true, true, true, true, true, true, true, false, false, false] rfl rfl (by kernel_rfl) (fun _ _ _ h => h) (Or.inl ⟨by rfl, ?_⟩) ?_ ?_
    rotate_left
    · intro w'
      go_simp
      with_reducible rfl
    rotate_left
    · simp only [Act.put, List.setIfInBounds_toArray, List.set_cons_zero, List.set_cons_succ, i64_w, i32_w]
      rfl
    refine take_ (i := 14) (N := some 40) (v := ?_) (a' := ?_) #[true, true, true, true, true, true, true, true, true, true, true, true, true, true, true, false, false] rfl rfl (by kernel_rfl) (fun _ _ _ h => h) (Or.inl ⟨by rfl, ?_⟩) hHeld ?_ ?_
    rotate_left
    · rintro w' ⟨s0, s1, s2, s3, s4, s5, s6⟩
      go_simp
      with_reducible rfl
    rotate_left
    · simp only [Act.put, List.setIfInBounds_toArray, List.set_cons_zero, List.set_cons_succ, i64_w, i32_w]
      rfl
    refine one_ (i := 15) (N := some 4) #[true, true, true, true, true, true, true, true, true, true, true, true, true, true, true, true, false] rfl rfl (by kernel_rfl) (by decide) (fun K hK => ?_)
    refine box_step (by rfl) rfl (cs := #[.int .i64 0, .int .i64 0, .int .i64 0]) (t := 52) ?_ ?_
    · go_simp
    intro q hq w2 hb2 hB2
    obtain rfl : q = w1.heap.size := hq
    have HQ2 := Aside0.mk hb2
    have HB2 := Aside0.mk hB2
    clear hb2 hB2
    refine hK.out _ _ ⟨(lf_ HB2.out hHeld.1), (lf_ HB2.out hHeld.2.1), (lf_ HB2.out hHeld.2.2.1), (lf_ HB2.out hHeld.2.2.2.1), (lf_ HB2.out hHeld.2.2.2.2.1), (lf_ HB2.out hHeld.2.2.2.2.2.1), (lf_ HB2.out hHeld.2.2.2.2.2.2)⟩ (fun hHeld => ?_)
    clear hK K
    refine norm_ (a' := ?_) ?_ ?_
    rotate_left
    · show Act.put _ (some 4) _ = _
      simp only [Act.put, List.setIfInBounds_toArray, List.set_cons_zero, List.set_cons_succ, i64_w, i32_w]
      rfl
    refine last_ (i := 16) (N := none) #[true, true, true, true, true, true, true, true, true, true, true, true, true, true, true, true, true] rfl rfl (by kernel_rfl) (by decide) (fun K hK => ?_)
    have hz0 := (blk_cell HQ2.out 0).trans rfl
    have hz1 := (blk_cell HQ2.out 1).trans rfl
    have hz2 := (blk_cell HQ2.out 2).trans rfl
    have hf0 := blk_frozen HQ2.out 0
    have hf1 := blk_frozen HQ2.out 1
    have hf2 := blk_frozen HQ2.out 2
    refine skip_ (w1 := ?_) (by rfl) rfl ?_ ?_
    rotate_left
    · go_simp
      rfl
    refine hK.out _ _ ?_
    clear hK K
    refine done_ (by kernel_rfl) ?_

    obtain ⟨W5, hW5⟩ : ∃ W : World, W = ((w2.setCell ⟨w1.heap.size, 0, none⟩ (.int .i64 f0)).setCell ⟨w1.heap.size, 1, none⟩ (.int .i64 f1)).setCell ⟨w1.heap.size, 2, none⟩ (.int .i64 f2) := ⟨_, rfl⟩
    have HQ5 := Aside0.mk (show W5.heap[w1.heap.size]? = some (.cells #[.int .i64 f0, .int .i64 f1, .int .i64 f2] 52 (0, 0)) from by rw [hW5]; exact by simpa using blk_set (blk_set (blk_set HQ2.out 0 (.int .i64 f0)) 1 (.int .i64 f1)) 2 (.int .i64 f2))
    have HB5 := Aside0.mk (show Below w1.heap.size w1 W5 from by rw [hW5]; exact ((((below_step (bk_ (Below.refl _ _)) HB2.out : Below w1.heap.size w1 w2)).setCell (Nat.le_refl _) _).setCell (Nat.le_refl _) _).setCell (Nat.le_refl _) _)
    rw [← hW5]
    clear hW5
    clear hHeld hc0 hc4 hx0' hy0' hy1' hy2'
    obtain ⟨q, hq⟩ : ∃ q, w1.heap.size = q := ⟨_, rfl⟩
    have HGQ := Aside0.mk (show g < q by rw [← hq]; exact blk_lt HK1.out)
    have HBQ := Aside0.mk (show base ≤ q by rw [← hq]; exact Nat.le_trans HS.out HKP1.out.1)
    have HGBQ := Aside0.mk (show gb < q by rw [← hq]; exact World.block_lt_of_cell? _ _ hel)
    rw [hq] at HQ5 HB5 ⊢
    have HQ := Aside0.mk hq
    clear hq
    have hel5 := (show Below w1.heap.size w1 W5 by rw [HQ.out]; exact HB5.out).cell (World.block_lt_of_cell? _ _ hel) |>.trans hel
    have HK5 := Aside0.mk (blk_below HK1.out (by rw [HQ.out]; exact HB5.out))
    have HR5 := Aside0.mk (Kd.R_below HR1.out (by rw [HQ.out]; exact HB5.out))
    have HBB5 := Aside0.mk (below_then HB1.out (Nat.le_trans HS.out HKP1.out.1) (by rw [HQ.out]; exact HB5.out))
    have HKP5 := Aside0.mk (HKP1.out.below (by rw [HQ.out]; exact HB5.out))
    clear hel
    have hq0 := (blk_cell HQ5.out 0).trans rfl
    have hc3 := (blk_cell HK5.out 3).trans rfl
    obtain ⟨y0, hy0⟩ : ∃ y, mn f0 1 = y := ⟨_, rfl⟩
    obtain ⟨y1, hy1⟩ : ∃ y, mn x 1 = y := ⟨_, rfl⟩
    have u0 : 0 ≤ y0 ∧ y0 ≤ 1 := by rw [← hy0]; unfold mn; omega
    have u1 : 0 ≤ y1 ∧ y1 ≤ 1 := by rw [← hy1]; unfold mn; have := of_eq_true d4; omega
    have e6 : IntKind.i64.wrap (y0 - y1) = y0 - y1 := IntWalk.i64_in _ (by omega)
    have e7 : IntKind.i64.wrap (t2 + (y0 - y1)) = t2 + (y0 - y1) := IntWalk.i64_in _ (by omega)
    have HC0 := Aside0.mk (fun W => runner_count.calls f0 y0 W (by rw [← hy0]; rfl))
    have HC1 := Aside0.mk (fun W => runner_count.calls x y1 W (by rw [← hy1]; rfl))
    have HY0 := Aside0.mk hy0
    have HY1 := Aside0.mk hy1
    clear hy0 hy1 u0 u1
    go_wp2
    refine start_ (n := 16) (S := fun w' => w'.cell? ⟨g, 3, none⟩ = some (.int .i64 t2) ∧ w'.cell? ⟨q, 0, none⟩ = some (.int .i64 f0) ∧ w'.cell? ⟨gb, i.toNat, none⟩ = some (.int .i64 x)) (ds := [15]) #[false, false, false, false, false, false, false, false, false, false, false, false, false, false, false, false] (by kernel_rfl) rfl rfl ⟨hc3, hq0, hel5⟩ (fun hHeld => ?_)
    refine pure_ (i := 0) (N := some 41) (v := ?_) (a' := ?_) #[true, false, false, false, false, false, false, false, false, false, false, false, false, false, false, false] rfl rfl (by kernel_rfl) (fun _ _ _ h => h) (Or.inl ⟨by rfl, ?_⟩) ?_ ?_
    rotate_left
    · intro w'
      go_simp
      with_reducible rfl
    rotate_left
    · simp only [Act.put, List.setIfInBounds_toArray, List.set_cons_zero, List.set_cons_succ, i64_w, i32_w]
      rfl
    refine pure_ (i := 1) (N := some 42) (v := ?_) (a' := ?_) #[true, true, false, false, false, false, false, false, false, false, false, false, false, false, false, false] rfl rfl (by kernel_rfl) (fun _ _ _ h => h) (Or.inl ⟨by rfl, ?_⟩) ?_ ?_
    rotate_left
    · intro w'
      go_simp
      with_reducible rfl
    rotate_left
    · simp only [Act.put, List.setIfInBounds_toArray, List.set_cons_zero, List.set_cons_succ, i64_w, i32_w]
      rfl
    refine pure_ (i := 2) (N := some 43) (v := ?_) (a' := ?_) #[true, true, true, false, false, false, false, false, false, false, false, false, false, false, false, false] rfl rfl (by kernel_rfl) (fun _ _ _ h => h) (Or.inl ⟨by rfl, ?_⟩) ?_ ?_
    rotate_left
    · intro w'
      go_simp
      with_reducible rfl
    rotate_left
    · simp only [Act.put, List.setIfInBounds_toArray, List.set_cons_zero, List.set_cons_succ, i64_w, i32_w]
      rfl
    refine pure_ (i := 4) (N := some 45) (v := ?_) (a' := ?_) #[true, true, true, false, true, false, false, false, false, false, false, false, false, false, false, false] rfl rfl (by kernel_rfl) (fun _ _ _ h => h) (Or.inl ⟨by rfl, ?_⟩) ?_ ?_
    rotate_left
    · intro w'
      go_simp
      with_reducible rfl
    rotate_left
    · simp only [Act.put, List.setIfInBounds_toArray, List.set_cons_zero, List.set_cons_succ, i64_w, i32_w]
      rfl
    refine pure_ (i := 7) (N := some 48) (v := ?_) (a' := ?_) #[true, true, true, false, true, false, false, true, false, false, false, false, false, false, false, false] rfl rfl (by kernel_rfl) (fun _ _ _ h => h) (Or.inl ⟨by rfl, ?_⟩) ?_ ?_
    rotate_left
    · intro w'
      go_simp
      with_reducible rfl
    rotate_left
    · simp only [Act.put, List.setIfInBounds_toArray, List.set_cons_zero, List.set_cons_succ, i64_w, i32_w]
      rfl
    refine pure_ (i := 8) (N := some 49) (v := ?_) (a' := ?_) #[true, true, true, false, true, false, false, true, true, false, false, false, false, false, false, false] rfl rfl (by kernel_rfl) (fun _ _ _ h => h) (Or.inl ⟨by rfl, ?_⟩) ?_ ?_
    rotate_left
    · intro w'
      go_simp
      with_reducible rfl
    rotate_left
    · simp only [Act.put, List.setIfInBounds_toArray, List.set_cons_zero, List.set_cons_succ, i64_w, i32_w]
      rfl
    refine take_ (i := 3) (N := some 44) (v := ?_) (a' := ?_) #[true, true, true, true, true, false, false, true, true, false, false, false, false, false, false, false] rfl rfl (by kernel_rfl) (fun _ _ _ h => h) (Or.inl ⟨by rfl, ?_⟩) hHeld ?_ ?_
    rotate_left
    · rintro w' ⟨s0, s1, s2⟩
      go_simp
      with_reducible rfl
    rotate_left
    · simp only [Act.put, List.setIfInBounds_toArray, List.set_cons_zero, List.set_cons_succ, i64_w, i32_w]
      rfl
    refine take_ (i := 5) (N := some 46) (v := ?_) (a' := ?_) #[true, true, true, true, true, true, false, true, true, false, false, false, false, false, false, false] rfl rfl (by kernel_rfl) (fun _ _ _ h => h) (Or.inl ⟨by rfl, ?_⟩) hHeld ?_ ?_
    rotate_left
    · rintro w' ⟨s0, s1, s2⟩
      go_simp
      with_reducible rfl
    rotate_left
    · simp only [Act.put, List.setIfInBounds_toArray, List.set_cons_zero, List.set_cons_succ, i64_w, i32_w]
      rfl
    refine take_ (i := 9) (N := some 50) (v := ?_) (a' := ?_) #[true, true, true, true, true, true, false, true, true, true, false, false, false, false, false, false] rfl rfl (by kernel_rfl) (fun _ _ _ h => h) (Or.inl ⟨by rfl, ?_⟩) hHeld ?_ ?_
    rotate_left
    · rintro w' ⟨s0, s1, s2⟩
      go_simp
      with_reducible rfl
    rotate_left
    · simp only [Act.put, List.setIfInBounds_toArray, List.set_cons_zero, List.set_cons_succ, i64_w, i32_w]
      rfl
    refine one_ (i := 6) (N := some 47) #[true, true, true, true, true, true, true, true, true, true, false, false, false, false, false, false] rfl rfl (by kernel_rfl) (by decide) (fun K hK => ?_)
    refine goes_ Try.func39 (by kernel_rfl) rfl #[.int .i64 f0] (by rfl) rfl rfl (by simp only [List.map_toArray, List.map_cons, List.map_nil]; rfl) ?_
    with_reducible refine (HC0.out _).mono ?_
    rintro e w6 ⟨rfl, hB6⟩
    refine ⟨_, rfl, ?_⟩
    have HB6 := Aside0.mk hB6
    clear hB6
    refine hK.out _ _ ⟨(lf_ HB6.out hHeld.1), (lf_ HB6.out hHeld.2.1), (lf_ HB6.out hHeld.2.2)⟩ (fun hHeld => ?_)
    clear hK K
    refine norm_ (a' := ?_) ?_ ?_
    rotate_left
    · show Act.put _ (some 47) _ = _
      simp only [Act.put, List.setIfInBounds_toArray, List.set_cons_zero, List.set_cons_succ, i64_w, i32_w]
      rfl
    refine one_ (i := 10) (N := some 51) #[true, true, true, true, true, true, true, true, true, true, true, false, false, false, false, false] rfl rfl (by kernel_rfl) (by decide) (fun K hK => ?_)
    refine goes_ Try.func39 (by kernel_rfl) rfl #[.int .i64 x] (by rfl) rfl rfl (by simp only [List.map_toArray, List.map_cons, List.map_nil]; rfl) ?_
    with_reducible refine (HC1.out _).mono ?_
    rintro e w7 ⟨rfl, hB7⟩
    refine ⟨_, rfl, ?_⟩
    have HB7 := Aside0.mk hB7
    clear hB7
    refine hK.out _ _ ⟨(lf_ HB7.out hHeld.1), (lf_ HB7.out hHeld.2.1), (lf_ HB7.out hHeld.2.2)⟩ (fun hHeld => ?_)
    clear hK K
    refine norm_ (a' := ?_) ?_ ?_
    rotate_left
    · show Act.put _ (some 51) _ = _
      simp only [Act.put, List.setIfInBounds_toArray, List.set_cons_zero, List.set_cons_succ, i64_w, i32_w]
      rfl
    refine pure_ (i := 11) (N := some 52) (v := ?_) (a' := ?_) #[true, true, true, true, true, true, true, true, true, true, true, true, false, false, false, false] rfl rfl (by kernel_rfl) (fun _ _ _ h => h) (Or.inl ⟨by rfl, ?_⟩) ?_ ?_
    rotate_left
    · intro w'
      go_simp
      with_reducible rfl
    rotate_left
    · simp only [Act.put, List.setIfInBounds_toArray, List.set_cons_zero, List.set_cons_succ, i64_w, i32_w]
      rfl
    refine pure_ (i := 12) (N := some 53) (v := ?_) (a' := ?_) #[true, true, true, true, true, true, true, true, true, true, true, true, true, false, false, false] rfl rfl (by kernel_rfl) (fun _ _ _ h => h) (Or.inl ⟨by rfl, ?_⟩) ?_ ?_
    rotate_left
    · intro w'
      go_simp
      with_reducible rfl
    rotate_left
    · simp only [Act.put, List.setIfInBounds_toArray, List.set_cons_zero, List.set_cons_succ, i64_w, i32_w]
      rfl
    refine pure_ (i := 13) (N := some 54) (v := ?_) (a' := ?_) #[true, true, true, true, true, true, true, true, true, true, true, true, true, true, false, false] rfl rfl (by kernel_rfl) (fun _ _ _ h => h) (Or.inl ⟨by rfl, ?_⟩) ?_ ?_
    rotate_left
    · intro w'
      go_simp
      with_reducible rfl
    rotate_left
    · simp only [Act.put, List.setIfInBounds_toArray, List.set_cons_zero, List.set_cons_succ, i64_w, i32_w]
      rfl
    refine pure_ (i := 14) (N := some 55) (v := ?_) (a' := ?_) #[true, true, true, true, true, true, true, true, true, true, true, true, true, true, true, false] rfl rfl (by kernel_rfl) (fun _ _ _ h => h) (Or.inl ⟨by rfl, ?_⟩) ?_ ?_
    rotate_left
    · intro w'
      go_simp
      with_reducible rfl
    rotate_left
    · simp only [Act.put, List.setIfInBounds_toArray, List.set_cons_zero, List.set_cons_succ, i64_w, i32_w]
      rfl
    refine last_ (i := 15) (N := none) #[true, true, true, true, true, true, true, true, true, true, true, true, true, true, true, true] rfl rfl (by kernel_rfl) (by decide) (fun K hK => ?_)
    have hf3 : w7.frozen? ⟨g, 3, none⟩ = false := blk_frozen (blk_below (blk_below (show W5.drew.heap[g]? = _ from HK5.out) HB6.out) HB7.out) 3
    refine skip_ (w1 := ?_) (by rfl) rfl ?_ ?_
    rotate_left
    · go_simp
      rfl
    refine hK.out _ _ ?_
    clear hK K
    refine done_ (by kernel_rfl) ?_

    have HB57 := Aside0.mk (show Below W5.heap.size W5 w7 from below_step (below_step (bk_ (Below.refl _ _)) HB6.out) HB7.out)
    obtain ⟨W8, hW8⟩ : ∃ W : World, W = w7.setCell ⟨g, 3, none⟩ (.int .i64 (t2 + (y0 - y1))) := ⟨_, rfl⟩
    have HK8 := Aside0.mk (show W8.heap[g]? = some (.cells #[.slice (some ad0) rules.length c0, .slice (some ⟨gb, 0, none⟩) t0.length cap, .int .i64 t1, .int .i64 (t2 + (y0 - y1)), .int .i64 t3, .int .i64 t4] 61 (0, 0)) from by rw [hW8]; exact by simpa using blk_set (blk_below HK5.out HB57.out) 3 (.int .i64 (t2 + (y0 - y1))))
    have HQ8 := Aside0.mk (show W8.heap[q]? = some (.cells #[.int .i64 f0, .int .i64 f1, .int .i64 f2] 52 (0, 0)) from by rw [hW8]; exact blk_far (blk_below HQ5.out HB57.out) (Nat.ne_of_gt HGQ.out) _)
    have HR8 := Aside0.mk (show Kd.R (Kd.int .i64) 3 W8 base (fun k => S k ∧ k ≠ g) (.slice (some ⟨gb, 0, none⟩) t0.length cap) t0 from by rw [hW8]; exact Kd.R_far (Kd.R_below HR5.out HB57.out) (fun k hk => hk.2) _)
    have HB8 := Aside0.mk (show Below base w0 W8 from by rw [hW8]; exact (below_then HBB5.out (Nat.le_trans (Nat.le_trans HS.out HKP5.out.1) (Nat.le_refl _)) HB57.out).setCell hg _)
    have HKP8 := Aside0.mk (show Kept w W8 S from by rw [hW8]; exact (HKP5.out.below HB57.out).setCell (.inl hS) _)
    rw [← hW8]
    clear hW8
    have hel8 := Kd.R_cell (0 : Int) HR8.out i (of_eq_true d0) (of_eq_true d1)
    have hel8a := hel8.1
    have hel8b := hel8.2
    rw [show rdOf (0 : Int) t0 i = x from HX.out] at hel8a
    clear hel8 hHeld hc3 hel5 hq0
    have hq0 := (blk_cell HQ8.out 0).trans rfl
    go_wp2
    obtain ⟨W9, hW9⟩ : ∃ W : World, W = W8.setCell ⟨gb, i.toNat, none⟩ (.int .i64 f0) := ⟨_, rfl⟩
    have HK9 := Aside0.mk (show W9.heap[g]? = some (.cells #[.slice (some ad0) rules.length c0, .slice (some ⟨gb, 0, none⟩) t0.length cap, .int .i64 t1, .int .i64 (t2 + (y0 - y1)), .int .i64 t3, .int .i64 t4] 61 (0, 0)) from by rw [hW9]; exact blk_far HK8.out (fun e => HGB.out (by rw [e])) _)
    have HQ9 := Aside0.mk (show W9.heap[q]? = some (.cells #[.int .i64 f0, .int .i64 f1, .int .i64 f2] 52 (0, 0)) from by rw [hW9]; exact blk_far HQ8.out (Nat.ne_of_gt HGBQ.out) _)
    have HR9 := Aside0.mk (show Kd.R (Kd.int .i64) 3 W9 base (fun k => S k ∧ k ≠ g) (.slice (some ⟨gb, 0, none⟩) t0.length cap) (t0.set i.toNat f0) from by rw [hW9]; exact (Kd.R_putg HR8.out i f0).1)
    have HB9 := Aside0.mk (show Below base w0 W9 from by rw [hW9]; exact HB8.out.setCell (Kd.R_base HR8.out gb rfl) _)
    have HKP9 := Aside0.mk (show Kept w W9 S from by rw [hW9]; exact HKP8.out.setCell (.inl (HR8.out.1 gb rfl).1) _)
    rw [← hW9]
    clear hW9
    clear hq0 hel8a hel8b
    have hq1 := (blk_cell HQ9.out 1).trans rfl
    have hc5 := (blk_cell HK9.out 5).trans rfl
    have e8 : IntKind.i64.wrap (t4 + f1) = t4 + f1 := IntWalk.i64_in _ (by omega)
    refine start_ (n := 10) (S := fun w' => w'.cell? ⟨g, 5, none⟩ = some (.int .i64 t4) ∧ w'.cell? ⟨q, 1, none⟩ = some (.int .i64 f1)) (ds := [9]) #[false, false, false, false, false, false, false, false, false, false] (by kernel_rfl) rfl rfl ⟨hc5, hq1⟩ (fun hHeld => ?_)
    refine pure_ (i := 0) (N := some 60) (v := ?_) (a' := ?_) #[true, false, false, false, false, false, false, false, false, false] rfl rfl (by kernel_rfl) (fun _ _ _ h => h) (Or.inl ⟨by rfl, ?_⟩) ?_ ?_
    rotate_left
    · intro w'
      go_simp
      with_reducible rfl
    rotate_left
    · simp only [Act.put, List.setIfInBounds_toArray, List.set_cons_zero, List.set_cons_succ, i64_w, i32_w]
      rfl
    refine pure_ (i := 1) (N := some 61) (v := ?_) (a' := ?_) #[true, true, false, false, false, false, false, false, false, false] rfl rfl (by kernel_rfl) (fun _ _ _ h => h) (Or.inl ⟨by rfl, ?_⟩) ?_ ?_
    rotate_left
    · intro w'
      go_simp
      with_reducible rfl
    rotate_left
    · simp only [Act.put, List.setIfInBounds_toArray, List.set_cons_zero, List.set_cons_succ, i64_w, i32_w]
      rfl
    refine pure_ (i := 2) (N := some 62) (v := ?_) (a' := ?_) #[true, true, true, false, false, false, false, false, false, false] rfl rfl (by kernel_rfl) (fun _ _ _ h => h) (Or.inl ⟨by rfl, ?_⟩) ?_ ?_
    rotate_left
    · intro w'
      go_simp
      with_reducible rfl
    rotate_left
    · simp only [Act.put, List.setIfInBounds_toArray, List.set_cons_zero, List.set_cons_succ, i64_w, i32_w]
      rfl
    refine pure_ (i := 4) (N := some 64) (v := ?_) (a' := ?_) #[true, true, true, false, true, false, false, false, false, false] rfl rfl (by kernel_rfl) (fun _ _ _ h => h) (Or.inl ⟨by rfl, ?_⟩) ?_ ?_
    rotate_left
    · intro w'
      go_simp
      with_reducible rfl
    rotate_left
    · simp only [Act.put, List.setIfInBounds_toArray, List.set_cons_zero, List.set_cons_succ, i64_w, i32_w]
      rfl
    refine take_ (i := 3) (N := some 63) (v := ?_) (a' := ?_) #[true, true, true, true, true, false, false, false, false, false] rfl rfl (by kernel_rfl) (fun _ _ _ h => h) (Or.inl ⟨by rfl, ?_⟩) hHeld ?_ ?_
    rotate_left
    · rintro w' ⟨s0, s1⟩
      go_simp
      with_reducible rfl
    rotate_left
    · simp only [Act.put, List.setIfInBounds_toArray, List.set_cons_zero, List.set_cons_succ, i64_w, i32_w]
      rfl
    refine take_ (i := 5) (N := some 65) (v := ?_) (a' := ?_) #[true, true, true, true, true, true, false, false, false, false] rfl rfl (by kernel_rfl) (fun _ _ _ h => h) (Or.inl ⟨by rfl, ?_⟩) hHeld ?_ ?_
    rotate_left
    · rintro w' ⟨s0, s1⟩
      go_simp
      with_reducible rfl
    rotate_left
    · simp only [Act.put, List.setIfInBounds_toArray, List.set_cons_zero, List.set_cons_succ, i64_w, i32_w]
      rfl
    refine pure_ (i := 6) (N := some 66) (v := ?_) (a' := ?_) #[true, true, true, true, true, true, true, false, false, false] rfl rfl (by kernel_rfl) (fun _ _ _ h => h) (Or.inl ⟨by rfl, ?_⟩) ?_ ?_
    rotate_left
    · intro w'
      go_simp
      with_reducible rfl
    rotate_left
    · simp only [Act.put, List.setIfInBounds_toArray, List.set_cons_zero, List.set_cons_succ, i64_w, i32_w]
      rfl
    refine pure_ (i := 7) (N := some 67) (v := ?_) (a' := ?_) #[true, true, true, true, true, true, true, true, false, false] rfl rfl (by kernel_rfl) (fun _ _ _ h => h) (Or.inl ⟨by rfl, ?_⟩) ?_ ?_
    rotate_left
    · intro w'
      go_simp
      with_reducible rfl
    rotate_left
    · simp only [Act.put, List.setIfInBounds_toArray, List.set_cons_zero, List.set_cons_succ, i64_w, i32_w]
      rfl
    refine pure_ (i := 8) (N := some 68) (v := ?_) (a' := ?_) #[true, true, true, true, true, true, true, true, true, false] rfl rfl (by kernel_rfl) (fun _ _ _ h => h) (Or.inl ⟨by rfl, ?_⟩) ?_ ?_
    rotate_left
    · intro w'
      go_simp
      with_reducible rfl
    rotate_left
    · simp only [Act.put, List.setIfInBounds_toArray, List.set_cons_zero, List.set_cons_succ, i64_w, i32_w]
      rfl
    refine last_ (i := 9) (N := none) #[true, true, true, true, true, true, true, true, true, true] rfl rfl (by kernel_rfl) (by decide) (fun K hK => ?_)
    have hf5 := blk_frozen HK9.out 5
    refine skip_ (w1 := ?_) (by rfl) rfl ?_ ?_
    rotate_left
    · go_simp
      rfl
    refine hK.out _ _ ?_
    clear hK K
    refine done_ (by kernel_rfl) ?_

    obtain ⟨W10, hW10⟩ : ∃ W : World, W = (W9.setCell ⟨g, 5, none⟩ (.int .i64 (t4 + f1))).drew := ⟨_, rfl⟩
    have HK10 := Aside0.mk (show W10.heap[g]? = some (.cells #[.slice (some ad0) rules.length c0, .slice (some ⟨gb, 0, none⟩) t0.length cap, .int .i64 t1, .int .i64 (t2 + (y0 - y1)), .int .i64 t3, .int .i64 (t4 + f1)] 61 (0, 0)) from by rw [hW10]; exact blk_drew (by simpa using blk_set HK9.out 5 (.int .i64 (t4 + f1))))
    have HQ10 := Aside0.mk (show W10.heap[q]? = some (.cells #[.int .i64 f0, .int .i64 f1, .int .i64 f2] 52 (0, 0)) from by rw [hW10]; exact blk_drew (blk_far HQ9.out (Nat.ne_of_gt HGQ.out) _))
    have HR10 := Aside0.mk (show Kd.R (Kd.int .i64) 3 W10 base (fun k => S k ∧ k ≠ g) (.slice (some ⟨gb, 0, none⟩) t0.length cap) (t0.set i.toNat f0) from by rw [hW10]; exact Kd.R_drew (Kd.R_far HR9.out (fun k hk => hk.2) _))
    have HB10 := Aside0.mk (show Below base w0 W10 from by rw [hW10]; exact below_drew (HB9.out.setCell hg _))
    have HKP10 := Aside0.mk (show Kept w W10 S from by rw [hW10]; exact (HKP9.out.setCell (.inl hS) _).drew)
    rw [← hW10]
    clear hW10
    clear hq1 hc5 hHeld
    have hq2 := (blk_cell HQ10.out 2).trans rfl
    have hc4 := (blk_cell HK10.out 4).trans rfl
    have hf4 := blk_frozen HK10.out 4
    go_wp2
    go_ret
    refine ⟨rfl, ⟨hg, hS, _, by simpa [HY0.out, HY1.out] using blk_set HK10.out 4 (.int .i64 f2), Kd.R_far HR10.out (fun k hk => hk.2) _⟩, HB10.out.setCell hg _, HKP10.out.setCell (.inl hS) _⟩

/-! ### runner_Runner_Run: function 25 (by hand) -/
def RS.run (rules : List (List (S52))) : Nat → Int → RS → Option (RS × Int)
  | 0, i, s => some (s, i)
  | d + 1, i, s => (RS.step rules s).bind fun t => if t.2 = true then RS.run rules d (i + 1) t.1 else some (t.1, i)
set_option maxHeartbeats 8000000 in
set_option maxRecDepth 100000 in
theorem rn_run (A0 : Option Addr) (c0 : Nat) (rules : List (List (S52))) (w0 w : World) (base : Nat) (S : Nat → Prop) (g : Nat) (s s' : RS) (n i' : Int) (h : IsRn w base S g (.slice A0 rules.length c0) s) (hr0 : Kd.C (Kd.slice 52 k52) w0 A0 rules.length rules) (hB0 : w0.heap.size ≤ base) (hB : Below base w0 w) (hs : base ≤ w.heap.size) (hF : ∀ k, w.heap.size ≤ k → S k) (hn0 : 0 ≤ n) (hn1 : n ≤ 1000000000) (hst : RS.run rules n.toNat 0 s = some (s', i')) :
    Calls Try.prog 25 #[.pointer (some ⟨g, 0, none⟩), .int .i64 n] w fun e w' => e = .returned (.int .i64 i') ∧ IsRn w' base S g (.slice A0 rules.length c0) s' ∧ Below base w0 w' ∧ Kept w w' S := by
  have HI := Aside0.mk h
  have HB := Aside0.mk hB
  have HS := Aside0.mk hs
  have HF := Aside0.mk hF
  have HR0 := Aside0.mk hr0
  have HB0 := Aside0.mk hB0
  have H := Aside0.mk hst
  clear h hB hs hF hr0 hB0 hst
  have HKP := Aside0.mk (Kept.refl w S)
  go_enter Try.func25, Try.ntmps25
  go_wp2
  go_loopg [7] (n.toNat) (fun kq v7 w' => ∃ (i : Int) (t : RS), v7 = .int .i64 i ∧ Aside0 (0 ≤ i ∧ i ≤ n ∧ (n - i).toNat = kq) ∧ Aside0 (RS.run rules kq i t = some (s', i')) ∧ Aside0 (IsRn w' base S g (.slice A0 rules.length c0) t) ∧ Aside0 (Below base w0 w') ∧ Aside0 (Kept w w' S))
  case atStart => exact ⟨0, s, rfl, ⟨by omega, by omega, by omega⟩, H, HI, HB, HKP⟩
  case round =>
    clear H HI HB HKP
    obtain ⟨i, t, rfl, HN, H, HI, HB, HKP⟩ := hrel
    obtain ⟨hi0, hi1, hi2⟩ := HN.out
    cases gk with
    | zero =>
      have hin : i = n := by omega
      subst hin
      have h := H.out
      simp only [RS.run, Option.some.injEq, Prod.mk.injEq] at h
      obtain ⟨rfl, rfl⟩ := h
      clear H
      go_wp2
      go_ret
      exact ⟨rfl, HI.out, HB.out, HKP.out⟩
    | succ d =>
      have hin : i < n := by omega
      have h := H.out
      simp only [RS.run] at h
      obtain ⟨⟨t1, b⟩, hst, h⟩ := Option.bind_eq_some_iff.1 h
      have HC := Aside0.mk (rn_step A0 c0 rules w0 wr base S g t t1 b HI.out HR0.out HB0.out HB.out (Nat.le_trans HS.out HKP.out.1) (fun k hk => HF.out k (Nat.le_trans HKP.out.1 hk)) hst)
      clear H hst
      cases b with
      | false =>
        simp only [Bool.false_eq_true, if_false, Option.some.injEq, Prod.mk.injEq] at h
        obtain ⟨rfl, rfl⟩ := h
        go_wp2_with (go_at_call 29; refine HC.out.mono ?_; rintro e w1 ⟨rfl, hI1, hB1, hKP1⟩)
        go_ret
        exact ⟨rfl, hI1, hB1, HKP.out.then_ hKP1 (fun k hk => .inl hk)⟩
      | true =>
        simp only [if_true] at h
        have H := Aside0.mk h
        clear h
        go_wp2_with (go_at_call 29; refine HC.out.mono ?_; rintro e w1 ⟨rfl, hI1, hB1, hKP1⟩)
        go_roundg d
        case measure => omega
        case rel => exact ⟨i + 1, t1, rfl, ⟨by omega, by omega, by omega⟩, H, ⟨hI1⟩, ⟨hB1⟩, ⟨HKP.out.then_ hKP1 (fun k hk => .inl hk)⟩⟩

/-! ### slices_Clone_int_int: function 37 (by hand) -/
def slices_Clone_int_int.f (l0 : List Int) : Option (List Int) := if l0.length < 17592186044416 then (some l0) else (none)
set_option maxHeartbeats 8000000 in
set_option maxRecDepth 100000 in
theorem slices_Clone_int_int.calls (A0 : Option Addr) (c0 : Nat) (l0 : List Int) (r : List Int) (w : World) (hr0 : Kd.C (Kd.int .i64) w A0 l0.length l0) (hc0 : l0.length ≤ c0) (h : slices_Clone_int_int.f l0 = some r) :
    Calls Try.prog 37 #[.slice A0 l0.length c0] w fun e w' => ∃ v0_ : Value, e = .returned (v0_) ∧ Kd.R (Kd.int .i64) 3 w' w.heap.size (fun _ => True) v0_ r ∧ Below w.heap.size w w' := by
  have qn_ : ∀ (w : World) (a : Option Addr) (n c n' c' : Nat), (binOp .eql 41 (.slice a n c) (.slice none n' c')).run Try.prog w = .ok (.bool a.isNone) w := fun w a n c n' c' => Lib.run_eql_slice_nil w _ _ a n c n' c' Try.underlying41
  unfold slices_Clone_int_int.f at h
  split at h
  rotate_left
  · cases h
  rename_i hlen
  obtain rfl := Option.some.inj h
  clear h
  cases A0 with
  | none =>
    have hl : l0.length = 0 := by
      rcases Nat.eq_zero_or_pos l0.length with h0 | h0
      · exact h0
      · obtain ⟨ad, h, _⟩ := hr0.2.2 h0
        cases h
    obtain rfl : l0 = [] := List.eq_nil_of_length_eq_zero hl
    clear hr0 hlen hl
    go_enter Try.func37, Try.ntmps37
    go_wp2
    go_ret
    exact ⟨_, rfl, Kd.R_nil _ _ _ _ _, Below.refl _ _⟩
  | some ad =>
    have HR0 := Aside0.mk hr0
    have HLEN := Aside0.mk hlen
    clear hr0 hlen
    go_enter Try.func37, Try.ntmps37
    go_wp2_with (first | ((with_reducible refine gate_builtin (b := .append) (xs := #[.tmp 5, .tmp 6]) rfl ?_); at_builtin; refine Kd.R_append_rows (Kd.int .i64) (w0 := w) w.heap.size rfl (.tmp 5) (.tmp 6) 41 3 (.int .i64 0) 8 rfl Try.underlying41 info3 rfl (by decide) (by omega) (.slice (some ⟨w.heap.size, 0, none⟩) 0 0) [] l0 _ _ _ (fun _ => True) (fun _ => False) rfl rfl ?aO ?aR (fun _ _ h => h) (fun _ h => h.elim) (fun _ _ => trivial) ?aB ?aS ?aL ?_; (case aO => exact ⟨fun _ _ => trivial, [], World.ownsRow_made w #[] 0 (Nat.le_refl _) (Nat.zero_le _) (by simp), Reps.none _ _⟩); (case aR => exact Kd.C_below HR0.out (below_alloc (Below.refl _ _) _)); (case aB => exact below_alloc (Below.refl _ _) _); (case aS => simp); (case aL => have := HLEN.out; simp; omega); intro v1 w1 ho hb hg hat; clear hg hat))
    go_ret
    exact ⟨_, rfl, by simpa using ho, hb⟩

/-! ### runner_Runner_Clone: function 28 (by hand) -/
set_option maxHeartbeats 8000000 in
set_option maxRecDepth 100000 in
theorem rn_clone (w0 w : World) (base : Nat) (S : Nat → Prop) (g : Nat) (A0 : Option Addr) (rn c0 : Nat) (s : RS) (h : IsRn w base S g (.slice A0 rn c0) s) (hl : s.cells.length ≤ 2000000000) :
    Calls Try.prog 28 #[.pointer (some ⟨g, 0, none⟩)] w fun e w' => ∃ g2, e = .returned (.pointer (some ⟨g2, 0, none⟩)) ∧ IsRn w' w.heap.size (fun _ => True) g2 (.slice A0 rn c0) s ∧ Below w.heap.size w w' := by
  obtain ⟨hg, hS, v, hb, hr⟩ := h
  obtain ⟨cells, fr, on_, st, po⟩ := s
  obtain ⟨A, c, rfl⟩ := Kd.R_slice hr
  simp only at hb hr hl
  have HL := Aside0.mk hl
  have HK := Aside0.mk hb
  have HR := Aside0.mk hr
  clear hb hr
  clear hl
  have hc0 := (blk_cell HK.out 0).trans rfl
  have hc1 := (blk_cell HK.out 1).trans rfl
  have hc2 := (blk_cell HK.out 2).trans rfl
  have hc3 := (blk_cell HK.out 3).trans rfl
  have hc4 := (blk_cell HK.out 4).trans rfl
  have hc5 := (blk_cell HK.out 5).trans rfl
  have hlt := blk_lt HK.out
  go_enter Try.func28, Try.ntmps28
  go_wp2_with fail
  refine (slices_Clone_int_int.calls A c cells cells _ (Kd.C_alloc (Kd.R_reads' HR.out).2.2 _) (Kd.R_reads' HR.out).2.1 (by unfold slices_Clone_int_int.f; rw [if_pos (by have := HL.out; omega)])).mono ?_
  rintro e w2 ⟨v2, rfl, hR2, hB2⟩
  obtain ⟨A2, c2, rfl⟩ := Kd.R_slice hR2
  have HR2 := Aside0.mk hR2
  have HB2 := Aside0.mk (below_step (below_alloc (Below.refl w.heap.size w) _) hB2)
  have HQ2 := Aside0.mk (blk_below (blk_new w _) hB2)
  have hz1 := (blk_cell HQ2.out 1).trans rfl
  have hf1 := blk_frozen HQ2.out 1
  clear hR2 hB2 hc0 hc1 hc2 hc3 hc4 hc5 hlt
  go_wp2
  go_ret
  refine ⟨_, rfl, ⟨Nat.le_refl _, trivial, _, by simpa using blk_set HQ2.out 1 (.slice A2 cells.length c2), ?_⟩, HB2.out.setCell (Nat.le_refl _) _⟩
  exact Kd.R_far (Kd.R_lower (Kd.R_mono (Kd.R_bound HR2.out) (ok' := fun k => True ∧ k ≠ w.heap.size) (fun k hk => ⟨trivial, by have := hk.2.1; simp at this; omega⟩)) (by simp)) (fun k hk => hk.2) _

/-! ### runner_Runner_Bounds: function 40 (by hand) -/
set_option maxHeartbeats 8000000 in
set_option maxRecDepth 100000 in
theorem rn_bounds (w : World) (base : Nat) (S : Nat → Prop) (g : Nat) (V : Value) (s : RS) (h : IsRn w base S g V s) (h0 : -4000000000 ≤ s.fr) (h1 : s.fr ≤ 4000000000) (hl : s.cells.length ≤ 4000000000) :
    Calls Try.prog 40 #[.pointer (some ⟨g, 0, none⟩)] w fun e w' => e = .returned (.tuple #[.int .i64 s.fr, .int .i64 (s.fr + (s.cells.length : Int) - 1)]) ∧ ∃ m, w' = w.drewN m := by
  obtain ⟨hg, hS, v, hb, hr⟩ := h
  obtain ⟨cells, fr, on_, st, po⟩ := s
  obtain ⟨A, c, rfl⟩ := Kd.R_slice hr
  simp only at hb hl h0 h1
  have hc1 := (blk_cell hb 1).trans rfl
  have hc2 := (blk_cell hb 2).trans rfl
  clear hb hr
  have e1 : IntKind.i64.wrap (fr + (cells.length : Int)) = fr + (cells.length : Int) := IntWalk.i64_in _ (by omega)
  have e2 : IntKind.i64.wrap (fr + (cells.length : Int) - 1) = fr + (cells.length : Int) - 1 := IntWalk.i64_in _ (by omega)
  go_enter Try.func40, Try.ntmps40
  go_wp2
  go_quiet (fail)
  go_wp2
  go_ret2
  exact ⟨rfl, _, rfl⟩

/-! ### runner_Runner_Read: function 41 (by hand) -/
set_option maxHeartbeats 8000000 in
set_option maxRecDepth 100000 in
theorem rn_read (w : World) (base : Nat) (S : Nat → Prop) (g : Nat) (V : Value) (s : RS) (x : Int) (h : IsRn w base S g V s) (h0 : -4000000000 ≤ s.fr) (h1 : s.fr ≤ 4000000000) (hx0 : -1000000000000 ≤ x) (hx1 : x ≤ 1000000000000) :
    Calls Try.prog 41 #[.pointer (some ⟨g, 0, none⟩), .int .i64 x] w fun e w' => e = .returned (.int .i64 (s.at_ x)) ∧ ∃ m, w' = w.drewN m := by
  obtain ⟨hg, hS, v, hb, hr⟩ := h
  obtain ⟨cells, fr, on_, st, po⟩ := s
  obtain ⟨A, c, rfl⟩ := Kd.R_slice hr
  simp only at hb hr h0 h1
  have hrd := (Kd.R_reads' hr).2.2
  have hc1 := (blk_cell hb 1).trans rfl
  have hc2 := (blk_cell hb 2).trans rfl
  clear hb hr
  obtain ⟨i, hi⟩ : ∃ i, x - fr = i := ⟨_, rfl⟩
  have e1 : IntKind.i64.wrap (x - fr) = i := (IntWalk.i64_in _ (by omega)).trans hi
  have HI := Aside0.mk hi
  clear hi h0 h1 hx0 hx1
  by_cases d0 : 0 ≤ i
  · by_cases d1 : i < (cells.length : Int)
    · obtain ⟨ad, rfl, hx⟩ := Kd.at_int hrd i d0 d1
      clear hrd
      have HV : Aside0 (RS.at_ ⟨cells, fr, on_, st, po⟩ x = rd cells i) := ⟨by unfold RS.at_; simp only [HI.out]; exact if_pos ⟨d0, d1⟩⟩
      have d2 : decide (i < (cells.length : Int)) = true := decide_eq_true d1
      have d3 : decide (0 ≤ i) = true := decide_eq_true d0
      replace d0 := eq_true d0
      replace d1 := eq_true d1
      go_enter Try.func41, Try.ntmps41
      go_wp2
      repeat (go_quiet (fail); try go_wp2)
      go_ret
      exact ⟨by rw [HV.out]; rfl, 0, rfl⟩
    · clear hrd
      have HV : Aside0 (RS.at_ ⟨cells, fr, on_, st, po⟩ x = 0) := ⟨by unfold RS.at_; simp only [HI.out]; exact if_neg (fun h => d1 h.2)⟩
      have d2 : decide (i < (cells.length : Int)) = false := decide_eq_false d1
      have d3 : decide (0 ≤ i) = true := decide_eq_true d0
      replace d0 := eq_true d0
      replace d1 := eq_false d1
      go_enter Try.func41, Try.ntmps41
      go_wp2
      repeat (go_quiet (fail); try go_wp2)
      go_ret
      exact ⟨by rw [HV.out]; rfl, 0, rfl⟩
  · clear hrd
    have HV : Aside0 (RS.at_ ⟨cells, fr, on_, st, po⟩ x = 0) := ⟨by unfold RS.at_; simp only [HI.out]; exact if_neg (fun h => d0 h.1)⟩
    have d3 : decide (0 ≤ i) = false := decide_eq_false d0
    replace d0 := eq_false d0
    go_enter Try.func41, Try.ntmps41
    go_wp2
    repeat (go_quiet (fail); try go_wp2)
    go_ret
    exact ⟨by rw [HV.out]; rfl, 0, rfl⟩

/-! ### loop_alike: function 31 (by hand) -/
def RS.sane (s : RS) : Prop := -2000000000 ≤ s.fr ∧ s.fr ≤ 2000000000 ∧ -2000000000 ≤ s.po ∧ s.po ≤ 2000000000 ∧ s.cells.length ≤ 2000000000
instance RS.decSane (s : RS) : Decidable s.sane := by unfold RS.sane; infer_instance
def RS.alikeGo (a b : RS) (d : Int) : Nat → Int → Bool
  | 0, _ => true
  | n + 1, x => if a.at_ x = b.at_ (x + d) then RS.alikeGo a b d n (x + 1) else false
def RS.last (a b : RS) (d : Int) : Int := mx (a.fr + (a.cells.length : Int) - 1) (b.fr + (b.cells.length : Int) - 1 - d)
set_option maxHeartbeats 8000000 in
set_option maxRecDepth 100000 in
theorem lp_alike (w : World) (b1 b2 : Nat) (S1 S2 : Nat → Prop) (g1 g2 : Nat) (V1 V2 : Value) (a b : RS) (x d : Int) (h1 : IsRn w b1 S1 g1 V1 a) (h2 : IsRn w b2 S2 g2 V2 b) (ha : a.sane) (hb : b.sane) (hx0 : -2000000000 ≤ x) (hd0 : -4000000000 ≤ d) (hd1 : d ≤ 4000000000) :
    Calls Try.prog 31 #[.pointer (some ⟨g1, 0, none⟩), .pointer (some ⟨g2, 0, none⟩), .int .i64 x, .int .i64 d] w fun e w' => e = .returned (.bool (RS.alikeGo a b d (RS.last a b d + 1 - x).toNat x)) ∧ ∃ m, w' = w.drewN m := by
  obtain ⟨p0, p1, p2, p3, p4⟩ := ha
  obtain ⟨q0, q1, q2, q3, q4⟩ := hb
  obtain ⟨ea, hea⟩ : ∃ z, a.fr + (a.cells.length : Int) - 1 = z := ⟨_, rfl⟩
  obtain ⟨eb, heb⟩ : ∃ z, b.fr + (b.cells.length : Int) - 1 = z := ⟨_, rfl⟩
  have HL : Aside0 (RS.last a b d = mx ea (eb - d)) := ⟨by unfold RS.last; rw [hea, heb]⟩
  have hea0 : -2000000001 ≤ ea ∧ ea ≤ 4000000000 := by omega
  have heb0 : -2000000001 ≤ eb ∧ eb ≤ 4000000000 := by omega
  obtain ⟨l, hl⟩ : ∃ l, mx ea (eb - d) = l := ⟨_, rfl⟩
  have hl0 : -6000000001 ≤ l ∧ l ≤ 8000000000 := by rw [← hl]; unfold mx; split <;> omega
  rw [HL.out, hl]
  have e1 : IntKind.i64.wrap (eb - d) = eb - d := IntWalk.i64_in _ (by omega)
  have e2 : (if ea < eb - d then eb - d else ea) = l := hl
  have H1 := Aside0.mk h1
  have H2 := Aside0.mk h2
  have HEA := Aside0.mk hea
  have HEB := Aside0.mk heb
  have HL2 := Aside0.mk e2
  clear h1 h2 hea heb HL hl
  obtain ⟨r, hr⟩ : ∃ r, RS.alikeGo a b d (l + 1 - x).toNat x = r := ⟨_, rfl⟩
  rw [hr]
  have H := Aside0.mk hr
  clear hr
  go_enter Try.func31, Try.ntmps31
  go_wp2_with fail
  refine (rn_bounds w b1 S1 g1 V1 a H1.out (by omega) (by omega) (by omega)).mono ?_
  rintro e w1 ⟨rfl, m1, rfl⟩
  rw [HEA.out]
  go_wp2_with fail
  refine (rn_bounds _ b2 S2 g2 V2 b (H2.out.drewN _) (by omega) (by omega) (by omega)).mono ?_
  rintro e w2 ⟨rfl, m2, rfl⟩
  rw [HEB.out]
  go_wp2
  clear e1 e2
  have E1 := Aside0.mk (show IntKind.i64.wrap (eb - d) = eb - d from IntWalk.i64_in _ (by omega))
  go_loopg [13] ((l + 1 - x).toNat) (fun kq v13 w' => ∃ (i : Int) (m : Nat), v13 = .int .i64 i ∧ Aside0 (x ≤ i ∧ (l + 1 - i).toNat = kq) ∧ Aside0 (RS.alikeGo a b d kq i = r) ∧ w' = w.drewN m)
  case atStart => exact ⟨x, _, rfl, ⟨by omega, by omega⟩, H, rfl⟩
  case round =>
    clear H
    obtain ⟨i, m, rfl, HN, H, rfl⟩ := hrel
    obtain ⟨hi0, hi2⟩ := HN.out
    have e1 := E1.out
    have e2 := HL2.out
    cases gk with
    | zero =>
      have hin : ¬ i ≤ l := by omega
      have h := H.out
      simp only [RS.alikeGo] at h
      subst h
      clear H
      replace hin := eq_false hin
      go_wp2
      go_ret
      exact ⟨rfl, _, rfl⟩
    | succ k =>
      have hin : i ≤ l := by omega
      have h := H.out
      simp only [RS.alikeGo] at h
      clear H
      obtain ⟨y1, hy1⟩ : ∃ y, a.at_ i = y := ⟨_, rfl⟩
      obtain ⟨y2, hy2⟩ : ∃ y, b.at_ (i + d) = y := ⟨_, rfl⟩
      rw [hy1, hy2] at h
      have HY1 := Aside0.mk hy1
      have HY2 := Aside0.mk hy2
      have H := Aside0.mk h
      clear hy1 hy2 h
      have e3 : IntKind.i64.wrap (i + d) = i + d := IntWalk.i64_in _ (by omega)
      have e4 : IntKind.i64.wrap (i + 1) = i + 1 := IntWalk.i64_in _ (by omega)
      have HIN := Aside0.mk hin
      replace hin := eq_true hin
      go_wp2_with fail
      refine (rn_read _ b1 S1 g1 V1 a i (H1.out.drewN _) (by omega) (by omega) (by have := HIN.out; omega) (by have := HIN.out; omega)).mono ?_
      rintro e w3 ⟨rfl, m3, rfl⟩
      rw [HY1.out]
      go_wp2_with fail
      refine (rn_read _ b2 S2 g2 V2 b (i + d) (H2.out.drewN _) (by omega) (by omega) (by have := HIN.out; omega) (by have := HIN.out; omega)).mono ?_
      rintro e w4 ⟨rfl, m4, rfl⟩
      rw [HY2.out]
      by_cases hy : y1 = y2
      · have h := H.out
        rw [if_pos hy] at h
        have H := Aside0.mk h
        clear h
        subst hy
        go_wp2
        go_roundg k
        case measure => omega
        case rel => exact ⟨i + 1, _, rfl, ⟨by omega, by have := HIN.out; omega⟩, H, rfl⟩
      · have h := H.out
        rw [if_neg hy] at h
        subst h
        clear H
        have hyb : (y1 == y2) = false := by simpa using hy
        go_wp2
        go_ret
        exact ⟨rfl, _, rfl⟩

end Go.Proofs.Ytngmdidegmbpfaa.PLoopAfter
