-- out of a turned copy of the print, by a program of this session; Lean checks it
import Derived.Test.YtngmdidegmbpfaaPLoopAfterx0
import Derived.Test.YtngmdidegmbpfaaPLoopAfterx7
namespace Go.Proofs.Ytngmdidegmbpfaa.PLoopAfter
open Go.RowKit Go.Proofs.YtngmdidegmbpfaaW.PrintWords Go.Proofs.YtngmdidegmbpfaaW.PrintLast Go.Proofs.YtngmdidegmbpfaaW.PrintMore
attribute [local go_sem] max2_int min2_int max_two min_two max_three min_three max_four min_four   -- for this text's walks alone
set_option linter.unusedVariables false
set_option linter.unusedSimpArgs false

attribute [local go_sem] isSome_put_
/-! ### standstillref10_Run_Step: function 26 (by hand) -/
def RR.rule (rules : List (List (S52))) (s : RR) : S52 := rd_T52 (rd_L2 rules s.st) (s.at_ s.po)
def RR.ok (rules : List (List (S52))) (s : RR) : Prop :=
  -1000000000 ≤ s.po ∧ s.po ≤ 1000000000 ∧ s.rt.length ≤ 1000000000 ∧ s.lf.length ≤ 1000000000 ∧ 0 ≤ s.k ∧ s.k ≤ 1000000000000 ∧ 0 ≤ s.st ∧ s.st < (rules.length : Int) ∧ 0 ≤ s.at_ s.po ∧ s.at_ s.po < ((rd_L2 rules s.st).length : Int) ∧ -100 ≤ (s.rule rules).f1 ∧ (s.rule rules).f1 ≤ 100
instance RR.decOk (rules : List (List (S52))) (s : RR) : Decidable (s.ok rules) := by unfold RR.ok; infer_instance
def RR.step (rules : List (List (S52))) (s : RR) : Option (RR × Bool) :=
  if s.st = -1 then some (s, false)
  else if s.ok rules then some ({ s.put (s.rule rules).f0 with po := s.po + (s.rule rules).f1, st := (s.rule rules).f2, k := s.k + 1 }, true)
  else none
set_option maxHeartbeats 8000000 in
set_option maxRecDepth 100000 in
theorem rr_step (A0 : Option Addr) (c0 : Nat) (rules : List (List (S52))) (w0 w : World) (base : Nat) (S : Nat → Prop) (g : Nat) (a0 a1 : Int) (s s' : RR) (b : Bool) (h : IsRr w base S g a0 a1 (.slice A0 rules.length c0) s) (hr0 : Kd.C (Kd.slice 52 k52) w0 A0 rules.length rules) (hB0 : w0.heap.size ≤ base) (hB : Below base w0 w) (hs : base ≤ w.heap.size) (hF : ∀ k, w.heap.size ≤ k → S k) (hst : RR.step rules s = some (s', b)) :
    Calls Try.prog 26 #[.pointer (some ⟨g, 0, none⟩)] w fun e w' => e = .returned (.bool b) ∧ IsRr w' base S g a0 a1 (.slice A0 rules.length c0) s' ∧ Below base w0 w' ∧ Kept w w' S := by
  have HI := Aside0.mk h
  obtain ⟨hg, hS, v, u, hb, hr, hl, hne⟩ := h
  unfold RR.step at hst
  have HK := Aside0.mk hb
  clear hb hr hl hne
  by_cases c1 : s.st = -1
  · rw [if_pos c1] at hst
    obtain ⟨rfl, rfl⟩ := Prod.mk.inj (Option.some.inj hst)
    clear hst
    have hc3 := (blk_cell HK.out 3).trans rfl
    rw [c1] at hc3
    have HB := Aside0.mk hB
    clear hB hs hF hr0 hB0 c1 HK
    go_enter Try.func26, Try.ntmps26
    go_wp2
    go_ret
    exact ⟨rfl, HI.out, HB.out, Kept.refl _ _⟩
  · rw [if_neg c1] at hst
    by_cases c2 : s.ok rules
    rotate_left
    · rw [if_neg c2] at hst
      cases hst
    rw [if_pos c2] at hst
    obtain ⟨rfl, rfl⟩ := Prod.mk.inj (Option.some.inj hst)
    clear hst
    obtain ⟨b1, b2, b3, b4, b5, b6, d2, d3, d4, d5, d7, d8⟩ := c2
    obtain ⟨x, hx⟩ : ∃ x, s.at_ s.po = x := ⟨_, rfl⟩
    obtain ⟨row, hrow⟩ : ∃ r, rd_L2 rules s.st = r := ⟨_, rfl⟩
    obtain ⟨r, hr_⟩ : ∃ r, s.rule rules = r := ⟨_, rfl⟩
    rw [hx] at d4 d5
    rw [hrow] at d5
    rw [hr_] at d7 d8 ⊢
    have hrx : rd_T52 row x = r := by rw [← hr_, ← hrow, ← hx]; rfl
    obtain ⟨f0, f1, f2⟩ := r
    simp only at d7 d8 ⊢
    have hcell := fun (W : World) (hW : IsRr W base S g a0 a1 (.slice A0 rules.length c0) s) => rr_cell W base S g a0 a1 (.slice A0 rules.length c0) s s.po hW (by omega) (by omega)
    rw [hx] at hcell
    have hput := fun (S : Nat → Prop) (W : World) (hW : IsRr W base S g a0 a1 (.slice A0 rules.length c0) s) (hBW : Below base w0 W) (hsW : base ≤ W.heap.size) (hFW : ∀ k, W.heap.size ≤ k → S k) => rr_put w0 W base S g a0 a1 (.slice A0 rules.length c0) s f0 hW hBW hsW hFW b1 b2 b3 b4
    obtain ⟨q1, q2, q3⟩ := RR.put_same s f0
    obtain ⟨t, ht⟩ : ∃ t, s.put f0 = t := ⟨_, rfl⟩
    rw [ht] at hput q1 q2 q3 ⊢
    have HCELL := Aside0.mk hcell
    have HPUT := Aside0.mk hput
    have HROW := Aside0.mk hrow
    have HRX := Aside0.mk hrx
    clear hcell hput hx hrow hr_ hrx ht
    obtain ⟨rt, lf, st, po, k⟩ := s
    obtain ⟨t0, t1, t2, t3, t4⟩ := t
    simp only at q1 q2 q3 c1 b1 b2 b3 b4 b5 b6 d2 d3
    subst q1 q2 q3
    have HROW := Aside0.mk (show rd_L2 rules t2 = row from HROW.out)
    have HK := Aside0.mk (show w.heap[g]? = some (.cells #[.int .i64 a0, .int .i64 a1, .slice A0 rules.length c0, .int .i64 t2, .int .i64 t3, v, u, .int .i64 t4] 43 (0, 0)) from HK.out)
    have hc2 := (blk_cell HK.out 2).trans rfl
    have hc3 := (blk_cell HK.out 3).trans rfl
    have hc4 := (blk_cell HK.out 4).trans rfl
    have HW0 := Aside0.mk (hB.mono hB0)
    obtain ⟨ad0, A1, c1_, rfl, hx0, hlc, hC1⟩ := at_L2 hr0 t2 d2 d3
    rw [HROW.out] at hx0 hlc hC1
    obtain ⟨ad1, rfl, hy0, hy1, hy2⟩ := at_T52 hC1 x d4 d5
    rw [HRX.out] at hy0 hy1 hy2
    simp only at hy0 hy1 hy2
    have hx0' := lf_ HW0.out hx0
    have hy0' := lf_ HW0.out hy0
    have hy1' := lf_ HW0.out hy1
    have hy2' := lf_ HW0.out hy2
    have HB := Aside0.mk hB
    have HS := Aside0.mk hs
    have HF := Aside0.mk hF
    have e1 : IntKind.i64.wrap (t3 + f1) = t3 + f1 := IntWalk.i64_in _ (by omega)
    have e2 : IntKind.i64.wrap (t4 + 1) = t4 + 1 := IntWalk.i64_in _ (by omega)
    have c1' : (t2 == (-1 : Int)) = false := by simpa using c1
    clear hx0 hlc hC1 hy0 hy1 hy2 hr0 hB0 hB hs hF HROW HRX b1 b2 b3 b4 b5 b6 d7 d8 c1
    replace d2 := eq_true d2
    replace d3 := eq_true d3
    replace d4 := eq_true d4
    replace d5 := eq_true d5
    go_enter Try.func26, Try.ntmps26
    go_wp2
    refine start_ (n := 21) (S := fun w' => w'.cell? ⟨g, 2, none⟩ = some (.slice (some ad0) rules.length c0) ∧ w'.cell? ⟨g, 3, none⟩ = some (.int .i64 t2) ∧ w'.cell? ⟨g, 4, none⟩ = some (.int .i64 t3) ∧ w'.cell? (ad0.add t2.toNat) = some (.slice (some ad1) row.length c1_) ∧ w'.cell? (ad1.add (x.toNat * 3)) = some (.int .i64 f0) ∧ w'.cell? ⟨(ad1.add (x.toNat * 3)).block, (ad1.add (x.toNat * 3)).off + 1, none⟩ = some (.int .i64 f1) ∧ w'.cell? ⟨(ad1.add (x.toNat * 3)).block, (ad1.add (x.toNat * 3)).off + 2, none⟩ = some (.int .i64 f2)) (ds := [20]) #[false, false, false, false, false, false, false, false, false, false, false, false, false, false, false, false, false, false, false, false, false] (by kernel_rfl) rfl rfl ⟨hc2, hc3, hc4, hx0', hy0', hy1', hy2'⟩ (fun hHeld => ?_)
    refine pure_ (i := 0) (N := some 9) (v := ?_) (a' := ?_) #[true, false, false, false, false, false, false, false, false, false, false, false, false, false, false, false, false, false, false, false, false] rfl rfl (by kernel_rfl) (fun _ _ _ h => h) (Or.inl ⟨by rfl, ?_⟩) ?_ ?_
    rotate_left
    · intro w'
      go_simp
      with_reducible rfl
    rotate_left
    · simp only [Act.put, List.setIfInBounds_toArray, List.set_cons_zero, List.set_cons_succ, i64_w, i32_w]
      rfl
    refine pure_ (i := 1) (N := some 10) (v := ?_) (a' := ?_) #[true, true, false, false, false, false, false, false, false, false, false, false, false, false, false, false, false, false, false, false, false] rfl rfl (by kernel_rfl) (fun _ _ _ h => h) (Or.inl ⟨by rfl, ?_⟩) ?_ ?_
    rotate_left
    · intro w'
      go_simp
      with_reducible rfl
    rotate_left
    · simp only [Act.put, List.setIfInBounds_toArray, List.set_cons_zero, List.set_cons_succ, i64_w, i32_w]
      rfl
    refine pure_ (i := 2) (N := some 11) (v := ?_) (a' := ?_) #[true, true, true, false, false, false, false, false, false, false, false, false, false, false, false, false, false, false, false, false, false] rfl rfl (by kernel_rfl) (fun _ _ _ h => h) (Or.inl ⟨by rfl, ?_⟩) ?_ ?_
    rotate_left
    · intro w'
      go_simp
      with_reducible rfl
    rotate_left
    · simp only [Act.put, List.setIfInBounds_toArray, List.set_cons_zero, List.set_cons_succ, i64_w, i32_w]
      rfl
    refine pure_ (i := 3) (N := some 12) (v := ?_) (a' := ?_) #[true, true, true, true, false, false, false, false, false, false, false, false, false, false, false, false, false, false, false, false, false] rfl rfl (by kernel_rfl) (fun _ _ _ h => h) (Or.inl ⟨by rfl, ?_⟩) ?_ ?_
    rotate_left
    · intro w'
      go_simp
      with_reducible rfl
    rotate_left
    · simp only [Act.put, List.setIfInBounds_toArray, List.set_cons_zero, List.set_cons_succ, i64_w, i32_w]
      rfl
    refine pure_ (i := 5) (N := some 14) (v := ?_) (a' := ?_) #[true, true, true, true, false, true, false, false, false, false, false, false, false, false, false, false, false, false, false, false, false] rfl rfl (by kernel_rfl) (fun _ _ _ h => h) (Or.inl ⟨by rfl, ?_⟩) ?_ ?_
    rotate_left
    · intro w'
      go_simp
      with_reducible rfl
    rotate_left
    · simp only [Act.put, List.setIfInBounds_toArray, List.set_cons_zero, List.set_cons_succ, i64_w, i32_w]
      rfl
    refine pure_ (i := 6) (N := some 15) (v := ?_) (a' := ?_) #[true, true, true, true, false, true, true, false, false, false, false, false, false, false, false, false, false, false, false, false, false] rfl rfl (by kernel_rfl) (fun _ _ _ h => h) (Or.inl ⟨by rfl, ?_⟩) ?_ ?_
    rotate_left
    · intro w'
      go_simp
      with_reducible rfl
    rotate_left
    · simp only [Act.put, List.setIfInBounds_toArray, List.set_cons_zero, List.set_cons_succ, i64_w, i32_w]
      rfl
    refine pure_ (i := 7) (N := some 16) (v := ?_) (a' := ?_) #[true, true, true, true, false, true, true, true, false, false, false, false, false, false, false, false, false, false, false, false, false] rfl rfl (by kernel_rfl) (fun _ _ _ h => h) (Or.inl ⟨by rfl, ?_⟩) ?_ ?_
    rotate_left
    · intro w'
      go_simp
      with_reducible rfl
    rotate_left
    · simp only [Act.put, List.setIfInBounds_toArray, List.set_cons_zero, List.set_cons_succ, i64_w, i32_w]
      rfl
    refine pure_ (i := 11) (N := some 20) (v := ?_) (a' := ?_) #[true, true, true, true, false, true, true, true, false, false, false, true, false, false, false, false, false, false, false, false, false] rfl rfl (by kernel_rfl) (fun _ _ _ h => h) (Or.inl ⟨by rfl, ?_⟩) ?_ ?_
    rotate_left
    · intro w'
      go_simp
      with_reducible rfl
    rotate_left
    · simp only [Act.put, List.setIfInBounds_toArray, List.set_cons_zero, List.set_cons_succ, i64_w, i32_w]
      rfl
    refine pure_ (i := 12) (N := some 21) (v := ?_) (a' := ?_) #[true, true, true, true, false, true, true, true, false, false, false, true, true, false, false, false, false, false, false, false, false] rfl rfl (by kernel_rfl) (fun _ _ _ h => h) (Or.inl ⟨by rfl, ?_⟩) ?_ ?_
    rotate_left
    · intro w'
      go_simp
      with_reducible rfl
    rotate_left
    · simp only [Act.put, List.setIfInBounds_toArray, List.set_cons_zero, List.set_cons_succ, i64_w, i32_w]
      rfl
    refine pure_ (i := 13) (N := some 22) (v := ?_) (a' := ?_) #[true, true, true, true, false, true, true, true, false, false, false, true, true, true, false, false, false, false, false, false, false] rfl rfl (by kernel_rfl) (fun _ _ _ h => h) (Or.inl ⟨by rfl, ?_⟩) ?_ ?_
    rotate_left
    · intro w'
      go_simp
      with_reducible rfl
    rotate_left
    · simp only [Act.put, List.setIfInBounds_toArray, List.set_cons_zero, List.set_cons_succ, i64_w, i32_w]
      rfl
    refine pure_ (i := 14) (N := some 23) (v := ?_) (a' := ?_) #[true, true, true, true, false, true, true, true, false, false, false, true, true, true, true, false, false, false, false, false, false] rfl rfl (by kernel_rfl) (fun _ _ _ h => h) (Or.inl ⟨by rfl, ?_⟩) ?_ ?_
    rotate_left
    · intro w'
      go_simp
      with_reducible rfl
    rotate_left
    · simp only [Act.put, List.setIfInBounds_toArray, List.set_cons_zero, List.set_cons_succ, i64_w, i32_w]
      rfl
    refine take_ (i := 4) (N := some 13) (v := ?_) (a' := ?_) #[true, true, true, true, true, true, true, true, false, false, false, true, true, true, true, false, false, false, false, false, false] rfl rfl (by kernel_rfl) (fun _ _ _ h => h) (Or.inl ⟨by rfl, ?_⟩) hHeld ?_ ?_
    rotate_left
    · rintro w' ⟨s0, s1, s2, s3, s4, s5, s6⟩
      go_simp
      with_reducible rfl
    rotate_left
    · simp only [Act.put, List.setIfInBounds_toArray, List.set_cons_zero, List.set_cons_succ, i64_w, i32_w]
      rfl
    refine take_ (i := 8) (N := some 17) (v := ?_) (a' := ?_) #[true, true, true, true, true, true, true, true, true, false, false, true, true, true, true, false, false, false, false, false, false] rfl rfl (by kernel_rfl) (fun _ _ _ h => h) (Or.inl ⟨by rfl, ?_⟩) hHeld ?_ ?_
    rotate_left
    · rintro w' ⟨s0, s1, s2, s3, s4, s5, s6⟩
      go_simp
      with_reducible rfl
    rotate_left
    · simp only [Act.put, List.setIfInBounds_toArray, List.set_cons_zero, List.set_cons_succ, i64_w, i32_w]
      rfl
    refine pure_ (i := 9) (N := some 18) (v := ?_) (a' := ?_) #[true, true, true, true, true, true, true, true, true, true, false, true, true, true, true, false, false, false, false, false, false] rfl rfl (by kernel_rfl) (fun _ _ _ h => h) (Or.inl ⟨by rfl, ?_⟩) ?_ ?_
    rotate_left
    · intro w'
      go_simp
      with_reducible rfl
    rotate_left
    · simp only [Act.put, List.setIfInBounds_toArray, List.set_cons_zero, List.set_cons_succ, i64_w, i32_w]
      rfl
    refine take_ (i := 10) (N := some 19) (v := ?_) (a' := ?_) #[true, true, true, true, true, true, true, true, true, true, true, true, true, true, true, false, false, false, false, false, false] rfl rfl (by kernel_rfl) (fun _ _ _ h => h) (Or.inl ⟨by rfl, ?_⟩) hHeld ?_ ?_
    rotate_left
    · rintro w' ⟨s0, s1, s2, s3, s4, s5, s6⟩
      go_simp
      with_reducible rfl
    rotate_left
    · simp only [Act.put, List.setIfInBounds_toArray, List.set_cons_zero, List.set_cons_succ, i64_w, i32_w]
      rfl
    refine take_ (i := 15) (N := some 24) (v := ?_) (a' := ?_) #[true, true, true, true, true, true, true, true, true, true, true, true, true, true, true, true, false, false, false, false, false] rfl rfl (by kernel_rfl) (fun _ _ _ h => h) (Or.inl ⟨by rfl, ?_⟩) hHeld ?_ ?_
    rotate_left
    · rintro w' ⟨s0, s1, s2, s3, s4, s5, s6⟩
      go_simp
      with_reducible rfl
    rotate_left
    · simp only [Act.put, List.setIfInBounds_toArray, List.set_cons_zero, List.set_cons_succ, i64_w, i32_w]
      rfl
    refine join_ (σ := Nat) 1 #[true, true, true, true, true, true, true, true, true, true, true, true, true, true, true, true, true, true, true, true, false] (fun q => [(25, .int .i64 x), (3, .pointer (some ⟨q, 0, none⟩)), (26, .pointer (some (ad1.add (x.toNat * 3)))), (27, .agg #[.int .i64 f0, .int .i64 f1, .int .i64 f2])]) (fun q w' => w'.heap[q]? = some (.cells #[.int .i64 0, .int .i64 0, .int .i64 0] 52 (0, 0)) ∧ Below w.heap.size w w' ∧ w.heap.size ≤ q) ?_ ?_
    rotate_left
    · intro hCont
      refine two_ (i := 16) (j := 19) (Ni := some 25) (Nj := some 3) #[true, true, true, true, true, true, true, true, true, true, true, true, true, true, true, true, true, false, false, false, false] #[true, true, true, true, true, true, true, true, true, true, true, true, true, true, true, true, false, false, false, true, false] rfl rfl rfl rfl (by kernel_rfl) (by decide) (by decide) (fun K hK => ?_) (fun K hK => ?_)
      · skip
        refine goes_ Try.func34 (by kernel_rfl) rfl #[.pointer (some ⟨g, 0, none⟩), .int .i64 t3] (by rfl) rfl rfl (by simp only [List.map_toArray, List.map_cons, List.map_nil]; rfl) ?_
        with_reducible refine (HCELL.out _ (HI.out.drew)).mono ?_
        rintro e w6 ⟨rfl, m6, rfl⟩
        refine ⟨_, rfl, ?_⟩
        refine hK.out _ _ ⟨hHeld.1, hHeld.2.1, hHeld.2.2.1, hHeld.2.2.2.1, hHeld.2.2.2.2.1, hHeld.2.2.2.2.2.1, hHeld.2.2.2.2.2.2⟩ (fun hHeld => ?_)
        clear hK K
        refine norm_ (a' := ?_) ?_ ?_
        rotate_left
        · show Act.put _ (some 25) _ = _
          simp only [Act.put, List.setIfInBounds_toArray, List.set_cons_zero, List.set_cons_succ, i64_w, i32_w]
          rfl
        refine pure_ (i := 17) (N := some 26) (v := ?_) (a' := ?_) #[true, true, true, true, true, true, true, true, true, true, true, true, true, true, true, true, true, true, false, false, false] rfl rfl (by kernel_rfl) (fun _ _ _ h => h) (Or.inl ⟨by rfl, ?_⟩) ?_ ?_
        rotate_left
        · intro w'
          go_simp
          with_reducible rfl
        rotate_left
        · simp only [Act.put, List.setIfInBounds_toArray, List.set_cons_zero, List.set_cons_succ, i64_w, i32_w]
          rfl
        refine take_ (i := 18) (N := some 27) (v := ?_) (a' := ?_) #[true, true, true, true, true, true, true, true, true, true, true, true, true, true, true, true, true, true, true, false, false] rfl rfl (by kernel_rfl) (fun _ _ _ h => h) (Or.inl ⟨by rfl, ?_⟩) hHeld ?_ ?_
        rotate_left
        · rintro w' ⟨s0, s1, s2, s3, s4, s5, s6⟩
          go_simp
          with_reducible rfl
        rotate_left
        · simp only [Act.put, List.setIfInBounds_toArray, List.set_cons_zero, List.set_cons_succ, i64_w, i32_w]
          rfl
        refine one_ (i := 19) (N := some 3) #[true, true, true, true, true, true, true, true, true, true, true, true, true, true, true, true, true, true, true, true, false] rfl rfl (by kernel_rfl) (by decide) (fun K hK => ?_)
        refine box_step (by rfl) rfl (cs := #[.int .i64 0, .int .i64 0, .int .i64 0]) (t := 52) ?_ ?_
        · go_simp
        intro q hq w2 hb2 hB2
        have HQ2 := Aside0.mk hb2
        have HB2 := Aside0.mk hB2
        have hql := Aside0.mk (show w.heap.size ≤ q from by rw [hq]; exact Nat.le_refl _)
        clear hb2 hB2 hq
        refine hK.out _ _ ⟨(lf_ HB2.out hHeld.1), (lf_ HB2.out hHeld.2.1), (lf_ HB2.out hHeld.2.2.1), (lf_ HB2.out hHeld.2.2.2.1), (lf_ HB2.out hHeld.2.2.2.2.1), (lf_ HB2.out hHeld.2.2.2.2.2.1), (lf_ HB2.out hHeld.2.2.2.2.2.2)⟩ (fun hHeld => ?_)
        clear hK K
        refine norm_ (a' := ?_) ?_ ?_
        rotate_left
        · show Act.put _ (some 3) _ = _
          simp only [Act.put, List.setIfInBounds_toArray, List.set_cons_zero, List.set_cons_succ, i64_w, i32_w]
          rfl
        exact norm_ (by simp only [putAll, Act.put, List.setIfInBounds_toArray, List.set_cons_zero, List.set_cons_succ]) (hCont q _ ⟨HQ2.out, below_step (bk_ (Below.refl _ _)) HB2.out, hql.out⟩)
      · skip
        refine box_step (by rfl) rfl (cs := #[.int .i64 0, .int .i64 0, .int .i64 0]) (t := 52) ?_ ?_
        · go_simp
        intro q hq w2 hb2 hB2
        have HQ2 := Aside0.mk hb2
        have HB2 := Aside0.mk hB2
        have hql := Aside0.mk (show w.heap.size ≤ q from by rw [hq]; exact Nat.le_refl _)
        clear hb2 hB2 hq
        refine hK.out _ _ ⟨(lf_ HB2.out hHeld.1), (lf_ HB2.out hHeld.2.1), (lf_ HB2.out hHeld.2.2.1), (lf_ HB2.out hHeld.2.2.2.1), (lf_ HB2.out hHeld.2.2.2.2.1), (lf_ HB2.out hHeld.2.2.2.2.2.1), (lf_ HB2.out hHeld.2.2.2.2.2.2)⟩ (fun hHeld => ?_)
        clear hK K
        refine norm_ (a' := ?_) ?_ ?_
        rotate_left
        · show Act.put _ (some 3) _ = _
          simp only [Act.put, List.setIfInBounds_toArray, List.set_cons_zero, List.set_cons_succ, i64_w, i32_w]
          rfl
        refine one_ (i := 16) (N := some 25) #[true, true, true, true, true, true, true, true, true, true, true, true, true, true, true, true, true, false, false, true, false] rfl rfl (by kernel_rfl) (by decide) (fun K hK => ?_)
        refine goes_ Try.func34 (by kernel_rfl) rfl #[.pointer (some ⟨g, 0, none⟩), .int .i64 t3] (by rfl) rfl rfl (by simp only [List.map_toArray, List.map_cons, List.map_nil]; rfl) ?_
        with_reducible refine (HCELL.out _ (HI.out.below (below_step (bk_ (Below.refl _ _)) HB2.out))).mono ?_
        rintro e w6 ⟨rfl, m6, rfl⟩
        refine ⟨_, rfl, ?_⟩
        refine hK.out _ _ ⟨hHeld.1, hHeld.2.1, hHeld.2.2.1, hHeld.2.2.2.1, hHeld.2.2.2.2.1, hHeld.2.2.2.2.2.1, hHeld.2.2.2.2.2.2⟩ (fun hHeld => ?_)
        clear hK K
        refine norm_ (a' := ?_) ?_ ?_
        rotate_left
        · show Act.put _ (some 25) _ = _
          simp only [Act.put, List.setIfInBounds_toArray, List.set_cons_zero, List.set_cons_succ, i64_w, i32_w]
          rfl
        refine pure_ (i := 17) (N := some 26) (v := ?_) (a' := ?_) #[true, true, true, true, true, true, true, true, true, true, true, true, true, true, true, true, true, true, false, true, false] rfl rfl (by kernel_rfl) (fun _ _ _ h => h) (Or.inl ⟨by rfl, ?_⟩) ?_ ?_
        rotate_left
        · intro w'
          go_simp
          with_reducible rfl
        rotate_left
        · simp only [Act.put, List.setIfInBounds_toArray, List.set_cons_zero, List.set_cons_succ, i64_w, i32_w]
          rfl
        refine take_ (i := 18) (N := some 27) (v := ?_) (a' := ?_) #[true, true, true, true, true, true, true, true, true, true, true, true, true, true, true, true, true, true, true, true, false] rfl rfl (by kernel_rfl) (fun _ _ _ h => h) (Or.inl ⟨by rfl, ?_⟩) hHeld ?_ ?_
        rotate_left
        · rintro w' ⟨s0, s1, s2, s3, s4, s5, s6⟩
          go_simp
          with_reducible rfl
        rotate_left
        · simp only [Act.put, List.setIfInBounds_toArray, List.set_cons_zero, List.set_cons_succ, i64_w, i32_w]
          rfl
        exact norm_ (by simp only [putAll, Act.put, List.setIfInBounds_toArray, List.set_cons_zero, List.set_cons_succ]) (hCont q _ ⟨HQ2.out, pw_below_drewN (below_step (bk_ (Below.refl _ _)) HB2.out) _, hql.out⟩)
    rintro q w3 ⟨hq3, hB3, hql⟩
    have HQ3 := Aside0.mk hq3
    have HB3 := Aside0.mk hB3
    have HQL := Aside0.mk hql
    clear hq3 hB3 hql hHeld
    refine norm_ (a' := ?_) ?_ ?_
    rotate_left
    · simp only [putAll, Act.put, List.setIfInBounds_toArray, List.set_cons_zero, List.set_cons_succ]
      rfl
    refine last_ (i := 20) (N := none) #[true, true, true, true, true, true, true, true, true, true, true, true, true, true, true, true, true, true, true, true, true] rfl rfl (by kernel_rfl) (by decide) (fun K hK => ?_)
    have hz0 := (blk_cell HQ3.out 0).trans rfl
    have hz1 := (blk_cell HQ3.out 1).trans rfl
    have hz2 := (blk_cell HQ3.out 2).trans rfl
    have hf0 := blk_frozen HQ3.out 0
    have hf1 := blk_frozen HQ3.out 1
    have hf2 := blk_frozen HQ3.out 2
    refine skip_ (w1 := ?_) (by rfl) rfl ?_ ?_
    rotate_left
    · go_simp
      rfl
    refine hK.out _ _ ?_
    clear hK K
    refine done_ (by kernel_rfl) ?_

    obtain ⟨W4, hW4⟩ : ∃ W : World, W = ((w3.setCell ⟨q, 0, none⟩ (.int .i64 f0)).setCell ⟨q, 1, none⟩ (.int .i64 f1)).setCell ⟨q, 2, none⟩ (.int .i64 f2) := ⟨_, rfl⟩
    have HQ4 := Aside0.mk (show W4.heap[q]? = some (.cells #[.int .i64 f0, .int .i64 f1, .int .i64 f2] 52 (0, 0)) from by rw [hW4]; exact by simpa using blk_set (blk_set (blk_set HQ3.out 0 (.int .i64 f0)) 1 (.int .i64 f1)) 2 (.int .i64 f2))
    have HB4 := Aside0.mk (show Below w.heap.size w W4 from by rw [hW4]; exact ((HB3.out.setCell HQL.out _).setCell HQL.out _).setCell HQL.out _)
    rw [← hW4]
    clear hW4
    have HI4 := Aside0.mk ((HI.out.shrink.below HB4.out).mono (S' := fun k => S k ∧ k ≠ q) (fun k hk => ⟨hk.1, fun e => by have := hk.2.2; have := HQL.out; omega⟩))
    have HBB4 := Aside0.mk (below_then HB.out HS.out HB4.out)
    have HGQ := Aside0.mk (show g < q from Nat.lt_of_lt_of_le (blk_lt HK.out) HQL.out)
    have hq0 := (blk_cell HQ4.out 0).trans rfl
    clear hc2 hc3 hc4 hx0' hy0' hy1' hy2'
    go_wp2_with fail
    refine (HPUT.out (fun k => S k ∧ k ≠ q) W4 HI4.out HBB4.out (Nat.le_trans HS.out HB4.out.size) (fun k hk => ⟨HF.out k (Nat.le_trans HB4.out.size hk), fun e => by have := blk_lt HQ4.out; omega⟩)).mono ?_
    rintro e w5 ⟨rfl, hI5, hB5, hKP5⟩
    have HQ5 := Aside0.mk (blk_kept HQ4.out hKP5 (fun h => h.2 rfl))
    have HKP5 := Aside0.mk (((Kept.of_below HB4.out S)).then_ hKP5 (fun k hk => .inl hk.1))
    obtain ⟨_, _, v5, u5, hb5, hr5, hl5, hne5⟩ := hI5.mono (S' := S) (fun k hk => hk.1)
    obtain ⟨A5, c5, rfl⟩ := Kd.R_slice hr5
    obtain ⟨B5, d5', rfl⟩ := Kd.R_slice hl5
    simp only at hb5 hr5 hl5
    have HK5 := Aside0.mk hb5
    have HR5 := Aside0.mk hr5
    have HL5 := Aside0.mk hl5
    have HNE5 := Aside0.mk hne5
    have HB5 := Aside0.mk hB5
    clear hI5 hB5 hKP5 hb5 hr5 hl5 hne5 hq0
    have hq1 := (blk_cell HQ5.out 1).trans rfl
    have hc4 := (blk_cell HK5.out 4).trans rfl
    go_wp2
    refine start_ (n := 11) (S := fun w' => w'.cell? ⟨g, 4, none⟩ = some (.int .i64 t3) ∧ w'.cell? ⟨q, 1, none⟩ = some (.int .i64 f1)) (ds := [10]) #[false, false, false, false, false, false, false, false, false, false, false] (by kernel_rfl) rfl rfl ⟨hc4, hq1⟩ (fun hHeld => ?_)
    refine pure_ (i := 0) (N := some 32) (v := ?_) (a' := ?_) #[true, false, false, false, false, false, false, false, false, false, false] rfl rfl (by kernel_rfl) (fun _ _ _ h => h) (Or.inl ⟨by rfl, ?_⟩) ?_ ?_
    rotate_left
    · intro w'
      go_simp
      with_reducible rfl
    rotate_left
    · simp only [Act.put, List.setIfInBounds_toArray, List.set_cons_zero, List.set_cons_succ, i64_w, i32_w]
      rfl
    refine pure_ (i := 1) (N := some 33) (v := ?_) (a' := ?_) #[true, true, false, false, false, false, false, false, false, false, false] rfl rfl (by kernel_rfl) (fun _ _ _ h => h) (Or.inl ⟨by rfl, ?_⟩) ?_ ?_
    rotate_left
    · intro w'
      go_simp
      with_reducible rfl
    rotate_left
    · simp only [Act.put, List.setIfInBounds_toArray, List.set_cons_zero, List.set_cons_succ, i64_w, i32_w]
      rfl
    refine pure_ (i := 2) (N := some 34) (v := ?_) (a' := ?_) #[true, true, true, false, false, false, false, false, false, false, false] rfl rfl (by kernel_rfl) (fun _ _ _ h => h) (Or.inl ⟨by rfl, ?_⟩) ?_ ?_
    rotate_left
    · intro w'
      go_simp
      with_reducible rfl
    rotate_left
    · simp only [Act.put, List.setIfInBounds_toArray, List.set_cons_zero, List.set_cons_succ, i64_w, i32_w]
      rfl
    refine pure_ (i := 3) (N := some 35) (v := ?_) (a' := ?_) #[true, true, true, true, false, false, false, false, false, false, false] rfl rfl (by kernel_rfl) (fun _ _ _ h => h) (Or.inl ⟨by rfl, ?_⟩) ?_ ?_
    rotate_left
    · intro w'
      go_simp
      with_reducible rfl
    rotate_left
    · simp only [Act.put, List.setIfInBounds_toArray, List.set_cons_zero, List.set_cons_succ, i64_w, i32_w]
      rfl
    refine pure_ (i := 5) (N := some 37) (v := ?_) (a' := ?_) #[true, true, true, true, false, true, false, false, false, false, false] rfl rfl (by kernel_rfl) (fun _ _ _ h => h) (Or.inl ⟨by rfl, ?_⟩) ?_ ?_
    rotate_left
    · intro w'
      go_simp
      with_reducible rfl
    rotate_left
    · simp only [Act.put, List.setIfInBounds_toArray, List.set_cons_zero, List.set_cons_succ, i64_w, i32_w]
      rfl
    refine take_ (i := 4) (N := some 36) (v := ?_) (a' := ?_) #[true, true, true, true, true, true, false, false, false, false, false] rfl rfl (by kernel_rfl) (fun _ _ _ h => h) (Or.inl ⟨by rfl, ?_⟩) hHeld ?_ ?_
    rotate_left
    · rintro w' ⟨s0, s1⟩
      go_simp
      with_reducible rfl
    rotate_left
    · simp only [Act.put, List.setIfInBounds_toArray, List.set_cons_zero, List.set_cons_succ, i64_w, i32_w]
      rfl
    refine take_ (i := 6) (N := some 38) (v := ?_) (a' := ?_) #[true, true, true, true, true, true, true, false, false, false, false] rfl rfl (by kernel_rfl) (fun _ _ _ h => h) (Or.inl ⟨by rfl, ?_⟩) hHeld ?_ ?_
    rotate_left
    · rintro w' ⟨s0, s1⟩
      go_simp
      with_reducible rfl
    rotate_left
    · simp only [Act.put, List.setIfInBounds_toArray, List.set_cons_zero, List.set_cons_succ, i64_w, i32_w]
      rfl
    refine pure_ (i := 7) (N := some 39) (v := ?_) (a' := ?_) #[true, true, true, true, true, true, true, true, false, false, false] rfl rfl (by kernel_rfl) (fun _ _ _ h => h) (Or.inl ⟨by rfl, ?_⟩) ?_ ?_
    rotate_left
    · intro w'
      go_simp
      with_reducible rfl
    rotate_left
    · simp only [Act.put, List.setIfInBounds_toArray, List.set_cons_zero, List.set_cons_succ, i64_w, i32_w]
      rfl
    refine pure_ (i := 8) (N := some 40) (v := ?_) (a' := ?_) #[true, true, true, true, true, true, true, true, true, false, false] rfl rfl (by kernel_rfl) (fun _ _ _ h => h) (Or.inl ⟨by rfl, ?_⟩) ?_ ?_
    rotate_left
    · intro w'
      go_simp
      with_reducible rfl
    rotate_left
    · simp only [Act.put, List.setIfInBounds_toArray, List.set_cons_zero, List.set_cons_succ, i64_w, i32_w]
      rfl
    refine pure_ (i := 9) (N := some 41) (v := ?_) (a' := ?_) #[true, true, true, true, true, true, true, true, true, true, false] rfl rfl (by kernel_rfl) (fun _ _ _ h => h) (Or.inl ⟨by rfl, ?_⟩) ?_ ?_
    rotate_left
    · intro w'
      go_simp
      with_reducible rfl
    rotate_left
    · simp only [Act.put, List.setIfInBounds_toArray, List.set_cons_zero, List.set_cons_succ, i64_w, i32_w]
      rfl
    refine last_ (i := 10) (N := none) #[true, true, true, true, true, true, true, true, true, true, true] rfl rfl (by kernel_rfl) (by decide) (fun K hK => ?_)
    have hf4 := blk_frozen HK5.out 4
    refine skip_ (w1 := ?_) (by rfl) rfl ?_ ?_
    rotate_left
    · go_simp
      rfl
    refine hK.out _ _ ?_
    clear hK K
    refine done_ (by kernel_rfl) ?_

    obtain ⟨W6, hW6⟩ : ∃ W : World, W = (w5.setCell ⟨g, 4, none⟩ (.int .i64 (t3 + f1))).drew := ⟨_, rfl⟩
    have HK6 := Aside0.mk (show W6.heap[g]? = some (.cells #[.int .i64 a0, .int .i64 a1, .slice (some ad0) rules.length c0, .int .i64 t2, .int .i64 (t3 + f1), .slice A5 t0.length c5, .slice B5 t1.length d5', .int .i64 t4] 43 (0, 0)) from by rw [hW6]; exact blk_drew (by simpa using blk_set HK5.out 4 (.int .i64 (t3 + f1))))
    have HQ6 := Aside0.mk (show W6.heap[q]? = some (.cells #[.int .i64 f0, .int .i64 f1, .int .i64 f2] 52 (0, 0)) from by rw [hW6]; exact blk_drew (blk_far HQ5.out (Nat.ne_of_gt HGQ.out) _))
    have HR6 := Aside0.mk (show Kd.R (Kd.int .i64) 3 W6 base (fun k => S k ∧ k ≠ g) (.slice A5 t0.length c5) t0 from by rw [hW6]; exact Kd.R_drew (Kd.R_far HR5.out (fun k hk => hk.2) _))
    have HL6 := Aside0.mk (show Kd.R (Kd.int .i64) 3 W6 base (fun k => S k ∧ k ≠ g) (.slice B5 t1.length d5') t1 from by rw [hW6]; exact Kd.R_drew (Kd.R_far HL5.out (fun k hk => hk.2) _))
    have HB6 := Aside0.mk (show Below base w0 W6 from by rw [hW6]; exact below_drew (HB5.out.setCell hg _))
    have HKP6 := Aside0.mk (show Kept w W6 S from by rw [hW6]; exact Kept.drew (HKP5.out.setCell (.inl hS) _))
    rw [← hW6]
    clear hW6
    clear hc4 hq1 hHeld
    have hq2 := (blk_cell HQ6.out 2).trans rfl
    have hf3 := blk_frozen HK6.out 3
    have hc3 := (blk_cell HK6.out 3).trans rfl
    have hc7 := (blk_cell HK6.out 7).trans rfl
    have hf7 := blk_frozen HK6.out 7
    go_wp2
    go_ret
    exact ⟨rfl, ⟨hg, hS, _, _, by simpa using blk_set (blk_set HK6.out 3 (.int .i64 f2)) 7 (.int .i64 (t4 + 1)), Kd.R_far (Kd.R_far HR6.out (fun k hk => hk.2) _) (fun k hk => hk.2) _, Kd.R_far (Kd.R_far HL6.out (fun k hk => hk.2) _) (fun k hk => hk.2) _, HNE5.out⟩, (HB6.out.setCell hg _).setCell hg _, (HKP6.out.setCell (.inl hS) _).setCell (.inl hS) _⟩

/-! ### standstillref10_Run_Go: function 17 (by hand) -/
def RR.go (rules : List (List (S52))) : Nat → RR → Option RR
  | 0, s => some s
  | d + 1, s => (RR.step rules s).bind fun t => if t.2 = true then RR.go rules d t.1 else some t.1
set_option maxHeartbeats 8000000 in
set_option maxRecDepth 100000 in
theorem rr_go (A0 : Option Addr) (c0 : Nat) (rules : List (List (S52))) (w0 w : World) (base : Nat) (S : Nat → Prop) (g : Nat) (a0 a1 : Int) (s s' : RR) (n : Int) (h : IsRr w base S g a0 a1 (.slice A0 rules.length c0) s) (hr0 : Kd.C (Kd.slice 52 k52) w0 A0 rules.length rules) (hB0 : w0.heap.size ≤ base) (hB : Below base w0 w) (hs : base ≤ w.heap.size) (hF : ∀ k, w.heap.size ≤ k → S k) (hn1 : n ≤ 1000000000) (hst : RR.go rules n.toNat s = some s') :
    Calls Try.prog 17 #[.pointer (some ⟨g, 0, none⟩), .int .i64 n] w fun e w' => e = .returned (.pointer (some ⟨g, 0, none⟩)) ∧ IsRr w' base S g a0 a1 (.slice A0 rules.length c0) s' ∧ Below base w0 w' ∧ Kept w w' S := by
  have HI := Aside0.mk h
  have HB := Aside0.mk hB
  have HS := Aside0.mk hs
  have HF := Aside0.mk hF
  have HR0 := Aside0.mk hr0
  have HB0 := Aside0.mk hB0
  have H := Aside0.mk hst
  clear h hB hs hF hr0 hB0 hst
  have HKP := Aside0.mk (Kept.refl w S)
  go_enter Try.func17, Try.ntmps17
  go_wp2
  go_loopg [5] (n.toNat) (fun kq v5 w' => ∃ (i : Int) (t : RR), v5 = .int .i64 i ∧ Aside0 (0 ≤ i ∧ (n - i).toNat = kq ∧ (i ≤ n ∨ i = 0)) ∧ Aside0 (RR.go rules kq t = some s') ∧ Aside0 (IsRr w' base S g a0 a1 (.slice A0 rules.length c0) t) ∧ Aside0 (Below base w0 w') ∧ Aside0 (Kept w w' S))
  case atStart => exact ⟨0, s, rfl, ⟨by omega, by omega, .inr rfl⟩, H, HI, HB, HKP⟩
  case round =>
    clear H HI HB HKP
    obtain ⟨i, t, rfl, HN, H, HI, HB, HKP⟩ := hrel
    obtain ⟨hi0, hi2, hi3⟩ := HN.out
    cases gk with
    | zero =>
      have hin : ¬ i < n := by omega
      have hd := decide_eq_false hin
      have h := H.out
      simp only [RR.go, Option.some.injEq] at h
      subst h
      clear H hi3
      replace hin := eq_false hin
      go_wp2
      go_ret
      exact ⟨rfl, HI.out, HB.out, HKP.out⟩
    | succ d =>
      have hin : i < n := by omega
      have hd := decide_eq_true hin
      have h := H.out
      simp only [RR.go] at h
      obtain ⟨⟨t1, b⟩, hst, h⟩ := Option.bind_eq_some_iff.1 h
      have HC := Aside0.mk (rr_step A0 c0 rules w0 wr base S g a0 a1 t t1 b HI.out HR0.out HB0.out HB.out (Nat.le_trans HS.out HKP.out.1) (fun k hk => HF.out k (Nat.le_trans HKP.out.1 hk)) hst)
      clear H hst hi3
      have HIN := Aside0.mk hin
      replace hin := eq_true hin
      cases b with
      | false =>
        simp only [Bool.false_eq_true, if_false, Option.some.injEq] at h
        subst h
        go_wp2_with (go_at_call 26; refine HC.out.mono ?_; rintro e w1 ⟨rfl, hI1, hB1, hKP1⟩)
        go_ret
        exact ⟨rfl, hI1, hB1, HKP.out.then_ hKP1 (fun k hk => .inl hk)⟩
      | true =>
        simp only [if_true] at h
        have H := Aside0.mk h
        clear h
        have e1 : wrap64 (i + 1) = i + 1 := wrap_mid_ (by have := HIN.out; omega)
        go_wp2_with (go_at_call 26; refine HC.out.mono ?_; rintro e w1 ⟨rfl, hI1, hB1, hKP1⟩)
        go_roundg d
        case measure => omega
        case rel => exact ⟨i + 1, t1, by simp only [e1], ⟨by omega, by omega, .inl (by have := HIN.out; omega)⟩, H, ⟨hI1⟩, ⟨hB1⟩, ⟨HKP.out.then_ hKP1 (fun k hk => .inl hk)⟩⟩

/-! ### standstillref10_Run_Copy: function 33 (by hand) -/
set_option maxHeartbeats 8000000 in
set_option maxRecDepth 100000 in
theorem rr_copy (w : World) (base : Nat) (S : Nat → Prop) (g : Nat) (a0 a1 : Int) (A0 : Option Addr) (rn c0 : Nat) (s : RR) (h : IsRr w base S g a0 a1 (.slice A0 rn c0) s) (hl0 : s.rt.length ≤ 2000000000) (hl1 : s.lf.length ≤ 2000000000) :
    Calls Try.prog 33 #[.pointer (some ⟨g, 0, none⟩)] w fun e w' => ∃ g2, e = .returned (.pointer (some ⟨g2, 0, none⟩)) ∧ IsRr w' w.heap.size (fun _ => True) g2 a0 a1 (.slice A0 rn c0) s ∧ Below w.heap.size w w' := by
  obtain ⟨hg, hS, v, u, hb, hr, hl, hne⟩ := h
  obtain ⟨rt, lf, st, po, k⟩ := s
  obtain ⟨A, c, rfl⟩ := Kd.R_slice hr
  obtain ⟨B, d, rfl⟩ := Kd.R_slice hl
  simp only at hb hr hl hl0 hl1
  have HK := Aside0.mk hb
  have HR := Aside0.mk hr
  have HL := Aside0.mk hl
  have HL0 := Aside0.mk hl0
  have HL1 := Aside0.mk hl1
  clear hb hr hl hl0 hl1
  clear hne
  have hc0 := (blk_cell HK.out 0).trans rfl
  have hc1 := (blk_cell HK.out 1).trans rfl
  have hc2 := (blk_cell HK.out 2).trans rfl
  have hc3 := (blk_cell HK.out 3).trans rfl
  have hc4 := (blk_cell HK.out 4).trans rfl
  have hc5 := (blk_cell HK.out 5).trans rfl
  have hc6 := (blk_cell HK.out 6).trans rfl
  have hc7 := (blk_cell HK.out 7).trans rfl
  have hlt := blk_lt HK.out
  have HOWN : Aside0 (∀ (W : World) (o : Nat), W.heap.size = o → w.heap.size < o → Kd.R (Kd.int .i64) 3 (W.alloc (.cells #[] 3)) w.heap.size (fun k => k ≠ w.heap.size) (.slice (some ⟨o, 0, none⟩) 0 0) []) := ⟨fun W o ho hlt => ⟨fun k hk => by simp only [Value.ownBlock] at hk; cases hk; omega, [], by have h := World.ownsRow_made (base := w.heap.size) (e := 3) (size := 1) W #[] 0 (by omega) (Nat.zero_le _) (by simp); rwa [ho] at h, Reps.none _ _⟩⟩
  go_enter Try.func33, Try.ntmps33
  go_wp2_with (first
    | ((with_reducible refine gate_builtin (b := .append) (xs := #[.tmp 7, .tmp 11]) rfl ?_); at_builtin; refine Kd.R_append_rows (Kd.int .i64) (w0 := w) w.heap.size rfl (.tmp 7) (.tmp 11) 41 3 (.int .i64 0) 8 rfl Try.underlying41 info3 rfl (by decide) (by omega) (.slice (some ⟨w.heap.size + 1, 0, none⟩) 0 0) [] rt _ _ _ (fun k => k ≠ w.heap.size) (fun _ => False) rfl rfl (HOWN.out _ _ (by simp) (by omega)) (Kd.C_alloc (Kd.C_alloc (Kd.R_reads' HR.out).2.2 _) _) (fun _ _ h => h) (fun _ h => h.elim) (fun k hk => by simp at hk; omega) (bk_ (Below.refl _ _)) (by simp; omega) (by have := HL0.out; simp; omega) ?_; intro v2 w2 hR2 hB2 hG2 hat2; rw [List.nil_append] at hR2; obtain ⟨A2, c2, rfl⟩ := Kd.R_slice hR2; have HR2 := Aside0.mk hR2; have HB2 := Aside0.mk hB2; have HQ2 := Aside0.mk (blk_grown (blk_alloc (blk_new w _) _) hG2 (by simp [Value.ownBlock])); have HS2 := Aside0.mk (show w.heap.size < w2.heap.size by have := hG2.size; simp at this; omega); have hz5 := (blk_cell HQ2.out 5).trans rfl; have hf5 := blk_frozen HQ2.out 5; have hc6 := (blk_cell (blk_below HK.out hB2) 6).trans rfl; have hlt2 : g < w2.heap.size := Nat.lt_trans hlt HS2.out; have hgq : g ≠ w.heap.size := Nat.ne_of_lt hlt; clear hR2 hB2 hG2 hat2)
    | ((with_reducible refine gate_builtin (b := .append) (xs := #[.tmp 14, .tmp 18]) rfl ?_); at_builtin; refine Kd.R_append_rows (Kd.int .i64) (w0 := w) w.heap.size rfl (.tmp 14) (.tmp 18) 41 3 (.int .i64 0) 8 rfl Try.underlying41 info3 rfl (by decide) (by omega) (.slice (some ⟨w2.heap.size, 0, none⟩) 0 0) [] lf _ _ _ (fun k => k ≠ w.heap.size) (fun _ => False) rfl rfl (HOWN.out _ _ (by simp) HS2.out) (Kd.C_below (Kd.R_reads' HL.out).2.2 ((HB2.out.setCell (Nat.le_refl _) _).alloc (by simp; exact Nat.le_of_lt HS2.out) _)) (fun _ _ h => h) (fun _ h => h.elim) (fun k hk => by have := HS2.out; simp at hk; omega) ((HB2.out.setCell (Nat.le_refl _) _).alloc (by simp; exact Nat.le_of_lt HS2.out) _) (by have := HS2.out; simp; omega) (by have := HL1.out; simp; omega) ?_; intro v3 w3 hR3 hB3 hG3 hat3; rw [List.nil_append] at hR3; obtain ⟨A3, c3, rfl⟩ := Kd.R_slice hR3; have HR3 := Aside0.mk hR3; have HB3 := Aside0.mk hB3; have HQ3 := Aside0.mk (blk_grown (blk_alloc (blk_set HQ2.out 5 (.slice A2 rt.length c2)) _) hG3 (by have := HS2.out; simp [Value.ownBlock]; omega)); have HR23 := Aside0.mk (Kd.R_grown2 (Kd.R_alloc (Kd.R_far HR2.out (p := ⟨w.heap.size, 5, none⟩) (fun k hk => hk) (.slice A2 rt.length c2)) _) rfl hG3 (fun k hk he => by have := Kd.R_lt HR2.out k he.symm; simp only [Value.ownBlock] at hk; cases hk; omega)); have HNE3 : Aside0 (∀ k, (Value.slice A2 rt.length c2).ownBlock = some k → some k ≠ (Value.slice A3 lf.length c3).ownBlock) := ⟨fun k hk he => by have h1 := Kd.R_lt HR2.out k hk; rcases hat3 with h2 | ⟨b, h2, h3⟩; (rw [h2] at he; simp only [Value.ownBlock] at he; cases he; omega); (rw [h2] at he; cases he; simp at h3; omega)⟩; have hz6 := (blk_cell HQ3.out 6).trans rfl; have hf6 := blk_frozen HQ3.out 6; clear hR3 hB3 hG3 hat3))
  go_ret
  refine ⟨_, rfl, ⟨Nat.le_refl _, trivial, _, _, by simpa using blk_set HQ3.out 6 (.slice A3 lf.length c3), ?_, ?_, HNE3.out⟩, HB3.out.setCell (Nat.le_refl _) _⟩
  · exact Kd.R_far (Kd.R_mono HR23.out (fun k hk => ⟨trivial, hk⟩)) (fun k hk => hk.2) _
  · exact Kd.R_far (Kd.R_mono HR3.out (fun k hk => ⟨trivial, hk⟩)) (fun k hk => hk.2) _

/-! ### standstillref10_Check: function 23 (by hand) -/
def RR.sane (s : RR) : Prop := -2000000000 ≤ s.po ∧ s.po ≤ 2000000000 ∧ s.rt.length ≤ 2000000000 ∧ s.lf.length ≤ 2000000000
instance RR.decSane (s : RR) : Decidable s.sane := by unfold RR.sane; infer_instance
def RR.lowrun (rules : List (List (S52))) : Nat → RR → Int → Option (RR × Int)
  | 0, s, low => some (s, low)
  | n + 1, s, low => (RR.step rules s).bind fun t => RR.lowrun rules n t.1 (mn low t.1.po)
def RR.alikeGo (a b : RR) (d : Int) : Nat → Int → Bool
  | 0, _ => true
  | n + 1, x => if a.at_ x = b.at_ (x + d) then RR.alikeGo a b d n (x + 1) else false
def standstillref10_Check.f (a0 a1 : Int) (rules : List (List (S52))) (a b : Int) : Option Bool :=
  if 0 ≤ a ∧ a ≤ 1000000000 ∧ b ≤ 1000000000 then
    (RR.go rules a.toNat RR.new).bind fun c => if c.st = -1 then some false else if c.sane then
      (RR.lowrun rules (b - a).toNat c c.po).bind fun d => if d.1.sane ∧ -2000000000 ≤ d.2 then
        (if d.1.st = -1 then some false else if d.1.st ≠ c.st then some false else if d.1.po - c.po < 0 then some false
        else some (RR.alikeGo c d.1 (d.1.po - c.po) (mx (c.rt.length : Int) (d.1.rt.length : Int) + 1 + 1 - d.2).toNat d.2))
      else none
    else none
  else none
set_option maxHeartbeats 8000000 in
set_option maxRecDepth 100000 in
theorem standstillref10_Check.calls (a0_0 a0_1 : Int) (A0_2 : Option Addr) (c0_2 : Nat) (l0_2 : List (List (S52))) (a1 a2 : Int) (r : Bool) (w : World) (hr0_2 : Kd.C (Kd.slice 52 k52) w A0_2 l0_2.length l0_2) (hc0_2 : l0_2.length ≤ c0_2) (h : standstillref10_Check.f a0_0 a0_1 l0_2 a1 a2 = some r) :
    Calls Try.prog 23 #[.agg #[.int .i64 a0_0, .int .i64 a0_1, .slice A0_2 l0_2.length c0_2], .int .i64 a1, .int .i64 a2] w fun e w' => e = .returned (.bool r) ∧ Below w.heap.size w w' := by
  unfold standstillref10_Check.f at h
  by_cases c1 : 0 ≤ a1 ∧ a1 ≤ 1000000000 ∧ a2 ≤ 1000000000
  rotate_left
  · rw [if_neg c1] at h
    cases h
  rw [if_pos c1] at h
  obtain ⟨u0, u1, u2⟩ := c1
  obtain ⟨sc, hc, h⟩ := Option.bind_eq_some_iff.1 h
  have HR := Aside0.mk hr0_2
  have HC := Aside0.mk hc
  have H := Aside0.mk h
  have U0 := Aside0.mk u0
  have U1 := Aside0.mk u1
  have U2 := Aside0.mk u2
  clear hr0_2 hc h hc0_2 u0 u1 u2
  go_enter Try.func23, Try.ntmps23
  go_wp2_with fail
  have hz0 := (blk_cell (blk_new w (.cells #[.int .i64 a0_0, .int .i64 a0_1, .slice A0_2 l0_2.length c0_2] 24)) 0).trans rfl
  refine (rr_begin a0_0 a0_1 A0_2 c0_2 l0_2 _).mono ?_
  rintro e w1 ⟨g, rfl, hI1, hB1⟩
  have HR0 := Aside0.mk (Kd.C_alloc HR.out (.cells #[.int .i64 a0_0, .int .i64 a0_1, .slice A0_2 l0_2.length c0_2] 24))
  have HB0 := Aside0.mk (below_alloc (Below.refl w.heap.size w) (.cells #[.int .i64 a0_0, .int .i64 a0_1, .slice A0_2 l0_2.length c0_2] 24))
  obtain ⟨W0, hW0⟩ : ∃ W : World, w.alloc (.cells #[.int .i64 a0_0, .int .i64 a0_1, .slice A0_2 l0_2.length c0_2] 24) = W := ⟨_, rfl⟩
  rw [hW0] at hI1 hB1 HR0 HB0
  have HI1 := Aside0.mk hI1
  have HB1 := Aside0.mk hB1
  clear hI1 hB1 hz0 hW0 HR
  obtain ⟨base, hbase⟩ : ∃ b, W0.heap.size = b := ⟨_, rfl⟩
  rw [hbase] at HI1 HB1
  have HBS := Aside0.mk (Nat.le_of_eq hbase)
  have HB1s : Aside0 (base ≤ w1.heap.size) := ⟨by rw [← hbase]; exact (hbase ▸ HB1.out : Below W0.heap.size W0 w1).size⟩
  have HBE := Aside0.mk hbase
  clear hbase
  go_wp2_with fail
  refine (rr_go A0_2 c0_2 l0_2 W0 w1 base (fun _ => True) g a0_0 a0_1 RR.new sc a1 HI1.out HR0.out HBS.out HB1.out HB1s.out (fun _ _ => trivial) U1.out HC.out).mono ?_
  rintro e w2 ⟨rfl, hI2, hB2, hKP2⟩
  have HI2 := Aside0.mk hI2
  have HB2 := Aside0.mk hB2
  have HB2s := Aside0.mk (Nat.le_trans HB1s.out hKP2.1)
  clear hI2 hB2 hKP2 HI1 HB1 HB1s HC
  have hst := HI2.out.at_st.1
  by_cases k1 : sc.st = -1
  · have h := H.out
    rw [if_pos k1] at h
    obtain rfl := Option.some.inj h
    clear h H
    have k1a : (sc.st == (-1 : Int)) = true := by simpa using k1
    clear k1
    go_wp2
    go_ret
    exact ⟨rfl, below_step HB0.out (by rw [HBE.out]; exact HB2.out)⟩
  have h := H.out
  rw [if_neg k1] at h
  by_cases c2 : sc.sane
  rotate_left
  · rw [if_neg c2] at h
    cases h
  rw [if_pos c2] at h
  obtain ⟨⟨sd, low⟩, hd, h⟩ := Option.bind_eq_some_iff.1 h
  by_cases c3 : sd.sane ∧ -2000000000 ≤ low
  rotate_left
  · rw [if_neg c3] at h
    cases h
  rw [if_pos c3] at h
  obtain ⟨c3, c4⟩ := c3
  simp only at hd h c3 c4
  have k1a : (sc.st == (-1 : Int)) = false := by simpa using k1
  clear H
  have HD := Aside0.mk hd
  have H := Aside0.mk h
  have C2 := Aside0.mk c2
  have C3 := Aside0.mk c3
  have C4 := Aside0.mk c4
  have K1 := Aside0.mk k1
  clear hd h c2 c3 c4 k1
  go_wp2_with fail
  refine (rr_copy w2 base (fun _ => True) g a0_0 a0_1 A0_2 l0_2.length c0_2 sc HI2.out C2.out.2.2.1 C2.out.2.2.2).mono ?_
  rintro e w3 ⟨g2, rfl, hI3, hB3⟩
  have HC3 := Aside0.mk hI3.shrink
  have HI3 := Aside0.mk ((HI2.out.shrink.below hB3).mono (S' := fun k => k < w2.heap.size ∨ w3.heap.size ≤ k) (fun k hk => .inl hk.2.2))
  have HB3 := Aside0.mk (below_then HB2.out HB2s.out hB3)
  have HB3s := Aside0.mk (Nat.le_trans HB2s.out hB3.size)
  clear hI3 hB3 HI2 HB2 hst k1a
  have hp5 := HI3.out.at_st.2.1
  go_wp2
  have HKP := Aside0.mk (Kept.refl w3 (fun k => k < w2.heap.size ∨ w3.heap.size ≤ k))
  go_loopg [9, 10] ((a2 - a1).toNat) (fun kq v9 v10 w' => ∃ (i lw : Int) (s : RR), v10 = .int .i64 i ∧ v9 = .int .i64 lw ∧ Aside0 (a1 ≤ i ∧ (a2 - i).toNat = kq) ∧ Aside0 (RR.lowrun l0_2 kq s lw = some (sd, low)) ∧ Aside0 (IsRr w' base (fun k => k < w2.heap.size ∨ w3.heap.size ≤ k) g a0_0 a0_1 (.slice A0_2 l0_2.length c0_2) s) ∧ Aside0 (Below base W0 w') ∧ Aside0 (Kept w3 w' (fun k => k < w2.heap.size ∨ w3.heap.size ≤ k)))
  case atStart => exact ⟨a1, sc.po, sc, rfl, rfl, ⟨by omega, by omega⟩, HD, HI3, HB3, HKP⟩
  case round =>
    clear HD HI3 HB3 HKP hp5
    obtain ⟨i, lw, s, rfl, rfl, HN, H1, HI, HB, HKP⟩ := hrel
    obtain ⟨hi0, hi2⟩ := HN.out
    cases gk with
    | succ m =>
      have hin : i < a2 := by omega
      have h := H1.out
      simp only [RR.lowrun] at h
      obtain ⟨⟨s1, b⟩, hst, h⟩ := Option.bind_eq_some_iff.1 h
      have H1 := Aside0.mk h
      have HC := Aside0.mk (rr_step A0_2 c0_2 l0_2 W0 wr base (fun k => k < w2.heap.size ∨ w3.heap.size ≤ k) g a0_0 a0_1 s s1 b HI.out HR0.out HBS.out HB.out (Nat.le_trans HB3s.out HKP.out.1) (fun k hk => .inr (Nat.le_trans HKP.out.1 hk)) hst)
      clear hst h
      go_wp2_with fail
      refine HC.out.mono ?_
      rintro e w4 ⟨rfl, hI4, hB4, hKP4⟩
      have HI4 := Aside0.mk hI4
      have HB4 := Aside0.mk hB4
      have HKP4 := Aside0.mk (HKP.out.then_ hKP4 (fun k hk => .inl hk))
      have hp5 := hI4.at_st.2.1
      clear hI4 hB4 hKP4
      have e2 : (if s1.po < lw then s1.po else lw) = mn lw s1.po := rfl
      have n0 := U0.out
      have n1 := U2.out
      go_wp2
      go_roundg m
      case measure => omega
      case rel => exact ⟨i + 1, mn lw s1.po, s1, rfl, rfl, ⟨by omega, by omega⟩, H1, HI4, HB4, HKP4⟩
    | zero =>
      have hin : ¬ i < a2 := by omega
      have h := H1.out
      simp only [RR.lowrun, Option.some.injEq, Prod.mk.injEq] at h
      obtain ⟨rfl, rfl⟩ := h
      clear H1
      have HC := Aside0.mk (HC3.out.kept HKP.out (fun k h0 h1 h2 => h2.elim (fun h3 => by omega) (fun h3 => by omega)))
      obtain ⟨hp3, hp4, A5, c5, hp5⟩ := HI.out.at_st
      obtain ⟨hq3, hq4, B5, d5, hq5⟩ := HC.out.at_st
      obtain ⟨d, hd⟩ : ∃ d, s.po - sc.po = d := ⟨_, rfl⟩
      have e1 : IntKind.i64.wrap (s.po - sc.po) = d := (IntWalk.i64_in _ (by have h1 := C3.out; have h2 := C2.out; unfold RR.sane at h1 h2; omega)).trans hd
      have HDD := Aside0.mk hd
      clear hd
      replace hin := eq_false hin
      go_wp2
      go_quiet (fail)
      go_wp2
      obtain ⟨W5, hW5⟩ : ∃ W : World, W = wr.drewN nq := ⟨_, rfl⟩
      have HI5 := Aside0.mk (show IsRr W5 base (fun k => k < w2.heap.size ∨ w3.heap.size ≤ k) g a0_0 a0_1 (.slice A0_2 l0_2.length c0_2) s by rw [hW5]; exact HI.out.drewN _)
      have HC5 := Aside0.mk (show IsRr W5 w2.heap.size (fun k => True ∧ w2.heap.size ≤ k ∧ k < w3.heap.size) g2 a0_0 a0_1 (.slice A0_2 l0_2.length c0_2) sc by rw [hW5]; exact HC.out.drewN _)
      have HB5 := Aside0.mk (show Below W0.heap.size W0 W5 by rw [hW5, HBE.out]; exact pw_below_drewN HB.out _)
      rw [← hW5]
      clear hW5 hp5 hp4 hp3 hq3 hq5 hq4 HI HC HB HKP hin
      obtain ⟨hp3, hp4, A5, c5, hp5⟩ := HI5.out.at_st
      obtain ⟨hq3, hq4, B5, d5, hq5⟩ := HC5.out.at_st
      have h := H.out
      rw [HDD.out] at h
      clear H
      by_cases q1 : s.st = -1
      · have q1a : (s.st == (-1 : Int)) = true := by simpa using q1
        rw [if_pos q1] at h
        obtain rfl := Option.some.inj h
        clear h q1
        go_quiet (fail)
        go_wp2
        go_ret
        exact ⟨rfl, below_step HB0.out (pw_below_drewN HB5.out _)⟩
      · have q1b : (s.st == (-1 : Int)) = false := by simpa using q1
        rw [if_neg q1] at h
        by_cases q2 : s.st ≠ sc.st
        · have q2a : (s.st != sc.st) = true := by simpa using q2
          rw [if_pos q2] at h
          obtain rfl := Option.some.inj h
          clear h q1 q2
          go_quiet (fail)
          go_wp2
          go_ret
          exact ⟨rfl, below_step HB0.out (pw_below_drewN HB5.out _)⟩
        · have q2a : (s.st != sc.st) = false := by simpa using q2
          rw [if_neg q2] at h
          by_cases q3 : d < 0
          · have q3a : decide (d < 0) = true := decide_eq_true q3
            rw [if_pos q3] at h
            obtain rfl := Option.some.inj h
            clear h q1 q2
            replace q3 := eq_true q3
            go_quiet (fail)
            go_wp2
            go_ret
            exact ⟨rfl, below_step HB0.out (pw_below_drewN HB5.out _)⟩
          · have q3a : decide (d < 0) = false := decide_eq_false q3
            rw [if_neg q3] at h
            have h := Option.some.inj h
            have HD0 : Aside0 (0 ≤ d ∧ d ≤ 4000000000) := ⟨by have h1 := C3.out; have h2 := C2.out; have h3 := HDD.out; unfold RR.sane at h1 h2; omega⟩
            obtain ⟨far, hfar⟩ : ∃ f, mx (sc.rt.length : Int) (s.rt.length : Int) + 1 = f := ⟨_, rfl⟩
            have HFAR : Aside0 (0 ≤ far ∧ far ≤ 4000000000) := ⟨by rw [← hfar]; have h1 := C3.out; have h2 := C2.out; unfold RR.sane at h1 h2; unfold mx; split <;> omega⟩
            rw [hfar] at h
            have H := Aside0.mk h
            have hm : (if sc.rt.length < s.rt.length then (s.rt.length : Int) else (sc.rt.length : Int)) = mx (sc.rt.length : Int) (s.rt.length : Int) := by unfold mx; simp only [Int.ofNat_lt]
            obtain ⟨mm, hmm⟩ : ∃ m, mx (sc.rt.length : Int) (s.rt.length : Int) = m := ⟨_, rfl⟩
            rw [hmm] at hm hfar
            have e3 : IntKind.i64.wrap (mm + 1) = far := (IntWalk.i64_in _ (by have := HFAR.out; omega)).trans hfar
            clear h q1 q2 hmm hfar
            replace q3 := eq_false q3
            go_quiet (fail)
            go_wp2
            go_quiet (fail)
            go_wp2
            go_loopg [13] ((far + 1 - lw).toNat) (fun kq v13 w' => ∃ x : Int, v13 = .int .i64 x ∧ Aside0 (lw ≤ x ∧ (far + 1 - x).toNat = kq) ∧ Aside0 (RR.alikeGo sc s d kq x = r) ∧ Aside0 (IsRr w' base (fun k => k < w2.heap.size ∨ w3.heap.size ≤ k) g a0_0 a0_1 (.slice A0_2 l0_2.length c0_2) s) ∧ Aside0 (IsRr w' w2.heap.size (fun k => True ∧ w2.heap.size ≤ k ∧ k < w3.heap.size) g2 a0_0 a0_1 (.slice A0_2 l0_2.length c0_2) sc) ∧ Aside0 (Below W0.heap.size W0 w'))
            case atStart => exact ⟨lw, rfl, ⟨by omega, rfl⟩, H, ⟨(HI5.out.drewN _).drewN _⟩, ⟨(HC5.out.drewN _).drewN _⟩, ⟨pw_below_drewN (pw_below_drewN HB5.out _) _⟩⟩
            case round =>
              clear H HI5 HC5 HB5 hp3 hp4 hp5 hq3 hq4 hq5
              obtain ⟨x, rfl, HN, H, HI5, HC5, HB5⟩ := hrel
              obtain ⟨hx0, hx2⟩ := HN.out
              have hlw := C4.out
              cases gk with
              | zero =>
                have hin : ¬ x ≤ far := by omega
                have h := H.out
                simp only [RR.alikeGo] at h
                subst h
                clear H
                replace hin := eq_false hin
                go_wp2
                go_ret
                exact ⟨rfl, below_step HB0.out HB5.out⟩
              | succ kk =>
                have hin : x ≤ far := by omega
                have h := H.out
                simp only [RR.alikeGo] at h
                clear H
                obtain ⟨y1, hy1⟩ : ∃ y, sc.at_ x = y := ⟨_, rfl⟩
                obtain ⟨y2, hy2⟩ : ∃ y, s.at_ (x + d) = y := ⟨_, rfl⟩
                rw [hy1, hy2] at h
                have HY1 := Aside0.mk hy1
                have HY2 := Aside0.mk hy2
                have H := Aside0.mk h
                clear hy1 hy2 h
                have e5 : wrap64 (x + d) = x + d := wrap_mid_ (by have := HD0.out; have := HFAR.out; omega)
                have e6 : wrap64 (x + 1) = x + 1 := wrap_mid_ (by have := HFAR.out; omega)
                have HIN := Aside0.mk hin
                have HX0 := Aside0.mk hx0
                clear hlw hx0
                replace hin := eq_true hin
                go_wp2_with fail
                refine (rr_cell _ w2.heap.size (fun k => True ∧ w2.heap.size ≤ k ∧ k < w3.heap.size) g2 a0_0 a0_1 (.slice A0_2 l0_2.length c0_2) sc x HC5.out (by have := HX0.out; have := C4.out; omega) (by have := HIN.out; have := HFAR.out; omega)).mono ?_
                rintro e w7 ⟨rfl, m7, rfl⟩
                rw [HY1.out]
                go_wp2_with fail
                refine (rr_cell _ base (fun k => k < w2.heap.size ∨ w3.heap.size ≤ k) g a0_0 a0_1 (.slice A0_2 l0_2.length c0_2) s (x + d) (HI5.out.drewN _) (by have := HX0.out; have := C4.out; have := HD0.out; omega) (by have := HIN.out; have := HFAR.out; have := HD0.out; omega)).mono ?_
                rintro e w8 ⟨rfl, m8, rfl⟩
                rw [HY2.out]
                by_cases hy : y1 = y2
                · have h := H.out
                  rw [if_pos hy] at h
                  have H := Aside0.mk h
                  clear h
                  subst hy
                  go_wp2
                  go_roundg kk
                  case measure => omega
                  case rel => exact ⟨x + 1, by first | rfl | simp only [e6], ⟨by have := HX0.out; omega, by have := HIN.out; omega⟩, H, ⟨HI5.out.drewN _⟩, ⟨HC5.out.drewN _⟩, ⟨pw_below_drewN HB5.out _⟩⟩
                · have h := H.out
                  rw [if_neg hy] at h
                  subst h
                  clear H
                  have hyb : (y1 != y2) = true := by simpa using hy
                  have hyc : (y1 == y2) = false := by simpa using hy
                  clear hy
                  go_wp2
                  go_ret
                  exact ⟨rfl, below_step HB0.out (pw_below_drewN HB5.out _)⟩

end Go.Proofs.Ytngmdidegmbpfaa.PLoopAfter
