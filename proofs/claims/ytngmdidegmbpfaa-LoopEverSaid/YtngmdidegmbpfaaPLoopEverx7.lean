-- out of a turned copy of the print, by a program of this session; Lean checks it
import Derived.Test.YtngmdidegmbpfaaPLoopEverx0
import Derived.Test.YtngmdidegmbpfaaPLoopEverx6
namespace Go.Proofs.Ytngmdidegmbpfaa.PLoopEver
open Go.RowKit Go.Proofs.YtngmdidegmbpfaaW.PrintWords Go.Proofs.YtngmdidegmbpfaaW.PrintLast Go.Proofs.YtngmdidegmbpfaaW.PrintMore
attribute [local go_sem] max2_int min2_int max_two min_two max_three min_three max_four min_four   -- for this text's walks alone
set_option linter.unusedVariables false
set_option linter.unusedSimpArgs false

attribute [local go_sem] isSome_put_
/-! ### standstillref10_Run_put: function 35 (by hand) -/
set_option maxHeartbeats 8000000 in
set_option maxRecDepth 100000 in
theorem rr_putR (w0 w : World) (base : Nat) (S : Nat → Prop) (g : Nat) (a0 a1 : Int) (V : Value) (rt lf : List Int) (st k : Int) (j : Nat) (x : Int) (h : IsRr w base S g a0 a1 V ⟨rt, lf, st, (j : Int), k⟩) (hB : Below base w0 w) (hs : base ≤ w.heap.size) (hF : ∀ k, w.heap.size ≤ k → S k) (hj : j ≤ 1000000000) (hl0 : rt.length ≤ 1000000000) :
    Calls Try.prog 35 #[.pointer (some ⟨g, 0, none⟩), .int .i64 x] w fun e w' => e = .returned (.tuple #[]) ∧ IsRr w' base S g a0 a1 V ⟨(RR.pad rt (j + 1)).set j x, lf, st, (j : Int), k⟩  ∧ Below base w0 w' ∧ Kept w w' S := by
  obtain ⟨hg, hS, v, u, hb, hr, hl, hne⟩ := h
  simp only at hb hr hl
  have hc4 := (blk_cell hb 4).trans rfl
  have HK := Aside0.mk hb
  have HRT := Aside0.mk hr
  have HLF := Aside0.mk hl
  have HNE := Aside0.mk hne
  have HB := Aside0.mk hB
  have HS := Aside0.mk hs
  have HF := Aside0.mk hF
  have HJ := Aside0.mk hj
  have HL0 := Aside0.mk hl0
  clear hb hr hl hne hB hs hF hj hl0
  have HKP := Aside0.mk (Kept.refl w S)

  go_enter Try.func35, Try.ntmps35
  go_wp2
  clear hc4
  go_loopg [18] (j + 1 - rt.length) (fun kq vb w' => ∃ (l : List Int) (v : Value), Aside0 (j + 1 - l.length = kq ∧ RR.pad l (j + 1) = RR.pad rt (j + 1) ∧ l.length ≤ 2000000000) ∧ Aside0 (w'.heap[g]? = some (.cells #[.int .i64 a0, .int .i64 a1, V, .int .i64 st, .int .i64 (j : Int), v, u, .int .i64 k] 43 (0, 0) )) ∧ Aside0 (Kd.R (Kd.int .i64) 3 w' base (fun k => S k ∧ k ≠ g) v l) ∧ Aside0 (Kd.R (Kd.int .i64) 3 w' base (fun k => S k ∧ k ≠ g) u lf) ∧ Aside0 (∀ k, v.ownBlock = some k → some k ≠ (u).ownBlock) ∧ Aside0 (Below base w0 w') ∧ Aside0 (Kept w w' S))
  case atStart => exact ⟨rt, v, ⟨rfl, rfl, by have := HL0.out; omega⟩, HK, HRT, HLF, HNE, HB, HKP⟩
  case round =>
    clear HK HRT HLF HNE HB HKP
    obtain ⟨l, v1, HN, HK, HR, HO, HNE, HB, HKP⟩ := hrel
    obtain ⟨hi0, hi1, hi2⟩ := HN.out
    obtain ⟨A, c, rfl⟩ := Kd.R_slice HR.out
    have hc4 := (blk_cell HK.out 4).trans rfl
    have hcf := (blk_cell HK.out 5).trans rfl
    cases gk with
    | zero =>
      have hin : ¬ l.length ≤ j := by omega
      have hlt : (j : Int) < (l.length : Int) := by omega
      rw [RR.pad_done (by omega)] at hi1
      have HPAD := Aside0.mk hi1
      clear hi0 hi1 hi2 HN
      have hd : decide (l.length ≤ j) = false := decide_eq_false hin
      replace hin := eq_false hin
      go_wp2
      go_quiet (fail)
      go_wp2
      obtain ⟨gb, cap, hAc, hgb, hgl, hbe⟩ := Kd.R_form HR.out (by omega)
      cases hAc
      have hel := (Kd.R_cell (0 : Int) HR.out (j : Int) (Int.natCast_nonneg _) hlt)
      rw [Int.toNat_natCast] at hel
      have hela := hel.1
      have helb := hel.2
      have hlt2 : j < l.length := by omega
      clear hel hgb hgl hbe
      have HLT := Aside0.mk hlt
      clear hlt
      replace hlt2 := eq_true hlt2

      refine start_ (n := 11) (S := fun w' => w'.cell? ⟨g, 5, none⟩ = some (.slice (some ⟨gb, 0, none⟩) l.length c) ∧ w'.cell? ⟨g, 4, none⟩ = some (.int .i64 (j : Int))) (ds := [10]) #[false, false, false, false, false, false, false, false, false, false, false] (by kernel_rfl) rfl rfl ⟨hcf, hc4⟩ (fun hHeld => ?_)
      refine pure_ (i := 0) (N := some 28) (v := ?_) (a' := ?_) #[true, false, false, false, false, false, false, false, false, false, false] rfl rfl (by kernel_rfl) (fun _ _ _ h => h) (Or.inl ⟨by rfl, ?_⟩) ?_ ?_
      rotate_left
      · intro w'
        go_simp
        with_reducible rfl
      rotate_left
      · simp only [Act.put, List.setIfInBounds_toArray, List.set_cons_zero, List.set_cons_succ, i64_w, i32_w]
        rfl
      refine pure_ (i := 1) (N := some 29) (v := ?_) (a' := ?_) #[true, true, false, false, false, false, false, false, false, false, false] rfl rfl (by kernel_rfl) (fun _ _ _ h => h) (Or.inl ⟨by rfl, ?_⟩) ?_ ?_
      rotate_left
      · intro w'
        go_simp
        with_reducible rfl
      rotate_left
      · simp only [Act.put, List.setIfInBounds_toArray, List.set_cons_zero, List.set_cons_succ, i64_w, i32_w]
        rfl
      refine pure_ (i := 2) (N := some 30) (v := ?_) (a' := ?_) #[true, true, true, false, false, false, false, false, false, false, false] rfl rfl (by kernel_rfl) (fun _ _ _ h => h) (Or.inl ⟨by rfl, ?_⟩) ?_ ?_
      rotate_left
      · intro w'
        go_simp
        with_reducible rfl
      rotate_left
      · simp only [Act.put, List.setIfInBounds_toArray, List.set_cons_zero, List.set_cons_succ, i64_w, i32_w]
        rfl
      refine pure_ (i := 4) (N := some 32) (v := ?_) (a' := ?_) #[true, true, true, false, true, false, false, false, false, false, false] rfl rfl (by kernel_rfl) (fun _ _ _ h => h) (Or.inl ⟨by rfl, ?_⟩) ?_ ?_
      rotate_left
      · intro w'
        go_simp
        with_reducible rfl
      rotate_left
      · simp only [Act.put, List.setIfInBounds_toArray, List.set_cons_zero, List.set_cons_succ, i64_w, i32_w]
        rfl
      refine pure_ (i := 5) (N := some 33) (v := ?_) (a' := ?_) #[true, true, true, false, true, true, false, false, false, false, false] rfl rfl (by kernel_rfl) (fun _ _ _ h => h) (Or.inl ⟨by rfl, ?_⟩) ?_ ?_
      rotate_left
      · intro w'
        go_simp
        with_reducible rfl
      rotate_left
      · simp only [Act.put, List.setIfInBounds_toArray, List.set_cons_zero, List.set_cons_succ, i64_w, i32_w]
        rfl
      refine pure_ (i := 6) (N := some 34) (v := ?_) (a' := ?_) #[true, true, true, false, true, true, true, false, false, false, false] rfl rfl (by kernel_rfl) (fun _ _ _ h => h) (Or.inl ⟨by rfl, ?_⟩) ?_ ?_
      rotate_left
      · intro w'
        go_simp
        with_reducible rfl
      rotate_left
      · simp only [Act.put, List.setIfInBounds_toArray, List.set_cons_zero, List.set_cons_succ, i64_w, i32_w]
        rfl
      refine pure_ (i := 8) (N := some 36) (v := ?_) (a' := ?_) #[true, true, true, false, true, true, true, false, true, false, false] rfl rfl (by kernel_rfl) (fun _ _ _ h => h) (Or.inl ⟨by rfl, ?_⟩) ?_ ?_
      rotate_left
      · intro w'
        go_simp
        with_reducible rfl
      rotate_left
      · simp only [Act.put, List.setIfInBounds_toArray, List.set_cons_zero, List.set_cons_succ, i64_w, i32_w]
        rfl
      refine take_ (i := 3) (N := some 31) (v := ?_) (a' := ?_) #[true, true, true, true, true, true, true, false, true, false, false] rfl rfl (by kernel_rfl) (fun _ _ _ h => h) (Or.inl ⟨by rfl, ?_⟩) hHeld ?_ ?_
      rotate_left
      · rintro w' ⟨s0, s1⟩
        go_simp
        with_reducible rfl
      rotate_left
      · simp only [Act.put, List.setIfInBounds_toArray, List.set_cons_zero, List.set_cons_succ, i64_w, i32_w]
        rfl
      refine take_ (i := 7) (N := some 35) (v := ?_) (a' := ?_) #[true, true, true, true, true, true, true, true, true, false, false] rfl rfl (by kernel_rfl) (fun _ _ _ h => h) (Or.inl ⟨by rfl, ?_⟩) hHeld ?_ ?_
      rotate_left
      · rintro w' ⟨s0, s1⟩
        go_simp
        with_reducible rfl
      rotate_left
      · simp only [Act.put, List.setIfInBounds_toArray, List.set_cons_zero, List.set_cons_succ, i64_w, i32_w]
        rfl
      refine pure_ (i := 9) (N := some 37) (v := ?_) (a' := ?_) #[true, true, true, true, true, true, true, true, true, true, false] rfl rfl (by kernel_rfl) (fun _ _ _ h => h) (Or.inl ⟨by rfl, ?_⟩) ?_ ?_
      rotate_left
      · intro w'
        go_simp
        with_reducible rfl
      rotate_left
      · simp only [Act.put, List.setIfInBounds_toArray, List.set_cons_zero, List.set_cons_succ, i64_w, i32_w]
        rfl
      refine last_ (i := 10) (N := none) #[true, true, true, true, true, true, true, true, true, true, true] rfl rfl (by kernel_rfl) (by decide) (fun K hK => ?_)
      refine skip_ (w1 := ?_) (by rfl) rfl ?_ ?_
      rotate_left
      · go_simp
        rfl
      refine hK.out _ _ ?_
      clear hK K
      refine done_ (by kernel_rfl) ?_

      go_wp2
      first | refine bodyPost_end (results_none rfl _ _ _) rfl ?_ | refine bodyPost_ret (results_none rfl _ _ _) rfl ?_
      have hput := Kd.R_putg (Kd.R_drewN HR.out (nq + 1)) (j : Int) x
      rw [Int.toNat_natCast] at hput
      have hO := Kd.R_grown2 (Kd.R_drewN HO.out (nq + 1)) rfl hput.2 (fun k hk => by have := HNE.out gb rfl; cases hk; exact this)
      have hgg : g ≠ gb := fun e => (HR.out.1 gb rfl).2 e.symm
      rw [← HPAD.out]
      exact ⟨rfl, ⟨hg, hS, _, u, blk_far (blk_drewN HK.out _) hgg _, hput.1, hO, HNE.out⟩, (pw_below_drewN HB.out _).setCell (Kd.R_base HR.out gb rfl) _, (HKP.out.drewN _).setCell (.inl (HR.out.1 gb rfl).1) _⟩
    | succ d =>
      have hin : l.length ≤ j := by omega
      have HNN : Aside0 (j + 1 - (l ++ [0]).length = d ∧ RR.pad (l ++ [0]) (j + 1) = RR.pad rt (j + 1) ∧ (l ++ [0]).length ≤ 2000000000) := ⟨by simp; omega, by rw [RR.pad_snoc (by omega)]; exact hi1, by have := HJ.out; simp; omega⟩
      have HLL : Aside0 (l.length ≤ 1000000000) := ⟨by have := HJ.out; omega⟩
      clear hi0 hi1 hi2 HN
      have hd : decide (l.length ≤ j) = true := decide_eq_true hin
      replace hin := eq_true hin
      go_wp2
      go_quiet (fail)
      go_wp2_with (first | ((with_reducible refine gate_builtin (b := .append) (xs := #[.tmp 23, .tmp 24]) rfl ?_); at_builtin; refine Kd.R_append (Kd.int .i64) (w0 := w0) base rfl (.tmp 23) (.tmp 24) 41 3 (.int .i64 0) 8 rfl Try.underlying41 info3 rfl (by decide) (by omega) (.slice A l.length c) l 0 [.int .i64 0] (fun k => S k ∧ k ≠ g) (fun _ => False) rfl rfl rfl (fun _ hk => hk.elim) (fun k hk => ⟨HF.out k (Nat.le_trans HKP.out.1 hk), fun e => by have := blk_lt HK.out; have : wr.heap.size ≤ k := hk; omega⟩) (Kd.R_drewN HR.out _) (pw_below_drewN HB.out _) (Nat.le_trans HS.out HKP.out.1) (by have := HLL.out; omega) ?_; intro v2 w2 hR2 hB2 hG2 hat2; obtain ⟨A2, c2, rfl⟩ := Kd.R_slice hR2; have HR2 := Aside0.mk hR2; have HB2 := Aside0.mk hB2; have HKP2 := Aside0.mk (Kept.of_grown hG2 (HKP.out.drewN nq) (fun k hk => .inl (HR.out.1 k hk).1)); have HK2 := Aside0.mk (blk_grown (blk_drewN HK.out nq) hG2 (Kd.R_ne HR.out HK.out (by decide))); have HO2 := Aside0.mk (Kd.R_grown2 (Kd.R_drewN HO.out nq) rfl hG2 HNE.out); have HNE2 := Aside0.mk (rr_ne HNE.out (Kd.R_drewN HO.out nq) hat2); have hz2 := (blk_cell HK2.out 5).trans rfl; have hf2 := blk_frozen HK2.out 5; clear hR2 hB2 hG2 hat2 hc4 hcf HK HR HO HNE HB HKP))

      obtain ⟨W3, hW3⟩ : ∃ W : World, W = w2.setCell ⟨g, 5, none⟩ (.slice A2 (l.length + 1) c2) := ⟨_, rfl⟩
      have HK3 := Aside0.mk (show W3.heap[g]? = some (.cells #[.int .i64 a0, .int .i64 a1, V, .int .i64 st, .int .i64 (j : Int), .slice A2 (l.length + 1) c2, u, .int .i64 k] 43 (0, 0)) from by rw [hW3]; exact by simpa using blk_set HK2.out 5 (.slice A2 (l.length + 1) c2))
      have HR3 := Aside0.mk (show Kd.R (Kd.int .i64) 3 W3 base (fun k => S k ∧ k ≠ g) (.slice A2 (l.length + 1) c2) (l ++ [0]) from by rw [hW3]; exact by have h := Kd.R_far HR2.out (p := ⟨g, 5, none⟩) (fun k hk => hk.2) (.slice A2 (l.length + 1) c2); rw [List.length_append] at h; exact h)
      have HO3 := Aside0.mk (show Kd.R (Kd.int .i64) 3 W3 base (fun k => S k ∧ k ≠ g) u lf from by rw [hW3]; exact Kd.R_far HO2.out (fun k hk => hk.2) _)
      have HB3 := Aside0.mk (show Below base w0 W3 from by rw [hW3]; exact HB2.out.setCell hg _)
      have HKP3 := Aside0.mk (show Kept w W3 S from by rw [hW3]; exact HKP2.out.setCell (.inl hS) _)
      rw [← hW3]
      clear hW3
      go_roundg d
      case measure => omega
      case rel => exact ⟨l ++ [0], _, HNN, HK3, HR3, HO3, ⟨by have h := HNE2.out; rw [List.length_append] at h; exact h⟩, HB3, HKP3⟩
set_option maxHeartbeats 8000000 in
set_option maxRecDepth 100000 in
theorem rr_putL (w0 w : World) (base : Nat) (S : Nat → Prop) (g : Nat) (a0 a1 : Int) (V : Value) (rt lf : List Int) (st k : Int) (j : Nat) (x : Int) (h : IsRr w base S g a0 a1 V ⟨rt, lf, st, (-1 - (j : Int)), k⟩) (hB : Below base w0 w) (hs : base ≤ w.heap.size) (hF : ∀ k, w.heap.size ≤ k → S k) (hj : j ≤ 1000000000) (hl0 : lf.length ≤ 1000000000) :
    Calls Try.prog 35 #[.pointer (some ⟨g, 0, none⟩), .int .i64 x] w fun e w' => e = .returned (.tuple #[]) ∧ IsRr w' base S g a0 a1 V ⟨rt, (RR.pad lf (j + 1)).set j x, st, -1 - (j : Int), k⟩  ∧ Below base w0 w' ∧ Kept w w' S := by
  obtain ⟨hg, hS, v_, u, hb, hr, hl, hne⟩ := h
  simp only at hb hr hl
  have hc4 := (blk_cell hb 4).trans rfl
  have HK := Aside0.mk hb
  have HRT := Aside0.mk hr
  have HLF := Aside0.mk hl
  have HNE := Aside0.mk hne
  have HB := Aside0.mk hB
  have HS := Aside0.mk hs
  have HF := Aside0.mk hF
  have HJ := Aside0.mk hj
  have HL0 := Aside0.mk hl0
  clear hb hr hl hne hB hs hF hj hl0
  have HKP := Aside0.mk (Kept.refl w S)
  have d0 : ¬ (0 ≤ -1 - (j : Int)) := by omega
  have d1 := decide_eq_false d0
  replace d0 := eq_false d0
  have e1 : IntKind.i64.wrap (-1 - (-1 - (j : Int))) = (j : Int) := (IntWalk.i64_in _ (by have := HJ.out; omega)).trans (by omega)
  go_enter Try.func35, Try.ntmps35
  go_wp2
  clear hc4
  go_loopg [48] (j + 1 - lf.length) (fun kq vb w' => ∃ (l : List Int) (v : Value), Aside0 (j + 1 - l.length = kq ∧ RR.pad l (j + 1) = RR.pad lf (j + 1) ∧ l.length ≤ 2000000000) ∧ Aside0 (w'.heap[g]? = some (.cells #[.int .i64 a0, .int .i64 a1, V, .int .i64 st, .int .i64 (-1 - (j : Int)), v_, v, .int .i64 k] 43 (0, 0) )) ∧ Aside0 (Kd.R (Kd.int .i64) 3 w' base (fun k => S k ∧ k ≠ g) v l) ∧ Aside0 (Kd.R (Kd.int .i64) 3 w' base (fun k => S k ∧ k ≠ g) v_ rt) ∧ Aside0 (∀ k, v.ownBlock = some k → some k ≠ (v_).ownBlock) ∧ Aside0 (Below base w0 w') ∧ Aside0 (Kept w w' S))
  case atStart => exact ⟨lf, u, ⟨rfl, rfl, by have := HL0.out; omega⟩, HK, HLF, HRT, ⟨rr_ne' HNE.out⟩, HB, HKP⟩
  case round =>
    clear HK HRT HLF HNE HB HKP
    obtain ⟨l, v1, HN, HK, HR, HO, HNE, HB, HKP⟩ := hrel
    obtain ⟨hi0, hi1, hi2⟩ := HN.out
    obtain ⟨A, c, rfl⟩ := Kd.R_slice HR.out
    have hc4 := (blk_cell HK.out 4).trans rfl
    have hcf := (blk_cell HK.out 6).trans rfl
    cases gk with
    | zero =>
      have hin : ¬ l.length ≤ j := by omega
      have hlt : (j : Int) < (l.length : Int) := by omega
      rw [RR.pad_done (by omega)] at hi1
      have HPAD := Aside0.mk hi1
      clear hi0 hi1 hi2 HN
      have hd : decide (l.length ≤ j) = false := decide_eq_false hin
      replace hin := eq_false hin
      go_wp2
      go_quiet (fail)
      go_wp2
      obtain ⟨gb, cap, hAc, hgb, hgl, hbe⟩ := Kd.R_form HR.out (by omega)
      cases hAc
      have hel := (Kd.R_cell (0 : Int) HR.out (j : Int) (Int.natCast_nonneg _) hlt)
      rw [Int.toNat_natCast] at hel
      have hela := hel.1
      have helb := hel.2
      have hlt2 : j < l.length := by omega
      clear hel hgb hgl hbe
      have HLT := Aside0.mk hlt
      clear hlt
      replace hlt2 := eq_true hlt2

      refine start_ (n := 12) (S := fun w' => w'.cell? ⟨g, 6, none⟩ = some (.slice (some ⟨gb, 0, none⟩) l.length c) ∧ w'.cell? ⟨g, 4, none⟩ = some (.int .i64 (-1 - (j : Int)))) (ds := [11]) #[false, false, false, false, false, false, false, false, false, false, false, false] (by kernel_rfl) rfl rfl ⟨hcf, hc4⟩ (fun hHeld => ?_)
      refine pure_ (i := 0) (N := some 58) (v := ?_) (a' := ?_) #[true, false, false, false, false, false, false, false, false, false, false, false] rfl rfl (by kernel_rfl) (fun _ _ _ h => h) (Or.inl ⟨by rfl, ?_⟩) ?_ ?_
      rotate_left
      · intro w'
        go_simp
        with_reducible rfl
      rotate_left
      · simp only [Act.put, List.setIfInBounds_toArray, List.set_cons_zero, List.set_cons_succ, i64_w, i32_w]
        rfl
      refine pure_ (i := 1) (N := some 59) (v := ?_) (a' := ?_) #[true, true, false, false, false, false, false, false, false, false, false, false] rfl rfl (by kernel_rfl) (fun _ _ _ h => h) (Or.inl ⟨by rfl, ?_⟩) ?_ ?_
      rotate_left
      · intro w'
        go_simp
        with_reducible rfl
      rotate_left
      · simp only [Act.put, List.setIfInBounds_toArray, List.set_cons_zero, List.set_cons_succ, i64_w, i32_w]
        rfl
      refine pure_ (i := 2) (N := some 60) (v := ?_) (a' := ?_) #[true, true, true, false, false, false, false, false, false, false, false, false] rfl rfl (by kernel_rfl) (fun _ _ _ h => h) (Or.inl ⟨by rfl, ?_⟩) ?_ ?_
      rotate_left
      · intro w'
        go_simp
        with_reducible rfl
      rotate_left
      · simp only [Act.put, List.setIfInBounds_toArray, List.set_cons_zero, List.set_cons_succ, i64_w, i32_w]
        rfl
      refine pure_ (i := 4) (N := some 62) (v := ?_) (a' := ?_) #[true, true, true, false, true, false, false, false, false, false, false, false] rfl rfl (by kernel_rfl) (fun _ _ _ h => h) (Or.inl ⟨by rfl, ?_⟩) ?_ ?_
      rotate_left
      · intro w'
        go_simp
        with_reducible rfl
      rotate_left
      · simp only [Act.put, List.setIfInBounds_toArray, List.set_cons_zero, List.set_cons_succ, i64_w, i32_w]
        rfl
      refine pure_ (i := 5) (N := some 63) (v := ?_) (a' := ?_) #[true, true, true, false, true, true, false, false, false, false, false, false] rfl rfl (by kernel_rfl) (fun _ _ _ h => h) (Or.inl ⟨by rfl, ?_⟩) ?_ ?_
      rotate_left
      · intro w'
        go_simp
        with_reducible rfl
      rotate_left
      · simp only [Act.put, List.setIfInBounds_toArray, List.set_cons_zero, List.set_cons_succ, i64_w, i32_w]
        rfl
      refine pure_ (i := 6) (N := some 64) (v := ?_) (a' := ?_) #[true, true, true, false, true, true, true, false, false, false, false, false] rfl rfl (by kernel_rfl) (fun _ _ _ h => h) (Or.inl ⟨by rfl, ?_⟩) ?_ ?_
      rotate_left
      · intro w'
        go_simp
        with_reducible rfl
      rotate_left
      · simp only [Act.put, List.setIfInBounds_toArray, List.set_cons_zero, List.set_cons_succ, i64_w, i32_w]
        rfl
      refine pure_ (i := 9) (N := some 67) (v := ?_) (a' := ?_) #[true, true, true, false, true, true, true, false, false, true, false, false] rfl rfl (by kernel_rfl) (fun _ _ _ h => h) (Or.inl ⟨by rfl, ?_⟩) ?_ ?_
      rotate_left
      · intro w'
        go_simp
        with_reducible rfl
      rotate_left
      · simp only [Act.put, List.setIfInBounds_toArray, List.set_cons_zero, List.set_cons_succ, i64_w, i32_w]
        rfl
      refine take_ (i := 3) (N := some 61) (v := ?_) (a' := ?_) #[true, true, true, true, true, true, true, false, false, true, false, false] rfl rfl (by kernel_rfl) (fun _ _ _ h => h) (Or.inl ⟨by rfl, ?_⟩) hHeld ?_ ?_
      rotate_left
      · rintro w' ⟨s0, s1⟩
        go_simp
        with_reducible rfl
      rotate_left
      · simp only [Act.put, List.setIfInBounds_toArray, List.set_cons_zero, List.set_cons_succ, i64_w, i32_w]
        rfl
      refine take_ (i := 7) (N := some 65) (v := ?_) (a' := ?_) #[true, true, true, true, true, true, true, true, false, true, false, false] rfl rfl (by kernel_rfl) (fun _ _ _ h => h) (Or.inl ⟨by rfl, ?_⟩) hHeld ?_ ?_
      rotate_left
      · rintro w' ⟨s0, s1⟩
        go_simp
        with_reducible rfl
      rotate_left
      · simp only [Act.put, List.setIfInBounds_toArray, List.set_cons_zero, List.set_cons_succ, i64_w, i32_w]
        rfl
      refine pure_ (i := 8) (N := some 66) (v := ?_) (a' := ?_) #[true, true, true, true, true, true, true, true, true, true, false, false] rfl rfl (by kernel_rfl) (fun _ _ _ h => h) (Or.inl ⟨by rfl, ?_⟩) ?_ ?_
      rotate_left
      · intro w'
        go_simp
        with_reducible rfl
      rotate_left
      · simp only [Act.put, List.setIfInBounds_toArray, List.set_cons_zero, List.set_cons_succ, i64_w, i32_w]
        rfl
      refine pure_ (i := 10) (N := some 68) (v := ?_) (a' := ?_) #[true, true, true, true, true, true, true, true, true, true, true, false] rfl rfl (by kernel_rfl) (fun _ _ _ h => h) (Or.inl ⟨by rfl, ?_⟩) ?_ ?_
      rotate_left
      · intro w'
        go_simp
        with_reducible rfl
      rotate_left
      · simp only [Act.put, List.setIfInBounds_toArray, List.set_cons_zero, List.set_cons_succ, i64_w, i32_w]
        rfl
      refine last_ (i := 11) (N := none) #[true, true, true, true, true, true, true, true, true, true, true, true] rfl rfl (by kernel_rfl) (by decide) (fun K hK => ?_)
      refine skip_ (w1 := ?_) (by rfl) rfl ?_ ?_
      rotate_left
      · go_simp
        rfl
      refine hK.out _ _ ?_
      clear hK K
      refine done_ (by kernel_rfl) ?_

      go_wp2
      first | refine bodyPost_end (results_none rfl _ _ _) rfl ?_ | refine bodyPost_ret (results_none rfl _ _ _) rfl ?_
      have hput := Kd.R_putg (Kd.R_drewN HR.out (nq + 1)) (j : Int) x
      rw [Int.toNat_natCast] at hput
      have hO := Kd.R_grown2 (Kd.R_drewN HO.out (nq + 1)) rfl hput.2 (fun k hk => by have := HNE.out gb rfl; cases hk; exact this)
      have hgg : g ≠ gb := fun e => (HR.out.1 gb rfl).2 e.symm
      rw [← HPAD.out]
      exact ⟨rfl, ⟨hg, hS, v_, _, blk_far (blk_drewN HK.out _) hgg _, hO, hput.1, rr_ne' HNE.out⟩, (pw_below_drewN HB.out _).setCell (Kd.R_base HR.out gb rfl) _, (HKP.out.drewN _).setCell (.inl (HR.out.1 gb rfl).1) _⟩
    | succ d =>
      have hin : l.length ≤ j := by omega
      have HNN : Aside0 (j + 1 - (l ++ [0]).length = d ∧ RR.pad (l ++ [0]) (j + 1) = RR.pad lf (j + 1) ∧ (l ++ [0]).length ≤ 2000000000) := ⟨by simp; omega, by rw [RR.pad_snoc (by omega)]; exact hi1, by have := HJ.out; simp; omega⟩
      have HLL : Aside0 (l.length ≤ 1000000000) := ⟨by have := HJ.out; omega⟩
      clear hi0 hi1 hi2 HN
      have hd : decide (l.length ≤ j) = true := decide_eq_true hin
      replace hin := eq_true hin
      go_wp2
      go_quiet (fail)
      go_wp2_with (first | ((with_reducible refine gate_builtin (b := .append) (xs := #[.tmp 53, .tmp 54]) rfl ?_); at_builtin; refine Kd.R_append (Kd.int .i64) (w0 := w0) base rfl (.tmp 53) (.tmp 54) 41 3 (.int .i64 0) 8 rfl Try.underlying41 info3 rfl (by decide) (by omega) (.slice A l.length c) l 0 [.int .i64 0] (fun k => S k ∧ k ≠ g) (fun _ => False) rfl rfl rfl (fun _ hk => hk.elim) (fun k hk => ⟨HF.out k (Nat.le_trans HKP.out.1 hk), fun e => by have := blk_lt HK.out; have : wr.heap.size ≤ k := hk; omega⟩) (Kd.R_drewN HR.out _) (pw_below_drewN HB.out _) (Nat.le_trans HS.out HKP.out.1) (by have := HLL.out; omega) ?_; intro v2 w2 hR2 hB2 hG2 hat2; obtain ⟨A2, c2, rfl⟩ := Kd.R_slice hR2; have HR2 := Aside0.mk hR2; have HB2 := Aside0.mk hB2; have HKP2 := Aside0.mk (Kept.of_grown hG2 (HKP.out.drewN nq) (fun k hk => .inl (HR.out.1 k hk).1)); have HK2 := Aside0.mk (blk_grown (blk_drewN HK.out nq) hG2 (Kd.R_ne HR.out HK.out (by decide))); have HO2 := Aside0.mk (Kd.R_grown2 (Kd.R_drewN HO.out nq) rfl hG2 HNE.out); have HNE2 := Aside0.mk (rr_ne HNE.out (Kd.R_drewN HO.out nq) hat2); have hz2 := (blk_cell HK2.out 6).trans rfl; have hf2 := blk_frozen HK2.out 6; clear hR2 hB2 hG2 hat2 hc4 hcf HK HR HO HNE HB HKP))

      obtain ⟨W3, hW3⟩ : ∃ W : World, W = w2.setCell ⟨g, 6, none⟩ (.slice A2 (l.length + 1) c2) := ⟨_, rfl⟩
      have HK3 := Aside0.mk (show W3.heap[g]? = some (.cells #[.int .i64 a0, .int .i64 a1, V, .int .i64 st, .int .i64 (-1 - (j : Int)), v_, .slice A2 (l.length + 1) c2, .int .i64 k] 43 (0, 0)) from by rw [hW3]; exact by simpa using blk_set HK2.out 6 (.slice A2 (l.length + 1) c2))
      have HR3 := Aside0.mk (show Kd.R (Kd.int .i64) 3 W3 base (fun k => S k ∧ k ≠ g) (.slice A2 (l.length + 1) c2) (l ++ [0]) from by rw [hW3]; exact by have h := Kd.R_far HR2.out (p := ⟨g, 6, none⟩) (fun k hk => hk.2) (.slice A2 (l.length + 1) c2); rw [List.length_append] at h; exact h)
      have HO3 := Aside0.mk (show Kd.R (Kd.int .i64) 3 W3 base (fun k => S k ∧ k ≠ g) v_ rt from by rw [hW3]; exact Kd.R_far HO2.out (fun k hk => hk.2) _)
      have HB3 := Aside0.mk (show Below base w0 W3 from by rw [hW3]; exact HB2.out.setCell hg _)
      have HKP3 := Aside0.mk (show Kept w W3 S from by rw [hW3]; exact HKP2.out.setCell (.inl hS) _)
      rw [← hW3]
      clear hW3
      go_roundg d
      case measure => omega
      case rel => exact ⟨l ++ [0], _, HNN, HK3, HR3, HO3, ⟨by have h := HNE2.out; rw [List.length_append] at h; exact h⟩, HB3, HKP3⟩
set_option maxHeartbeats 8000000 in
set_option maxRecDepth 100000 in
theorem rr_put (w0 w : World) (base : Nat) (S : Nat → Prop) (g : Nat) (a0 a1 : Int) (V : Value) (s : RR) (x : Int) (h : IsRr w base S g a0 a1 V s) (hB : Below base w0 w) (hs : base ≤ w.heap.size) (hF : ∀ k, w.heap.size ≤ k → S k) (hp0 : -1000000000 ≤ s.po) (hp1 : s.po ≤ 1000000000) (hl0 : s.rt.length ≤ 1000000000) (hl1 : s.lf.length ≤ 1000000000) :
    Calls Try.prog 35 #[.pointer (some ⟨g, 0, none⟩), .int .i64 x] w fun e w' => e = .returned (.tuple #[]) ∧ IsRr w' base S g a0 a1 V (s.put x) ∧ Below base w0 w' ∧ Kept w w' S := by
  obtain ⟨rt, lf, st, po, k⟩ := s
  simp only at hp0 hp1 hl0 hl1
  by_cases c : 0 ≤ po
  · obtain ⟨j, rfl⟩ := Int.eq_ofNat_of_zero_le c
    rw [show RR.put ⟨rt, lf, st, (j : Int), k⟩ x = ⟨(RR.pad rt (j + 1)).set j x, lf, st, (j : Int), k⟩ from (if_pos c).trans (by simp)]
    exact rr_putR w0 w base S g a0 a1 V rt lf st k j x h hB hs hF (by omega) hl0
  · obtain ⟨j, hj⟩ := Int.eq_ofNat_of_zero_le (show 0 ≤ -1 - po by omega)
    obtain rfl : po = -1 - (j : Int) := by omega
    rw [show RR.put ⟨rt, lf, st, -1 - (j : Int), k⟩ x = ⟨rt, (RR.pad lf (j + 1)).set j x, st, -1 - (j : Int), k⟩ from (if_neg c).trans (by simp only; rw [hj]; simp)]
    exact rr_putL w0 w base S g a0 a1 V rt lf st k j x h hB hs hF (by omega) hl1

/-! ### standstillref10_Run_Step: function 26 (by hand) -/
def RR.rule (rules : List (List (S52))) (s : RR) : S52 := rd_T52 (rd_L2 rules s.st) (s.at_ s.po)
def RR.ok (rules : List (List (S52))) (s : RR) : Prop :=
  -1000000000 ≤ s.po ∧ s.po ≤ 1000000000 ∧ s.rt.length ≤ 1000000000 ∧ s.lf.length ≤ 1000000000 ∧ 0 ≤ s.k ∧ s.k ≤ 1000000000000 ∧ 0 ≤ s.st ∧ s.st < (rules.length : Int) ∧ 0 ≤ s.at_ s.po ∧ s.at_ s.po < ((rd_L2 rules s.st).length : Int) ∧ -100 ≤ (s.rule rules).f1 ∧ (s.rule rules).f1 ≤ 100
instance RR.decOk (rules : List (List (S52))) (s : RR) : Decidable (s.ok rules) := by unfold RR.ok; infer_instance
def RR.step (rules : List (List (S52))) (s : RR) : Option (RR × Bool) :=
  if s.st = -1 then some (s, false)
  else if s.ok rules then some ({ s.put (s.rule rules).f0 with po := s.po + (s.rule rules).f1, st := (s.rule rules).f2, k := s.k + 1 }, true)
  else none
set_option maxHeartbeats 8000000 in
set_option maxRecDepth 100000 in
theorem rr_step (A0 : Option Addr) (c0 : Nat) (rules : List (List (S52))) (w0 w : World) (base : Nat) (S : Nat → Prop) (g : Nat) (a0 a1 : Int) (s s' : RR) (b : Bool) (h : IsRr w base S g a0 a1 (.slice A0 rules.length c0) s) (hr0 : Kd.C (Kd.slice 52 k52) w0 A0 rules.length rules) (hB0 : w0.heap.size ≤ base) (hB : Below base w0 w) (hs : base ≤ w.heap.size) (hF : ∀ k, w.heap.size ≤ k → S k) (hst : RR.step rules s = some (s', b)) :
    Calls Try.prog 26 #[.pointer (some ⟨g, 0, none⟩)] w fun e w' => e = .returned (.bool b) ∧ IsRr w' base S g a0 a1 (.slice A0 rules.length c0) s' ∧ Below base w0 w' ∧ Kept w w' S := by
  have HI := Aside0.mk h
  obtain ⟨hg, hS, v, u, hb, hr, hl, hne⟩ := h
  unfold RR.step at hst
  have HK := Aside0.mk hb
  clear hb hr hl hne
  by_cases c1 : s.st = -1
  · rw [if_pos c1] at hst
    obtain ⟨rfl, rfl⟩ := Prod.mk.inj (Option.some.inj hst)
    clear hst
    have hc3 := (blk_cell HK.out 3).trans rfl
    rw [c1] at hc3
    have HB := Aside0.mk hB
    clear hB hs hF hr0 hB0 c1 HK
    go_enter Try.func26, Try.ntmps26
    go_wp2
    go_ret
    exact ⟨rfl, HI.out, HB.out, Kept.refl _ _⟩
  · rw [if_neg c1] at hst
    by_cases c2 : s.ok rules
    rotate_left
    · rw [if_neg c2] at hst
      cases hst
    rw [if_pos c2] at hst
    obtain ⟨rfl, rfl⟩ := Prod.mk.inj (Option.some.inj hst)
    clear hst
    obtain ⟨b1, b2, b3, b4, b5, b6, d2, d3, d4, d5, d7, d8⟩ := c2
    obtain ⟨x, hx⟩ : ∃ x, s.at_ s.po = x := ⟨_, rfl⟩
    obtain ⟨row, hrow⟩ : ∃ r, rd_L2 rules s.st = r := ⟨_, rfl⟩
    obtain ⟨r, hr_⟩ : ∃ r, s.rule rules = r := ⟨_, rfl⟩
    rw [hx] at d4 d5
    rw [hrow] at d5
    rw [hr_] at d7 d8 ⊢
    have hrx : rd_T52 row x = r := by rw [← hr_, ← hrow, ← hx]; rfl
    obtain ⟨f0, f1, f2⟩ := r
    simp only at d7 d8 ⊢
    have hcell := fun (W : World) (hW : IsRr W base S g a0 a1 (.slice A0 rules.length c0) s) => rr_cell W base S g a0 a1 (.slice A0 rules.length c0) s s.po hW (by omega) (by omega)
    rw [hx] at hcell
    have hput := fun (S : Nat → Prop) (W : World) (hW : IsRr W base S g a0 a1 (.slice A0 rules.length c0) s) (hBW : Below base w0 W) (hsW : base ≤ W.heap.size) (hFW : ∀ k, W.heap.size ≤ k → S k) => rr_put w0 W base S g a0 a1 (.slice A0 rules.length c0) s f0 hW hBW hsW hFW b1 b2 b3 b4
    obtain ⟨q1, q2, q3⟩ := RR.put_same s f0
    obtain ⟨t, ht⟩ : ∃ t, s.put f0 = t := ⟨_, rfl⟩
    rw [ht] at hput q1 q2 q3 ⊢
    have HCELL := Aside0.mk hcell
    have HPUT := Aside0.mk hput
    have HROW := Aside0.mk hrow
    have HRX := Aside0.mk hrx
    clear hcell hput hx hrow hr_ hrx ht
    obtain ⟨rt, lf, st, po, k⟩ := s
    obtain ⟨t0, t1, t2, t3, t4⟩ := t
    simp only at q1 q2 q3 c1 b1 b2 b3 b4 b5 b6 d2 d3
    subst q1 q2 q3
    have HROW := Aside0.mk (show rd_L2 rules t2 = row from HROW.out)
    have HK := Aside0.mk (show w.heap[g]? = some (.cells #[.int .i64 a0, .int .i64 a1, .slice A0 rules.length c0, .int .i64 t2, .int .i64 t3, v, u, .int .i64 t4] 43 (0, 0)) from HK.out)
    have hc2 := (blk_cell HK.out 2).trans rfl
    have hc3 := (blk_cell HK.out 3).trans rfl
    have hc4 := (blk_cell HK.out 4).trans rfl
    have HW0 := Aside0.mk (hB.mono hB0)
    obtain ⟨ad0, A1, c1_, rfl, hx0, hlc, hC1⟩ := at_L2 hr0 t2 d2 d3
    rw [HROW.out] at hx0 hlc hC1
    obtain ⟨ad1, rfl, hy0, hy1, hy2⟩ := at_T52 hC1 x d4 d5
    rw [HRX.out] at hy0 hy1 hy2
    simp only at hy0 hy1 hy2
    have hx0' := lf_ HW0.out hx0
    have hy0' := lf_ HW0.out hy0
    have hy1' := lf_ HW0.out hy1
    have hy2' := lf_ HW0.out hy2
    have HB := Aside0.mk hB
    have HS := Aside0.mk hs
    have HF := Aside0.mk hF
    have e1 : IntKind.i64.wrap (t3 + f1) = t3 + f1 := IntWalk.i64_in _ (by omega)
    have e2 : IntKind.i64.wrap (t4 + 1) = t4 + 1 := IntWalk.i64_in _ (by omega)
    have c1' : (t2 == (-1 : Int)) = false := by simpa using c1
    clear hx0 hlc hC1 hy0 hy1 hy2 hr0 hB0 hB hs hF HROW HRX b1 b2 b3 b4 b5 b6 d7 d8 c1
    replace d2 := eq_true d2
    replace d3 := eq_true d3
    replace d4 := eq_true d4
    replace d5 := eq_true d5
    go_enter Try.func26, Try.ntmps26
    go_wp2
    refine start_ (n := 21) (S := fun w' => w'.cell? ⟨g, 2, none⟩ = some (.slice (some ad0) rules.length c0) ∧ w'.cell? ⟨g, 3, none⟩ = some (.int .i64 t2) ∧ w'.cell? ⟨g, 4, none⟩ = some (.int .i64 t3) ∧ w'.cell? (ad0.add t2.toNat) = some (.slice (some ad1) row.length c1_) ∧ w'.cell? (ad1.add (x.toNat * 3)) = some (.int .i64 f0) ∧ w'.cell? ⟨(ad1.add (x.toNat * 3)).block, (ad1.add (x.toNat * 3)).off + 1, none⟩ = some (.int .i64 f1) ∧ w'.cell? ⟨(ad1.add (x.toNat * 3)).block, (ad1.add (x.toNat * 3)).off + 2, none⟩ = some (.int .i64 f2)) (ds := [20]) #[false, false, false, false, false, false, false, false, false, false, false, false, false, false, false, false, false, false, false, false, false] (by kernel_rfl) rfl rfl ⟨hc2, hc3, hc4, hx0', hy0', hy1', hy2'⟩ (fun hHeld => ?_)
    refine pure_ (i := 0) (N := some 9) (v := ?_) (a' := ?_) #[true, false, false, false, false, false, false, false, false, false, false, false, false, false, false, false, false, false, false, false, false] rfl rfl (by kernel_rfl) (fun _ _ _ h => h) (Or.inl ⟨by rfl, ?_⟩) ?_ ?_
    rotate_left
    · intro w'
      go_simp
      with_reducible rfl
    rotate_left
    · simp only [Act.put, List.setIfInBounds_toArray, List.set_cons_zero, List.set_cons_succ, i64_w, i32_w]
      rfl
    refine pure_ (i := 1) (N := some 10) (v := ?_) (a' := ?_) #[true, true, false, false, false, false, false, false, false, false, false, false, false, false, false, false, false, false, false, false, false] rfl rfl (by kernel_rfl) (fun _ _ _ h => h) (Or.inl ⟨by rfl, ?_⟩) ?_ ?_
    rotate_left
    · intro w'
      go_simp
      with_reducible rfl
    rotate_left
    · simp only [Act.put, List.setIfInBounds_toArray, List.set_cons_zero, List.set_cons_succ, i64_w, i32_w]
      rfl
    refine pure_ (i := 2) (N := some 11) (v := ?_) (a' := ?_) #[true, true, true, false, false, false, false, false, false, false, false, false, false, false, false, false, false, false, false, false, false] rfl rfl (by kernel_rfl) (fun _ _ _ h => h) (Or.inl ⟨by rfl, ?_⟩) ?_ ?_
    rotate_left
    · intro w'
      go_simp
      with_reducible rfl
    rotate_left
    · simp only [Act.put, List.setIfInBounds_toArray, List.set_cons_zero, List.set_cons_succ, i64_w, i32_w]
      rfl
    refine pure_ (i := 3) (N := some 12) (v := ?_) (a' := ?_) #[true, true, true, true, false, false, false, false, false, false, false, false, false, false, false, false, false, false, false, false, false] rfl rfl (by kernel_rfl) (fun _ _ _ h => h) (Or.inl ⟨by rfl, ?_⟩) ?_ ?_
    rotate_left
    · intro w'
      go_simp
      with_reducible rfl
    rotate_left
    · simp only [Act.put, List.setIfInBounds_toArray, List.set_cons_zero, List.set_cons_succ, i64_w, i32_w]
      rfl
    refine pure_ (i := 5) (N := some 14) (v := ?_) (a' := ?_) #[true, true, true, true, false, true, false, false, false, false, false, false, false, false, false, false, false, false, false, false, false] rfl rfl (by kernel_rfl) (fun _ _ _ h => h) (Or.inl ⟨by rfl, ?_⟩) ?_ ?_
    rotate_left
    · intro w'
      go_simp
      with_reducible rfl
    rotate_left
    · simp only [Act.put, List.setIfInBounds_toArray, List.set_cons_zero, List.set_cons_succ, i64_w, i32_w]
      rfl
    refine pure_ (i := 6) (N := some 15) (v := ?_) (a' := ?_) #[true, true, true, true, false, true, true, false, false, false, false, false, false, false, false, false, false, false, false, false, false] rfl rfl (by kernel_rfl) (fun _ _ _ h => h) (Or.inl ⟨by rfl, ?_⟩) ?_ ?_
    rotate_left
    · intro w'
      go_simp
      with_reducible rfl
    rotate_left
    · simp only [Act.put, List.setIfInBounds_toArray, List.set_cons_zero, List.set_cons_succ, i64_w, i32_w]
      rfl
    refine pure_ (i := 7) (N := some 16) (v := ?_) (a' := ?_) #[true, true, true, true, false, true, true, true, false, false, false, false, false, false, false, false, false, false, false, false, false] rfl rfl (by kernel_rfl) (fun _ _ _ h => h) (Or.inl ⟨by rfl, ?_⟩) ?_ ?_
    rotate_left
    · intro w'
      go_simp
      with_reducible rfl
    rotate_left
    · simp only [Act.put, List.setIfInBounds_toArray, List.set_cons_zero, List.set_cons_succ, i64_w, i32_w]
      rfl
    refine pure_ (i := 11) (N := some 20) (v := ?_) (a' := ?_) #[true, true, true, true, false, true, true, true, false, false, false, true, false, false, false, false, false, false, false, false, false] rfl rfl (by kernel_rfl) (fun _ _ _ h => h) (Or.inl ⟨by rfl, ?_⟩) ?_ ?_
    rotate_left
    · intro w'
      go_simp
      with_reducible rfl
    rotate_left
    · simp only [Act.put, List.setIfInBounds_toArray, List.set_cons_zero, List.set_cons_succ, i64_w, i32_w]
      rfl
    refine pure_ (i := 12) (N := some 21) (v := ?_) (a' := ?_) #[true, true, true, true, false, true, true, true, false, false, false, true, true, false, false, false, false, false, false, false, false] rfl rfl (by kernel_rfl) (fun _ _ _ h => h) (Or.inl ⟨by rfl, ?_⟩) ?_ ?_
    rotate_left
    · intro w'
      go_simp
      with_reducible rfl
    rotate_left
    · simp only [Act.put, List.setIfInBounds_toArray, List.set_cons_zero, List.set_cons_succ, i64_w, i32_w]
      rfl
    refine pure_ (i := 13) (N := some 22) (v := ?_) (a' := ?_) #[true, true, true, true, false, true, true, true, false, false, false, true, true, true, false, false, false, false, false, false, false] rfl rfl (by kernel_rfl) (fun _ _ _ h => h) (Or.inl ⟨by rfl, ?_⟩) ?_ ?_
    rotate_left
    · intro w'
      go_simp
      with_reducible rfl
    rotate_left
    · simp only [Act.put, List.setIfInBounds_toArray, List.set_cons_zero, List.set_cons_succ, i64_w, i32_w]
      rfl
    refine pure_ (i := 14) (N := some 23) (v := ?_) (a' := ?_) #[true, true, true, true, false, true, true, true, false, false, false, true, true, true, true, false, false, false, false, false, false] rfl rfl (by kernel_rfl) (fun _ _ _ h => h) (Or.inl ⟨by rfl, ?_⟩) ?_ ?_
    rotate_left
    · intro w'
      go_simp
      with_reducible rfl
    rotate_left
    · simp only [Act.put, List.setIfInBounds_toArray, List.set_cons_zero, List.set_cons_succ, i64_w, i32_w]
      rfl
    refine take_ (i := 4) (N := some 13) (v := ?_) (a' := ?_) #[true, true, true, true, true, true, true, true, false, false, false, true, true, true, true, false, false, false, false, false, false] rfl rfl (by kernel_rfl) (fun _ _ _ h => h) (Or.inl ⟨by rfl, ?_⟩) hHeld ?_ ?_
    rotate_left
    · rintro w' ⟨s0, s1, s2, s3, s4, s5, s6⟩
      go_simp
      with_reducible rfl
    rotate_left
    · simp only [Act.put, List.setIfInBounds_toArray, List.set_cons_zero, List.set_cons_succ, i64_w, i32_w]
      rfl
    refine take_ (i := 8) (N := some 17) (v := ?_) (a' := ?_) #[true, true, true, true, true, true, true, true, true, false, false, true, true, true, true, false, false, false, false, false, false] rfl rfl (by kernel_rfl) (fun _ _ _ h => h) (Or.inl ⟨by rfl, ?_⟩) hHeld ?_ ?_
    rotate_left
    · rintro w' ⟨s0, s1, s2, s3, s4, s5, s6⟩
      go_simp
      with_reducible rfl
    rotate_left
    · simp only [Act.put, List.setIfInBounds_toArray, List.set_cons_zero, List.set_cons_succ, i64_w, i32_w]
      rfl
    refine pure_ (i := 9) (N := some 18) (v := ?_) (a' := ?_) #[true, true, true, true, true, true, true, true, true, true, false, true, true, true, true, false, false, false, false, false, false] rfl rfl (by kernel_rfl) (fun _ _ _ h => h) (Or.inl ⟨by rfl, ?_⟩) ?_ ?_
    rotate_left
    · intro w'
      go_simp
      with_reducible rfl
    rotate_left
    · simp only [Act.put, List.setIfInBounds_toArray, List.set_cons_zero, List.set_cons_succ, i64_w, i32_w]
      rfl
    refine take_ (i := 10) (N := some 19) (v := ?_) (a' := ?_) #[true, true, true, true, true, true, true, true, true, true, true, true, true, true, true, false, false, false, false, false, false] rfl rfl (by kernel_rfl) (fun _ _ _ h => h) (Or.inl ⟨by rfl, ?_⟩) hHeld ?_ ?_
    rotate_left
    · rintro w' ⟨s0, s1, s2, s3, s4, s5, s6⟩
      go_simp
      with_reducible rfl
    rotate_left
    · simp only [Act.put, List.setIfInBounds_toArray, List.set_cons_zero, List.set_cons_succ, i64_w, i32_w]
      rfl
    refine take_ (i := 15) (N := some 24) (v := ?_) (a' := ?_) #[true, true, true, true, true, true, true, true, true, true, true, true, true, true, true, true, false, false, false, false, false] rfl rfl (by kernel_rfl) (fun _ _ _ h => h) (Or.inl ⟨by rfl, ?_⟩) hHeld ?_ ?_
    rotate_left
    · rintro w' ⟨s0, s1, s2, s3, s4, s5, s6⟩
      go_simp
      with_reducible rfl
    rotate_left
    · simp only [Act.put, List.setIfInBounds_toArray, List.set_cons_zero, List.set_cons_succ, i64_w, i32_w]
      rfl
    refine join_ (σ := Nat) 1 #[true, true, true, true, true, true, true, true, true, true, true, true, true, true, true, true, true, true, true, true, false] (fun q => [(25, .int .i64 x), (3, .pointer (some ⟨q, 0, none⟩)), (26, .pointer (some (ad1.add (x.toNat * 3)))), (27, .agg #[.int .i64 f0, .int .i64 f1, .int .i64 f2])]) (fun q w' => w'.heap[q]? = some (.cells #[.int .i64 0, .int .i64 0, .int .i64 0] 52 (0, 0)) ∧ Below w.heap.size w w' ∧ w.heap.size ≤ q) ?_ ?_
    rotate_left
    · intro hCont
      refine two_ (i := 16) (j := 19) (Ni := some 25) (Nj := some 3) #[true, true, true, true, true, true, true, true, true, true, true, true, true, true, true, true, true, false, false, false, false] #[true, true, true, true, true, true, true, true, true, true, true, true, true, true, true, true, false, false, false, true, false] rfl rfl rfl rfl (by kernel_rfl) (by decide) (by decide) (fun K hK => ?_) (fun K hK => ?_)
      · skip
        refine goes_ Try.func34 (by kernel_rfl) rfl #[.pointer (some ⟨g, 0, none⟩), .int .i64 t3] (by rfl) rfl rfl (by simp only [List.map_toArray, List.map_cons, List.map_nil]; rfl) ?_
        with_reducible refine (HCELL.out _ (HI.out.drew)).mono ?_
        rintro e w6 ⟨rfl, m6, rfl⟩
        refine ⟨_, rfl, ?_⟩
        refine hK.out _ _ ⟨hHeld.1, hHeld.2.1, hHeld.2.2.1, hHeld.2.2.2.1, hHeld.2.2.2.2.1, hHeld.2.2.2.2.2.1, hHeld.2.2.2.2.2.2⟩ (fun hHeld => ?_)
        clear hK K
        refine norm_ (a' := ?_) ?_ ?_
        rotate_left
        · show Act.put _ (some 25) _ = _
          simp only [Act.put, List.setIfInBounds_toArray, List.set_cons_zero, List.set_cons_succ, i64_w, i32_w]
          rfl
        refine pure_ (i := 17) (N := some 26) (v := ?_) (a' := ?_) #[true, true, true, true, true, true, true, true, true, true, true, true, true, true, true, true, true, true, false, false, false] rfl rfl (by kernel_rfl) (fun _ _ _ h => h) (Or.inl ⟨by rfl, ?_⟩) ?_ ?_
        rotate_left
        · intro w'
          go_simp
          with_reducible rfl
        rotate_left
        · simp only [Act.put, List.setIfInBounds_toArray, List.set_cons_zero, List.set_cons_succ, i64_w, i32_w]
          rfl
        refine take_ (i := 18) (N := some 27) (v := ?_) (a' := ?_) #[true, true, true, true, true, true, true, true, true, true, true, true, true, true, true, true, true, true, true, false, false] rfl rfl (by kernel_rfl) (fun _ _ _ h => h) (Or.inl ⟨by rfl, ?_⟩) hHeld ?_ ?_
        rotate_left
        · rintro w' ⟨s0, s1, s2, s3, s4, s5, s6⟩
          go_simp
          with_reducible rfl
        rotate_left
        · simp only [Act.put, List.setIfInBounds_toArray, List.set_cons_zero, List.set_cons_succ, i64_w, i32_w]
          rfl
        refine one_ (i := 19) (N := some 3) #[true, true, true, true, true, true, true, true, true, true, true, true, true, true, true, true, true, true, true, true, false] rfl rfl (by kernel_rfl) (by decide) (fun K hK => ?_)
        refine box_step (by rfl) rfl (cs := #[.int .i64 0, .int .i64 0, .int .i64 0]) (t := 52) ?_ ?_
        · go_simp
        intro q hq w2 hb2 hB2
        have HQ2 := Aside0.mk hb2
        have HB2 := Aside0.mk hB2
        have hql := Aside0.mk (show w.heap.size ≤ q from by rw [hq]; exact Nat.le_refl _)
        clear hb2 hB2 hq
        refine hK.out _ _ ⟨(lf_ HB2.out hHeld.1), (lf_ HB2.out hHeld.2.1), (lf_ HB2.out hHeld.2.2.1), (lf_ HB2.out hHeld.2.2.2.1), (lf_ HB2.out hHeld.2.2.2.2.1), (lf_ HB2.out hHeld.2.2.2.2.2.1), (lf_ HB2.out hHeld.2.2.2.2.2.2)⟩ (fun hHeld => ?_)
        clear hK K
        refine norm_ (a' := ?_) ?_ ?_
        rotate_left
        · show Act.put _ (some 3) _ = _
          simp only [Act.put, List.setIfInBounds_toArray, List.set_cons_zero, List.set_cons_succ, i64_w, i32_w]
          rfl
        exact norm_ (by simp only [putAll, Act.put, List.setIfInBounds_toArray, List.set_cons_zero, List.set_cons_succ]) (hCont q _ ⟨HQ2.out, below_step (bk_ (Below.refl _ _)) HB2.out, hql.out⟩)
      · skip
        refine box_step (by rfl) rfl (cs := #[.int .i64 0, .int .i64 0, .int .i64 0]) (t := 52) ?_ ?_
        · go_simp
        intro q hq w2 hb2 hB2
        have HQ2 := Aside0.mk hb2
        have HB2 := Aside0.mk hB2
        have hql := Aside0.mk (show w.heap.size ≤ q from by rw [hq]; exact Nat.le_refl _)
        clear hb2 hB2 hq
        refine hK.out _ _ ⟨(lf_ HB2.out hHeld.1), (lf_ HB2.out hHeld.2.1), (lf_ HB2.out hHeld.2.2.1), (lf_ HB2.out hHeld.2.2.2.1), (lf_ HB2.out hHeld.2.2.2.2.1), (lf_ HB2.out hHeld.2.2.2.2.2.1), (lf_ HB2.out hHeld.2.2.2.2.2.2)⟩ (fun hHeld => ?_)
        clear hK K
        refine norm_ (a' := ?_) ?_ ?_
        rotate_left
        · show Act.put _ (some 3) _ = _
          simp only [Act.put, List.setIfInBounds_toArray, List.set_cons_zero, List.set_cons_succ, i64_w, i32_w]
          rfl
        refine one_ (i := 16) (N := some 25) #[true, true, true, true, true, true, true, true, true, true, true, true, true, true, true, true, true, false, false, true, false] rfl rfl (by kernel_rfl) (by decide) (fun K hK => ?_)
        refine goes_ Try.func34 (by kernel_rfl) rfl #[.pointer (some ⟨g, 0, none⟩), .int .i64 t3] (by rfl) rfl rfl (by simp only [List.map_toArray, List.map_cons, List.map_nil]; rfl) ?_
        with_reducible refine (HCELL.out _ (HI.out.below (below_step (bk_ (Below.refl _ _)) HB2.out))).mono ?_
        rintro e w6 ⟨rfl, m6, rfl⟩
        refine ⟨_, rfl, ?_⟩
        refine hK.out _ _ ⟨hHeld.1, hHeld.2.1, hHeld.2.2.1, hHeld.2.2.2.1, hHeld.2.2.2.2.1, hHeld.2.2.2.2.2.1, hHeld.2.2.2.2.2.2⟩ (fun hHeld => ?_)
        clear hK K
        refine norm_ (a' := ?_) ?_ ?_
        rotate_left
        · show Act.put _ (some 25) _ = _
          simp only [Act.put, List.setIfInBounds_toArray, List.set_cons_zero, List.set_cons_succ, i64_w, i32_w]
          rfl
        refine pure_ (i := 17) (N := some 26) (v := ?_) (a' := ?_) #[true, true, true, true, true, true, true, true, true, true, true, true, true, true, true, true, true, true, false, true, false] rfl rfl (by kernel_rfl) (fun _ _ _ h => h) (Or.inl ⟨by rfl, ?_⟩) ?_ ?_
        rotate_left
        · intro w'
          go_simp
          with_reducible rfl
        rotate_left
        · simp only [Act.put, List.setIfInBounds_toArray, List.set_cons_zero, List.set_cons_succ, i64_w, i32_w]
          rfl
        refine take_ (i := 18) (N := some 27) (v := ?_) (a' := ?_) #[true, true, true, true, true, true, true, true, true, true, true, true, true, true, true, true, true, true, true, true, false] rfl rfl (by kernel_rfl) (fun _ _ _ h => h) (Or.inl ⟨by rfl, ?_⟩) hHeld ?_ ?_
        rotate_left
        · rintro w' ⟨s0, s1, s2, s3, s4, s5, s6⟩
          go_simp
          with_reducible rfl
        rotate_left
        · simp only [Act.put, List.setIfInBounds_toArray, List.set_cons_zero, List.set_cons_succ, i64_w, i32_w]
          rfl
        exact norm_ (by simp only [putAll, Act.put, List.setIfInBounds_toArray, List.set_cons_zero, List.set_cons_succ]) (hCont q _ ⟨HQ2.out, pw_below_drewN (below_step (bk_ (Below.refl _ _)) HB2.out) _, hql.out⟩)
    rintro q w3 ⟨hq3, hB3, hql⟩
    have HQ3 := Aside0.mk hq3
    have HB3 := Aside0.mk hB3
    have HQL := Aside0.mk hql
    clear hq3 hB3 hql hHeld
    refine norm_ (a' := ?_) ?_ ?_
    rotate_left
    · simp only [putAll, Act.put, List.setIfInBounds_toArray, List.set_cons_zero, List.set_cons_succ]
      rfl
    refine last_ (i := 20) (N := none) #[true, true, true, true, true, true, true, true, true, true, true, true, true, true, true, true, true, true, true, true, true] rfl rfl (by kernel_rfl) (by decide) (fun K hK => ?_)
    have hz0 := (blk_cell HQ3.out 0).trans rfl
    have hz1 := (blk_cell HQ3.out 1).trans rfl
    have hz2 := (blk_cell HQ3.out 2).trans rfl
    have hf0 := blk_frozen HQ3.out 0
    have hf1 := blk_frozen HQ3.out 1
    have hf2 := blk_frozen HQ3.out 2
    refine skip_ (w1 := ?_) (by rfl) rfl ?_ ?_
    rotate_left
    · go_simp
      rfl
    refine hK.out _ _ ?_
    clear hK K
    refine done_ (by kernel_rfl) ?_

    obtain ⟨W4, hW4⟩ : ∃ W : World, W = ((w3.setCell ⟨q, 0, none⟩ (.int .i64 f0)).setCell ⟨q, 1, none⟩ (.int .i64 f1)).setCell ⟨q, 2, none⟩ (.int .i64 f2) := ⟨_, rfl⟩
    have HQ4 := Aside0.mk (show W4.heap[q]? = some (.cells #[.int .i64 f0, .int .i64 f1, .int .i64 f2] 52 (0, 0)) from by rw [hW4]; exact by simpa using blk_set (blk_set (blk_set HQ3.out 0 (.int .i64 f0)) 1 (.int .i64 f1)) 2 (.int .i64 f2))
    have HB4 := Aside0.mk (show Below w.heap.size w W4 from by rw [hW4]; exact ((HB3.out.setCell HQL.out _).setCell HQL.out _).setCell HQL.out _)
    rw [← hW4]
    clear hW4
    have HI4 := Aside0.mk ((HI.out.shrink.below HB4.out).mono (S' := fun k => S k ∧ k ≠ q) (fun k hk => ⟨hk.1, fun e => by have := hk.2.2; have := HQL.out; omega⟩))
    have HBB4 := Aside0.mk (below_then HB.out HS.out HB4.out)
    have HGQ := Aside0.mk (show g < q from Nat.lt_of_lt_of_le (blk_lt HK.out) HQL.out)
    have hq0 := (blk_cell HQ4.out 0).trans rfl
    clear hc2 hc3 hc4 hx0' hy0' hy1' hy2'
    go_wp2_with fail
    refine (HPUT.out (fun k => S k ∧ k ≠ q) W4 HI4.out HBB4.out (Nat.le_trans HS.out HB4.out.size) (fun k hk => ⟨HF.out k (Nat.le_trans HB4.out.size hk), fun e => by have := blk_lt HQ4.out; omega⟩)).mono ?_
    rintro e w5 ⟨rfl, hI5, hB5, hKP5⟩
    have HQ5 := Aside0.mk (blk_kept HQ4.out hKP5 (fun h => h.2 rfl))
    have HKP5 := Aside0.mk (((Kept.of_below HB4.out S)).then_ hKP5 (fun k hk => .inl hk.1))
    obtain ⟨_, _, v5, u5, hb5, hr5, hl5, hne5⟩ := hI5.mono (S' := S) (fun k hk => hk.1)
    obtain ⟨A5, c5, rfl⟩ := Kd.R_slice hr5
    obtain ⟨B5, d5', rfl⟩ := Kd.R_slice hl5
    simp only at hb5 hr5 hl5
    have HK5 := Aside0.mk hb5
    have HR5 := Aside0.mk hr5
    have HL5 := Aside0.mk hl5
    have HNE5 := Aside0.mk hne5
    have HB5 := Aside0.mk hB5
    clear hI5 hB5 hKP5 hb5 hr5 hl5 hne5 hq0
    have hq1 := (blk_cell HQ5.out 1).trans rfl
    have hc4 := (blk_cell HK5.out 4).trans rfl
    go_wp2
    refine start_ (n := 11) (S := fun w' => w'.cell? ⟨g, 4, none⟩ = some (.int .i64 t3) ∧ w'.cell? ⟨q, 1, none⟩ = some (.int .i64 f1)) (ds := [10]) #[false, false, false, false, false, false, false, false, false, false, false] (by kernel_rfl) rfl rfl ⟨hc4, hq1⟩ (fun hHeld => ?_)
    refine pure_ (i := 0) (N := some 32) (v := ?_) (a' := ?_) #[true, false, false, false, false, false, false, false, false, false, false] rfl rfl (by kernel_rfl) (fun _ _ _ h => h) (Or.inl ⟨by rfl, ?_⟩) ?_ ?_
    rotate_left
    · intro w'
      go_simp
      with_reducible rfl
    rotate_left
    · simp only [Act.put, List.setIfInBounds_toArray, List.set_cons_zero, List.set_cons_succ, i64_w, i32_w]
      rfl
    refine pure_ (i := 1) (N := some 33) (v := ?_) (a' := ?_) #[true, true, false, false, false, false, false, false, false, false, false] rfl rfl (by kernel_rfl) (fun _ _ _ h => h) (Or.inl ⟨by rfl, ?_⟩) ?_ ?_
    rotate_left
    · intro w'
      go_simp
      with_reducible rfl
    rotate_left
    · simp only [Act.put, List.setIfInBounds_toArray, List.set_cons_zero, List.set_cons_succ, i64_w, i32_w]
      rfl
    refine pure_ (i := 2) (N := some 34) (v := ?_) (a' := ?_) #[true, true, true, false, false, false, false, false, false, false, false] rfl rfl (by kernel_rfl) (fun _ _ _ h => h) (Or.inl ⟨by rfl, ?_⟩) ?_ ?_
    rotate_left
    · intro w'
      go_simp
      with_reducible rfl
    rotate_left
    · simp only [Act.put, List.setIfInBounds_toArray, List.set_cons_zero, List.set_cons_succ, i64_w, i32_w]
      rfl
    refine pure_ (i := 3) (N := some 35) (v := ?_) (a' := ?_) #[true, true, true, true, false, false, false, false, false, false, false] rfl rfl (by kernel_rfl) (fun _ _ _ h => h) (Or.inl ⟨by rfl, ?_⟩) ?_ ?_
    rotate_left
    · intro w'
      go_simp
      with_reducible rfl
    rotate_left
    · simp only [Act.put, List.setIfInBounds_toArray, List.set_cons_zero, List.set_cons_succ, i64_w, i32_w]
      rfl
    refine pure_ (i := 5) (N := some 37) (v := ?_) (a' := ?_) #[true, true, true, true, false, true, false, false, false, false, false] rfl rfl (by kernel_rfl) (fun _ _ _ h => h) (Or.inl ⟨by rfl, ?_⟩) ?_ ?_
    rotate_left
    · intro w'
      go_simp
      with_reducible rfl
    rotate_left
    · simp only [Act.put, List.setIfInBounds_toArray, List.set_cons_zero, List.set_cons_succ, i64_w, i32_w]
      rfl
    refine take_ (i := 4) (N := some 36) (v := ?_) (a' := ?_) #[true, true, true, true, true, true, false, false, false, false, false] rfl rfl (by kernel_rfl) (fun _ _ _ h => h) (Or.inl ⟨by rfl, ?_⟩) hHeld ?_ ?_
    rotate_left
    · rintro w' ⟨s0, s1⟩
      go_simp
      with_reducible rfl
    rotate_left
    · simp only [Act.put, List.setIfInBounds_toArray, List.set_cons_zero, List.set_cons_succ, i64_w, i32_w]
      rfl
    refine take_ (i := 6) (N := some 38) (v := ?_) (a' := ?_) #[true, true, true, true, true, true, true, false, false, false, false] rfl rfl (by kernel_rfl) (fun _ _ _ h => h) (Or.inl ⟨by rfl, ?_⟩) hHeld ?_ ?_
    rotate_left
    · rintro w' ⟨s0, s1⟩
      go_simp
      with_reducible rfl
    rotate_left
    · simp only [Act.put, List.setIfInBounds_toArray, List.set_cons_zero, List.set_cons_succ, i64_w, i32_w]
      rfl
    refine pure_ (i := 7) (N := some 39) (v := ?_) (a' := ?_) #[true, true, true, true, true, true, true, true, false, false, false] rfl rfl (by kernel_rfl) (fun _ _ _ h => h) (Or.inl ⟨by rfl, ?_⟩) ?_ ?_
    rotate_left
    · intro w'
      go_simp
      with_reducible rfl
    rotate_left
    · simp only [Act.put, List.setIfInBounds_toArray, List.set_cons_zero, List.set_cons_succ, i64_w, i32_w]
      rfl
    refine pure_ (i := 8) (N := some 40) (v := ?_) (a' := ?_) #[true, true, true, true, true, true, true, true, true, false, false] rfl rfl (by kernel_rfl) (fun _ _ _ h => h) (Or.inl ⟨by rfl, ?_⟩) ?_ ?_
    rotate_left
    · intro w'
      go_simp
      with_reducible rfl
    rotate_left
    · simp only [Act.put, List.setIfInBounds_toArray, List.set_cons_zero, List.set_cons_succ, i64_w, i32_w]
      rfl
    refine pure_ (i := 9) (N := some 41) (v := ?_) (a' := ?_) #[true, true, true, true, true, true, true, true, true, true, false] rfl rfl (by kernel_rfl) (fun _ _ _ h => h) (Or.inl ⟨by rfl, ?_⟩) ?_ ?_
    rotate_left
    · intro w'
      go_simp
      with_reducible rfl
    rotate_left
    · simp only [Act.put, List.setIfInBounds_toArray, List.set_cons_zero, List.set_cons_succ, i64_w, i32_w]
      rfl
    refine last_ (i := 10) (N := none) #[true, true, true, true, true, true, true, true, true, true, true] rfl rfl (by kernel_rfl) (by decide) (fun K hK => ?_)
    have hf4 := blk_frozen HK5.out 4
    refine skip_ (w1 := ?_) (by rfl) rfl ?_ ?_
    rotate_left
    · go_simp
      rfl
    refine hK.out _ _ ?_
    clear hK K
    refine done_ (by kernel_rfl) ?_

    obtain ⟨W6, hW6⟩ : ∃ W : World, W = (w5.setCell ⟨g, 4, none⟩ (.int .i64 (t3 + f1))).drew := ⟨_, rfl⟩
    have HK6 := Aside0.mk (show W6.heap[g]? = some (.cells #[.int .i64 a0, .int .i64 a1, .slice (some ad0) rules.length c0, .int .i64 t2, .int .i64 (t3 + f1), .slice A5 t0.length c5, .slice B5 t1.length d5', .int .i64 t4] 43 (0, 0)) from by rw [hW6]; exact blk_drew (by simpa using blk_set HK5.out 4 (.int .i64 (t3 + f1))))
    have HQ6 := Aside0.mk (show W6.heap[q]? = some (.cells #[.int .i64 f0, .int .i64 f1, .int .i64 f2] 52 (0, 0)) from by rw [hW6]; exact blk_drew (blk_far HQ5.out (Nat.ne_of_gt HGQ.out) _))
    have HR6 := Aside0.mk (show Kd.R (Kd.int .i64) 3 W6 base (fun k => S k ∧ k ≠ g) (.slice A5 t0.length c5) t0 from by rw [hW6]; exact Kd.R_drew (Kd.R_far HR5.out (fun k hk => hk.2) _))
    have HL6 := Aside0.mk (show Kd.R (Kd.int .i64) 3 W6 base (fun k => S k ∧ k ≠ g) (.slice B5 t1.length d5') t1 from by rw [hW6]; exact Kd.R_drew (Kd.R_far HL5.out (fun k hk => hk.2) _))
    have HB6 := Aside0.mk (show Below base w0 W6 from by rw [hW6]; exact below_drew (HB5.out.setCell hg _))
    have HKP6 := Aside0.mk (show Kept w W6 S from by rw [hW6]; exact Kept.drew (HKP5.out.setCell (.inl hS) _))
    rw [← hW6]
    clear hW6
    clear hc4 hq1 hHeld
    have hq2 := (blk_cell HQ6.out 2).trans rfl
    have hf3 := blk_frozen HK6.out 3
    have hc3 := (blk_cell HK6.out 3).trans rfl
    have hc7 := (blk_cell HK6.out 7).trans rfl
    have hf7 := blk_frozen HK6.out 7
    go_wp2
    go_ret
    exact ⟨rfl, ⟨hg, hS, _, _, by simpa using blk_set (blk_set HK6.out 3 (.int .i64 f2)) 7 (.int .i64 (t4 + 1)), Kd.R_far (Kd.R_far HR6.out (fun k hk => hk.2) _) (fun k hk => hk.2) _, Kd.R_far (Kd.R_far HL6.out (fun k hk => hk.2) _) (fun k hk => hk.2) _, HNE5.out⟩, (HB6.out.setCell hg _).setCell hg _, (HKP6.out.setCell (.inl hS) _).setCell (.inl hS) _⟩

end Go.Proofs.Ytngmdidegmbpfaa.PLoopEver
