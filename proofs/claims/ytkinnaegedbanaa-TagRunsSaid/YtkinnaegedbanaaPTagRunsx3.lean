-- out of a turned copy of the print, by a program of this session; Lean checks it
import Derived.Test.YtkinnaegedbanaaPTagRunsx0
import Derived.Test.YtkinnaegedbanaaPTagRunsx2
namespace Go.Proofs.Ytkinnaegedbanaa.PTagRuns
open Go.RowKit Go.Proofs.YtkinnaegedbanaaW.PrintWords Go.Proofs.YtkinnaegedbanaaW.PrintLast Go.Proofs.YtkinnaegedbanaaW.PrintMore
attribute [local go_sem] max2_int min2_int max_two min_two max_three min_three max_four min_four   -- for this text's walks alone
set_option linter.unusedVariables false
set_option linter.unusedSimpArgs false

attribute [local go_sem] isSome_put_
/-! ### tag_Run: function 13 (by hand) -/
def trun (D : Int) (rules : List (List Int)) (stops : List Bool) : Nat → List Int → Int → Option (List Int × Int × Int)
  | 0, q, i => some (q, i, 0)
  | d + 1, q, i =>
    if (q.length : Int) < D then some (q, i, 0)
    else if 0 ≤ rd q 0 ∧ rd q 0 < (stops.length : Int) then
      if rdOf false stops (rd q 0) = true then some (q, i, 0)
      else if rd q 0 < (rules.length : Int) ∧ (rd_L1 rules (rd q 0)).length ≤ 1048576 then
        if (((q ++ rd_L1 rules (rd q 0)).drop D.toNat).length : Int) > 100000 then some ([], 0, 4)
        else trun D rules stops d ((q ++ rd_L1 rules (rd q 0)).drop D.toNat) (i + 1)
      else none
    else none
def tag_Run.f (k : Nat) (a0_0 : Int) (l0_1 : List (List Int)) (l0_2 : List Bool) (l1 : List Int) (a2 : Int) : Option (List Int × Int × Int) :=
  (tag_Fits.f k a0_0 l0_1 l0_2 l1).bind fun b => if b = true then (if a2 < 0 then some ([], 0, 2) else if a2 > 1000000 then some ([], 0, 2) else if l1.length ≤ 1073741824 ∧ 1 ≤ a0_0 ∧ a0_0 ≤ 1048576 then trun a0_0 l0_1 l0_2 a2.toNat l1 0 else none) else some ([], 0, 1)
theorem tag_Run.mono : ∀ a0 a1 a2 a3 a4 k, LeO (tag_Run.f k a0 a1 a2 a3 a4) (tag_Run.f (k + 1) a0 a1 a2 a3 a4) := by
  intro a0 a1 a2 a3 a4 k
  unfold tag_Run.f
  exact LeO.bind (tag_Fits.mono _ _ _ _ _) (fun _ => LeO.refl _)
set_option maxHeartbeats 4000000 in
set_option maxRecDepth 100000 in
theorem tag_Run.calls (k : Nat) (a0_0 : Int) (A0_1 : Option Addr) (c0_1 : Nat) (l0_1 : List (List Int)) (A0_2 : Option Addr) (c0_2 : Nat) (l0_2 : List Bool) (A1 : Option Addr) (c1 : Nat) (l1 : List Int) (a2 : Int) (r1 : List Int) (r2 : Int) (r3 : Int) (w : World) (hr0_1 : Kd.C (Kd.slice 3 (Kd.int .i64)) w A0_1 l0_1.length l0_1) (hc0_1 : l0_1.length ≤ c0_1) (hr0_2 : Kd.C Kd.bool w A0_2 l0_2.length l0_2) (hc0_2 : l0_2.length ≤ c0_2) (hr1 : Kd.C (Kd.int .i64) w A1 l1.length l1) (hc1 : l1.length ≤ c1) (h : tag_Run.f k a0_0 l0_1 l0_2 l1 a2 = some (r1, r2, r3)) :
    Calls Try.prog 13 #[.agg #[.int .i64 a0_0, .slice A0_1 l0_1.length c0_1, .slice A0_2 l0_2.length c0_2], .slice A1 l1.length c1, .int .i64 a2] w fun e w' => ∃ v0_ : Value, e = .returned (.tuple #[v0_, .int .i64 r2, .int .i64 r3]) ∧ Kd.R (Kd.int .i64) 3 w' w.heap.size (fun _ => True) v0_ r1 ∧ Below w.heap.size w w' := by
  have hu25 := Try.underlying25
  have hu75 := Try.underlying75
  have HR0_1 := Aside0.mk hr0_1
  have HC0_1 := Aside0.mk hc0_1
  have HR0_2 := Aside0.mk hr0_2
  have HC0_2 := Aside0.mk hc0_2
  have HR1 := Aside0.mk hr1
  have HC1 := Aside0.mk hc1
  clear hr0_1 hc0_1 hr0_2 hc0_2 hr1 hc1
  unfold tag_Run.f at h
  obtain ⟨b, hb, h⟩ := Option.bind_eq_some_iff.1 h
  have hF : ∀ W : World, Below w.heap.size w W → Calls Try.prog 17 #[.agg #[.int .i64 a0_0, .slice A0_1 l0_1.length c0_1, .slice A0_2 l0_2.length c0_2], .slice A1 l1.length c1] W fun e w' => e = .returned (.bool b) ∧ Below W.heap.size W w' := fun W hW => tag_Fits.calls k a0_0 A0_1 c0_1 l0_1 A0_2 c0_2 l0_2 A1 c1 l1 b W (Kd.C_below HR0_1.out hW) HC0_1.out (Kd.C_below HR0_2.out hW) HC0_2.out (Kd.C_below HR1.out hW) HC1.out hb
  have HF := Aside0.mk hF
  have H := Aside0.mk h
  clear h hF hb
  clear h
  go_enter Try.func13, Try.ntmps13
  go_wp2_with fail
  obtain ⟨W1, hW1⟩ : ∃ W1 : World, W1 = w.alloc (.cells #[.int .i64 a0_0, .slice A0_1 l0_1.length c0_1, .slice A0_2 l0_2.length c0_2] 25) := ⟨_, rfl⟩
  have hBW1 : Below w.heap.size w W1 := by rw [hW1]; exact below_alloc (Below.refl _ _) _
  have hb4 : W1.heap[w.heap.size]? = some (.cells #[.int .i64 a0_0, .slice A0_1 l0_1.length c0_1, .slice A0_2 l0_2.length c0_2] 25 (0, 0)) := by rw [hW1]; exact blk_new _ _
  rw [← hW1]
  clear hW1
  refine (HF.out _ hBW1).mono ?_
  rintro e w2 ⟨rfl, hB2⟩
  have HB := Aside0.mk (below_step hBW1 hB2)
  have HB4 := Aside0.mk (blk_below hb4 hB2)
  clear hb4 hBW1 hB2 HF
  have hz40 := (blk_cell HB4.out 0).trans rfl
  have hz41 := (blk_cell HB4.out 1).trans rfl
  have hz42 := (blk_cell HB4.out 2).trans rfl
  cases b with
  | false =>
    have h := H.out
    rw [if_neg (by simp)] at h
    simp only [Option.some.injEq, Prod.mk.injEq] at h
    obtain ⟨rfl, rfl, rfl⟩ := h
    clear H
    go_wp2
    refine bodyPost_ret (results_list (rs := [.tmp 6, .tmp 7, .tmp 8]) (vs := [.slice none 0 0, .int .i64 0, .int .i64 1]) rfl (by simp) (Vals.tmp (Vals.tmp (Vals.tmp Vals.nil)))) rfl ?_
    exact ⟨_, rfl, Kd.R_nil _ _ _ _ _, HB.out⟩
  | true =>
    replace H := Aside0.mk ((if_pos rfl).symm.trans H.out)
    by_cases hn0 : a2 < 0
    · have h := H.out
      rw [if_pos hn0] at h
      simp only [Option.some.injEq, Prod.mk.injEq] at h
      obtain ⟨rfl, rfl, rfl⟩ := h
      clear H
      go_wp2
      refine bodyPost_ret (results_list (rs := [.tmp 6, .tmp 7, .tmp 8]) (vs := [.slice none 0 0, .int .i64 0, .int .i64 2]) rfl (by simp) (Vals.tmp (Vals.tmp (Vals.tmp Vals.nil)))) rfl ?_
      exact ⟨_, rfl, Kd.R_nil _ _ _ _ _, HB.out⟩
    · replace H := Aside0.mk ((if_neg hn0).symm.trans H.out)
      by_cases hn1 : a2 > 1000000
      · have h := H.out
        rw [if_pos hn1] at h
        simp only [Option.some.injEq, Prod.mk.injEq] at h
        obtain ⟨rfl, rfl, rfl⟩ := h
        clear H
        go_wp2
        refine bodyPost_ret (results_list (rs := [.tmp 6, .tmp 7, .tmp 8]) (vs := [.slice none 0 0, .int .i64 0, .int .i64 2]) rfl (by simp) (Vals.tmp (Vals.tmp (Vals.tmp Vals.nil)))) rfl ?_
        exact ⟨_, rfl, Kd.R_nil _ _ _ _ _, HB.out⟩
      · replace H := Aside0.mk ((if_neg hn1).symm.trans H.out)
        by_cases hch : l1.length ≤ 1073741824 ∧ 1 ≤ a0_0 ∧ a0_0 ≤ 1048576
        rotate_left
        · have h := H.out
          rw [if_neg hch] at h
          cases h
        replace H := Aside0.mk ((if_pos hch).symm.trans H.out)
        obtain ⟨hL0, hD0, hD1⟩ := hch
        have HCL := Aside0.mk (slices_Clone_int_int.calls A1 c1 l1 l1 w2 (Kd.C_below HR1.out HB.out) HC1.out (by unfold slices_Clone_int_int.f; rw [if_pos (by omega)]))
        go_wp2_with (first | (go_at_call 43; refine HCL.out.mono ?_; rintro e w3 ⟨v0, rfl, hR3, hB3⟩; obtain ⟨A9, c9, rfl⟩ := Kd.R_slice hR3))
        have HB' := Aside0.mk (below_alloc (below_step HB.out hB3) (.cells #[.slice A9 l1.length c9, .int .i64 0] 75))
        have HB4' := Aside0.mk (blk_alloc (blk_below HB4.out hB3) (.cells #[.slice A9 l1.length c9, .int .i64 0] 75))
        have HK := Aside0.mk (blk_new w3 (.cells #[.slice A9 l1.length c9, .int .i64 0] 75))
        have HR := Aside0.mk (Kd.R_lower (base' := w.heap.size) (Kd.R_alloc (Kd.R_of_own (h1 := fun _ => rfl) (ok := fun k => k ≠ w3.heap.size) (Kd.own_of_R hR3) (fun k hk => Nat.ne_of_lt (Kd.R_lt hR3 k hk))) (.cells #[.slice A9 l1.length c9, .int .i64 0] 75)) (below_size HB.out))
        have hG : w.heap.size ≤ w3.heap.size := Nat.le_trans (below_size HB.out) hB3.size
        obtain ⟨W4, hW4⟩ : ∃ W : World, W = w3.alloc (.cells #[.slice A9 l1.length c9, .int .i64 0] 75) := ⟨_, rfl⟩
        rw [← hW4] at HB' HB4' HK HR
        rw [← hW4]
        clear hW4 hR3 HCL HB4 HB hz40 hz41 hz42
        obtain ⟨g9, hg9⟩ : ∃ g, g = w3.heap.size := ⟨_, rfl⟩
        rw [← hg9] at HK HR hG ⊢
        clear hg9 hB3
        go_loopg [26] (a2.toNat) (fun kq v26 w' => ∃ (i : Int) (q l : List Int) (v : Value) (m : Nat), v26 = .int .i64 i ∧ Aside0 (0 ≤ i ∧ i ≤ a2 ∧ (a2 - i).toNat = kq) ∧ Aside0 (trun a0_0 l0_1 l0_2 kq q i = some (r1, r2, r3)) ∧ Aside0 (w'.heap[g9]? = some (.cells #[v, .int .i64 (m : Int)] 75 (0, 0))) ∧ Aside0 (Kd.R (Kd.int .i64) 3 w' w.heap.size (fun k => k ≠ g9) v l) ∧ Aside0 (l.drop m = q ∧ m ≤ l.length ∧ (l.length : Int) ≤ 1073741824 + i * 1048576) ∧ Aside0 (w'.heap[w.heap.size]? = some (.cells #[.int .i64 a0_0, .slice A0_1 l0_1.length c0_1, .slice A0_2 l0_2.length c0_2] 25 (0, 0))) ∧ Aside0 (Below w.heap.size w w'))
        case atStart => exact ⟨0, l1, l1, _, 0, rfl, ⟨by omega, by omega, by omega⟩, H, HK, HR, ⟨rfl, by omega, by omega⟩, HB4', HB'⟩
        case round =>
          clear H HK HR HB4' HB'
          obtain ⟨i, q, l, v, m, rfl, HI, H, HK, HR, HQ, HB4, HB⟩ := hrel
          obtain ⟨hi0, hi1, hi2⟩ := HI.out
          obtain ⟨hq, hm, hll⟩ := HQ.out
          have hl44 : l.length < 17592186044416 := by omega
          obtain ⟨A9, c9, rfl⟩ := Kd.R_slice HR.out
          have hRD := Kd.R_reads' HR.out
          cases gk with
          | zero =>
            have hin : i = a2 := by omega
            subst hin
            have h := H.out
            simp only [trun, Option.some.injEq, Prod.mk.injEq] at h
            obtain ⟨rfl, rfl, rfl⟩ := h
            clear H
            have HCL := Aside0.mk (q_list wr g9 A9 c9 m l HK.out hRD.2.1 hRD.2.2 hm hl44)
            go_wp2_with (first | (go_at_call 46; refine HCL.out.mono ?_; rintro e w3 ⟨v0, rfl, hR3, hB3⟩; obtain ⟨A8, c8, rfl⟩ := Kd.R_slice hR3))
            rw [hq] at hR3
            refine bodyPost_ret (results_list (rs := [.tmp 6, .tmp 7, .tmp 8]) (vs := [.slice A8 q.length c8, .int .i64 i, .int .i64 0]) rfl (by simp) (Vals.tmp (Vals.tmp (Vals.tmp Vals.nil)))) rfl ?_
            exact ⟨_, rfl, Kd.R_lower hR3 (below_size HB.out), below_step HB.out hB3⟩
          | succ d =>
            have hin : i < a2 := by omega
            have h := H.out
            simp only [trun] at h
            have hz40 := (blk_cell HB4.out 0).trans rfl
            have hz41 := (blk_cell HB4.out 1).trans rfl
            have hz42 := (blk_cell HB4.out 2).trans rfl
            have hql : wrap64 ((l.length : Int) - (m : Int)) = (q.length : Int) := by rw [← hq, List.length_drop]; unfold wrap64; omega
            have HSZ : Aside0 (∀ n, Calls Try.prog 44 #[.pointer (some ⟨g9, 0, none⟩)] (wr.drewN n) fun e w' => e = .returned (.int .i64 (q.length : Int)) ∧ ∃ m, w' = wr.drewN m) := ⟨fun n => Calls.quiet_of (by have := q_size (wr.drewN n) g9 A9 l.length c9 m HK.out; rwa [hql] at this)⟩
            clear hql
            go_wp2
            by_cases hlt : (q.length : Int) < a0_0
            · rw [if_pos hlt] at h
              simp only [Option.some.injEq, Prod.mk.injEq] at h
              obtain ⟨rfl, rfl, rfl⟩ := h
              clear H
              replace hlt := eq_true hlt
              go_quiet (first | (go_at_call 44; exact HSZ.out _))
              have HCL := Aside0.mk (q_list (wr.drewN nq) g9 A9 c9 m l HK.out hRD.2.1 hRD.2.2 hm hl44)
              go_wp2_with (first | (go_at_call 46; refine HCL.out.mono ?_; rintro e w3 ⟨v0, rfl, hR3, hB3⟩; obtain ⟨A8, c8, rfl⟩ := Kd.R_slice hR3))
              rw [hq] at hR3
              refine bodyPost_ret (results_list (rs := [.tmp 6, .tmp 7, .tmp 8]) (vs := [.slice A8 q.length c8, .int .i64 i, .int .i64 0]) rfl (by simp) (Vals.tmp (Vals.tmp (Vals.tmp Vals.nil)))) rfl ?_
              exact ⟨_, rfl, Kd.R_lower hR3 (below_size (pw_below_drewN HB.out nq)), below_step (pw_below_drewN HB.out nq) hB3⟩
            · rw [if_neg hlt] at h
              by_cases hx : 0 ≤ rd q 0 ∧ rd q 0 < (l0_2.length : Int)
              rotate_left
              · rw [if_neg hx] at h; cases h
              rw [if_pos hx] at h
              obtain ⟨hx0, hx1⟩ := hx
              have hqp : 0 < q.length := by omega
              have hm1 : (m : Int) < (l.length : Int) := by have := congrArg List.length hq; rw [List.length_drop] at this; omega
              have hfx : rd l (m : Int) = rd q 0 := by rw [rd_drop0, hq]
              have HFS : Aside0 (∀ n, Calls Try.prog 45 #[.pointer (some ⟨g9, 0, none⟩)] (wr.drewN n) fun e w' => e = .returned (.int .i64 (rd q 0)) ∧ ∃ m, w' = wr.drewN m) := ⟨fun n => Calls.quiet_of (by have := q_first (wr.drewN n) g9 A9 l.length c9 m l rfl HK.out hRD.2.2 (by omega) hm1; rwa [hfx] at this)⟩
              clear hfx
              obtain ⟨x, hxx⟩ : ∃ x, x = rd q 0 := ⟨_, rfl⟩
              rw [← hxx] at HFS hx0 hx1 h
              have HXX := Aside0.mk hxx
              clear hxx
              obtain ⟨ads, es, hxs⟩ := Kd.at_bool HR0_2.out x hx0 hx1
              cases es
              have hxs0 := hxs
              replace hxs := (HB.out.cell (World.block_lt_of_cell? w _ hxs)).trans hxs
              have hltb : decide ((q.length : Int) < a0_0) = false := decide_eq_false hlt
              clear hlt
              replace hx0 := eq_true hx0
              replace hx1 := eq_true hx1
              by_cases hst : rdOf false l0_2 x = true
              · rw [if_pos hst] at h
                simp only [Option.some.injEq, Prod.mk.injEq] at h
                obtain ⟨rfl, rfl, rfl⟩ := h
                clear H
                rw [hst] at hxs
                go_quiet (first | (go_at_call 44; exact HSZ.out _) | (go_at_call 45; exact HFS.out _))
                have HCL := Aside0.mk (q_list (wr.drewN nq) g9 A9 c9 m l HK.out hRD.2.1 hRD.2.2 hm hl44)
                go_wp2_with (first | (go_at_call 46; refine HCL.out.mono ?_; rintro e w3 ⟨v0, rfl, hR3, hB3⟩; obtain ⟨A8, c8, rfl⟩ := Kd.R_slice hR3))
                rw [hq] at hR3
                refine bodyPost_ret (results_list (rs := [.tmp 6, .tmp 7, .tmp 8]) (vs := [.slice A8 q.length c8, .int .i64 i, .int .i64 0]) rfl (by simp) (Vals.tmp (Vals.tmp (Vals.tmp Vals.nil)))) rfl ?_
                exact ⟨_, rfl, Kd.R_lower hR3 (below_size (pw_below_drewN HB.out nq)), below_step (pw_below_drewN HB.out nq) hB3⟩
              · rw [if_neg hst] at h
                have hsf : rdOf false l0_2 x = false := Bool.eq_false_iff.2 hst
                rw [hsf] at hxs
                go_quiet (first | (go_at_call 44; exact HSZ.out _) | (go_at_call 45; exact HFS.out _))
                go_wp2
                by_cases hru : x < (l0_1.length : Int) ∧ (rd_L1 l0_1 x).length ≤ 1048576
                rotate_left
                · rw [if_neg hru] at h; cases h
                rw [if_pos hru] at h
                obtain ⟨hr0, hr1⟩ := hru
                obtain ⟨adr, Ar, cr, er, hxr, hcr, hrr⟩ := at_L1 HR0_1.out x (of_eq_true hx0) hr0
                cases er
                replace hxr := (HB.out.cell (World.block_lt_of_cell? w _ hxr)).trans hxr
                have hys := rd_L1 l0_1 x
                have hll2 : (l.length + (rd_L1 l0_1 x).length) * 8 ≤ 140737488355328 := by omega
                have HFS5 : Aside0 (Calls Try.prog 45 #[.pointer (some ⟨g9, 0, none⟩)] (wr.drewN nq).drew fun e w' => e = .returned (.int .i64 x) ∧ ∃ m, w' = (wr.drewN nq).drew.drewN m) := ⟨by
                  have := q_first (wr.drewN nq).drew g9 A9 l.length c9 m l rfl HK.out hRD.2.2 (by omega) hm1
                  rwa [rd_drop0, hq, ← HXX.out] at this⟩
                have HPU : Aside0 (∀ m5, Calls Try.prog 47 #[.pointer (some ⟨g9, 0, none⟩), .slice Ar (rd_L1 l0_1 x).length cr] ((wr.drewN nq).drew.drewN m5) fun e w' => e = .returned (.tuple #[]) ∧ ∃ v', w'.heap[g9]? = some (.cells #[v', .int .i64 (m : Int)] 75 (0, 0)) ∧ Kd.R (Kd.int .i64) 3 w' w.heap.size (fun k => k ≠ g9) v' (l ++ rd_L1 l0_1 x) ∧ Below w.heap.size w w' ∧ (∀ k o, wr.heap[k]? = some o → k ≠ g9 → some k ≠ (Value.slice A9 l.length c9).ownBlock → w'.heap[k]? = some o)) := ⟨fun m5 => q_push w ((wr.drewN nq).drew.drewN m5) w.heap.size g9 _ l m Ar (rd_L1 l0_1 x) cr HK.out HR.out (Kd.C_below hrr (pw_below_drewN (below_drew (pw_below_drewN HB.out nq)) m5)) (pw_below_drewN (below_drew (pw_below_drewN HB.out nq)) m5) hG (below_size (pw_below_drewN (below_drew (pw_below_drewN HB.out nq)) m5)) hll2⟩
                have hne4 : some w.heap.size ≠ (Value.slice A9 l.length c9).ownBlock := Kd.R_ne HR.out HB4.out (by decide)
                have hng4 : w.heap.size ≠ g9 := blk_ne HB4.out HK.out (by decide)
                replace hr0 := eq_true hr0
                have HH := Aside0.mk h
                clear h hys H
                refine start_ (n := 8) (S := fun w' => w'.cell? ⟨w.heap.size, 1, none⟩ = some (.slice (some adr) l0_1.length c0_1) ∧ w'.cell? (adr.add x.toNat) = some (.slice Ar (rd_L1 l0_1 x).length cr)) (ds := [7]) #[false, false, false, false, false, false, false, false] (by kernel_rfl) rfl rfl ⟨hz41, hxr⟩ (fun hHeld => ?_)
                refine pure_ (i := 0) (N := some 45) (v := ?_) (a' := ?_) #[true, false, false, false, false, false, false, false] rfl rfl (by kernel_rfl) (fun _ _ _ h => h) (Or.inl ⟨by rfl, ?_⟩) ?_ ?_
                rotate_left
                ·intro w'
                 go_simp
                 with_reducible rfl
                rotate_left
                ·simp only [Act.put, sa_, sz_, ss_, i64_w, i32_w]
                 rfl
                refine pure_ (i := 1) (N := some 46) (v := ?_) (a' := ?_) #[true, true, false, false, false, false, false, false] rfl rfl (by kernel_rfl) (fun _ _ _ h => h) (Or.inl ⟨by rfl, ?_⟩) ?_ ?_
                rotate_left
                ·intro w'
                 go_simp
                 with_reducible rfl
                rotate_left
                ·simp only [Act.put, sa_, sz_, ss_, i64_w, i32_w]
                 rfl
                refine take_ (i := 2) (N := some 47) (v := ?_) (a' := ?_) #[true, true, true, false, false, false, false, false] rfl rfl (by kernel_rfl) (fun _ _ _ h => h) (Or.inl ⟨by rfl, ?_⟩) hHeld ?_ ?_
                rotate_left
                ·rintro w' ⟨s0, s1⟩
                 go_simp
                 with_reducible rfl
                rotate_left
                ·simp only [Act.put, sa_, sz_, ss_, i64_w, i32_w]
                 rfl
                refine pure_ (i := 3) (N := some 48) (v := ?_) (a' := ?_) #[true, true, true, true, false, false, false, false] rfl rfl (by kernel_rfl) (fun _ _ _ h => h) (Or.inl ⟨by rfl, ?_⟩) ?_ ?_
                rotate_left
                ·intro w'
                 go_simp
                 with_reducible rfl
                rotate_left
                ·simp only [Act.put, sa_, sz_, ss_, i64_w, i32_w]
                 rfl
                refine one_ (i := 4) (N := some 49) #[true, true, true, true, true, false, false, false] rfl rfl (by kernel_rfl) (by decide) (fun K hK => ?_)
                refine goes_ Try.func45 (by kernel_rfl) rfl #[.pointer (some ⟨g9, 0, none⟩)] (by rfl) rfl rfl (by first | rfl | (simp only [List.map_toArray, List.map_cons, List.map_nil]; rfl) | (simp [Act.eval]; done)) ?_
                refine (HFS5.out).mono ?_
                rintro e5 w5 ⟨rfl, m5, rfl⟩
                refine ⟨_, rfl, ?_⟩
                refine hK.out _ _ hHeld (fun hHeld => ?_)
                clear hK K
                refine norm_ (a' := ?_) ?_ ?_
                rotate_left
                ·show Act.put _ (some 49) _ = _
                 simp only [Act.put, sa_, sz_, ss_, i64_w, i32_w]
                 rfl
                refine pure_ (i := 5) (N := some 50) (v := ?_) (a' := ?_) #[true, true, true, true, true, true, false, false] rfl rfl (by kernel_rfl) (fun _ _ _ h => h) (Or.inl ⟨by rfl, ?_⟩) ?_ ?_
                rotate_left
                ·intro w'
                 go_simp
                 with_reducible rfl
                rotate_left
                ·simp only [Act.put, sa_, sz_, ss_, i64_w, i32_w]
                 rfl
                refine take_ (i := 6) (N := some 51) (v := ?_) (a' := ?_) #[true, true, true, true, true, true, true, false] rfl rfl (by kernel_rfl) (fun _ _ _ h => h) (Or.inl ⟨by rfl, ?_⟩) hHeld ?_ ?_
                rotate_left
                ·rintro w' ⟨s0, s1⟩
                 go_simp
                 with_reducible rfl
                rotate_left
                ·simp only [Act.put, sa_, sz_, ss_, i64_w, i32_w]
                 rfl
                refine last_ (i := 7) (N := some 52) #[true, true, true, true, true, true, true, true] rfl rfl (by kernel_rfl) (by decide) (fun K hK => ?_)
                refine goes_ Try.func47 (by kernel_rfl) rfl #[.pointer (some ⟨g9, 0, none⟩), .slice Ar (rd_L1 l0_1 x).length cr] (by rfl) rfl rfl (by first | rfl | (simp only [List.map_toArray, List.map_cons, List.map_nil]; rfl) | (simp [Act.eval]; done)) ?_
                refine (HPU.out m5).mono ?_
                rintro e6 w6 ⟨rfl, v6, hK6, hR6, hB6, hk6⟩
                refine ⟨_, rfl, ?_⟩
                refine hK.out _ _ ?_
                clear hK K
                refine norm_ (a' := ?_) ?_ ?_
                rotate_left
                ·show Act.put _ (some 52) _ = _
                 simp only [Act.put, sa_, sz_, ss_, i64_w, i32_w]
                 rfl
                refine done_ (by kernel_rfl) ?_
                have HB46 := Aside0.mk (hk6 _ _ HB4.out hng4 hne4)
                have hz60 := (blk_cell HB46.out 0).trans rfl
                have hqa : (l ++ rd_L1 l0_1 x).drop (m + a0_0.toNat) = (q ++ rd_L1 l0_1 x).drop a0_0.toNat := by
                  rw [← List.drop_drop, List.drop_append_of_le_length hm, hq]
                obtain ⟨q', hq'⟩ : ∃ q', q' = (q ++ rd_L1 l0_1 x).drop a0_0.toNat := ⟨_, rfl⟩
                rw [← hq'] at hqa
                have hh := HH.out
                rw [← hq'] at hh
                clear HH
                have hlq : l.length = m + q.length := by rw [← hq, List.length_drop]; omega
                have hla : (l ++ rd_L1 l0_1 x).length = l.length + (rd_L1 l0_1 x).length := List.length_append
                have hDq : ¬ (q.length : Int) < a0_0 := of_decide_eq_false hltb
                have HDR0 := q_drop w w6 w.heap.size g9 v6 (l ++ rd_L1 l0_1 x) m a0_0.toNat hK6 hR6 hB6 hG (below_size hB6) (by omega) (by omega)
                rw [Int.toNat_of_nonneg (show 0 ≤ a0_0 by omega)] at HDR0
                have HDR := Aside0.mk HDR0
                clear HDR0
                clear hk6 hK6 hR6 hB6 HPU HFS5 HFS HSZ
                clear hq'
                by_cases hbig : (q'.length : Int) > 100000
                · rw [if_pos hbig] at hh
                  simp only [Option.some.injEq, Prod.mk.injEq] at hh
                  obtain ⟨rfl, rfl, rfl⟩ := hh
                  go_wp2_with (first | (go_at_call 48; refine HDR.out.mono ?_; rintro e7 w7 ⟨rfl, v7, l7, m7, hK7, hR7, hq7, hm7, hl7, hB7, hk7⟩; obtain ⟨A7, c7, rfl⟩ := Kd.R_slice hR7; have HK7 := Aside0.mk hK7; have HR7 := Aside0.mk hR7; have HB7 := Aside0.mk hB7; have HB47 := Aside0.mk (hk7 _ _ HB46.out hng4); clear hK7 hR7 hB7 hk7; rw [hqa] at hq7; have hql7 : wrap64 ((l7.length : Int) - (m7 : Int)) = (q'.length : Int) := (by rw [← hq7, List.length_drop]; unfold wrap64; omega); have HSZ7 := Aside0.mk (q_size w7 g9 A7 l7.length c7 m7 HK7.out); rw [hql7] at HSZ7; clear hql7) | (go_at_call 44; refine HSZ7.out.mono ?_; rintro e8 w8 ⟨rfl, m8, rfl⟩))
                  refine bodyPost_ret (results_list (rs := [.tmp 6, .tmp 7, .tmp 8]) (vs := [.slice none 0 0, .int .i64 0, .int .i64 4]) rfl (by simp) (Vals.tmp (Vals.tmp (Vals.tmp Vals.nil)))) rfl ?_
                  exact ⟨_, rfl, Kd.R_nil _ _ _ _ _, pw_below_drewN HB7.out m8⟩
                · rw [if_neg hbig] at hh
                  go_wp2_with (first | (go_at_call 48; refine HDR.out.mono ?_; rintro e7 w7 ⟨rfl, v7, l7, m7, hK7, hR7, hq7, hm7, hl7, hB7, hk7⟩; obtain ⟨A7, c7, rfl⟩ := Kd.R_slice hR7; have HK7 := Aside0.mk hK7; have HR7 := Aside0.mk hR7; have HB7 := Aside0.mk hB7; have HB47 := Aside0.mk (hk7 _ _ HB46.out hng4); clear hK7 hR7 hB7 hk7; rw [hqa] at hq7; have hql7 : wrap64 ((l7.length : Int) - (m7 : Int)) = (q'.length : Int) := (by rw [← hq7, List.length_drop]; unfold wrap64; omega); have HSZ7 := Aside0.mk (q_size w7 g9 A7 l7.length c7 m7 HK7.out); rw [hql7] at HSZ7; clear hql7) | (go_at_call 44; refine HSZ7.out.mono ?_; rintro e8 w8 ⟨rfl, m8, rfl⟩))
                  go_roundg d
                  case measure => omega
                  case rel => exact ⟨i + 1, q', l7, _, m7, rfl, ⟨by omega, by omega, by omega⟩, ⟨hh⟩, ⟨HK7.out⟩, ⟨HR7.out⟩, ⟨hq7, hm7, by omega⟩, ⟨HB47.out⟩, ⟨pw_below_drewN HB7.out m8⟩⟩

/-! ### standstillref07_Same: function 14 -/
def standstillref07_Same.l0 : Nat → List Int → List Int → Int → Option (Bool)
 | 0, _, _, _ => none
 | k + 1, x0, x1, x5 => if x5 < (x0.length : Int) then (if 0 ≤ x5 then (if x5 < (x1.length : Int) then (if (rd x0 x5) = (rd x1 x5) then (standstillref07_Same.l0 k x0 x1 (wrap64 (x5 + 1))) else (some false)) else (none)) else (none)) else (some true)
def standstillref07_Same.f (k : Nat) (l0 : List Int) (l1 : List Int) : Option (Bool) := if (l0.length : Int) = (l1.length : Int) then (standstillref07_Same.l0 k l0 l1 0) else (some false)
theorem standstillref07_Same.mono_l : ∀ k, (∀ y0 y1 y2, LeO (standstillref07_Same.l0 k y0 y1 y2) (standstillref07_Same.l0 (k + 1) y0 y1 y2))
 | 0 => fun _ _ _ r h => by simp [standstillref07_Same.l0] at h
 | k + 1 => by
  have ih0 := standstillref07_Same.mono_l k
  ·intro y0 y1 y2
   unfold standstillref07_Same.l0
   repeat' first
   | (with_reducible exact ih0 _ _ _)
   | (with_reducible exact LeO.refl _)
   | (with_reducible exact LeO.none _)
   | (with_reducible refine LeO.ite ?_ ?_)
   | (with_reducible refine LeO.bind ?_ (fun _ => ?_))
   | exact ih0 _ _ _
   | exact LeO.none _
   | refine LeO.ite ?_ ?_
   | refine LeO.bind ?_ (fun _ => ?_)
theorem standstillref07_Same.mono : ∀ a0 a1 k, LeO (standstillref07_Same.f k a0 a1) (standstillref07_Same.f (k + 1) a0 a1) := by
 intro a0 a1 k
 have ih0 := standstillref07_Same.mono_l k
 unfold standstillref07_Same.f
 repeat' first
   | (with_reducible exact ih0 _ _ _)
   | (with_reducible exact LeO.refl _)
   | (with_reducible exact LeO.none _)
   | (with_reducible refine LeO.ite ?_ ?_)
   | (with_reducible refine LeO.bind ?_ (fun _ => ?_))
   | exact ih0 _ _ _
   | exact LeO.none _
   | refine LeO.ite ?_ ?_
   | refine LeO.bind ?_ (fun _ => ?_)
set_option maxHeartbeats 8000000 in
set_option maxRecDepth 100000 in
theorem standstillref07_Same.calls (k : Nat) (A0 : Option Addr) (c0 : Nat) (l0 : List Int) (A1 : Option Addr) (c1 : Nat) (l1 : List Int) (r : Bool) (w : World) (hr0 : Kd.C (Kd.int .i64) w A0 l0.length l0) (hc0 : l0.length ≤ c0) (hr1 : Kd.C (Kd.int .i64) w A1 l1.length l1) (hc1 : l1.length ≤ c1) (h : standstillref07_Same.f k l0 l1 = some r) :
  Calls Try.prog 14 #[.slice A0 l0.length c0, .slice A1 l1.length c1] w fun e w' => e = .returned (.bool r) ∧ Drawn0 w w' := by
 have HR0 := Aside0.mk hr0
 have HC0 := Aside0.mk hc0
 clear hr0 hc0
 have HR1 := Aside0.mk hr1
 have HC1 := Aside0.mk hc1
 clear hr1 hc1
 have H : (if (l0.length : Int) = (l1.length : Int) then (standstillref07_Same.l0 k l0 l1 0) else (some false)) = some r := h
 clear h
 by_cases c3 : (l0.length : Int) = (l1.length : Int)
 ·rw [if_pos c3] at H
  have c3b0 : ((l0.length : Int) == (l1.length : Int)) = true := beq_iff_eq.mpr c3
  have c3b1 : ((l0.length : Int) != (l1.length : Int)) = false := bne_eq_false_iff_eq.mpr c3
  have c3b2 : (l0.length == l1.length) = true := by first | simpa using c3 | (simp at c3 ⊢; omega)
  clear c3
  have H' := Aside0.mk H
  clear H
  go_enter Try.func14, Try.ntmps14
  go_wp2
  repeat (go_quiet (fail); try go_wp2)
  go_loopg [5] k (fun kq v5 w' => ∃ (x5_1 : Int), v5 = .int .i64 x5_1 ∧ Aside0 (standstillref07_Same.l0 kq l0 l1 x5_1 = some r) ∧ Aside0 (kq ≤ k) ∧ Drawn0 w w')
  case atStart => exact ⟨(0), jr_, H', ⟨Nat.le_refl _⟩, by repeat (first | exact Drawn0.refl _ | apply Drawn0.step)⟩
  case round =>
   clear H'
   (try clear c1); (try clear c3); (try clear c3b0); (try clear c3b1); (try clear c3b2)
   obtain ⟨x5_1, rfl, HA, HK1, ⟨m1, rfl⟩⟩ := hrel
   cases gk with
   | zero => exact absurd HA.out (by simp [standstillref07_Same.l0])
   | succ k1 =>
    have H := HA.out
    clear HA
    simp only [standstillref07_Same.l0] at H
    by_cases c4 : x5_1 < (l0.length : Int)
    ·rw [if_pos c4] at H
     have c4b0 : decide (x5_1 < (l0.length : Int)) = true := decide_eq_true c4
     clear c4
     by_cases c5 : 0 ≤ x5_1
     ·rw [if_pos c5] at H
      have c5b0 : decide (0 ≤ x5_1) = true := decide_eq_true c5
      clear c5
      by_cases c6 : x5_1 < (l1.length : Int)
      ·rw [if_pos c6] at H
       have c6b0 : decide (x5_1 < (l1.length : Int)) = true := decide_eq_true c6
       clear c6
       by_cases c7 : (rd l0 x5_1) = (rd l1 x5_1)
       ·rw [if_pos c7] at H
        have c7b0 : ((rd l0 x5_1) == (rd l1 x5_1)) = true := beq_iff_eq.mpr c7
        have c7b1 : ((rd l0 x5_1) != (rd l1 x5_1)) = false := bne_eq_false_iff_eq.mpr c7
        clear c7
        have H' := Aside0.mk H
        clear H
        have p119 : 0 ≤ (x5_1 : Int) := od_
        have q119 : x5_1 < (l0.length : Int) := od_
        obtain ⟨ad119, e119, hx119_0⟩ := Kd.at_int HR0.out x5_1 p119 q119
        cases e119
        replace p119 := eq_true p119
        replace q119 := eq_true q119
        have p120 : 0 ≤ (x5_1 : Int) := od_
        have q120 : x5_1 < (l1.length : Int) := od_
        obtain ⟨ad120, e120, hx120_0⟩ := Kd.at_int HR1.out x5_1 p120 q120
        cases e120
        replace p120 := eq_true p120
        replace q120 := eq_true q120
        go_wp2
        repeat (go_quiet (fail); try go_wp2)
        go_roundg k1
        case measure => have := HK1.out; omega
        case rel => exact ⟨(wrap64 (x5_1 + 1)), jr_, H', ⟨by have := HK1.out; omega⟩, by repeat (first | exact Drawn0.refl _ | apply Drawn0.step)⟩
       ·rw [if_neg c7] at H
        have c7b0 : ((rd l0 x5_1) == (rd l1 x5_1)) = false := beq_eq_false_iff_ne.mpr c7
        have c7b1 : ((rd l0 x5_1) != (rd l1 x5_1)) = true := bne_iff_ne.mpr c7
        obtain rfl := Option.some.inj H
        have p119 : 0 ≤ (x5_1 : Int) := od_
        have q119 : x5_1 < (l0.length : Int) := od_
        obtain ⟨ad119, e119, hx119_0⟩ := Kd.at_int HR0.out x5_1 p119 q119
        cases e119
        replace p119 := eq_true p119
        replace q119 := eq_true q119
        have p120 : 0 ≤ (x5_1 : Int) := od_
        have q120 : x5_1 < (l1.length : Int) := od_
        obtain ⟨ad120, e120, hx120_0⟩ := Kd.at_int HR1.out x5_1 p120 q120
        cases e120
        replace p120 := eq_true p120
        replace q120 := eq_true q120
        go_wp2
        repeat (go_quiet (fail); try go_wp2)
        go_ret
        exact ⟨by first | rfl | (simp; done) | (simp [*]; done), by repeat (first | exact Drawn0.refl _ | apply Drawn0.step)⟩
      ·rw [if_neg c6] at H
       exact absurd H (by simp)
     ·rw [if_neg c5] at H
      exact absurd H (by simp)
    ·rw [if_neg c4] at H
     have c4b0 : decide (x5_1 < (l0.length : Int)) = false := decide_eq_false c4
     clear c4
     obtain rfl := Option.some.inj H
     go_wp2
     repeat (go_quiet (fail); try go_wp2)
     go_ret
     exact ⟨by first | rfl | (simp; done) | (simp [*]; done), by repeat (first | exact Drawn0.refl _ | apply Drawn0.step)⟩
 ·rw [if_neg c3] at H
  have c3b0 : ((l0.length : Int) == (l1.length : Int)) = false := beq_eq_false_iff_ne.mpr c3
  have c3b1 : ((l0.length : Int) != (l1.length : Int)) = true := bne_iff_ne.mpr c3
  have c3b2 : (l0.length == l1.length) = false := by first | simpa using c3 | (simp at c3 ⊢; omega)
  obtain rfl := Option.some.inj H
  go_enter Try.func14, Try.ntmps14
  go_wp2
  repeat (go_quiet (fail); try go_wp2)
  go_ret
  exact ⟨by first | rfl | (simp; done) | (simp [*]; done), by repeat (first | exact Drawn0.refl _ | apply Drawn0.step)⟩

/-! ### tag_bits: function 50 -/
def tag_bits.l0 : Nat → Int → List Int → List Int → Int → Int → Option (List Int)
 | 0, _, _, _, _, _ => none
 | k + 1, x1, x5, x13, x14, x15 => if x15 < x14 then (if 0 ≤ x15 then (if x15 < (x13.length : Int) then (if 0 ≤ (wrap64 ((wrap64 (x15 * x1)) + (rd x13 x15))) then (if (wrap64 ((wrap64 (x15 * x1)) + (rd x13 x15))) < (x5.length : Int) then (tag_bits.l0 k x1 (x5.set ((wrap64 ((wrap64 (x15 * x1)) + (rd x13 x15))) : Int).toNat 1) x13 x14 (wrap64 (x15 + 1))) else (none)) else (none)) else (none)) else (none)) else (some x5)
def tag_bits.f (k : Nat) (l0 : List Int) (a1 : Int) : Option (List Int) := if 0 ≤ (wrap64 ((l0.length : Int) * a1)) then (if (wrap64 ((l0.length : Int) * a1) : Int).toNat ≤ 35184372088832 then (tag_bits.l0 k a1 (List.replicate (wrap64 ((l0.length : Int) * a1) : Int).toNat 0) l0 (l0.length : Int) 0) else (none)) else (none)
theorem tag_bits.mono_l : ∀ k, (∀ y0 y1 y2 y3 y4, LeO (tag_bits.l0 k y0 y1 y2 y3 y4) (tag_bits.l0 (k + 1) y0 y1 y2 y3 y4))
 | 0 => fun _ _ _ _ _ r h => by simp [tag_bits.l0] at h
 | k + 1 => by
  have ih0 := tag_bits.mono_l k
  ·intro y0 y1 y2 y3 y4
   unfold tag_bits.l0
   repeat' first
   | (with_reducible exact ih0 _ _ _ _ _)
   | (with_reducible exact LeO.refl _)
   | (with_reducible exact LeO.none _)
   | (with_reducible refine LeO.ite ?_ ?_)
   | (with_reducible refine LeO.bind ?_ (fun _ => ?_))
   | exact ih0 _ _ _ _ _
   | exact LeO.none _
   | refine LeO.ite ?_ ?_
   | refine LeO.bind ?_ (fun _ => ?_)
theorem tag_bits.mono : ∀ a0 a1 k, LeO (tag_bits.f k a0 a1) (tag_bits.f (k + 1) a0 a1) := by
 intro a0 a1 k
 have ih0 := tag_bits.mono_l k
 unfold tag_bits.f
 repeat' first
   | (with_reducible exact ih0 _ _ _ _ _)
   | (with_reducible exact LeO.refl _)
   | (with_reducible exact LeO.none _)
   | (with_reducible refine LeO.ite ?_ ?_)
   | (with_reducible refine LeO.bind ?_ (fun _ => ?_))
   | exact ih0 _ _ _ _ _
   | exact LeO.none _
   | refine LeO.ite ?_ ?_
   | refine LeO.bind ?_ (fun _ => ?_)
set_option maxHeartbeats 8000000 in
set_option maxRecDepth 100000 in
theorem tag_bits.calls (k : Nat) (A0 : Option Addr) (c0 : Nat) (l0 : List Int) (a1 : Int) (r : List Int) (w : World) (hr0 : Kd.C (Kd.int .i64) w A0 l0.length l0) (hc0 : l0.length ≤ c0) (h : tag_bits.f k l0 a1 = some r) :
  Calls Try.prog 50 #[.slice A0 l0.length c0, .int .i64 a1] w fun e w' => ∃ v0_ : Value, e = .returned (v0_) ∧ Kd.R (Kd.int .i64) 3 w' w.heap.size (fun _ => True) v0_ r ∧ Below w.heap.size w w' := by
 have HR0 := Aside0.mk hr0
 have HC0 := Aside0.mk hc0
 clear hr0 hc0
 have HB := A_ (Below.refl w.heap.size w)
 have H : (if 0 ≤ (wrap64 ((l0.length : Int) * a1)) then (if (wrap64 ((l0.length : Int) * a1) : Int).toNat ≤ 35184372088832 then (tag_bits.l0 k a1 (List.replicate (wrap64 ((l0.length : Int) * a1) : Int).toNat 0) l0 (l0.length : Int) 0) else (none)) else (none)) = some r := h
 clear h
 obtain ⟨ji3, hji3⟩ : ∃ j_ : Int, (wrap64 ((l0.length : Int) * a1)) = j_ := ⟨_, rfl⟩
 replace H : (if 0 ≤ (ji3) then (if (ji3 : Int).toNat ≤ 35184372088832 then (tag_bits.l0 k a1 (List.replicate (ji3 : Int).toNat 0) l0 (l0.length : Int) 0) else (none)) else (none)) = some r := by first | (rw [hji3] at H; exact H) | (simp only [hji3] at H ⊢; exact H)
 have hji3w : (IntKind.i64.wrap ((l0.length : Int) * a1)) = ji3 := (i64_w _).trans hji3
 by_cases c4 : 0 ≤ (ji3)
 ·rw [if_pos c4] at H
  have c4b0 := eq_true c4
  have c4b1 : decide (0 ≤ (ji3)) = true := decide_eq_true c4
  clear c4
  by_cases c5 : (ji3 : Int).toNat ≤ 35184372088832
  ·rw [if_pos c5] at H
   have c5b0 := eq_true c5
   have c5b1 : decide ((ji3 : Int).toNat ≤ 35184372088832) = true := decide_eq_true c5
   clear c5
   obtain ⟨y121, hy121⟩ : ∃ y_ : List Int, y_ = (List.replicate (ji3 : Int).toNat 0) := ⟨_, rfl⟩
   replace H : (tag_bits.l0 k a1 y121 l0 (l0.length : Int) 0) = some r := by first | (rw [hy121]; with_reducible exact H) | (have H2_ := (Option.bind_some _ _).symm.trans H; rw [hy121]; with_reducible exact H2_) | (have H2_ := (Option.bind_some _ _).symm.trans H; with_reducible exact H2_) | with_reducible exact H | (rw [hy121]; exact H) | exact H
   have Ny121 := Aside0.mk hy121
   clear hy121
   have H' := Aside0.mk H
   clear H
   go_enter Try.func50, Try.ntmps50
   go_wp2_with (first | ((with_reducible refine gate_dst (N := 12) rfl ?_); refine Kd.R_make (Kd.int .i64) _ 3 rfl (N := 12) rfl 26 _ _ rfl ji3 rfl rfl Try.underlying26 (.int .i64 0) 8 info3 rfl (by decide) (by omega) 0 (ok := fun _ => True) (okp := fun _ => True) rfl (fun _ hk => hk) trivial (od_) (Nat.le_trans (Nat.mul_le_mul_right _ (od_ : ji3.toNat ≤ 35184372088832)) (by omega)) (Below.refl _ _) (Nat.le_refl _) ?_; intro v122 w6 ho7 hb hg_ hnew_; clear hg_ hnew_; (first | rw [← Ny121.out] at ho7 | (simp only [Int.reduceToNat] at ho7; rw [← Ny121.out] at ho7)); have n0_ := A_ (Kd.R_lower ho7 (below_size (bk_ HB.out))); have n1_ := A_ (below_step (bk_ HB.out) hb); clear HB; have HO123 := n0_; have HB := n1_; clear n0_ n1_ hb ho7))
   go_loopg [15] k (fun kq v15 w' => ∃ (x5_1 : List Int) (x15_1 : Int), v15 = .int .i64 x15_1 ∧ Aside0 (tag_bits.l0 kq a1 x5_1 l0 (l0.length : Int) x15_1 = some r) ∧ Aside0 (kq ≤ k) ∧ Aside0 (Kd.R (Kd.int .i64) 3 w' w.heap.size (fun _ => True) v122 x5_1) ∧ Aside0 (Below w.heap.size w w'))
   case atStart => exact ⟨(y121), (0), jr_, H', ⟨Nat.le_refl _⟩, ⟨rk_ HO123.out⟩, ⟨bk_ HB.out⟩⟩
   case round =>
    clear H'
    (try clear c4); (try clear c4b0); (try clear c4b1); (try clear c5); (try clear c5b0); (try clear c5b1)
    obtain ⟨x5_1, x15_1, rfl, HA, HK1, HO_5, HB⟩ := hrel
    cases gk with
    | zero => exact absurd HA.out (by simp [tag_bits.l0])
    | succ k1 =>
     have H := HA.out
     clear HA
     simp only [tag_bits.l0] at H
     by_cases c8 : x15_1 < (l0.length : Int)
     ·rw [if_pos c8] at H
      have c8b0 : decide (x15_1 < (l0.length : Int)) = true := decide_eq_true c8
      clear c8
      by_cases c9 : 0 ≤ x15_1
      ·rw [if_pos c9] at H
       have c9b0 : decide (0 ≤ x15_1) = true := decide_eq_true c9
       clear c9
       by_cases c10 : x15_1 < (l0.length : Int)
       ·rw [if_pos c10] at H
        have c10b0 : decide (x15_1 < (l0.length : Int)) = true := decide_eq_true c10
        clear c10
        obtain ⟨ji11, hji11⟩ : ∃ j_ : Int, (wrap64 ((wrap64 (x15_1 * a1)) + (rd l0 x15_1))) = j_ := ⟨_, rfl⟩
        replace H : (if 0 ≤ (ji11) then (if (ji11) < (x5_1.length : Int) then (tag_bits.l0 k1 a1 (x5_1.set ((ji11) : Int).toNat 1) l0 (l0.length : Int) (wrap64 (x15_1 + 1))) else (none)) else (none)) = some r := by first | (rw [hji11] at H; exact H) | (simp only [hji11] at H ⊢; exact H)
        have hji11w : (IntKind.i64.wrap ((wrap64 (x15_1 * a1)) + (rd l0 x15_1))) = ji11 := (i64_w _).trans hji11
        by_cases c12 : 0 ≤ (ji11)
        ·rw [if_pos c12] at H
         have c12b0 : decide (0 ≤ (ji11)) = true := decide_eq_true c12
         clear c12
         by_cases c13 : (ji11) < (x5_1.length : Int)
         ·rw [if_pos c13] at H
          have c13b0 : decide ((ji11) < (x5_1.length : Int)) = true := decide_eq_true c13
          clear c13
          obtain ⟨y125, hy125⟩ : ∃ y_ : List Int, y_ = (x5_1.set ((ji11) : Int).toNat 1) := ⟨_, rfl⟩
          replace H : (tag_bits.l0 k1 a1 y125 l0 (l0.length : Int) (wrap64 (x15_1 + 1))) = some r := by first | (rw [hy125]; with_reducible exact H) | (have H2_ := (Option.bind_some _ _).symm.trans H; rw [hy125]; with_reducible exact H2_) | (have H2_ := (Option.bind_some _ _).symm.trans H; with_reducible exact H2_) | with_reducible exact H | (rw [hy125]; exact H) | exact H
          have Ny125 := Aside0.mk hy125
          clear hy125
          have H' := Aside0.mk H
          clear H
          have p124 : 0 ≤ (x15_1 : Int) := od_
          have q124 : x15_1 < (l0.length : Int) := od_
          obtain ⟨ad124, e124, hx124_0⟩ := Kd.at_int HR0.out x15_1 p124 q124
          cases e124
          replace hx124_0 := lf_ HB.out hx124_0
          replace p124 := eq_true p124
          replace q124 := eq_true q124
          have p14 : 0 ≤ ((ji11) : Int) := od_
          have q14 : ((ji11) : Int) < ((x5_1.length : Int) : Int) := od_
          obtain ⟨go14, co14, eo14, gb14, gl14, cl14, HG14⟩ := Kd.R_form HO_5.out (by omega)
          (first | cases eo14 | (injection eo14 with ea_ en_ ec_; (first | subst ea_ | (injection ea_ with ea_; subst ea_)); subst ec_; clear en_))
          have GB14 := Aside0.mk gb14
          have GG14 := Aside0.mk HG14
          clear gb14 gl14 HG14
          obtain ⟨hx14_0, hf14_0⟩ := Kd.R_celln 0 HO_5.out ((ji11) : Int) p14 q14
          replace p14 := eq_true p14
          replace q14 := eq_true q14
          have HP15 := Kd.R_putg HO_5.out ((ji11) : Int) 1
          go_wp2_with (first | ((with_reducible refine gate_store (t := 3) (p := 26) rfl ?_); refine store_event (t := 3) (p := 26) (v := ?vo_w16) (w1 := (wr.setCell ⟨go14, ((ji11) : Int).toNat, none⟩ (.int .i64 1))) ?hg ?ho ?hn ?hr ?_; (case ho => rfl); (case hg => rfl); (case hn => rfl); (case hr => first | (go_simp; done) | (go_simp; rfl)); intro w16 hw; have hg : wr.grownBy w16 (some go14) := (by rw [hw]; exact HP15.2); have hp_ : Kd.R (Kd.int .i64) 3 w16 w.heap.size (fun _ => True) (.slice (some ⟨go14, 0, none⟩) x5_1.length co14) y125 := (by rw [hw, Ny125.out]; exact HP15.1); clear HP15; have n0_ := A_ (hp_); have n1_ := A_ ((by rw [hw]; exact below_set (HB.out) GB14.out : Below w.heap.size w w16)); clear HO_5 HB; have HO_5 := n0_; have HB := n1_; clear n0_ n1_ hg hw hp_))
          go_roundg k1
          case measure => have := HK1.out; omega
          case rel => exact ⟨(y125), (wrap64 (x15_1 + 1)), jr_, H', ⟨by have := HK1.out; omega⟩, ⟨rk_ HO_5.out⟩, ⟨bk_ HB.out⟩⟩
         ·rw [if_neg c13] at H
          exact absurd H (by simp)
        ·rw [if_neg c12] at H
         exact absurd H (by simp)
       ·rw [if_neg c10] at H
        exact absurd H (by simp)
      ·rw [if_neg c9] at H
       exact absurd H (by simp)
     ·rw [if_neg c8] at H
      have c8b0 : decide (x15_1 < (l0.length : Int)) = false := decide_eq_false c8
      clear c8
      obtain rfl := Option.some.inj H
      go_wp2
      go_ret
      exact ⟨_, by first | rfl | (simp [errW_none, errW_some] <;> rfl) | (simp only [← hji3]; first | rfl | (simp [errW_none, errW_some] <;> rfl)) | (simp [*, errW_none, errW_some] <;> rfl), rk_ HO_5.out, bk_ HB.out⟩
  ·rw [if_neg c5] at H
   exact absurd H (by simp)
 ·rw [if_neg c4] at H
  exact absurd H (by simp)

end Go.Proofs.Ytkinnaegedbanaa.PTagRuns
