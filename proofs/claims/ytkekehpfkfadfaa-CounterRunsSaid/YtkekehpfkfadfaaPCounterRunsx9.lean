-- out of a turned copy of the print, by a program of this session; Lean checks it
import Derived.Test.YtkekehpfkfadfaaPCounterRunsx0
import Derived.Test.YtkekehpfkfadfaaPCounterRunsx6
import Derived.Test.YtkekehpfkfadfaaPCounterRunsx8
namespace Go.Proofs.Ytkekehpfkfadfaa.PCounterRuns
open Go.RowKit Go.Proofs.YtkekehpfkfadfaaW.PrintWords Go.Proofs.YtkekehpfkfadfaaW.PrintLast Go.Proofs.YtkekehpfkfadfaaW.PrintMore
attribute [local go_sem] max2_int min2_int max_two min_two max_three min_three max_four min_four   -- for this text's walks alone
set_option linter.unusedVariables false
set_option linter.unusedSimpArgs false

attribute [local go_sem] isSome_put_
/-! ### standstillref06_Run: function 34 (by hand) -/
theorem wrapJ {x : Int} (h : -9223372036854775808 ≤ x ∧ x ≤ 9223372036854775807) : wrap64 x = x := by
  unfold wrap64
  omega
def rrun (code : List S33) : Nat → Int → List Int → Int → Option (Int × List Int × Int × Bool)
  | 0, p, l, i => some (p, l, i, true)
  | d + 1, p, l, i => (rgo code p l).bind fun z => if z.2.2.2 = true then some (0, [], 0, false) else if z.2.2.1 = true then some (z.1, z.2.1, i, true) else rrun code d z.1 z.2.1 (i + 1)
def standstillref06_Run.f (a0_0 : Int) (l0_1 : List S33) (a1_0 : Int) (l1_1 : List Int) (a2 : Int) : Option (Int × List Int × Int × Bool) :=
  if l1_1.length < 17592186044416 ∧ 0 ≤ a2 ∧ a2 ≤ 1000000 then rrun l0_1 a2.toNat a1_0 l1_1 0 else none
set_option maxHeartbeats 4000000 in
set_option maxRecDepth 100000 in
set_option maxHeartbeats 8000000 in
set_option maxRecDepth 100000 in
theorem standstillref06_Run.calls (a0_0 : Int) (A0_1 : Option Addr) (c0_1 : Nat) (l0_1 : List S33) (a1_0 : Int) (A1_1 : Option Addr) (c1_1 : Nat) (l1_1 : List Int) (a2 : Int) (r1 : Int) (r2 : List Int) (r3 : Int) (r4 : Bool) (w : World) (hr0_1 : Kd.C k33 w A0_1 l0_1.length l0_1) (hc0_1 : l0_1.length ≤ c0_1) (hr1_1 : Kd.C (Kd.int .i64) w A1_1 l1_1.length l1_1) (hc1_1 : l1_1.length ≤ c1_1) (h : standstillref06_Run.f a0_0 l0_1 a1_0 l1_1 a2 = some (r1, r2, r3, r4)) :
    Calls Try.prog 34 #[.agg #[.int .i64 a0_0, .slice A0_1 l0_1.length c0_1], .agg #[.int .i64 a1_0, .slice A1_1 l1_1.length c1_1], .int .i64 a2] w fun e w' => ∃ v1_ : Value, e = .returned (.tuple #[.agg #[.int .i64 r1, v1_], .int .i64 r3, .bool r4]) ∧ Kd.R (Kd.int .i64) 3 w' w.heap.size (fun _ => True) v1_ r2 ∧ Below w.heap.size w w' := by
  have hu24 := Try.underlying24
  have hu27 := Try.underlying27
  unfold standstillref06_Run.f at h
  by_cases hl : l1_1.length < 17592186044416 ∧ 0 ≤ a2 ∧ a2 ≤ 1000000
  rotate_left
  · rw [if_neg hl] at h
    cases h
  rw [if_pos hl] at h
  obtain ⟨hl, hn0, hn1⟩ := hl
  have H := Aside0.mk h
  have HN := Aside0.mk (show 0 ≤ a2 ∧ a2 ≤ 1000000 from ⟨hn0, hn1⟩)
  have HR0_1 := Aside0.mk hr0_1
  have HC0_1 := Aside0.mk hc0_1
  skip
  have hCP : ∀ W : World, Below w.heap.size w W → Calls Try.prog 32 #[.agg #[.int .i64 a1_0, .slice A1_1 l1_1.length c1_1]] W fun e w' => ∃ v1_ : Value, e = .returned (.agg #[.int .i64 a1_0, v1_]) ∧ Kd.R (Kd.int .i64) 3 w' W.heap.size (fun _ => True) v1_ l1_1 ∧ Below W.heap.size W w' := fun W hW => standstillref06_Copy.calls a1_0 A1_1 c1_1 l1_1 a1_0 l1_1 W (Kd.C_below hr1_1 hW) hc1_1 (by unfold standstillref06_Copy.f; simp only [Option.bind_some]; rw [if_pos (by simpa using hl)]; rfl)
  have HCP := Aside0.mk hCP
  clear h hr0_1 hc0_1 hr1_1 hc1_1 hCP hl hn0 hn1
  go_enter Try.func34, Try.ntmps34
  go_wp2_with fail
  obtain ⟨W1, hW1⟩ : ∃ W1 : World, W1 = (((w.alloc (.cells #[.int .i64 a0_0, .slice A0_1 l0_1.length c0_1] 24)).alloc (.cells #[.int .i64 a1_0, .slice A1_1 l1_1.length c1_1] 27)).alloc (.cells #[.int .i64 0, .slice none 0 0] 27)) := ⟨_, rfl⟩
  have hBW1 : Below w.heap.size w W1 := by rw [hW1]; exact below_alloc (below_alloc (below_alloc (Below.refl _ _) _) _) _
  have hb0 : W1.heap[w.heap.size]? = some (.cells #[.int .i64 a0_0, .slice A0_1 l0_1.length c0_1] 24 (0, 0)) := by rw [hW1]; exact blk_alloc (blk_alloc (blk_new _ _) _) _
  have hb1 : W1.heap[w.heap.size + 1]? = some (.cells #[.int .i64 a1_0, .slice A1_1 l1_1.length c1_1] 27 (0, 0)) := by rw [hW1]; exact blk_alloc (by have h_ := blk_new (w.alloc (.cells #[.int .i64 a0_0, .slice A0_1 l0_1.length c0_1] 24)) (.cells #[.int .i64 a1_0, .slice A1_1 l1_1.length c1_1] 27); simpa using h_) _
  have hb2 : W1.heap[w.heap.size + 1 + 1]? = some (.cells #[.int .i64 0, .slice none 0 0] 27 (0, 0)) := by rw [hW1]; have h_ := blk_new ((w.alloc (.cells #[.int .i64 a0_0, .slice A0_1 l0_1.length c0_1] 24)).alloc (.cells #[.int .i64 a1_0, .slice A1_1 l1_1.length c1_1] 27)) (.cells #[.int .i64 0, .slice none 0 0] 27); simpa using h_
  have hsz : W1.heap.size = w.heap.size + 1 + 1 + 1 := by rw [hW1]; simp
  rw [← hW1]
  clear hW1
  obtain ⟨z2, hz2⟩ : ∃ z, w.heap.size + 1 + 1 = z := ⟨_, rfl⟩
  rw [hz2] at hb2 hsz ⊢
  obtain ⟨z1, hz1⟩ : ∃ z, w.heap.size + 1 = z := ⟨_, rfl⟩
  rw [hz1] at hb1 ⊢
  obtain ⟨z0, hz0⟩ : ∃ z, w.heap.size = z := ⟨_, rfl⟩
  have HZ := Aside0.mk (show w.heap.size ≤ z0 ∧ z0 < z1 ∧ z1 < z2 ∧ z2 < W1.heap.size ∧ w.heap.size ≤ z1 ∧ w.heap.size ≤ z2 from by omega)
  rw [hz0] at hb0
  try rw [hz0]
  clear hz0 hz1 hz2 hsz
  refine (HCP.out _ hBW1).mono ?_
  rintro e w2 ⟨v9, rfl, hR9, hB2⟩
  obtain ⟨A9, c9, rfl⟩ := Kd.R_slice hR9
  obtain ⟨n9, hn9⟩ : ∃ n, l1_1.length = n := ⟨_, rfl⟩
  rw [hn9] at hR9 ⊢
  have HB := Aside0.mk (below_step hBW1 hB2)
  have HB0 := Aside0.mk (blk_below hb0 hB2)
  have HB1 := Aside0.mk (blk_below hb1 hB2)
  have HB2 := Aside0.mk (blk_below hb2 hB2)
  have HR := Aside0.mk (Kd.R_lower (Kd.R_mono (ok' := fun k => k ≠ z1) (Kd.R_bound hR9) (fun k hk => by have h1 := hk.2.1; have h2 := HZ.out; rintro rfl; omega)) (by have h2 := HZ.out; omega : z1 ≤ W1.heap.size))
  have HN9 := Aside0.mk hn9
  clear hb0 hb1 hb2 hBW1 hB2 HCP hR9 hn9
  have hf10 := blk_frozen HB1.out 0
  have hf11 := blk_frozen HB1.out 1
  have hz10 := (blk_cell HB1.out 0).trans rfl
  have hz11 := (blk_cell HB1.out 1).trans rfl
  go_wp2_with fail
  obtain ⟨w3, hW3⟩ : ∃ W : World, W = (w2.setCell ⟨z1, 0, none⟩ (.int .i64 a1_0)).setCell ⟨z1, 1, none⟩ (.slice A9 n9 c9) := ⟨_, rfl⟩
  have HB_3 := Aside0.mk (show Below w.heap.size w w3 by rw [hW3]; exact below_set (below_set HB.out HZ.out.2.2.2.2.1) HZ.out.2.2.2.2.1)
  have HB0_3 := Aside0.mk (show w3.heap[z0]? = some (.cells #[.int .i64 a0_0, .slice A0_1 l0_1.length c0_1] 24 (0, 0)) by rw [hW3]; exact blk_far (blk_far HB0.out (Nat.ne_of_lt HZ.out.2.1) _) (Nat.ne_of_lt HZ.out.2.1) _)
  have HB1_3 := Aside0.mk (show w3.heap[z1]? = some (.cells #[.int .i64 a1_0, .slice A9 n9 c9] 27 (0, 0)) by rw [hW3]; refine blk_put (cs := #[.int .i64 a1_0, .slice A1_1 l1_1.length c1_1]) ?_ 1 _ rfl; refine blk_put (cs := #[.int .i64 a1_0, .slice A1_1 l1_1.length c1_1]) ?_ 0 _ rfl; exact HB1.out)
  have HB2_3 := Aside0.mk (show w3.heap[z2]? = some (.cells #[.int .i64 0, .slice none 0 0] 27 (0, 0)) by rw [hW3]; exact blk_far (blk_far HB2.out (Nat.ne_of_gt HZ.out.2.2.1) _) (Nat.ne_of_gt HZ.out.2.2.1) _)
  have HR_3 := Aside0.mk (show Kd.R (Kd.int .i64) 3 w3 z1 (fun k => k ≠ z1) (.slice A9 n9 c9) l1_1 by rw [hW3]; exact Kd.R_far (Kd.R_far HR.out (fun k hk => hk) _) (fun k hk => hk) _)
  rw [← hW3]
  clear hW3 HB HB0 HB1 HB2 HR hf10 hf11 hz10 hz11
  go_loopg [9] (a2.toNat) (fun kq vk w' => ∃ (i p : Int) (l : List Int), vk = .int .i64 i ∧ Aside0 (0 ≤ i ∧ i + (kq : Int) = a2) ∧ Aside0 (rrun l0_1 kq p l i = some (r1, r2, r3, r4)) ∧ Aside0 (l.length = n9) ∧ Aside0 (Kd.R (Kd.int .i64) 3 w' z1 (fun k => k ≠ z1) (.slice A9 n9 c9) l) ∧ Aside0 (Below w.heap.size w w') ∧ Aside0 (w'.heap[z0]? = some (.cells #[.int .i64 a0_0, .slice A0_1 l0_1.length c0_1] 24 (0, 0))) ∧ Aside0 (w'.heap[z1]? = some (.cells #[.int .i64 p, .slice A9 n9 c9] 27 (0, 0))) ∧ Aside0 (w'.heap[z2]? = some (.cells #[.int .i64 0, .slice none 0 0] 27 (0, 0))))
  case atStart => exact ⟨0, a1_0, l1_1, rfl, ⟨by have := HN.out; omega⟩, H, HN9, HR_3, HB_3, HB0_3, HB1_3, HB2_3⟩
  case round =>
    clear H HR_3 HB_3 HB0_3 HB1_3 HB2_3 HN9
    obtain ⟨i, p, l, rfl, HI, H, HLN, HR, HB, HB0, HB1, HB2⟩ := hrel
    obtain ⟨hi0, hi1⟩ := HI.out
    obtain ⟨hn0, hn1⟩ := HN.out
    cases gk with
    | zero =>
      have h := H.out
      clear H
      have hin : i = a2 := by omega
      subst hin
      simp only [rrun] at h
      simp only [Option.some.injEq, Prod.mk.injEq] at h
      obtain ⟨rfl, rfl, rfl, rfl⟩ := h
      have hz10 := (blk_cell HB1.out 0).trans rfl
      have hz11 := (blk_cell HB1.out 1).trans rfl
      have hz20 := (blk_cell HB2.out 0).trans rfl
      have hz21 := (blk_cell HB2.out 1).trans rfl
      have hf20 := blk_frozen HB2.out 0
      have hf21 := blk_frozen HB2.out 1
      go_wp2
      refine bodyPost_ret (results_list (rs := [.cell 6 27, .tmp 7, .tmp 8]) (vs := [.agg #[.int .i64 p, .slice A9 n9 c9], .int .i64 i, .bool true]) rfl (by simp) (Vals.cell z2 27 #[.int .i64 p, .slice A9 n9 c9] (0, 0) _ rfl (by refine blk_put (cs := #[.int .i64 p, .slice none 0 0]) ?_ 1 _ rfl; refine blk_put (cs := #[.int .i64 0, .slice none 0 0]) ?_ 0 _ rfl; exact HB2.out) Try.underlying27 rfl (by kernel_rfl) (Vals.tmp (Vals.tmp Vals.nil)))) rfl ?_
      exact ⟨_, rfl, Kd.R_mono (Kd.R_far (Kd.R_far (Kd.R_lower (Kd.R_types HR.out HB2.out (by decide)) HZ.out.2.2.2.2.1) (fun k hk => hk.2) _) (fun k hk => hk.2) _) (fun _ _ => trivial), below_set (below_set HB.out HZ.out.2.2.2.2.2) HZ.out.2.2.2.2.2⟩
    | succ d =>
      have hin : i < a2 := by omega
      have hind : decide (i < a2) = true := decide_eq_true hin
      have h := H.out
      clear H
      simp only [rrun] at h
      obtain ⟨⟨q1, q2, q3, q4⟩, hq, h⟩ := Option.bind_eq_some_iff.1 h
      have HGO := Aside0.mk (rgo_calls z1 z1 a0_0 A0_1 c0_1 l0_1 p A9 n9 c9 l q1 q2 q3 q4 wr (Kd.C_below HR0_1.out HB.out) HC0_1.out (Nat.le_refl _) HB1.out HLN.out HR.out hq)
      have HH := Aside0.mk h
      have HIN := Aside0.mk hin
      replace hin := eq_true hin
      clear h hq
      have hz00 := (blk_cell HB0.out 0).trans rfl
      have hz01 := (blk_cell HB0.out 1).trans rfl
      go_wp2_with fail
      refine HGO.out.mono ?_
      rintro e w5 ⟨rfl, hG5, hL5, hR5, hB5, hK5⟩
      have HRB := Aside0.mk (fun k hk => Kd.R_base HR.out k hk : ∀ k, (Value.slice A9 n9 c9).ownBlock = some k → z1 ≤ k)
      have HB0_5 := Aside0.mk (show w5.heap[z0]? = some (.cells #[.int .i64 a0_0, .slice A0_1 l0_1.length c0_1] 24 (0, 0)) from (hB5.block z0 HZ.out.2.1).trans HB0.out)
      have HB2_5 := Aside0.mk (show w5.heap[z2]? = some (.cells #[.int .i64 0, .slice none 0 0] 27 (0, 0)) from (hK5.2 z2 (blk_lt HB2.out) (Nat.ne_of_gt HZ.out.2.2.1) (Kd.R_ne HR.out HB2.out (by decide))).trans HB2.out)
      have HB_5 := Aside0.mk (Below.trans HB.out (Below.mono hB5 HZ.out.2.2.2.2.1))
      replace HB0 := HB0_5
      replace HB2 := HB2_5
      replace HB := HB_5
      replace HB1 := Aside0.mk hG5
      replace HR := Aside0.mk hR5
      replace HLN := Aside0.mk hL5
      have h := HH.out
      clear HB0_5 HB2_5 HB_5 hG5 hL5 hR5 hB5 hK5 hz00 hz01 HGO HH
      have hz10 := (blk_cell HB1.out 0).trans rfl
      have hz11 := (blk_cell HB1.out 1).trans rfl
      have hz20 := (blk_cell HB2.out 0).trans rfl
      have hz21 := (blk_cell HB2.out 1).trans rfl
      have hf20 := blk_frozen HB2.out 0
      have hf21 := blk_frozen HB2.out 1
      cases q4 with
      | true =>
        simp only [if_true] at h
        simp only [Option.some.injEq, Prod.mk.injEq] at h
        obtain ⟨rfl, rfl, rfl, rfl⟩ := h
        go_wp2
        refine bodyPost_ret (results_list (rs := [.cell 6 27, .tmp 7, .tmp 8]) (vs := [.agg #[.int .i64 0, .slice none 0 0], .int .i64 0, .bool false]) rfl (by simp) (Vals.cell z2 27 #[.int .i64 0, .slice none 0 0] (0, 0) _ rfl (by refine blk_put (cs := #[.int .i64 0, .slice none 0 0]) ?_ 1 _ rfl; refine blk_put (cs := #[.int .i64 0, .slice none 0 0]) ?_ 0 _ rfl; exact HB2.out) Try.underlying27 rfl (by kernel_rfl) (Vals.tmp (Vals.tmp Vals.nil)))) rfl ?_
        exact ⟨_, rfl, Kd.R_nil _ _ _ _ _, below_set (below_set HB.out HZ.out.2.2.2.2.2) HZ.out.2.2.2.2.2⟩
      | false =>
        simp only [Bool.false_eq_true, if_false] at h
        cases q3 with
        | true =>
          simp only [if_true] at h
          simp only [Option.some.injEq, Prod.mk.injEq] at h
          obtain ⟨rfl, rfl, rfl, rfl⟩ := h
          go_wp2
          refine bodyPost_ret (results_list (rs := [.cell 6 27, .tmp 7, .tmp 8]) (vs := [.agg #[.int .i64 q1, .slice A9 n9 c9], .int .i64 i, .bool true]) rfl (by simp) (Vals.cell z2 27 #[.int .i64 q1, .slice A9 n9 c9] (0, 0) _ rfl (by refine blk_put (cs := #[.int .i64 q1, .slice none 0 0]) ?_ 1 _ rfl; refine blk_put (cs := #[.int .i64 0, .slice none 0 0]) ?_ 0 _ rfl; exact HB2.out) Try.underlying27 rfl (by kernel_rfl) (Vals.tmp (Vals.tmp Vals.nil)))) rfl ?_
          exact ⟨_, rfl, Kd.R_mono (Kd.R_far (Kd.R_far (Kd.R_lower (Kd.R_types HR.out HB2.out (by decide)) HZ.out.2.2.2.2.1) (fun k hk => hk.2) _) (fun k hk => hk.2) _) (fun _ _ => trivial), below_set (below_set HB.out HZ.out.2.2.2.2.2) HZ.out.2.2.2.2.2⟩
        | false =>
          simp only [Bool.false_eq_true, if_false] at h
          have hiw2 : wrap64 (i + 1) = i + 1 := wrapJ (by omega)
          have hiw : IntKind.i64.wrap (i + 1) = i + 1 := (i64_w _).trans hiw2
          go_wp2_with fail
          go_roundg d
          case measure => omega
          case rel => exact ⟨i + 1, q1, q2, rfl, ⟨by omega⟩, ⟨h⟩, HLN, HR, HB, HB0, HB1, HB2⟩

/-! ### standstilllaw06_run: function 22 -/
def standstilllaw06_run.j0 : Nat → Int → Int → Int → Bool → Int → List (S33) → Int → List Int → Int → List Int → Option (Bool)
 | 0, _, _, _, _, _, _, _, _, _, _ => none
 | k + 1, x2, x4, x5, x21, x169000, x169001, x170000, x170001, x171000, x171001 => if x21 = true then (if x5 = 2 then ((standstillref06_SameCount.f k x171000 x171001 0 ([] : List Int)).bind fun t171 => (if t171 = true then (some (x4 == 0)) else (some false))) else (some false)) else ((standstillref06_Run.f x169000 x169001 x170000 x170001 x2).bind fun bt172 => (if ((x5 == 0) == bt172.2.2.2) = true then (if bt172.2.2.2 = true then ((standstillref06_SameCount.f k x171000 x171001 bt172.1 bt172.2.1).bind fun t179 => (if t179 = true then (some (x4 == bt172.2.2.1)) else (some false))) else (if x5 = 4 then ((standstillref06_SameCount.f k x171000 x171001 bt172.1 bt172.2.1).bind fun t180 => (if t180 = true then (some (x4 == bt172.2.2.1)) else (some false))) else (some false))) else (some false)))
def standstilllaw06_run.f (k : Nat) (a0_0 : Int) (l0_1 : List (S33)) (a1_0 : Int) (l1_1 : List Int) (a2 : Int) (a3_0 : Int) (l3_1 : List Int) (a4 : Int) (a5 : Int) : Option (Bool) := if a2 < 0 then (standstilllaw06_run.j0 k a2 a4 a5 true a0_0 l0_1 a1_0 l1_1 a3_0 l3_1) else (standstilllaw06_run.j0 k a2 a4 a5 (decide (a2 > 1000000)) a0_0 l0_1 a1_0 l1_1 a3_0 l3_1)
theorem standstilllaw06_run.mono_l : ∀ k, (∀ y0 y1 y2 y3 y4 y5 y6 y7 y8 y9, LeO (standstilllaw06_run.j0 k y0 y1 y2 y3 y4 y5 y6 y7 y8 y9) (standstilllaw06_run.j0 (k + 1) y0 y1 y2 y3 y4 y5 y6 y7 y8 y9))
 | 0 => fun _ _ _ _ _ _ _ _ _ _ r h => by simp [standstilllaw06_run.j0] at h
 | k + 1 => by
  have ih0 := standstilllaw06_run.mono_l k
  ·intro y0 y1 y2 y3 y4 y5 y6 y7 y8 y9
   unfold standstilllaw06_run.j0
   repeat' first
   | (with_reducible exact ih0 _ _ _ _ _ _ _ _ _ _)
   | (with_reducible exact standstillref06_SameCount.mono _ _ _ _ _)
   | (with_reducible exact LeO.refl _)
   | (with_reducible exact LeO.none _)
   | (with_reducible refine LeO.ite ?_ ?_)
   | (with_reducible refine LeO.bind ?_ (fun _ => ?_))
   | exact ih0 _ _ _ _ _ _ _ _ _ _
   | exact standstillref06_SameCount.mono _ _ _ _ _
   | exact LeO.none _
   | refine LeO.ite ?_ ?_
   | refine LeO.bind ?_ (fun _ => ?_)
theorem standstilllaw06_run.mono : ∀ a0 a1 a2 a3 a4 a5 a6 a7 a8 k, LeO (standstilllaw06_run.f k a0 a1 a2 a3 a4 a5 a6 a7 a8) (standstilllaw06_run.f (k + 1) a0 a1 a2 a3 a4 a5 a6 a7 a8) := by
 intro a0 a1 a2 a3 a4 a5 a6 a7 a8 k
 have ih0 := standstilllaw06_run.mono_l k
 unfold standstilllaw06_run.f
 repeat' first
   | (with_reducible exact ih0 _ _ _ _ _ _ _ _ _ _)
   | (with_reducible exact standstillref06_SameCount.mono _ _ _ _ _)
   | (with_reducible exact LeO.refl _)
   | (with_reducible exact LeO.none _)
   | (with_reducible refine LeO.ite ?_ ?_)
   | (with_reducible refine LeO.bind ?_ (fun _ => ?_))
   | exact ih0 _ _ _ _ _ _ _ _ _ _
   | exact standstillref06_SameCount.mono _ _ _ _ _
   | exact LeO.none _
   | refine LeO.ite ?_ ?_
   | refine LeO.bind ?_ (fun _ => ?_)
set_option maxHeartbeats 8000000 in
set_option maxRecDepth 100000 in
theorem standstilllaw06_run.calls (k : Nat) (a0_0 : Int) (A0_1 : Option Addr) (c0_1 : Nat) (l0_1 : List (S33)) (a1_0 : Int) (A1_1 : Option Addr) (c1_1 : Nat) (l1_1 : List Int) (a2 : Int) (a3_0 : Int) (A3_1 : Option Addr) (c3_1 : Nat) (l3_1 : List Int) (a4 : Int) (a5 : Int) (r : Bool) (w : World) (hr0_1 : Kd.C k33 w A0_1 l0_1.length l0_1) (hc0_1 : l0_1.length ≤ c0_1) (hr1_1 : Kd.C (Kd.int .i64) w A1_1 l1_1.length l1_1) (hc1_1 : l1_1.length ≤ c1_1) (hr3_1 : Kd.C (Kd.int .i64) w A3_1 l3_1.length l3_1) (hc3_1 : l3_1.length ≤ c3_1) (h : standstilllaw06_run.f k a0_0 l0_1 a1_0 l1_1 a2 a3_0 l3_1 a4 a5 = some r) :
  Calls Try.prog 22 #[.agg #[.int .i64 a0_0, .slice A0_1 l0_1.length c0_1], .agg #[.int .i64 a1_0, .slice A1_1 l1_1.length c1_1], .int .i64 a2, .agg #[.int .i64 a3_0, .slice A3_1 l3_1.length c3_1], .int .i64 a4, .int .i64 a5] w fun e w' => e = .returned (.bool r) ∧ Below w.heap.size w w' := by
 have hu24 := Try.underlying24
 have hu27 := Try.underlying27
 have HR0_1 := Aside0.mk hr0_1
 have HC0_1 := Aside0.mk hc0_1
 clear hr0_1 hc0_1
 have HR1_1 := Aside0.mk hr1_1
 have HC1_1 := Aside0.mk hc1_1
 clear hr1_1 hc1_1
 have HR3_1 := Aside0.mk hr3_1
 have HC3_1 := Aside0.mk hc3_1
 clear hr3_1 hc3_1
 have HB := A_ (Below.refl w.heap.size w)
 have H : (if a2 < 0 then (standstilllaw06_run.j0 k a2 a4 a5 true a0_0 l0_1 a1_0 l1_1 a3_0 l3_1) else (standstilllaw06_run.j0 k a2 a4 a5 (decide (a2 > 1000000)) a0_0 l0_1 a1_0 l1_1 a3_0 l3_1)) = some r := h
 clear h
 have HC7 := Aside0.mk H
 clear H
 go_enter Try.func22, Try.ntmps22
 go_upto_region 1 with (first | ((with_reducible refine gate_dst (N := 6) rfl ?_); refine box_event ?hg (N := 6) ?hd (cs := #[.int .i64 a0_0, .slice A0_1 l0_1.length c0_1]) (t := 24) ?hr ?_; (case hd => rfl); (case hg => rfl); (case hr => first | (go_simp; done) | (go_simp; rfl)); intro gb168 hg w8 hbox hb; have n0_ := A_ (below_step (bk_ HB.out) hb); have n1_ := A_ (hbox); have n2_ := A_ (bz_ hg (bk_ HB.out)); have n3_ := A_ (bz_ hg (bk_ HB.out)); clear HB; have HB := n0_; have BK168 := n1_; have GW168 := n2_; have GE168 := n3_; clear n0_ n1_ n2_ n3_ hb hbox hg) | ((with_reducible refine gate_dst (N := 7) rfl ?_); refine box_event ?hg (N := 7) ?hd (cs := #[.int .i64 a1_0, .slice A1_1 l1_1.length c1_1]) (t := 27) ?hr ?_; (case hd => rfl); (case hg => rfl); (case hr => first | (go_simp; done) | (go_simp; rfl)); intro gb169 hg w9 hbox hb; have n0_ := A_ (blk_below (pk_ BK168.out) hb); have n1_ := A_ (below_step (bk_ HB.out) hb); have n2_ := A_ (hbox); have n3_ := A_ (bz_ hg (bk_ HB.out)); have n4_ := A_ (bz_ hg (bk_ HB.out)); have n5_ := A_ (nl_ hg (pk_ BK168.out)); have n6_ := A_ (ng_ hg (pk_ BK168.out)); clear BK168 HB; have BK168 := n0_; have HB := n1_; have BK169 := n2_; have GW169 := n3_; have GE169 := n4_; have NB168_169 := n5_; have NB169_168 := n6_; clear n0_ n1_ n2_ n3_ n4_ n5_ n6_ hb hbox hg) | ((with_reducible refine gate_dst (N := 9) rfl ?_); refine box_event ?hg (N := 9) ?hd (cs := #[.int .i64 a3_0, .slice A3_1 l3_1.length c3_1]) (t := 27) ?hr ?_; (case hd => rfl); (case hg => rfl); (case hr => first | (go_simp; done) | (go_simp; rfl)); intro gb170 hg w10 hbox hb; have n0_ := A_ (blk_below (pk_ BK168.out) hb); have n1_ := A_ (blk_below (pk_ BK169.out) hb); have n2_ := A_ (below_step (bk_ HB.out) hb); have n3_ := A_ (hbox); have n4_ := A_ (bz_ hg (bk_ HB.out)); have n5_ := A_ (bz_ hg (bk_ HB.out)); have n6_ := A_ (nl_ hg (pk_ BK168.out)); have n7_ := A_ (ng_ hg (pk_ BK168.out)); have n8_ := A_ (nl_ hg (pk_ BK169.out)); have n9_ := A_ (ng_ hg (pk_ BK169.out)); clear BK168 BK169 HB; have BK168 := n0_; have BK169 := n1_; have HB := n2_; have BK170 := n3_; have GW170 := n4_; have GE170 := n5_; have NB168_170 := n6_; have NB170_168 := n7_; have NB169_170 := n8_; have NB170_169 := n9_; clear n0_ n1_ n2_ n3_ n4_ n5_ n6_ n7_ n8_ n9_ hb hbox hg))
 (try simp only [Act.put, List.setIfInBounds_toArray, List.set_cons_zero, List.set_cons_succ])
 go_cut [21] (fun v21 wc => ∃ (kq : Nat) (x21_6 : Bool), v21 = .bool x21_6 ∧ Aside0 (standstilllaw06_run.j0 kq a2 a4 a5 x21_6 a0_0 l0_1 a1_0 l1_1 a3_0 l3_1 = some r) ∧ Aside0 (kq ≤ k) ∧ Aside0 (wc.heap[gb168]? = some (.cells #[.int .i64 a0_0, (.slice A0_1 l0_1.length c0_1)] 24 (0, 0))) ∧ Aside0 (wc.heap[gb169]? = some (.cells #[.int .i64 a1_0, (.slice A1_1 l1_1.length c1_1)] 27 (0, 0))) ∧ Aside0 (wc.heap[gb170]? = some (.cells #[.int .i64 a3_0, (.slice A3_1 l3_1.length c3_1)] 27 (0, 0))) ∧ Aside0 (Below w.heap.size w wc))
 case first =>
  have H := HC7.out
  clear HC7
  by_cases c11 : a2 < 0
  ·rw [if_pos c11] at H
   have c11b0 : decide (a2 < 0) = true := decide_eq_true c11
   clear c11
   (first | rw [c11b0] | (simp only [i64_w, i32_w]; rw [c11b0]) | skip)
   have H' := Aside0.mk H
   clear H
   go_wp2
   go_meet
   case rel => exact ⟨_, (true), jr_, H', ⟨by first | omega | exact Nat.le_refl _⟩, ⟨pk_ BK168.out⟩, ⟨pk_ BK169.out⟩, ⟨pk_ BK170.out⟩, ⟨bk_ HB.out⟩⟩
  ·rw [if_neg c11] at H
   have c11b0 : decide (a2 < 0) = false := decide_eq_false c11
   clear c11
   (first | rw [c11b0] | (simp only [i64_w, i32_w]; rw [c11b0]) | skip)
   have H' := Aside0.mk H
   clear H
   go_wp2
   go_meet
   case rel => exact ⟨_, (decide (a2 > 1000000)), jr_, H', ⟨by first | omega | exact Nat.le_refl _⟩, ⟨pk_ BK168.out⟩, ⟨pk_ BK169.out⟩, ⟨pk_ BK170.out⟩, ⟨bk_ HB.out⟩⟩
 case rest =>
  clear HC7
  obtain ⟨kq, x21_6, rfl, HA, HJ6, BK168, BK169, BK170, HB⟩ := hcut
  cases kq with
  | zero => exact absurd HA.out (by simp [standstilllaw06_run.j0])
  | succ kj6 =>
   have H := HA.out
   clear HA
   simp only [standstilllaw06_run.j0] at H
   by_cases c12 : x21_6 = true
   ·subst c12
    have H1 : (if a5 = 2 then ((standstillref06_SameCount.f kj6 a3_0 l3_1 0 ([] : List Int)).bind fun t171 => (if t171 = true then (some (a4 == 0)) else (some false))) else (some false)) = some r := by rw [if_pos rfl] at H; exact H
    clear H
    have H := H1
    clear H1
    by_cases c13 : a5 = 2
    ·rw [if_pos c13] at H
     have c13b0 : (a5 == 2) = true := beq_iff_eq.mpr c13
     have c13b1 : (a5 != 2) = false := bne_eq_false_iff_eq.mpr c13
     clear c13
     replace H := Option.bind_eq_some_iff.mp H
     obtain ⟨t171, A140, H⟩ := H
     replace H : (if t171 = true then (some (a4 == 0)) else (some false)) = some r := H
     have A14 := Aside0.mk A140
     clear A140
     by_cases c15 : t171 = true
     ·subst c15
      have H1 : (some (a4 == 0)) = some r := by rw [if_pos rfl] at H; exact H
      clear H
      have H := H1
      clear H1
      obtain rfl := Option.some.inj H
      have hnb16 := NB170_168.out
      have hnc16 := NB168_170.out
      have hnb17 := NB170_169.out
      have hnc17 := NB169_170.out
      obtain ⟨hcz18_0, hcz18_1⟩ := bc2_ BK170.out
      have hfz18_0 := blk_frozen BK170.out 0
      have hfz18_1 := blk_frozen BK170.out 1
      go_wp2_with (first | (go_at_call 16; (refine (standstillref06_SameCount.calls kj6 a3_0 _ _ l3_1 0 _ _ ([] : List Int) true _ ?side1 ?side2 ?side3 ?side4 A14.out).mono ?_); (case side1 => exact ck_ (Kd.C_below HR3_1.out HB.out)); (case side2 => exact HC3_1.out); (case side3 => exact Kd.C_nil _ _); (case side4 => exact Nat.le_refl _); rintro e w19 ⟨rfl, hb⟩; have n0_ := A_ (blk_below (pk_ BK168.out) hb); have n1_ := A_ (blk_below (pk_ BK169.out) hb); have n2_ := A_ (blk_below (pk_ BK170.out) hb); have n3_ := A_ (below_step (bk_ HB.out) hb); clear BK168 BK169 BK170 HB; have BK168 := n0_; have BK169 := n1_; have BK170 := n2_; have HB := n3_; clear n0_ n1_ n2_ n3_; (try clear hb); (try clear hb2); (try clear hk); (try clear hi)))
      go_ret
      exact ⟨er_, bk_ HB.out⟩
     ·replace c15 := Bool.eq_false_iff.mpr c15
      subst c15
      have H1 : (some false) = some r := by rw [if_neg (show ¬ (false = true) by decide)] at H; exact H
      clear H
      have H := H1
      clear H1
      obtain rfl := Option.some.inj H
      have hnb20 := NB170_168.out
      have hnc20 := NB168_170.out
      have hnb21 := NB170_169.out
      have hnc21 := NB169_170.out
      obtain ⟨hcz22_0, hcz22_1⟩ := bc2_ BK170.out
      have hfz22_0 := blk_frozen BK170.out 0
      have hfz22_1 := blk_frozen BK170.out 1
      go_wp2_with (first | (go_at_call 16; (refine (standstillref06_SameCount.calls kj6 a3_0 _ _ l3_1 0 _ _ ([] : List Int) false _ ?side1 ?side2 ?side3 ?side4 A14.out).mono ?_); (case side1 => exact ck_ (Kd.C_below HR3_1.out HB.out)); (case side2 => exact HC3_1.out); (case side3 => exact Kd.C_nil _ _); (case side4 => exact Nat.le_refl _); rintro e w23 ⟨rfl, hb⟩; have n0_ := A_ (blk_below (pk_ BK168.out) hb); have n1_ := A_ (blk_below (pk_ BK169.out) hb); have n2_ := A_ (blk_below (pk_ BK170.out) hb); have n3_ := A_ (below_step (bk_ HB.out) hb); clear BK168 BK169 BK170 HB; have BK168 := n0_; have BK169 := n1_; have BK170 := n2_; have HB := n3_; clear n0_ n1_ n2_ n3_; (try clear hb); (try clear hb2); (try clear hk); (try clear hi)))
      go_ret
      exact ⟨er_, bk_ HB.out⟩
    ·rw [if_neg c13] at H
     have c13b0 : (a5 == 2) = false := beq_eq_false_iff_ne.mpr c13
     have c13b1 : (a5 != 2) = true := bne_iff_ne.mpr c13
     obtain rfl := Option.some.inj H
     go_wp2
     go_ret
     exact ⟨er_, bk_ HB.out⟩
   ·replace c12 := Bool.eq_false_iff.mpr c12
    subst c12
    have H1 : ((standstillref06_Run.f a0_0 l0_1 a1_0 l1_1 a2).bind fun bt172 => (if ((a5 == 0) == bt172.2.2.2) = true then (if bt172.2.2.2 = true then ((standstillref06_SameCount.f kj6 a3_0 l3_1 bt172.1 bt172.2.1).bind fun t179 => (if t179 = true then (some (a4 == bt172.2.2.1)) else (some false))) else (if a5 = 4 then ((standstillref06_SameCount.f kj6 a3_0 l3_1 bt172.1 bt172.2.1).bind fun t180 => (if t180 = true then (some (a4 == bt172.2.2.1)) else (some false))) else (some false))) else (some false))) = some r := by rw [if_neg (show ¬ (false = true) by decide)] at H; exact H
    clear H
    have H := H1
    clear H1
    replace H := Option.bind_eq_some_iff.mp H
    obtain ⟨⟨t172, t173, t176, t177⟩, A240, H⟩ := H
    replace H : (if ((a5 == 0) == t177) = true then (if t177 = true then ((standstillref06_SameCount.f kj6 a3_0 l3_1 t172 t173).bind fun t179 => (if t179 = true then (some (a4 == t176)) else (some false))) else (if a5 = 4 then ((standstillref06_SameCount.f kj6 a3_0 l3_1 t172 t173).bind fun t180 => (if t180 = true then (some (a4 == t176)) else (some false))) else (some false))) else (some false)) = some r := H
    have A24 := Aside0.mk A240
    clear A240
    by_cases c25 : ((a5 == 0) == t177) = true
    ·rw [if_pos c25] at H
     have c25b0 : ((a5 == 0) == t177) = true := c25
     (try (have c25b1 : decide ((a5 == 0) = t177) = true := by simpa using c25))
     (try (have c25b2 : ((a5 == 0) == t177) = true := by simpa using c25))
     clear c25
     by_cases c26 : t177 = true
     ·subst c26
      have H1 : ((standstillref06_SameCount.f kj6 a3_0 l3_1 t172 t173).bind fun t179 => (if t179 = true then (some (a4 == t176)) else (some false))) = some r := by rw [if_pos rfl] at H; exact H
      clear H
      have H := H1
      clear H1
      replace H := Option.bind_eq_some_iff.mp H
      obtain ⟨t179, A270, H⟩ := H
      replace H : (if t179 = true then (some (a4 == t176)) else (some false)) = some r := H
      have A27 := Aside0.mk A270
      clear A270
      by_cases c28 : t179 = true
      ·subst c28
       have H1 : (some (a4 == t176)) = some r := by rw [if_pos rfl] at H; exact H
       clear H
       have H := H1
       clear H1
       obtain rfl := Option.some.inj H
       have hnb29 := NB168_169.out
       have hnc29 := NB169_168.out
       have hnb30 := NB168_170.out
       have hnc30 := NB170_168.out
       obtain ⟨hcz31_0, hcz31_1⟩ := bc2_ BK168.out
       have hfz31_0 := blk_frozen BK168.out 0
       have hfz31_1 := blk_frozen BK168.out 1
       have hnb32 := NB169_170.out
       have hnc32 := NB170_169.out
       obtain ⟨hcz33_0, hcz33_1⟩ := bc2_ BK169.out
       have hfz33_0 := blk_frozen BK169.out 0
       have hfz33_1 := blk_frozen BK169.out 1
       go_wp2_with (first | ((with_reducible refine gate_callee (f := 34) rfl ?_); refine goesL_ (some 37) rfl rfl Try.func34 (by kernel_rfl) rfl #[.agg #[.int .i64 a0_0, .slice A0_1 l0_1.length c0_1], .agg #[.int .i64 a1_0, .slice A1_1 l1_1.length c1_1], .int .i64 a2] rfl gl_ ?_; (with_reducible refine (standstillref06_Run.calls a0_0 _ _ l0_1 a1_0 _ _ l1_1 a2 t172 t173 t176 true _ ?side1 ?side2 ?side3 ?side4 A24.out).mono ?_); (case side1 => exact ck_ (Kd.C_below HR0_1.out HB.out)); (case side2 => exact HC0_1.out); (case side3 => exact ck_ (Kd.C_below HR1_1.out HB.out)); (case side4 => exact HC1_1.out); rintro e w34 ⟨v174, rfl, ho0, hb⟩; refine ⟨_, rfl, ?_⟩; have n0_ := A_ (Kd.R_lower ho0 (below_size (bk_ HB.out))); have n1_ := A_ (blk_below (pk_ BK168.out) hb); have n2_ := A_ (blk_below (pk_ BK169.out) hb); have n3_ := A_ (blk_below (pk_ BK170.out) hb); have n4_ := A_ (below_step (bk_ HB.out) hb); clear BK168 BK169 BK170 HB; have HO175 := n0_; have BK168 := n1_; have BK169 := n2_; have BK170 := n3_; have HB := n4_; clear n0_ n1_ n2_ n3_ n4_; (try clear hb); (try clear hb2); (try clear hk); (try clear hi); (try clear ho0)) | ((with_reducible refine gate_dst (N := 13) rfl ?_); refine box_event ?hg (N := 13) ?hd (cs := #[.int .i64 0, .slice none 0 0]) (t := 27) ?hr ?_; (case hd => rfl); (case hg => rfl); (case hr => first | (go_simp; done) | (go_simp; rfl)); intro gb178 hg w35 hbox hb; have n0_ := A_ (Kd.R_below (rk_ HO175.out) hb); have n1_ := A_ (blk_below (pk_ BK168.out) hb); have n2_ := A_ (blk_below (pk_ BK169.out) hb); have n3_ := A_ (blk_below (pk_ BK170.out) hb); have n4_ := A_ (below_step (bk_ HB.out) hb); have n5_ := A_ (hbox); have n6_ := A_ (bz_ hg (bk_ HB.out)); have n7_ := A_ (bz_ hg (bk_ HB.out)); have n8_ := A_ (nl_ hg (pk_ BK168.out)); have n9_ := A_ (ng_ hg (pk_ BK168.out)); have n10_ := A_ (nl_ hg (pk_ BK169.out)); have n11_ := A_ (ng_ hg (pk_ BK169.out)); have n12_ := A_ (nl_ hg (pk_ BK170.out)); have n13_ := A_ (ng_ hg (pk_ BK170.out)); clear HO175 BK168 BK169 BK170 HB; have HO175 := n0_; have BK168 := n1_; have BK169 := n2_; have BK170 := n3_; have HB := n4_; have BK178 := n5_; have GW178 := n6_; have GE178 := n7_; have NB168_178 := n8_; have NB178_168 := n9_; have NB169_178 := n10_; have NB178_169 := n11_; have NB170_178 := n12_; have NB178_170 := n13_; clear n0_ n1_ n2_ n3_ n4_ n5_ n6_ n7_ n8_ n9_ n10_ n11_ n12_ n13_ hb hbox hg; have hnb36 := NB178_168.out; have hnc36 := NB168_178.out; have hnb37 := NB178_169.out; have hnc37 := NB169_178.out; have hnb38 := NB178_170.out; have hnc38 := NB170_178.out; obtain ⟨hcz39_0, hcz39_1⟩ := bc2_ BK178.out; have hfz39_0 := blk_frozen BK178.out 0; have hfz39_1 := blk_frozen BK178.out 1; obtain ⟨Ao40, co40, eo40⟩ := Kd.R_slice HO175.out; subst eo40; obtain ⟨hcz41_0, hcz41_1⟩ := bc2_ BK170.out; have hfz41_0 := blk_frozen BK170.out 0; have hfz41_1 := blk_frozen BK170.out 1) | (go_at_call 16; (with_reducible refine (standstillref06_SameCount.calls kj6 a3_0 _ _ l3_1 t172 _ _ t173 true _ ?side1 ?side2 ?side3 ?side4 A27.out).mono ?_); (case side1 => exact Kd.C_below HR3_1.out (bk_ HB.out)); (case side2 => exact HC3_1.out); (case side3 => refine (Kd.R_reads' (e := 3) (base := w.heap.size) (ok := fun k_ => True) (n := t173.length) (c := co40) ?_).2.2; exact (rz_ HO175.out BK178.out)); (case side4 => exact (Kd.R_reads' HO175.out).2.1); rintro e w42 ⟨rfl, hb⟩; have n0_ := A_ (Kd.R_below (rz_ HO175.out BK178.out) hb); have n1_ := A_ (bf_ BK168.out NB168_178.out hb); have n2_ := A_ (bf_ BK169.out NB169_178.out hb); have n3_ := A_ (bf_ BK170.out NB170_178.out hb); have n4_ := A_ (blk_below (g := gb178) (o := .cells #[.int .i64 t172, .slice Ao40 t173.length co40] 27 (0, 0)) (by refine pk_ ?_; refine blk_put (cs := #[.int .i64 t172, .slice none 0 0]) ?_ 1 _ rfl; refine pk_ ?_; refine blk_put (cs := #[.int .i64 0, .slice none 0 0]) ?_ 0 _ rfl; exact pk_ BK178.out) hb); have n5_ := A_ (below_step (bk_ HB.out) hb); clear HO175 BK168 BK169 BK170 BK178 HB; have HO175 := n0_; have BK168 := n1_; have BK169 := n2_; have BK170 := n3_; have BK178 := n4_; have HB := n5_; clear n0_ n1_ n2_ n3_ n4_ n5_; (try clear hb); (try clear hb2); (try clear hk); (try clear hi)))
       go_ret
       exact ⟨er_, bk_ HB.out⟩
      ·replace c28 := Bool.eq_false_iff.mpr c28
       subst c28
       have H1 : (some false) = some r := by rw [if_neg (show ¬ (false = true) by decide)] at H; exact H
       clear H
       have H := H1
       clear H1
       obtain rfl := Option.some.inj H
       have hnb43 := NB168_169.out
       have hnc43 := NB169_168.out
       have hnb44 := NB168_170.out
       have hnc44 := NB170_168.out
       obtain ⟨hcz45_0, hcz45_1⟩ := bc2_ BK168.out
       have hfz45_0 := blk_frozen BK168.out 0
       have hfz45_1 := blk_frozen BK168.out 1
       have hnb46 := NB169_170.out
       have hnc46 := NB170_169.out
       obtain ⟨hcz47_0, hcz47_1⟩ := bc2_ BK169.out
       have hfz47_0 := blk_frozen BK169.out 0
       have hfz47_1 := blk_frozen BK169.out 1
       go_wp2_with (first | ((with_reducible refine gate_callee (f := 34) rfl ?_); refine goesL_ (some 37) rfl rfl Try.func34 (by kernel_rfl) rfl #[.agg #[.int .i64 a0_0, .slice A0_1 l0_1.length c0_1], .agg #[.int .i64 a1_0, .slice A1_1 l1_1.length c1_1], .int .i64 a2] rfl gl_ ?_; (with_reducible refine (standstillref06_Run.calls a0_0 _ _ l0_1 a1_0 _ _ l1_1 a2 t172 t173 t176 true _ ?side1 ?side2 ?side3 ?side4 A24.out).mono ?_); (case side1 => exact ck_ (Kd.C_below HR0_1.out HB.out)); (case side2 => exact HC0_1.out); (case side3 => exact ck_ (Kd.C_below HR1_1.out HB.out)); (case side4 => exact HC1_1.out); rintro e w48 ⟨v174, rfl, ho0, hb⟩; refine ⟨_, rfl, ?_⟩; have n0_ := A_ (Kd.R_lower ho0 (below_size (bk_ HB.out))); have n1_ := A_ (blk_below (pk_ BK168.out) hb); have n2_ := A_ (blk_below (pk_ BK169.out) hb); have n3_ := A_ (blk_below (pk_ BK170.out) hb); have n4_ := A_ (below_step (bk_ HB.out) hb); clear BK168 BK169 BK170 HB; have HO175 := n0_; have BK168 := n1_; have BK169 := n2_; have BK170 := n3_; have HB := n4_; clear n0_ n1_ n2_ n3_ n4_; (try clear hb); (try clear hb2); (try clear hk); (try clear hi); (try clear ho0)) | ((with_reducible refine gate_dst (N := 13) rfl ?_); refine box_event ?hg (N := 13) ?hd (cs := #[.int .i64 0, .slice none 0 0]) (t := 27) ?hr ?_; (case hd => rfl); (case hg => rfl); (case hr => first | (go_simp; done) | (go_simp; rfl)); intro gb178 hg w49 hbox hb; have n0_ := A_ (Kd.R_below (rk_ HO175.out) hb); have n1_ := A_ (blk_below (pk_ BK168.out) hb); have n2_ := A_ (blk_below (pk_ BK169.out) hb); have n3_ := A_ (blk_below (pk_ BK170.out) hb); have n4_ := A_ (below_step (bk_ HB.out) hb); have n5_ := A_ (hbox); have n6_ := A_ (bz_ hg (bk_ HB.out)); have n7_ := A_ (bz_ hg (bk_ HB.out)); have n8_ := A_ (nl_ hg (pk_ BK168.out)); have n9_ := A_ (ng_ hg (pk_ BK168.out)); have n10_ := A_ (nl_ hg (pk_ BK169.out)); have n11_ := A_ (ng_ hg (pk_ BK169.out)); have n12_ := A_ (nl_ hg (pk_ BK170.out)); have n13_ := A_ (ng_ hg (pk_ BK170.out)); clear HO175 BK168 BK169 BK170 HB; have HO175 := n0_; have BK168 := n1_; have BK169 := n2_; have BK170 := n3_; have HB := n4_; have BK178 := n5_; have GW178 := n6_; have GE178 := n7_; have NB168_178 := n8_; have NB178_168 := n9_; have NB169_178 := n10_; have NB178_169 := n11_; have NB170_178 := n12_; have NB178_170 := n13_; clear n0_ n1_ n2_ n3_ n4_ n5_ n6_ n7_ n8_ n9_ n10_ n11_ n12_ n13_ hb hbox hg; have hnb50 := NB178_168.out; have hnc50 := NB168_178.out; have hnb51 := NB178_169.out; have hnc51 := NB169_178.out; have hnb52 := NB178_170.out; have hnc52 := NB170_178.out; obtain ⟨hcz53_0, hcz53_1⟩ := bc2_ BK178.out; have hfz53_0 := blk_frozen BK178.out 0; have hfz53_1 := blk_frozen BK178.out 1; obtain ⟨Ao54, co54, eo54⟩ := Kd.R_slice HO175.out; subst eo54; obtain ⟨hcz55_0, hcz55_1⟩ := bc2_ BK170.out; have hfz55_0 := blk_frozen BK170.out 0; have hfz55_1 := blk_frozen BK170.out 1) | (go_at_call 16; (with_reducible refine (standstillref06_SameCount.calls kj6 a3_0 _ _ l3_1 t172 _ _ t173 false _ ?side1 ?side2 ?side3 ?side4 A27.out).mono ?_); (case side1 => exact Kd.C_below HR3_1.out (bk_ HB.out)); (case side2 => exact HC3_1.out); (case side3 => refine (Kd.R_reads' (e := 3) (base := w.heap.size) (ok := fun k_ => True) (n := t173.length) (c := co54) ?_).2.2; exact (rz_ HO175.out BK178.out)); (case side4 => exact (Kd.R_reads' HO175.out).2.1); rintro e w56 ⟨rfl, hb⟩; have n0_ := A_ (Kd.R_below (rz_ HO175.out BK178.out) hb); have n1_ := A_ (bf_ BK168.out NB168_178.out hb); have n2_ := A_ (bf_ BK169.out NB169_178.out hb); have n3_ := A_ (bf_ BK170.out NB170_178.out hb); have n4_ := A_ (blk_below (g := gb178) (o := .cells #[.int .i64 t172, .slice Ao54 t173.length co54] 27 (0, 0)) (by refine pk_ ?_; refine blk_put (cs := #[.int .i64 t172, .slice none 0 0]) ?_ 1 _ rfl; refine pk_ ?_; refine blk_put (cs := #[.int .i64 0, .slice none 0 0]) ?_ 0 _ rfl; exact pk_ BK178.out) hb); have n5_ := A_ (below_step (bk_ HB.out) hb); clear HO175 BK168 BK169 BK170 BK178 HB; have HO175 := n0_; have BK168 := n1_; have BK169 := n2_; have BK170 := n3_; have BK178 := n4_; have HB := n5_; clear n0_ n1_ n2_ n3_ n4_ n5_; (try clear hb); (try clear hb2); (try clear hk); (try clear hi)))
       go_ret
       exact ⟨er_, bk_ HB.out⟩
     ·replace c26 := Bool.eq_false_iff.mpr c26
      subst c26
      have H1 : (if a5 = 4 then ((standstillref06_SameCount.f kj6 a3_0 l3_1 t172 t173).bind fun t180 => (if t180 = true then (some (a4 == t176)) else (some false))) else (some false)) = some r := by rw [if_neg (show ¬ (false = true) by decide)] at H; exact H
      clear H
      have H := H1
      clear H1
      by_cases c57 : a5 = 4
      ·rw [if_pos c57] at H
       have c57b0 : (a5 == 4) = true := beq_iff_eq.mpr c57
       have c57b1 : (a5 != 4) = false := bne_eq_false_iff_eq.mpr c57
       clear c57
       replace H := Option.bind_eq_some_iff.mp H
       obtain ⟨t180, A580, H⟩ := H
       replace H : (if t180 = true then (some (a4 == t176)) else (some false)) = some r := H
       have A58 := Aside0.mk A580
       clear A580
       by_cases c59 : t180 = true
       ·subst c59
        have H1 : (some (a4 == t176)) = some r := by rw [if_pos rfl] at H; exact H
        clear H
        have H := H1
        clear H1
        obtain rfl := Option.some.inj H
        have hnb60 := NB168_169.out
        have hnc60 := NB169_168.out
        have hnb61 := NB168_170.out
        have hnc61 := NB170_168.out
        obtain ⟨hcz62_0, hcz62_1⟩ := bc2_ BK168.out
        have hfz62_0 := blk_frozen BK168.out 0
        have hfz62_1 := blk_frozen BK168.out 1
        have hnb63 := NB169_170.out
        have hnc63 := NB170_169.out
        obtain ⟨hcz64_0, hcz64_1⟩ := bc2_ BK169.out
        have hfz64_0 := blk_frozen BK169.out 0
        have hfz64_1 := blk_frozen BK169.out 1
        go_wp2_with (first | ((with_reducible refine gate_callee (f := 34) rfl ?_); refine goesL_ (some 37) rfl rfl Try.func34 (by kernel_rfl) rfl #[.agg #[.int .i64 a0_0, .slice A0_1 l0_1.length c0_1], .agg #[.int .i64 a1_0, .slice A1_1 l1_1.length c1_1], .int .i64 a2] rfl gl_ ?_; (with_reducible refine (standstillref06_Run.calls a0_0 _ _ l0_1 a1_0 _ _ l1_1 a2 t172 t173 t176 false _ ?side1 ?side2 ?side3 ?side4 A24.out).mono ?_); (case side1 => exact ck_ (Kd.C_below HR0_1.out HB.out)); (case side2 => exact HC0_1.out); (case side3 => exact ck_ (Kd.C_below HR1_1.out HB.out)); (case side4 => exact HC1_1.out); rintro e w65 ⟨v174, rfl, ho0, hb⟩; refine ⟨_, rfl, ?_⟩; have n0_ := A_ (Kd.R_lower ho0 (below_size (bk_ HB.out))); have n1_ := A_ (blk_below (pk_ BK168.out) hb); have n2_ := A_ (blk_below (pk_ BK169.out) hb); have n3_ := A_ (blk_below (pk_ BK170.out) hb); have n4_ := A_ (below_step (bk_ HB.out) hb); clear BK168 BK169 BK170 HB; have HO175 := n0_; have BK168 := n1_; have BK169 := n2_; have BK170 := n3_; have HB := n4_; clear n0_ n1_ n2_ n3_ n4_; (try clear hb); (try clear hb2); (try clear hk); (try clear hi); (try clear ho0)) | ((with_reducible refine gate_dst (N := 13) rfl ?_); refine box_event ?hg (N := 13) ?hd (cs := #[.int .i64 0, .slice none 0 0]) (t := 27) ?hr ?_; (case hd => rfl); (case hg => rfl); (case hr => first | (go_simp; done) | (go_simp; rfl)); intro gb178 hg w66 hbox hb; have n0_ := A_ (Kd.R_below (rk_ HO175.out) hb); have n1_ := A_ (blk_below (pk_ BK168.out) hb); have n2_ := A_ (blk_below (pk_ BK169.out) hb); have n3_ := A_ (blk_below (pk_ BK170.out) hb); have n4_ := A_ (below_step (bk_ HB.out) hb); have n5_ := A_ (hbox); have n6_ := A_ (bz_ hg (bk_ HB.out)); have n7_ := A_ (bz_ hg (bk_ HB.out)); have n8_ := A_ (nl_ hg (pk_ BK168.out)); have n9_ := A_ (ng_ hg (pk_ BK168.out)); have n10_ := A_ (nl_ hg (pk_ BK169.out)); have n11_ := A_ (ng_ hg (pk_ BK169.out)); have n12_ := A_ (nl_ hg (pk_ BK170.out)); have n13_ := A_ (ng_ hg (pk_ BK170.out)); clear HO175 BK168 BK169 BK170 HB; have HO175 := n0_; have BK168 := n1_; have BK169 := n2_; have BK170 := n3_; have HB := n4_; have BK178 := n5_; have GW178 := n6_; have GE178 := n7_; have NB168_178 := n8_; have NB178_168 := n9_; have NB169_178 := n10_; have NB178_169 := n11_; have NB170_178 := n12_; have NB178_170 := n13_; clear n0_ n1_ n2_ n3_ n4_ n5_ n6_ n7_ n8_ n9_ n10_ n11_ n12_ n13_ hb hbox hg; have hnb67 := NB178_168.out; have hnc67 := NB168_178.out; have hnb68 := NB178_169.out; have hnc68 := NB169_178.out; have hnb69 := NB178_170.out; have hnc69 := NB170_178.out; obtain ⟨hcz70_0, hcz70_1⟩ := bc2_ BK178.out; have hfz70_0 := blk_frozen BK178.out 0; have hfz70_1 := blk_frozen BK178.out 1; obtain ⟨Ao71, co71, eo71⟩ := Kd.R_slice HO175.out; subst eo71; obtain ⟨hcz72_0, hcz72_1⟩ := bc2_ BK170.out; have hfz72_0 := blk_frozen BK170.out 0; have hfz72_1 := blk_frozen BK170.out 1) | (go_at_call 16; (with_reducible refine (standstillref06_SameCount.calls kj6 a3_0 _ _ l3_1 t172 _ _ t173 true _ ?side1 ?side2 ?side3 ?side4 A58.out).mono ?_); (case side1 => exact Kd.C_below HR3_1.out (bk_ HB.out)); (case side2 => exact HC3_1.out); (case side3 => refine (Kd.R_reads' (e := 3) (base := w.heap.size) (ok := fun k_ => True) (n := t173.length) (c := co71) ?_).2.2; exact (rz_ HO175.out BK178.out)); (case side4 => exact (Kd.R_reads' HO175.out).2.1); rintro e w73 ⟨rfl, hb⟩; have n0_ := A_ (Kd.R_below (rz_ HO175.out BK178.out) hb); have n1_ := A_ (bf_ BK168.out NB168_178.out hb); have n2_ := A_ (bf_ BK169.out NB169_178.out hb); have n3_ := A_ (bf_ BK170.out NB170_178.out hb); have n4_ := A_ (blk_below (g := gb178) (o := .cells #[.int .i64 t172, .slice Ao71 t173.length co71] 27 (0, 0)) (by refine pk_ ?_; refine blk_put (cs := #[.int .i64 t172, .slice none 0 0]) ?_ 1 _ rfl; refine pk_ ?_; refine blk_put (cs := #[.int .i64 0, .slice none 0 0]) ?_ 0 _ rfl; exact pk_ BK178.out) hb); have n5_ := A_ (below_step (bk_ HB.out) hb); clear HO175 BK168 BK169 BK170 BK178 HB; have HO175 := n0_; have BK168 := n1_; have BK169 := n2_; have BK170 := n3_; have BK178 := n4_; have HB := n5_; clear n0_ n1_ n2_ n3_ n4_ n5_; (try clear hb); (try clear hb2); (try clear hk); (try clear hi)))
        go_ret
        exact ⟨er_, bk_ HB.out⟩
       ·replace c59 := Bool.eq_false_iff.mpr c59
        subst c59
        have H1 : (some false) = some r := by rw [if_neg (show ¬ (false = true) by decide)] at H; exact H
        clear H
        have H := H1
        clear H1
        obtain rfl := Option.some.inj H
        have hnb74 := NB168_169.out
        have hnc74 := NB169_168.out
        have hnb75 := NB168_170.out
        have hnc75 := NB170_168.out
        obtain ⟨hcz76_0, hcz76_1⟩ := bc2_ BK168.out
        have hfz76_0 := blk_frozen BK168.out 0
        have hfz76_1 := blk_frozen BK168.out 1
        have hnb77 := NB169_170.out
        have hnc77 := NB170_169.out
        obtain ⟨hcz78_0, hcz78_1⟩ := bc2_ BK169.out
        have hfz78_0 := blk_frozen BK169.out 0
        have hfz78_1 := blk_frozen BK169.out 1
        go_wp2_with (first | ((with_reducible refine gate_callee (f := 34) rfl ?_); refine goesL_ (some 37) rfl rfl Try.func34 (by kernel_rfl) rfl #[.agg #[.int .i64 a0_0, .slice A0_1 l0_1.length c0_1], .agg #[.int .i64 a1_0, .slice A1_1 l1_1.length c1_1], .int .i64 a2] rfl gl_ ?_; (with_reducible refine (standstillref06_Run.calls a0_0 _ _ l0_1 a1_0 _ _ l1_1 a2 t172 t173 t176 false _ ?side1 ?side2 ?side3 ?side4 A24.out).mono ?_); (case side1 => exact ck_ (Kd.C_below HR0_1.out HB.out)); (case side2 => exact HC0_1.out); (case side3 => exact ck_ (Kd.C_below HR1_1.out HB.out)); (case side4 => exact HC1_1.out); rintro e w79 ⟨v174, rfl, ho0, hb⟩; refine ⟨_, rfl, ?_⟩; have n0_ := A_ (Kd.R_lower ho0 (below_size (bk_ HB.out))); have n1_ := A_ (blk_below (pk_ BK168.out) hb); have n2_ := A_ (blk_below (pk_ BK169.out) hb); have n3_ := A_ (blk_below (pk_ BK170.out) hb); have n4_ := A_ (below_step (bk_ HB.out) hb); clear BK168 BK169 BK170 HB; have HO175 := n0_; have BK168 := n1_; have BK169 := n2_; have BK170 := n3_; have HB := n4_; clear n0_ n1_ n2_ n3_ n4_; (try clear hb); (try clear hb2); (try clear hk); (try clear hi); (try clear ho0)) | ((with_reducible refine gate_dst (N := 13) rfl ?_); refine box_event ?hg (N := 13) ?hd (cs := #[.int .i64 0, .slice none 0 0]) (t := 27) ?hr ?_; (case hd => rfl); (case hg => rfl); (case hr => first | (go_simp; done) | (go_simp; rfl)); intro gb178 hg w80 hbox hb; have n0_ := A_ (Kd.R_below (rk_ HO175.out) hb); have n1_ := A_ (blk_below (pk_ BK168.out) hb); have n2_ := A_ (blk_below (pk_ BK169.out) hb); have n3_ := A_ (blk_below (pk_ BK170.out) hb); have n4_ := A_ (below_step (bk_ HB.out) hb); have n5_ := A_ (hbox); have n6_ := A_ (bz_ hg (bk_ HB.out)); have n7_ := A_ (bz_ hg (bk_ HB.out)); have n8_ := A_ (nl_ hg (pk_ BK168.out)); have n9_ := A_ (ng_ hg (pk_ BK168.out)); have n10_ := A_ (nl_ hg (pk_ BK169.out)); have n11_ := A_ (ng_ hg (pk_ BK169.out)); have n12_ := A_ (nl_ hg (pk_ BK170.out)); have n13_ := A_ (ng_ hg (pk_ BK170.out)); clear HO175 BK168 BK169 BK170 HB; have HO175 := n0_; have BK168 := n1_; have BK169 := n2_; have BK170 := n3_; have HB := n4_; have BK178 := n5_; have GW178 := n6_; have GE178 := n7_; have NB168_178 := n8_; have NB178_168 := n9_; have NB169_178 := n10_; have NB178_169 := n11_; have NB170_178 := n12_; have NB178_170 := n13_; clear n0_ n1_ n2_ n3_ n4_ n5_ n6_ n7_ n8_ n9_ n10_ n11_ n12_ n13_ hb hbox hg; have hnb81 := NB178_168.out; have hnc81 := NB168_178.out; have hnb82 := NB178_169.out; have hnc82 := NB169_178.out; have hnb83 := NB178_170.out; have hnc83 := NB170_178.out; obtain ⟨hcz84_0, hcz84_1⟩ := bc2_ BK178.out; have hfz84_0 := blk_frozen BK178.out 0; have hfz84_1 := blk_frozen BK178.out 1; obtain ⟨Ao85, co85, eo85⟩ := Kd.R_slice HO175.out; subst eo85; obtain ⟨hcz86_0, hcz86_1⟩ := bc2_ BK170.out; have hfz86_0 := blk_frozen BK170.out 0; have hfz86_1 := blk_frozen BK170.out 1) | (go_at_call 16; (with_reducible refine (standstillref06_SameCount.calls kj6 a3_0 _ _ l3_1 t172 _ _ t173 false _ ?side1 ?side2 ?side3 ?side4 A58.out).mono ?_); (case side1 => exact Kd.C_below HR3_1.out (bk_ HB.out)); (case side2 => exact HC3_1.out); (case side3 => refine (Kd.R_reads' (e := 3) (base := w.heap.size) (ok := fun k_ => True) (n := t173.length) (c := co85) ?_).2.2; exact (rz_ HO175.out BK178.out)); (case side4 => exact (Kd.R_reads' HO175.out).2.1); rintro e w87 ⟨rfl, hb⟩; have n0_ := A_ (Kd.R_below (rz_ HO175.out BK178.out) hb); have n1_ := A_ (bf_ BK168.out NB168_178.out hb); have n2_ := A_ (bf_ BK169.out NB169_178.out hb); have n4_ := A_ (blk_below (g := gb178) (o := .cells #[.int .i64 t172, .slice Ao85 t173.length co85] 27 (0, 0)) (by refine pk_ ?_; refine blk_put (cs := #[.int .i64 t172, .slice none 0 0]) ?_ 1 _ rfl; refine pk_ ?_; refine blk_put (cs := #[.int .i64 0, .slice none 0 0]) ?_ 0 _ rfl; exact pk_ BK178.out) hb); have n5_ := A_ (below_step (bk_ HB.out) hb); clear HO175 BK168 BK169 BK178 HB; have HO175 := n0_; have BK168 := n1_; have BK169 := n2_; have BK178 := n4_; have HB := n5_; clear n0_ n1_ n2_ n4_ n5_; (try clear hb); (try clear hb2); (try clear hk); (try clear hi)))
        go_ret
        exact ⟨er_, bk_ HB.out⟩
      ·rw [if_neg c57] at H
       have c57b0 : (a5 == 4) = false := beq_eq_false_iff_ne.mpr c57
       have c57b1 : (a5 != 4) = true := bne_iff_ne.mpr c57
       obtain rfl := Option.some.inj H
       have hnb88 := NB168_169.out
       have hnc88 := NB169_168.out
       obtain ⟨hcz90_0, hcz90_1⟩ := bc2_ BK168.out
       have hfz90_0 := blk_frozen BK168.out 0
       have hfz90_1 := blk_frozen BK168.out 1
       obtain ⟨hcz92_0, hcz92_1⟩ := bc2_ BK169.out
       have hfz92_0 := blk_frozen BK169.out 0
       have hfz92_1 := blk_frozen BK169.out 1
       go_wp2_with (first | ((with_reducible refine gate_callee (f := 34) rfl ?_); refine goesL_ (some 37) rfl rfl Try.func34 (by kernel_rfl) rfl #[.agg #[.int .i64 a0_0, .slice A0_1 l0_1.length c0_1], .agg #[.int .i64 a1_0, .slice A1_1 l1_1.length c1_1], .int .i64 a2] rfl gl_ ?_; (with_reducible refine (standstillref06_Run.calls a0_0 _ _ l0_1 a1_0 _ _ l1_1 a2 t172 t173 t176 false _ ?side1 ?side2 ?side3 ?side4 A24.out).mono ?_); (case side1 => exact ck_ (Kd.C_below HR0_1.out HB.out)); (case side2 => exact HC0_1.out); (case side3 => exact ck_ (Kd.C_below HR1_1.out HB.out)); (case side4 => exact HC1_1.out); rintro e w93 ⟨v174, rfl, ho0, hb⟩; refine ⟨_, rfl, ?_⟩; have n0_ := A_ (Kd.R_lower ho0 (below_size (bk_ HB.out))); have n1_ := A_ (blk_below (pk_ BK168.out) hb); have n2_ := A_ (blk_below (pk_ BK169.out) hb); have n4_ := A_ (below_step (bk_ HB.out) hb); clear BK168 BK169 HB; have HO175 := n0_; have BK168 := n1_; have BK169 := n2_; have HB := n4_; clear n0_ n1_ n2_ n4_; (try clear hb); (try clear hb2); (try clear hk); (try clear hi); (try clear ho0)) | ((with_reducible refine gate_dst (N := 13) rfl ?_); refine box_event ?hg (N := 13) ?hd (cs := #[.int .i64 0, .slice none 0 0]) (t := 27) ?hr ?_; (case hd => rfl); (case hg => rfl); (case hr => first | (go_simp; done) | (go_simp; rfl)); intro gb178 hg w94 hbox hb; have n0_ := A_ (Kd.R_below (rk_ HO175.out) hb); have n1_ := A_ (blk_below (pk_ BK168.out) hb); have n2_ := A_ (blk_below (pk_ BK169.out) hb); have n4_ := A_ (below_step (bk_ HB.out) hb); have n5_ := A_ (hbox); have n6_ := A_ (bz_ hg (bk_ HB.out)); have n7_ := A_ (bz_ hg (bk_ HB.out)); have n8_ := A_ (nl_ hg (pk_ BK168.out)); have n9_ := A_ (ng_ hg (pk_ BK168.out)); have n10_ := A_ (nl_ hg (pk_ BK169.out)); have n11_ := A_ (ng_ hg (pk_ BK169.out)); clear HO175 BK168 BK169 HB; have HO175 := n0_; have BK168 := n1_; have BK169 := n2_; have HB := n4_; have BK178 := n5_; have GW178 := n6_; have GE178 := n7_; have NB168_178 := n8_; have NB178_168 := n9_; have NB169_178 := n10_; have NB178_169 := n11_; clear n0_ n1_ n2_ n4_ n5_ n6_ n7_ n8_ n9_ n10_ n11_ hb hbox hg; have hnb95 := NB178_168.out; have hnc95 := NB168_178.out; have hnb96 := NB178_169.out; have hnc96 := NB169_178.out; obtain ⟨hcz98_0, hcz98_1⟩ := bc2_ BK178.out; have hfz98_0 := blk_frozen BK178.out 0; have hfz98_1 := blk_frozen BK178.out 1; obtain ⟨Ao99, co99, eo99⟩ := Kd.R_slice HO175.out; subst eo99))
       go_ret
       exact ⟨er_, bk_ HB.out⟩
    ·rw [if_neg c25] at H
     have c25b0 : ((a5 == 0) == t177) = false := by simpa using c25
     (try (have c25b1 : decide ((a5 == 0) = t177) = false := by simpa using c25))
     (try (have c25b2 : ((a5 == 0) == t177) = false := by simpa using c25))
     (try (have c25b3 : ¬ ((a5 == 0) = t177) := by simpa using c25))
     clear c25
     obtain rfl := Option.some.inj H
     have hnb100 := NB168_169.out
     have hnc100 := NB169_168.out
     obtain ⟨hcz102_0, hcz102_1⟩ := bc2_ BK168.out
     have hfz102_0 := blk_frozen BK168.out 0
     have hfz102_1 := blk_frozen BK168.out 1
     obtain ⟨hcz104_0, hcz104_1⟩ := bc2_ BK169.out
     have hfz104_0 := blk_frozen BK169.out 0
     have hfz104_1 := blk_frozen BK169.out 1
     go_wp2_with (first | ((with_reducible refine gate_callee (f := 34) rfl ?_); refine goesL_ (some 37) rfl rfl Try.func34 (by kernel_rfl) rfl #[.agg #[.int .i64 a0_0, .slice A0_1 l0_1.length c0_1], .agg #[.int .i64 a1_0, .slice A1_1 l1_1.length c1_1], .int .i64 a2] rfl gl_ ?_; (with_reducible refine (standstillref06_Run.calls a0_0 _ _ l0_1 a1_0 _ _ l1_1 a2 t172 t173 t176 t177 _ ?side1 ?side2 ?side3 ?side4 A24.out).mono ?_); (case side1 => exact ck_ (Kd.C_below HR0_1.out HB.out)); (case side2 => exact HC0_1.out); (case side3 => exact ck_ (Kd.C_below HR1_1.out HB.out)); (case side4 => exact HC1_1.out); rintro e w105 ⟨v174, rfl, ho0, hb⟩; refine ⟨_, rfl, ?_⟩; have n0_ := A_ (Kd.R_lower ho0 (below_size (bk_ HB.out))); have n4_ := A_ (below_step (bk_ HB.out) hb); clear HB; have HO175 := n0_; have HB := n4_; clear n0_ n4_; (try clear hb); (try clear hb2); (try clear hk); (try clear hi); (try clear ho0)) | ((with_reducible refine gate_dst (N := 13) rfl ?_); refine box_event ?hg (N := 13) ?hd (cs := #[.int .i64 0, .slice none 0 0]) (t := 27) ?hr ?_; (case hd => rfl); (case hg => rfl); (case hr => first | (go_simp; done) | (go_simp; rfl)); intro gb178 hg w106 hbox hb; have n0_ := A_ (Kd.R_below (rk_ HO175.out) hb); have n4_ := A_ (below_step (bk_ HB.out) hb); have n5_ := A_ (hbox); have n6_ := A_ (bz_ hg (bk_ HB.out)); have n7_ := A_ (bz_ hg (bk_ HB.out)); clear HO175 HB; have HO175 := n0_; have HB := n4_; have BK178 := n5_; have GW178 := n6_; have GE178 := n7_; clear n0_ n4_ n5_ n6_ n7_ hb hbox hg; obtain ⟨hcz110_0, hcz110_1⟩ := bc2_ BK178.out; have hfz110_0 := blk_frozen BK178.out 0; have hfz110_1 := blk_frozen BK178.out 1; obtain ⟨Ao111, co111, eo111⟩ := Kd.R_slice HO175.out; subst eo111))
     go_ret
     exact ⟨er_, bk_ HB.out⟩

end Go.Proofs.Ytkekehpfkfadfaa.PCounterRuns
