-- out of a turned copy of the print, by a program of this session; Lean checks it
import Derived.Test.YtkekehpfkfadfaaPCounterRunsx0
import Derived.Test.YtkekehpfkfadfaaPCounterRunsx6
import Derived.Test.YtkekehpfkfadfaaPCounterRunsx8
import Derived.Test.YtkekehpfkfadfaaPCounterRunsx9
import Derived.Test.YtkekehpfkfadfaaPCounterRunsx10
namespace Go.Proofs.Ytkekehpfkfadfaa.PCounterRuns
open Go.RowKit Go.Proofs.YtkekehpfkfadfaaW.PrintWords Go.Proofs.YtkekehpfkfadfaaW.PrintLast Go.Proofs.YtkekehpfkfadfaaW.PrintMore
attribute [local go_sem] max2_int min2_int max_two min_two max_three min_three max_four min_four   -- for this text's walks alone
set_option linter.unusedVariables false
set_option linter.unusedSimpArgs false

attribute [local go_sem] isSome_put_
/-! ### standstillref06_In: function 24 -/
def standstillref06_In.l0 : Nat → Int → List Int → Int → Option (Bool)
 | 0, _, _, _ => none
 | k + 1, x0, x1, x5 => if x5 < (x1.length : Int) then (if 0 ≤ x5 then (if (rd x1 x5) = x0 then (some true) else (standstillref06_In.l0 k x0 x1 (wrap64 (x5 + 1)))) else (none)) else (some false)
def standstillref06_In.f (k : Nat) (a0 : Int) (l1 : List Int) : Option (Bool) := standstillref06_In.l0 k a0 l1 0
theorem standstillref06_In.mono_l : ∀ k, (∀ y0 y1 y2, LeO (standstillref06_In.l0 k y0 y1 y2) (standstillref06_In.l0 (k + 1) y0 y1 y2))
 | 0 => fun _ _ _ r h => by simp [standstillref06_In.l0] at h
 | k + 1 => by
  have ih0 := standstillref06_In.mono_l k
  ·intro y0 y1 y2
   unfold standstillref06_In.l0
   repeat' first
   | (with_reducible exact ih0 _ _ _)
   | (with_reducible exact LeO.refl _)
   | (with_reducible exact LeO.none _)
   | (with_reducible refine LeO.ite ?_ ?_)
   | (with_reducible refine LeO.bind ?_ (fun _ => ?_))
   | exact ih0 _ _ _
   | exact LeO.none _
   | refine LeO.ite ?_ ?_
   | refine LeO.bind ?_ (fun _ => ?_)
theorem standstillref06_In.mono : ∀ a0 a1 k, LeO (standstillref06_In.f k a0 a1) (standstillref06_In.f (k + 1) a0 a1) := by
 intro a0 a1 k
 have ih0 := standstillref06_In.mono_l k
 unfold standstillref06_In.f
 repeat' first
   | (with_reducible exact ih0 _ _ _)
   | (with_reducible exact LeO.refl _)
   | (with_reducible exact LeO.none _)
   | (with_reducible refine LeO.ite ?_ ?_)
   | (with_reducible refine LeO.bind ?_ (fun _ => ?_))
   | exact ih0 _ _ _
   | exact LeO.none _
   | refine LeO.ite ?_ ?_
   | refine LeO.bind ?_ (fun _ => ?_)
set_option maxHeartbeats 8000000 in
set_option maxRecDepth 100000 in
theorem standstillref06_In.calls (k : Nat) (a0 : Int) (A1 : Option Addr) (c1 : Nat) (l1 : List Int) (r : Bool) (w : World) (hr1 : Kd.C (Kd.int .i64) w A1 l1.length l1) (hc1 : l1.length ≤ c1) (h : standstillref06_In.f k a0 l1 = some r) :
  Calls Try.prog 24 #[.int .i64 a0, .slice A1 l1.length c1] w fun e w' => e = .returned (.bool r) ∧ Drawn0 w w' := by
 have HR1 := Aside0.mk hr1
 have HC1 := Aside0.mk hc1
 clear hr1 hc1
 have H : (standstillref06_In.l0 k a0 l1 0) = some r := h
 clear h
 have H' := Aside0.mk H
 clear H
 go_enter Try.func24, Try.ntmps24
 go_wp2
 go_loopg [5] k (fun kq v5 w' => ∃ (x5_1 : Int), v5 = .int .i64 x5_1 ∧ Aside0 (standstillref06_In.l0 kq a0 l1 x5_1 = some r) ∧ Aside0 (kq ≤ k) ∧ Drawn0 w w')
 case atStart => exact ⟨(0), jr_, H', ⟨Nat.le_refl _⟩, by repeat (first | exact Drawn0.refl _ | apply Drawn0.step)⟩
 case round =>
  clear H'
  (try clear c1)
  obtain ⟨x5_1, rfl, HA, HK1, ⟨m1, rfl⟩⟩ := hrel
  cases gk with
  | zero => exact absurd HA.out (by simp [standstillref06_In.l0])
  | succ k1 =>
   have H := HA.out
   clear HA
   simp only [standstillref06_In.l0] at H
   by_cases c3 : x5_1 < (l1.length : Int)
   ·rw [if_pos c3] at H
    have c3b0 : decide (x5_1 < (l1.length : Int)) = true := decide_eq_true c3
    clear c3
    by_cases c4 : 0 ≤ x5_1
    ·rw [if_pos c4] at H
     have c4b0 : decide (0 ≤ x5_1) = true := decide_eq_true c4
     clear c4
     by_cases c5 : (rd l1 x5_1) = a0
     ·rw [if_pos c5] at H
      have c5b0 : ((rd l1 x5_1) == a0) = true := beq_iff_eq.mpr c5
      have c5b1 : ((rd l1 x5_1) != a0) = false := bne_eq_false_iff_eq.mpr c5
      clear c5
      obtain rfl := Option.some.inj H
      have p186 : 0 ≤ (x5_1 : Int) := od_
      have q186 : x5_1 < (l1.length : Int) := od_
      obtain ⟨ad186, e186, hx186_0⟩ := Kd.at_int HR1.out x5_1 p186 q186
      cases e186
      replace p186 := eq_true p186
      replace q186 := eq_true q186
      go_wp2
      go_ret
      exact ⟨by first | rfl | (simp; done) | (simp [*]; done), by repeat (first | exact Drawn0.refl _ | apply Drawn0.step)⟩
     ·rw [if_neg c5] at H
      have c5b0 : ((rd l1 x5_1) == a0) = false := beq_eq_false_iff_ne.mpr c5
      have c5b1 : ((rd l1 x5_1) != a0) = true := bne_iff_ne.mpr c5
      have H' := Aside0.mk H
      clear H
      have p186 : 0 ≤ (x5_1 : Int) := od_
      have q186 : x5_1 < (l1.length : Int) := od_
      obtain ⟨ad186, e186, hx186_0⟩ := Kd.at_int HR1.out x5_1 p186 q186
      cases e186
      replace p186 := eq_true p186
      replace q186 := eq_true q186
      go_wp2
      go_roundg k1
      case measure => have := HK1.out; omega
      case rel => exact ⟨(wrap64 (x5_1 + 1)), jr_, H', ⟨by have := HK1.out; omega⟩, by repeat (first | exact Drawn0.refl _ | apply Drawn0.step)⟩
    ·rw [if_neg c4] at H
     exact absurd H (by simp)
   ·rw [if_neg c3] at H
    have c3b0 : decide (x5_1 < (l1.length : Int)) = false := decide_eq_false c3
    clear c3
    obtain rfl := Option.some.inj H
    go_wp2
    go_ret
    exact ⟨by first | rfl | (simp; done) | (simp [*]; done), by repeat (first | exact Drawn0.refl _ | apply Drawn0.step)⟩

/-! ### standstillref06_Until: function 36 (by hand) -/
def runtil (k : Nat) (code : List S33) (l2 : List Int) : Nat → Int → List Int → Int → Option (Int × List Int × Int × Int)
  | 0, _, _, _ => some (0, [], 0, 6)
  | d + 1, p, l, i => (rgo code p l).bind fun z => if z.2.2.2 = true then some (0, [], 0, 4) else if z.2.2.1 = true then some (0, [], 0, 6) else (standstillref06_In.f k z.1 l2).bind fun m => if m = true then some (z.1, z.2.1, i, 0) else runtil k code l2 d z.1 z.2.1 (i + 1)
theorem runtil_mono (k : Nat) (code : List S33) (l2 : List Int) : ∀ (d : Nat) (p : Int) (l : List Int) (i : Int), LeO (runtil k code l2 d p l i) (runtil (k + 1) code l2 d p l i)
  | 0, _, _, _ => LeO.refl _
  | d + 1, p, l, i => by
    have ih := runtil_mono k code l2 d
    unfold runtil
    refine LeO.bind (LeO.refl _) (fun z => LeO.ite (LeO.refl _) (LeO.ite (LeO.refl _) (LeO.bind (standstillref06_In.mono _ _ _) (fun m => LeO.ite (LeO.refl _) (ih _ _ _)))))
def standstillref06_Until.f (k : Nat) (a0_0 : Int) (l0_1 : List S33) (a1_0 : Int) (l1_1 : List Int) (l2 : List Int) (a3 : Int) : Option (Int × List Int × Int × Int) :=
  if l1_1.length < 17592186044416 ∧ 0 ≤ a3 ∧ a3 ≤ 1000000 then runtil k l0_1 l2 a3.toNat a1_0 l1_1 1 else none
theorem standstillref06_Until.mono : ∀ a0 a1 a2 a3 a4 a5 k, LeO (standstillref06_Until.f k a0 a1 a2 a3 a4 a5) (standstillref06_Until.f (k + 1) a0 a1 a2 a3 a4 a5) := by
  intro a0 a1 a2 a3 a4 a5 k
  unfold standstillref06_Until.f
  exact LeO.ite (runtil_mono _ _ _ _ _ _ _) (LeO.refl _)
set_option maxHeartbeats 4000000 in
set_option maxRecDepth 100000 in
set_option maxHeartbeats 8000000 in
set_option maxRecDepth 100000 in
theorem standstillref06_Until.calls (k : Nat) (a0_0 : Int) (A0_1 : Option Addr) (c0_1 : Nat) (l0_1 : List S33) (a1_0 : Int) (A1_1 : Option Addr) (c1_1 : Nat) (l1_1 : List Int) (A2 : Option Addr) (c2 : Nat) (l2 : List Int) (a3 : Int) (r1 : Int) (r2 : List Int) (r3 : Int) (r4 : Int) (w : World) (hr0_1 : Kd.C k33 w A0_1 l0_1.length l0_1) (hc0_1 : l0_1.length ≤ c0_1) (hr1_1 : Kd.C (Kd.int .i64) w A1_1 l1_1.length l1_1) (hc1_1 : l1_1.length ≤ c1_1) (hr2 : Kd.C (Kd.int .i64) w A2 l2.length l2) (hc2 : l2.length ≤ c2) (h : standstillref06_Until.f k a0_0 l0_1 a1_0 l1_1 l2 a3 = some (r1, r2, r3, r4)) :
    Calls Try.prog 36 #[.agg #[.int .i64 a0_0, .slice A0_1 l0_1.length c0_1], .agg #[.int .i64 a1_0, .slice A1_1 l1_1.length c1_1], .slice A2 l2.length c2, .int .i64 a3] w fun e w' => ∃ v1_ : Value, e = .returned (.tuple #[.agg #[.int .i64 r1, v1_], .int .i64 r3, .int .i64 r4]) ∧ Kd.R (Kd.int .i64) 3 w' w.heap.size (fun _ => True) v1_ r2 ∧ Below w.heap.size w w' := by
  have hu24 := Try.underlying24
  have hu27 := Try.underlying27
  unfold standstillref06_Until.f at h
  by_cases hl : l1_1.length < 17592186044416 ∧ 0 ≤ a3 ∧ a3 ≤ 1000000
  rotate_left
  · rw [if_neg hl] at h
    cases h
  rw [if_pos hl] at h
  obtain ⟨hl, hn0, hn1⟩ := hl
  have H := Aside0.mk h
  have HN := Aside0.mk (show 0 ≤ a3 ∧ a3 ≤ 1000000 from ⟨hn0, hn1⟩)
  have HR0_1 := Aside0.mk hr0_1
  have HC0_1 := Aside0.mk hc0_1
  have HR2 := Aside0.mk hr2
  have HC2 := Aside0.mk hc2
  clear hr2 hc2
  have hCP : ∀ W : World, Below w.heap.size w W → Calls Try.prog 32 #[.agg #[.int .i64 a1_0, .slice A1_1 l1_1.length c1_1]] W fun e w' => ∃ v1_ : Value, e = .returned (.agg #[.int .i64 a1_0, v1_]) ∧ Kd.R (Kd.int .i64) 3 w' W.heap.size (fun _ => True) v1_ l1_1 ∧ Below W.heap.size W w' := fun W hW => standstillref06_Copy.calls a1_0 A1_1 c1_1 l1_1 a1_0 l1_1 W (Kd.C_below hr1_1 hW) hc1_1 (by unfold standstillref06_Copy.f; simp only [Option.bind_some]; rw [if_pos (by simpa using hl)]; rfl)
  have HCP := Aside0.mk hCP
  clear h hr0_1 hc0_1 hr1_1 hc1_1 hCP hl hn0 hn1
  go_enter Try.func36, Try.ntmps36
  go_wp2_with fail
  obtain ⟨W1, hW1⟩ : ∃ W1 : World, W1 = (((w.alloc (.cells #[.int .i64 a0_0, .slice A0_1 l0_1.length c0_1] 24)).alloc (.cells #[.int .i64 a1_0, .slice A1_1 l1_1.length c1_1] 27)).alloc (.cells #[.int .i64 0, .slice none 0 0] 27)) := ⟨_, rfl⟩
  have hBW1 : Below w.heap.size w W1 := by rw [hW1]; exact below_alloc (below_alloc (below_alloc (Below.refl _ _) _) _) _
  have hb0 : W1.heap[w.heap.size]? = some (.cells #[.int .i64 a0_0, .slice A0_1 l0_1.length c0_1] 24 (0, 0)) := by rw [hW1]; exact blk_alloc (blk_alloc (blk_new _ _) _) _
  have hb1 : W1.heap[w.heap.size + 1]? = some (.cells #[.int .i64 a1_0, .slice A1_1 l1_1.length c1_1] 27 (0, 0)) := by rw [hW1]; exact blk_alloc (by have h_ := blk_new (w.alloc (.cells #[.int .i64 a0_0, .slice A0_1 l0_1.length c0_1] 24)) (.cells #[.int .i64 a1_0, .slice A1_1 l1_1.length c1_1] 27); simpa using h_) _
  have hb2 : W1.heap[w.heap.size + 1 + 1]? = some (.cells #[.int .i64 0, .slice none 0 0] 27 (0, 0)) := by rw [hW1]; have h_ := blk_new ((w.alloc (.cells #[.int .i64 a0_0, .slice A0_1 l0_1.length c0_1] 24)).alloc (.cells #[.int .i64 a1_0, .slice A1_1 l1_1.length c1_1] 27)) (.cells #[.int .i64 0, .slice none 0 0] 27); simpa using h_
  have hsz : W1.heap.size = w.heap.size + 1 + 1 + 1 := by rw [hW1]; simp
  rw [← hW1]
  clear hW1
  obtain ⟨z2, hz2⟩ : ∃ z, w.heap.size + 1 + 1 = z := ⟨_, rfl⟩
  rw [hz2] at hb2 hsz ⊢
  obtain ⟨z1, hz1⟩ : ∃ z, w.heap.size + 1 = z := ⟨_, rfl⟩
  rw [hz1] at hb1 ⊢
  obtain ⟨z0, hz0⟩ : ∃ z, w.heap.size = z := ⟨_, rfl⟩
  have HZ := Aside0.mk (show w.heap.size ≤ z0 ∧ z0 < z1 ∧ z1 < z2 ∧ z2 < W1.heap.size ∧ w.heap.size ≤ z1 ∧ w.heap.size ≤ z2 from by omega)
  rw [hz0] at hb0
  try rw [hz0]
  clear hz0 hz1 hz2 hsz
  refine (HCP.out _ hBW1).mono ?_
  rintro e w2 ⟨v9, rfl, hR9, hB2⟩
  obtain ⟨A9, c9, rfl⟩ := Kd.R_slice hR9
  obtain ⟨n9, hn9⟩ : ∃ n, l1_1.length = n := ⟨_, rfl⟩
  rw [hn9] at hR9 ⊢
  have HB := Aside0.mk (below_step hBW1 hB2)
  have HB0 := Aside0.mk (blk_below hb0 hB2)
  have HB1 := Aside0.mk (blk_below hb1 hB2)
  have HB2 := Aside0.mk (blk_below hb2 hB2)
  have HR := Aside0.mk (Kd.R_lower (Kd.R_mono (ok' := fun k => k ≠ z1) (Kd.R_bound hR9) (fun k hk => by have h1 := hk.2.1; have h2 := HZ.out; rintro rfl; omega)) (by have h2 := HZ.out; omega : z1 ≤ W1.heap.size))
  have HN9 := Aside0.mk hn9
  clear hb0 hb1 hb2 hBW1 hB2 HCP hR9 hn9
  have hf10 := blk_frozen HB1.out 0
  have hf11 := blk_frozen HB1.out 1
  have hz10 := (blk_cell HB1.out 0).trans rfl
  have hz11 := (blk_cell HB1.out 1).trans rfl
  go_wp2_with fail
  obtain ⟨w3, hW3⟩ : ∃ W : World, W = (w2.setCell ⟨z1, 0, none⟩ (.int .i64 a1_0)).setCell ⟨z1, 1, none⟩ (.slice A9 n9 c9) := ⟨_, rfl⟩
  have HB_3 := Aside0.mk (show Below w.heap.size w w3 by rw [hW3]; exact below_set (below_set HB.out HZ.out.2.2.2.2.1) HZ.out.2.2.2.2.1)
  have HB0_3 := Aside0.mk (show w3.heap[z0]? = some (.cells #[.int .i64 a0_0, .slice A0_1 l0_1.length c0_1] 24 (0, 0)) by rw [hW3]; exact blk_far (blk_far HB0.out (Nat.ne_of_lt HZ.out.2.1) _) (Nat.ne_of_lt HZ.out.2.1) _)
  have HB1_3 := Aside0.mk (show w3.heap[z1]? = some (.cells #[.int .i64 a1_0, .slice A9 n9 c9] 27 (0, 0)) by rw [hW3]; refine blk_put (cs := #[.int .i64 a1_0, .slice A1_1 l1_1.length c1_1]) ?_ 1 _ rfl; refine blk_put (cs := #[.int .i64 a1_0, .slice A1_1 l1_1.length c1_1]) ?_ 0 _ rfl; exact HB1.out)
  have HB2_3 := Aside0.mk (show w3.heap[z2]? = some (.cells #[.int .i64 0, .slice none 0 0] 27 (0, 0)) by rw [hW3]; exact blk_far (blk_far HB2.out (Nat.ne_of_gt HZ.out.2.2.1) _) (Nat.ne_of_gt HZ.out.2.2.1) _)
  have HR_3 := Aside0.mk (show Kd.R (Kd.int .i64) 3 w3 z1 (fun k => k ≠ z1) (.slice A9 n9 c9) l1_1 by rw [hW3]; exact Kd.R_far (Kd.R_far HR.out (fun k hk => hk) _) (fun k hk => hk) _)
  rw [← hW3]
  clear hW3 HB HB0 HB1 HB2 HR hf10 hf11 hz10 hz11
  go_loopg [11] (a3.toNat) (fun kq vk w' => ∃ (i p : Int) (l : List Int), vk = .int .i64 i ∧ Aside0 (1 ≤ i ∧ i + (kq : Int) = a3 + 1) ∧ Aside0 (runtil k l0_1 l2 kq p l i = some (r1, r2, r3, r4)) ∧ Aside0 (l.length = n9) ∧ Aside0 (Kd.R (Kd.int .i64) 3 w' z1 (fun k => k ≠ z1) (.slice A9 n9 c9) l) ∧ Aside0 (Below w.heap.size w w') ∧ Aside0 (w'.heap[z0]? = some (.cells #[.int .i64 a0_0, .slice A0_1 l0_1.length c0_1] 24 (0, 0))) ∧ Aside0 (w'.heap[z1]? = some (.cells #[.int .i64 p, .slice A9 n9 c9] 27 (0, 0))) ∧ Aside0 (w'.heap[z2]? = some (.cells #[.int .i64 0, .slice none 0 0] 27 (0, 0))))
  case atStart => exact ⟨1, a1_0, l1_1, rfl, ⟨by have := HN.out; omega⟩, H, HN9, HR_3, HB_3, HB0_3, HB1_3, HB2_3⟩
  case round =>
    clear H HR_3 HB_3 HB0_3 HB1_3 HB2_3 HN9
    obtain ⟨i, p, l, rfl, HI, H, HLN, HR, HB, HB0, HB1, HB2⟩ := hrel
    obtain ⟨hi0, hi1⟩ := HI.out
    obtain ⟨hn0, hn1⟩ := HN.out
    cases gk with
    | zero =>
      have h := H.out
      clear H
      simp only [runtil] at h
      simp only [Option.some.injEq, Prod.mk.injEq] at h
      obtain ⟨rfl, rfl, rfl, rfl⟩ := h
      have hin : ¬ i ≤ a3 := by omega
      have hind : decide (i ≤ a3) = false := decide_eq_false hin
      replace hin := eq_false hin
      have hz10 := (blk_cell HB1.out 0).trans rfl
      have hz11 := (blk_cell HB1.out 1).trans rfl
      have hz20 := (blk_cell HB2.out 0).trans rfl
      have hz21 := (blk_cell HB2.out 1).trans rfl
      have hf20 := blk_frozen HB2.out 0
      have hf21 := blk_frozen HB2.out 1
      go_wp2
      refine bodyPost_ret (results_list (rs := [.cell 8 27, .tmp 9, .tmp 10]) (vs := [.agg #[.int .i64 0, .slice none 0 0], .int .i64 0, .int .i64 6]) rfl (by simp) (Vals.cell z2 27 #[.int .i64 0, .slice none 0 0] (0, 0) _ rfl (by refine blk_put (cs := #[.int .i64 0, .slice none 0 0]) ?_ 1 _ rfl; refine blk_put (cs := #[.int .i64 0, .slice none 0 0]) ?_ 0 _ rfl; exact HB2.out) Try.underlying27 rfl (by kernel_rfl) (Vals.tmp (Vals.tmp Vals.nil)))) rfl ?_
      exact ⟨_, rfl, Kd.R_nil _ _ _ _ _, below_set (below_set HB.out HZ.out.2.2.2.2.2) HZ.out.2.2.2.2.2⟩
    | succ d =>
      have hin : i ≤ a3 := by omega
      have hind : decide (i ≤ a3) = true := decide_eq_true hin
      have h := H.out
      clear H
      simp only [runtil] at h
      obtain ⟨⟨q1, q2, q3, q4⟩, hq, h⟩ := Option.bind_eq_some_iff.1 h
      have HGO := Aside0.mk (rgo_calls z1 z1 a0_0 A0_1 c0_1 l0_1 p A9 n9 c9 l q1 q2 q3 q4 wr (Kd.C_below HR0_1.out HB.out) HC0_1.out (Nat.le_refl _) HB1.out HLN.out HR.out hq)
      have HH := Aside0.mk h
      have HIN := Aside0.mk hin
      replace hin := eq_true hin
      clear h hq
      have hz00 := (blk_cell HB0.out 0).trans rfl
      have hz01 := (blk_cell HB0.out 1).trans rfl
      go_wp2_with fail
      refine HGO.out.mono ?_
      rintro e w5 ⟨rfl, hG5, hL5, hR5, hB5, hK5⟩
      have HRB := Aside0.mk (fun k hk => Kd.R_base HR.out k hk : ∀ k, (Value.slice A9 n9 c9).ownBlock = some k → z1 ≤ k)
      have HB0_5 := Aside0.mk (show w5.heap[z0]? = some (.cells #[.int .i64 a0_0, .slice A0_1 l0_1.length c0_1] 24 (0, 0)) from (hB5.block z0 HZ.out.2.1).trans HB0.out)
      have HB2_5 := Aside0.mk (show w5.heap[z2]? = some (.cells #[.int .i64 0, .slice none 0 0] 27 (0, 0)) from (hK5.2 z2 (blk_lt HB2.out) (Nat.ne_of_gt HZ.out.2.2.1) (Kd.R_ne HR.out HB2.out (by decide))).trans HB2.out)
      have HB_5 := Aside0.mk (Below.trans HB.out (Below.mono hB5 HZ.out.2.2.2.2.1))
      replace HB0 := HB0_5
      replace HB2 := HB2_5
      replace HB := HB_5
      replace HB1 := Aside0.mk hG5
      replace HR := Aside0.mk hR5
      replace HLN := Aside0.mk hL5
      have h := HH.out
      clear HB0_5 HB2_5 HB_5 hG5 hL5 hR5 hB5 hK5 hz00 hz01 HGO HH
      have hz10 := (blk_cell HB1.out 0).trans rfl
      have hz11 := (blk_cell HB1.out 1).trans rfl
      have hz20 := (blk_cell HB2.out 0).trans rfl
      have hz21 := (blk_cell HB2.out 1).trans rfl
      have hf20 := blk_frozen HB2.out 0
      have hf21 := blk_frozen HB2.out 1
      cases q4 with
      | true =>
        simp only [if_true] at h
        simp only [Option.some.injEq, Prod.mk.injEq] at h
        obtain ⟨rfl, rfl, rfl, rfl⟩ := h
        go_wp2
        refine bodyPost_ret (results_list (rs := [.cell 8 27, .tmp 9, .tmp 10]) (vs := [.agg #[.int .i64 0, .slice none 0 0], .int .i64 0, .int .i64 4]) rfl (by simp) (Vals.cell z2 27 #[.int .i64 0, .slice none 0 0] (0, 0) _ rfl (by refine blk_put (cs := #[.int .i64 0, .slice none 0 0]) ?_ 1 _ rfl; refine blk_put (cs := #[.int .i64 0, .slice none 0 0]) ?_ 0 _ rfl; exact HB2.out) Try.underlying27 rfl (by kernel_rfl) (Vals.tmp (Vals.tmp Vals.nil)))) rfl ?_
        exact ⟨_, rfl, Kd.R_nil _ _ _ _ _, below_set (below_set HB.out HZ.out.2.2.2.2.2) HZ.out.2.2.2.2.2⟩
      | false =>
        simp only [Bool.false_eq_true, if_false] at h
        cases q3 with
        | true =>
          simp only [if_true] at h
          simp only [Option.some.injEq, Prod.mk.injEq] at h
          obtain ⟨rfl, rfl, rfl, rfl⟩ := h
          go_wp2
          refine bodyPost_ret (results_list (rs := [.cell 8 27, .tmp 9, .tmp 10]) (vs := [.agg #[.int .i64 0, .slice none 0 0], .int .i64 0, .int .i64 6]) rfl (by simp) (Vals.cell z2 27 #[.int .i64 0, .slice none 0 0] (0, 0) _ rfl (by refine blk_put (cs := #[.int .i64 0, .slice none 0 0]) ?_ 1 _ rfl; refine blk_put (cs := #[.int .i64 0, .slice none 0 0]) ?_ 0 _ rfl; exact HB2.out) Try.underlying27 rfl (by kernel_rfl) (Vals.tmp (Vals.tmp Vals.nil)))) rfl ?_
          exact ⟨_, rfl, Kd.R_nil _ _ _ _ _, below_set (below_set HB.out HZ.out.2.2.2.2.2) HZ.out.2.2.2.2.2⟩
        | false =>
          simp only [Bool.false_eq_true, if_false] at h
          obtain ⟨m, hm, h⟩ := Option.bind_eq_some_iff.1 h
          have HIN5 := Aside0.mk (standstillref06_In.calls k q1 A2 c2 l2 m w5 (Kd.C_below HR2.out HB.out) HC2.out hm)
          have HH := Aside0.mk h
          clear h hm
          go_wp2_with fail
          refine HIN5.out.mono ?_
          rintro e w6 ⟨rfl, hd6⟩
          obtain ⟨md, rfl⟩ := hd6
          have h := HH.out
          clear HH HIN5 hz10 hz11 hz20 hz21 hf20 hf21
          replace HB := Aside0.mk (pw_below_drewN HB.out md)
          replace HB0 := Aside0.mk (blk_drewN HB0.out md)
          replace HB1 := Aside0.mk (blk_drewN HB1.out md)
          replace HB2 := Aside0.mk (blk_drewN HB2.out md)
          replace HR := Aside0.mk (Kd.R_drewN HR.out md)
          generalize w5.drewN md = w6 at HB HB0 HB1 HB2 HR ⊢
          have hz10 := (blk_cell HB1.out 0).trans rfl
          have hz11 := (blk_cell HB1.out 1).trans rfl
          have hz20 := (blk_cell HB2.out 0).trans rfl
          have hz21 := (blk_cell HB2.out 1).trans rfl
          have hf20 := blk_frozen HB2.out 0
          have hf21 := blk_frozen HB2.out 1
          cases m with
          | true =>
            simp only [if_true] at h
            simp only [Option.some.injEq, Prod.mk.injEq] at h
            obtain ⟨rfl, rfl, rfl, rfl⟩ := h
            go_wp2
            refine bodyPost_ret (results_list (rs := [.cell 8 27, .tmp 9, .tmp 10]) (vs := [.agg #[.int .i64 q1, .slice A9 n9 c9], .int .i64 i, .int .i64 0]) rfl (by simp) (Vals.cell z2 27 #[.int .i64 q1, .slice A9 n9 c9] (0, 0) _ rfl (by refine blk_put (cs := #[.int .i64 q1, .slice none 0 0]) ?_ 1 _ rfl; refine blk_put (cs := #[.int .i64 0, .slice none 0 0]) ?_ 0 _ rfl; exact HB2.out) Try.underlying27 rfl (by kernel_rfl) (Vals.tmp (Vals.tmp Vals.nil)))) rfl ?_
            exact ⟨_, rfl, Kd.R_mono (Kd.R_far (Kd.R_far (Kd.R_lower (Kd.R_types HR.out HB2.out (by decide)) HZ.out.2.2.2.2.1) (fun k hk => hk.2) _) (fun k hk => hk.2) _) (fun _ _ => trivial), below_set (below_set HB.out HZ.out.2.2.2.2.2) HZ.out.2.2.2.2.2⟩
          | false =>
            simp only [Bool.false_eq_true, if_false] at h
            have hiw2 : wrap64 (i + 1) = i + 1 := wrapJ (by omega)
            have hiw : IntKind.i64.wrap (i + 1) = i + 1 := (i64_w _).trans hiw2
            go_wp2_with fail
            go_roundg d
            case measure => omega
            case rel => exact ⟨i + 1, q1, q2, rfl, ⟨by omega⟩, ⟨h⟩, HLN, HR, HB, HB0, HB1, HB2⟩

/-! ### standstilllaw06_until: function 23 -/
def standstilllaw06_until.j0 : Nat → List Int → Int → Int → Int → Bool → Int → List (S33) → Int → List Int → Int → List Int → Option (Bool)
 | 0, _, _, _, _, _, _, _, _, _, _, _ => none
 | k + 1, x2, x3, x5, x6, x29, x188000, x188001, x189000, x189001, x190000, x190001 => if x29 = true then (if x6 = 2 then ((standstillref06_SameCount.f k x190000 x190001 0 ([] : List Int)).bind fun t191 => (if t191 = true then (some (x5 == 0)) else (some false))) else (some false)) else ((standstillref06_Until.f k x188000 x188001 x189000 x189001 x2 x3).bind fun bt192 => (if x6 = bt192.2.2.2 then ((standstillref06_SameCount.f k x190000 x190001 bt192.1 bt192.2.1).bind fun t199 => (if t199 = true then (some (x5 == bt192.2.2.1)) else (some false))) else (some false)))
def standstilllaw06_until.f (k : Nat) (a0_0 : Int) (l0_1 : List (S33)) (a1_0 : Int) (l1_1 : List Int) (l2 : List Int) (a3 : Int) (a4_0 : Int) (l4_1 : List Int) (a5 : Int) (a6 : Int) : Option (Bool) := (standstillref06_Points.f k a0_0 l0_1 l2).bind fun t190 => (if t190 = true then (if a3 < 1 then (standstilllaw06_until.j0 k l2 a3 a5 a6 true a0_0 l0_1 a1_0 l1_1 a4_0 l4_1) else (standstilllaw06_until.j0 k l2 a3 a5 a6 (decide (a3 > 1000000)) a0_0 l0_1 a1_0 l1_1 a4_0 l4_1)) else (standstilllaw06_until.j0 k l2 a3 a5 a6 true a0_0 l0_1 a1_0 l1_1 a4_0 l4_1))
theorem standstilllaw06_until.mono_l : ∀ k, (∀ y0 y1 y2 y3 y4 y5 y6 y7 y8 y9 y10, LeO (standstilllaw06_until.j0 k y0 y1 y2 y3 y4 y5 y6 y7 y8 y9 y10) (standstilllaw06_until.j0 (k + 1) y0 y1 y2 y3 y4 y5 y6 y7 y8 y9 y10))
 | 0 => fun _ _ _ _ _ _ _ _ _ _ _ r h => by simp [standstilllaw06_until.j0] at h
 | k + 1 => by
  have ih0 := standstilllaw06_until.mono_l k
  ·intro y0 y1 y2 y3 y4 y5 y6 y7 y8 y9 y10
   unfold standstilllaw06_until.j0
   repeat' first
   | (with_reducible exact ih0 _ _ _ _ _ _ _ _ _ _ _)
   | (with_reducible exact standstillref06_Points.mono _ _ _ _)
   | (with_reducible exact standstillref06_SameCount.mono _ _ _ _ _)
   | (with_reducible exact standstillref06_Until.mono _ _ _ _ _ _ _)
   | (with_reducible exact LeO.refl _)
   | (with_reducible exact LeO.none _)
   | (with_reducible refine LeO.ite ?_ ?_)
   | (with_reducible refine LeO.bind ?_ (fun _ => ?_))
   | exact ih0 _ _ _ _ _ _ _ _ _ _ _
   | exact standstillref06_Points.mono _ _ _ _
   | exact standstillref06_SameCount.mono _ _ _ _ _
   | exact standstillref06_Until.mono _ _ _ _ _ _ _
   | exact LeO.none _
   | refine LeO.ite ?_ ?_
   | refine LeO.bind ?_ (fun _ => ?_)
theorem standstilllaw06_until.mono : ∀ a0 a1 a2 a3 a4 a5 a6 a7 a8 a9 k, LeO (standstilllaw06_until.f k a0 a1 a2 a3 a4 a5 a6 a7 a8 a9) (standstilllaw06_until.f (k + 1) a0 a1 a2 a3 a4 a5 a6 a7 a8 a9) := by
 intro a0 a1 a2 a3 a4 a5 a6 a7 a8 a9 k
 have ih0 := standstilllaw06_until.mono_l k
 unfold standstilllaw06_until.f
 repeat' first
   | (with_reducible exact ih0 _ _ _ _ _ _ _ _ _ _ _)
   | (with_reducible exact standstillref06_Points.mono _ _ _ _)
   | (with_reducible exact standstillref06_SameCount.mono _ _ _ _ _)
   | (with_reducible exact standstillref06_Until.mono _ _ _ _ _ _ _)
   | (with_reducible exact LeO.refl _)
   | (with_reducible exact LeO.none _)
   | (with_reducible refine LeO.ite ?_ ?_)
   | (with_reducible refine LeO.bind ?_ (fun _ => ?_))
   | exact ih0 _ _ _ _ _ _ _ _ _ _ _
   | exact standstillref06_Points.mono _ _ _ _
   | exact standstillref06_SameCount.mono _ _ _ _ _
   | exact standstillref06_Until.mono _ _ _ _ _ _ _
   | exact LeO.none _
   | refine LeO.ite ?_ ?_
   | refine LeO.bind ?_ (fun _ => ?_)
set_option maxHeartbeats 8000000 in
set_option maxRecDepth 100000 in
theorem standstilllaw06_until.calls (k : Nat) (a0_0 : Int) (A0_1 : Option Addr) (c0_1 : Nat) (l0_1 : List (S33)) (a1_0 : Int) (A1_1 : Option Addr) (c1_1 : Nat) (l1_1 : List Int) (A2 : Option Addr) (c2 : Nat) (l2 : List Int) (a3 : Int) (a4_0 : Int) (A4_1 : Option Addr) (c4_1 : Nat) (l4_1 : List Int) (a5 : Int) (a6 : Int) (r : Bool) (w : World) (hr0_1 : Kd.C k33 w A0_1 l0_1.length l0_1) (hc0_1 : l0_1.length ≤ c0_1) (hr1_1 : Kd.C (Kd.int .i64) w A1_1 l1_1.length l1_1) (hc1_1 : l1_1.length ≤ c1_1) (hr2 : Kd.C (Kd.int .i64) w A2 l2.length l2) (hc2 : l2.length ≤ c2) (hr4_1 : Kd.C (Kd.int .i64) w A4_1 l4_1.length l4_1) (hc4_1 : l4_1.length ≤ c4_1) (h : standstilllaw06_until.f k a0_0 l0_1 a1_0 l1_1 l2 a3 a4_0 l4_1 a5 a6 = some r) :
  Calls Try.prog 23 #[.agg #[.int .i64 a0_0, .slice A0_1 l0_1.length c0_1], .agg #[.int .i64 a1_0, .slice A1_1 l1_1.length c1_1], .slice A2 l2.length c2, .int .i64 a3, .agg #[.int .i64 a4_0, .slice A4_1 l4_1.length c4_1], .int .i64 a5, .int .i64 a6] w fun e w' => e = .returned (.bool r) ∧ Below w.heap.size w w' := by
 have hu24 := Try.underlying24
 have hu27 := Try.underlying27
 have HR0_1 := Aside0.mk hr0_1
 have HC0_1 := Aside0.mk hc0_1
 clear hr0_1 hc0_1
 have HR1_1 := Aside0.mk hr1_1
 have HC1_1 := Aside0.mk hc1_1
 clear hr1_1 hc1_1
 have HR2 := Aside0.mk hr2
 have HC2 := Aside0.mk hc2
 clear hr2 hc2
 have HR4_1 := Aside0.mk hr4_1
 have HC4_1 := Aside0.mk hc4_1
 clear hr4_1 hc4_1
 have HB := A_ (Below.refl w.heap.size w)
 have H : ((standstillref06_Points.f k a0_0 l0_1 l2).bind fun t190 => (if t190 = true then (if a3 < 1 then (standstilllaw06_until.j0 k l2 a3 a5 a6 true a0_0 l0_1 a1_0 l1_1 a4_0 l4_1) else (standstilllaw06_until.j0 k l2 a3 a5 a6 (decide (a3 > 1000000)) a0_0 l0_1 a1_0 l1_1 a4_0 l4_1)) else (standstilllaw06_until.j0 k l2 a3 a5 a6 true a0_0 l0_1 a1_0 l1_1 a4_0 l4_1))) = some r := h
 clear h
 have HC8 := Aside0.mk H
 clear H
 go_enter Try.func23, Try.ntmps23
 go_upto_region 1 with (first | ((with_reducible refine gate_dst (N := 7) rfl ?_); refine box_event ?hg (N := 7) ?hd (cs := #[.int .i64 a0_0, .slice A0_1 l0_1.length c0_1]) (t := 24) ?hr ?_; (case hd => rfl); (case hg => rfl); (case hr => first | (go_simp; done) | (go_simp; rfl)); intro gb187 hg w9 hbox hb; have n0_ := A_ (below_step (bk_ HB.out) hb); have n1_ := A_ (hbox); have n2_ := A_ (bz_ hg (bk_ HB.out)); have n3_ := A_ (bz_ hg (bk_ HB.out)); clear HB; have HB := n0_; have BK187 := n1_; have GW187 := n2_; have GE187 := n3_; clear n0_ n1_ n2_ n3_ hb hbox hg) | ((with_reducible refine gate_dst (N := 8) rfl ?_); refine box_event ?hg (N := 8) ?hd (cs := #[.int .i64 a1_0, .slice A1_1 l1_1.length c1_1]) (t := 27) ?hr ?_; (case hd => rfl); (case hg => rfl); (case hr => first | (go_simp; done) | (go_simp; rfl)); intro gb188 hg w10 hbox hb; have n0_ := A_ (blk_below (pk_ BK187.out) hb); have n1_ := A_ (below_step (bk_ HB.out) hb); have n2_ := A_ (hbox); have n3_ := A_ (bz_ hg (bk_ HB.out)); have n4_ := A_ (bz_ hg (bk_ HB.out)); have n5_ := A_ (nl_ hg (pk_ BK187.out)); have n6_ := A_ (ng_ hg (pk_ BK187.out)); clear BK187 HB; have BK187 := n0_; have HB := n1_; have BK188 := n2_; have GW188 := n3_; have GE188 := n4_; have NB187_188 := n5_; have NB188_187 := n6_; clear n0_ n1_ n2_ n3_ n4_ n5_ n6_ hb hbox hg) | ((with_reducible refine gate_dst (N := 11) rfl ?_); refine box_event ?hg (N := 11) ?hd (cs := #[.int .i64 a4_0, .slice A4_1 l4_1.length c4_1]) (t := 27) ?hr ?_; (case hd => rfl); (case hg => rfl); (case hr => first | (go_simp; done) | (go_simp; rfl)); intro gb189 hg w11 hbox hb; have n0_ := A_ (blk_below (pk_ BK187.out) hb); have n1_ := A_ (blk_below (pk_ BK188.out) hb); have n2_ := A_ (below_step (bk_ HB.out) hb); have n3_ := A_ (hbox); have n4_ := A_ (bz_ hg (bk_ HB.out)); have n5_ := A_ (bz_ hg (bk_ HB.out)); have n6_ := A_ (nl_ hg (pk_ BK187.out)); have n7_ := A_ (ng_ hg (pk_ BK187.out)); have n8_ := A_ (nl_ hg (pk_ BK188.out)); have n9_ := A_ (ng_ hg (pk_ BK188.out)); clear BK187 BK188 HB; have BK187 := n0_; have BK188 := n1_; have HB := n2_; have BK189 := n3_; have GW189 := n4_; have GE189 := n5_; have NB187_189 := n6_; have NB189_187 := n7_; have NB188_189 := n8_; have NB189_188 := n9_; clear n0_ n1_ n2_ n3_ n4_ n5_ n6_ n7_ n8_ n9_ hb hbox hg))
 (try simp only [Act.put, List.setIfInBounds_toArray, List.set_cons_zero, List.set_cons_succ])
 go_cut [29] (fun v29 wc => ∃ (kq : Nat) (x29_7 : Bool), v29 = .bool x29_7 ∧ Aside0 (standstilllaw06_until.j0 kq l2 a3 a5 a6 x29_7 a0_0 l0_1 a1_0 l1_1 a4_0 l4_1 = some r) ∧ Aside0 (kq ≤ k) ∧ Aside0 (wc.heap[gb187]? = some (.cells #[.int .i64 a0_0, (.slice A0_1 l0_1.length c0_1)] 24 (0, 0))) ∧ Aside0 (wc.heap[gb188]? = some (.cells #[.int .i64 a1_0, (.slice A1_1 l1_1.length c1_1)] 27 (0, 0))) ∧ Aside0 (wc.heap[gb189]? = some (.cells #[.int .i64 a4_0, (.slice A4_1 l4_1.length c4_1)] 27 (0, 0))) ∧ Aside0 (Below w.heap.size w wc))
 case first =>
  have H := HC8.out
  clear HC8
  replace H := Option.bind_eq_some_iff.mp H
  obtain ⟨t190, A120, H⟩ := H
  replace H : (if t190 = true then (if a3 < 1 then (standstilllaw06_until.j0 k l2 a3 a5 a6 true a0_0 l0_1 a1_0 l1_1 a4_0 l4_1) else (standstilllaw06_until.j0 k l2 a3 a5 a6 (decide (a3 > 1000000)) a0_0 l0_1 a1_0 l1_1 a4_0 l4_1)) else (standstilllaw06_until.j0 k l2 a3 a5 a6 true a0_0 l0_1 a1_0 l1_1 a4_0 l4_1)) = some r := H
  have A12 := Aside0.mk A120
  clear A120
  by_cases c13 : t190 = true
  ·subst c13
   have H1 : (if a3 < 1 then (standstilllaw06_until.j0 k l2 a3 a5 a6 true a0_0 l0_1 a1_0 l1_1 a4_0 l4_1) else (standstilllaw06_until.j0 k l2 a3 a5 a6 (decide (a3 > 1000000)) a0_0 l0_1 a1_0 l1_1 a4_0 l4_1)) = some r := by rw [if_pos rfl] at H; exact H
   clear H
   have H := H1
   clear H1
   by_cases c14 : a3 < 1
   ·rw [if_pos c14] at H
    have c14b0 : decide (a3 < 1) = true := decide_eq_true c14
    clear c14
    (first | rw [c14b0] | (simp only [i64_w, i32_w]; rw [c14b0]) | skip)
    have H' := Aside0.mk H
    clear H
    have hnb15 := NB187_188.out
    have hnc15 := NB188_187.out
    have hnb16 := NB187_189.out
    have hnc16 := NB189_187.out
    obtain ⟨hcz17_0, hcz17_1⟩ := bc2_ BK187.out
    have hfz17_0 := blk_frozen BK187.out 0
    have hfz17_1 := blk_frozen BK187.out 1
    go_wp2_with (first | ((with_reducible refine gate_callee (f := 35) rfl ?_); refine goesL_ (some 20) rfl rfl Try.func35 (by kernel_rfl) rfl #[.agg #[.int .i64 a0_0, .slice A0_1 l0_1.length c0_1], .slice A2 l2.length c2] rfl gl_ ?_; (with_reducible refine (standstillref06_Points.calls k a0_0 _ _ l0_1 _ _ l2 true _ ?side1 ?side2 ?side3 ?side4 A12.out).mono ?_); (case side1 => exact ck_ (Kd.C_below HR0_1.out HB.out)); (case side2 => exact HC0_1.out); (case side3 => exact ck_ (Kd.C_below HR2.out HB.out)); (case side4 => exact HC2.out); rintro e w18 ⟨rfl, hb⟩; refine ⟨_, rfl, ?_⟩; have n0_ := A_ (blk_below (pk_ BK187.out) hb); have n1_ := A_ (blk_below (pk_ BK188.out) hb); have n2_ := A_ (blk_below (pk_ BK189.out) hb); have n3_ := A_ (below_step (bk_ HB.out) hb); clear BK187 BK188 BK189 HB; have BK187 := n0_; have BK188 := n1_; have BK189 := n2_; have HB := n3_; clear n0_ n1_ n2_ n3_; (try clear hb); (try clear hb2); (try clear hk); (try clear hi)))
    go_meet
    case rel => exact ⟨_, (true), jr_, H', ⟨by first | omega | exact Nat.le_refl _⟩, ⟨pk_ BK187.out⟩, ⟨pk_ BK188.out⟩, ⟨pk_ BK189.out⟩, ⟨bk_ HB.out⟩⟩
   ·rw [if_neg c14] at H
    have c14b0 : decide (a3 < 1) = false := decide_eq_false c14
    clear c14
    (first | rw [c14b0] | (simp only [i64_w, i32_w]; rw [c14b0]) | skip)
    have H' := Aside0.mk H
    clear H
    have hnb19 := NB187_188.out
    have hnc19 := NB188_187.out
    have hnb20 := NB187_189.out
    have hnc20 := NB189_187.out
    obtain ⟨hcz21_0, hcz21_1⟩ := bc2_ BK187.out
    have hfz21_0 := blk_frozen BK187.out 0
    have hfz21_1 := blk_frozen BK187.out 1
    go_wp2_with (first | ((with_reducible refine gate_callee (f := 35) rfl ?_); refine goesL_ (some 20) rfl rfl Try.func35 (by kernel_rfl) rfl #[.agg #[.int .i64 a0_0, .slice A0_1 l0_1.length c0_1], .slice A2 l2.length c2] rfl gl_ ?_; (with_reducible refine (standstillref06_Points.calls k a0_0 _ _ l0_1 _ _ l2 true _ ?side1 ?side2 ?side3 ?side4 A12.out).mono ?_); (case side1 => exact ck_ (Kd.C_below HR0_1.out HB.out)); (case side2 => exact HC0_1.out); (case side3 => exact ck_ (Kd.C_below HR2.out HB.out)); (case side4 => exact HC2.out); rintro e w22 ⟨rfl, hb⟩; refine ⟨_, rfl, ?_⟩; have n0_ := A_ (blk_below (pk_ BK187.out) hb); have n1_ := A_ (blk_below (pk_ BK188.out) hb); have n2_ := A_ (blk_below (pk_ BK189.out) hb); have n3_ := A_ (below_step (bk_ HB.out) hb); clear BK187 BK188 BK189 HB; have BK187 := n0_; have BK188 := n1_; have BK189 := n2_; have HB := n3_; clear n0_ n1_ n2_ n3_; (try clear hb); (try clear hb2); (try clear hk); (try clear hi)))
    go_meet
    case rel => exact ⟨_, (decide (a3 > 1000000)), jr_, H', ⟨by first | omega | exact Nat.le_refl _⟩, ⟨pk_ BK187.out⟩, ⟨pk_ BK188.out⟩, ⟨pk_ BK189.out⟩, ⟨bk_ HB.out⟩⟩
  ·replace c13 := Bool.eq_false_iff.mpr c13
   subst c13
   have H1 : (standstilllaw06_until.j0 k l2 a3 a5 a6 true a0_0 l0_1 a1_0 l1_1 a4_0 l4_1) = some r := by rw [if_neg (show ¬ (false = true) by decide)] at H; exact H
   clear H
   have H := H1
   clear H1
   have H' := Aside0.mk H
   clear H
   have hnb23 := NB187_188.out
   have hnc23 := NB188_187.out
   have hnb24 := NB187_189.out
   have hnc24 := NB189_187.out
   obtain ⟨hcz25_0, hcz25_1⟩ := bc2_ BK187.out
   have hfz25_0 := blk_frozen BK187.out 0
   have hfz25_1 := blk_frozen BK187.out 1
   go_wp2_with (first | ((with_reducible refine gate_callee (f := 35) rfl ?_); refine goesL_ (some 20) rfl rfl Try.func35 (by kernel_rfl) rfl #[.agg #[.int .i64 a0_0, .slice A0_1 l0_1.length c0_1], .slice A2 l2.length c2] rfl gl_ ?_; (with_reducible refine (standstillref06_Points.calls k a0_0 _ _ l0_1 _ _ l2 false _ ?side1 ?side2 ?side3 ?side4 A12.out).mono ?_); (case side1 => exact ck_ (Kd.C_below HR0_1.out HB.out)); (case side2 => exact HC0_1.out); (case side3 => exact ck_ (Kd.C_below HR2.out HB.out)); (case side4 => exact HC2.out); rintro e w26 ⟨rfl, hb⟩; refine ⟨_, rfl, ?_⟩; have n0_ := A_ (blk_below (pk_ BK187.out) hb); have n1_ := A_ (blk_below (pk_ BK188.out) hb); have n2_ := A_ (blk_below (pk_ BK189.out) hb); have n3_ := A_ (below_step (bk_ HB.out) hb); clear BK187 BK188 BK189 HB; have BK187 := n0_; have BK188 := n1_; have BK189 := n2_; have HB := n3_; clear n0_ n1_ n2_ n3_; (try clear hb); (try clear hb2); (try clear hk); (try clear hi)))
   go_meet
   case rel => exact ⟨_, (true), jr_, H', ⟨by first | omega | exact Nat.le_refl _⟩, ⟨pk_ BK187.out⟩, ⟨pk_ BK188.out⟩, ⟨pk_ BK189.out⟩, ⟨bk_ HB.out⟩⟩
 case rest =>
  clear HC8
  (try clear c2)
  obtain ⟨kq, x29_7, rfl, HA, HJ7, BK187, BK188, BK189, HB⟩ := hcut
  cases kq with
  | zero => exact absurd HA.out (by simp [standstilllaw06_until.j0])
  | succ kj7 =>
   have H := HA.out
   clear HA
   simp only [standstilllaw06_until.j0] at H
   by_cases c27 : x29_7 = true
   ·subst c27
    have H1 : (if a6 = 2 then ((standstillref06_SameCount.f kj7 a4_0 l4_1 0 ([] : List Int)).bind fun t191 => (if t191 = true then (some (a5 == 0)) else (some false))) else (some false)) = some r := by rw [if_pos rfl] at H; exact H
    clear H
    have H := H1
    clear H1
    by_cases c28 : a6 = 2
    ·rw [if_pos c28] at H
     have c28b0 : (a6 == 2) = true := beq_iff_eq.mpr c28
     have c28b1 : (a6 != 2) = false := bne_eq_false_iff_eq.mpr c28
     clear c28
     replace H := Option.bind_eq_some_iff.mp H
     obtain ⟨t191, A290, H⟩ := H
     replace H : (if t191 = true then (some (a5 == 0)) else (some false)) = some r := H
     have A29 := Aside0.mk A290
     clear A290
     by_cases c30 : t191 = true
     ·subst c30
      have H1 : (some (a5 == 0)) = some r := by rw [if_pos rfl] at H; exact H
      clear H
      have H := H1
      clear H1
      obtain rfl := Option.some.inj H
      have hnb31 := NB189_187.out
      have hnc31 := NB187_189.out
      have hnb32 := NB189_188.out
      have hnc32 := NB188_189.out
      obtain ⟨hcz33_0, hcz33_1⟩ := bc2_ BK189.out
      have hfz33_0 := blk_frozen BK189.out 0
      have hfz33_1 := blk_frozen BK189.out 1
      go_wp2_with (first | (go_at_call 16; (refine (standstillref06_SameCount.calls kj7 a4_0 _ _ l4_1 0 _ _ ([] : List Int) true _ ?side1 ?side2 ?side3 ?side4 A29.out).mono ?_); (case side1 => exact ck_ (Kd.C_below HR4_1.out HB.out)); (case side2 => exact HC4_1.out); (case side3 => exact Kd.C_nil _ _); (case side4 => exact Nat.le_refl _); rintro e w34 ⟨rfl, hb⟩; have n0_ := A_ (blk_below (pk_ BK187.out) hb); have n1_ := A_ (blk_below (pk_ BK188.out) hb); have n2_ := A_ (blk_below (pk_ BK189.out) hb); have n3_ := A_ (below_step (bk_ HB.out) hb); clear BK187 BK188 BK189 HB; have BK187 := n0_; have BK188 := n1_; have BK189 := n2_; have HB := n3_; clear n0_ n1_ n2_ n3_; (try clear hb); (try clear hb2); (try clear hk); (try clear hi)))
      go_ret
      exact ⟨er_, bk_ HB.out⟩
     ·replace c30 := Bool.eq_false_iff.mpr c30
      subst c30
      have H1 : (some false) = some r := by rw [if_neg (show ¬ (false = true) by decide)] at H; exact H
      clear H
      have H := H1
      clear H1
      obtain rfl := Option.some.inj H
      have hnb35 := NB189_187.out
      have hnc35 := NB187_189.out
      have hnb36 := NB189_188.out
      have hnc36 := NB188_189.out
      obtain ⟨hcz37_0, hcz37_1⟩ := bc2_ BK189.out
      have hfz37_0 := blk_frozen BK189.out 0
      have hfz37_1 := blk_frozen BK189.out 1
      go_wp2_with (first | (go_at_call 16; (refine (standstillref06_SameCount.calls kj7 a4_0 _ _ l4_1 0 _ _ ([] : List Int) false _ ?side1 ?side2 ?side3 ?side4 A29.out).mono ?_); (case side1 => exact ck_ (Kd.C_below HR4_1.out HB.out)); (case side2 => exact HC4_1.out); (case side3 => exact Kd.C_nil _ _); (case side4 => exact Nat.le_refl _); rintro e w38 ⟨rfl, hb⟩; have n0_ := A_ (blk_below (pk_ BK187.out) hb); have n1_ := A_ (blk_below (pk_ BK188.out) hb); have n2_ := A_ (blk_below (pk_ BK189.out) hb); have n3_ := A_ (below_step (bk_ HB.out) hb); clear BK187 BK188 BK189 HB; have BK187 := n0_; have BK188 := n1_; have BK189 := n2_; have HB := n3_; clear n0_ n1_ n2_ n3_; (try clear hb); (try clear hb2); (try clear hk); (try clear hi)))
      go_ret
      exact ⟨er_, bk_ HB.out⟩
    ·rw [if_neg c28] at H
     have c28b0 : (a6 == 2) = false := beq_eq_false_iff_ne.mpr c28
     have c28b1 : (a6 != 2) = true := bne_iff_ne.mpr c28
     obtain rfl := Option.some.inj H
     go_wp2
     go_ret
     exact ⟨er_, bk_ HB.out⟩
   ·replace c27 := Bool.eq_false_iff.mpr c27
    subst c27
    have H1 : ((standstillref06_Until.f kj7 a0_0 l0_1 a1_0 l1_1 l2 a3).bind fun bt192 => (if a6 = bt192.2.2.2 then ((standstillref06_SameCount.f kj7 a4_0 l4_1 bt192.1 bt192.2.1).bind fun t199 => (if t199 = true then (some (a5 == bt192.2.2.1)) else (some false))) else (some false))) = some r := by rw [if_neg (show ¬ (false = true) by decide)] at H; exact H
    clear H
    have H := H1
    clear H1
    replace H := Option.bind_eq_some_iff.mp H
    obtain ⟨⟨t192, t193, t196, t197⟩, A390, H⟩ := H
    replace H : (if a6 = t197 then ((standstillref06_SameCount.f kj7 a4_0 l4_1 t192 t193).bind fun t199 => (if t199 = true then (some (a5 == t196)) else (some false))) else (some false)) = some r := H
    have A39 := Aside0.mk A390
    clear A390
    by_cases c40 : a6 = t197
    ·rw [if_pos c40] at H
     have c40b0 : (a6 == t197) = true := beq_iff_eq.mpr c40
     have c40b1 : (a6 != t197) = false := bne_eq_false_iff_eq.mpr c40
     clear c40
     replace H := Option.bind_eq_some_iff.mp H
     obtain ⟨t199, A410, H⟩ := H
     replace H : (if t199 = true then (some (a5 == t196)) else (some false)) = some r := H
     have A41 := Aside0.mk A410
     clear A410
     by_cases c42 : t199 = true
     ·subst c42
      have H1 : (some (a5 == t196)) = some r := by rw [if_pos rfl] at H; exact H
      clear H
      have H := H1
      clear H1
      obtain rfl := Option.some.inj H
      have hnb43 := NB187_188.out
      have hnc43 := NB188_187.out
      have hnb44 := NB187_189.out
      have hnc44 := NB189_187.out
      obtain ⟨hcz45_0, hcz45_1⟩ := bc2_ BK187.out
      have hfz45_0 := blk_frozen BK187.out 0
      have hfz45_1 := blk_frozen BK187.out 1
      have hnb46 := NB188_189.out
      have hnc46 := NB189_188.out
      obtain ⟨hcz47_0, hcz47_1⟩ := bc2_ BK188.out
      have hfz47_0 := blk_frozen BK188.out 0
      have hfz47_1 := blk_frozen BK188.out 1
      go_wp2_with (first | ((with_reducible refine gate_callee (f := 36) rfl ?_); refine goesL_ (some 46) rfl rfl Try.func36 (by kernel_rfl) rfl #[.agg #[.int .i64 a0_0, .slice A0_1 l0_1.length c0_1], .agg #[.int .i64 a1_0, .slice A1_1 l1_1.length c1_1], .slice A2 l2.length c2, .int .i64 a3] rfl gl_ ?_; (with_reducible refine (standstillref06_Until.calls kj7 a0_0 _ _ l0_1 a1_0 _ _ l1_1 _ _ l2 a3 t192 t193 t196 t197 _ ?side1 ?side2 ?side3 ?side4 ?side5 ?side6 A39.out).mono ?_); (case side1 => exact ck_ (Kd.C_below HR0_1.out HB.out)); (case side2 => exact HC0_1.out); (case side3 => exact ck_ (Kd.C_below HR1_1.out HB.out)); (case side4 => exact HC1_1.out); (case side5 => exact ck_ (Kd.C_below HR2.out HB.out)); (case side6 => exact HC2.out); rintro e w48 ⟨v194, rfl, ho0, hb⟩; refine ⟨_, rfl, ?_⟩; have n0_ := A_ (Kd.R_lower ho0 (below_size (bk_ HB.out))); have n1_ := A_ (blk_below (pk_ BK187.out) hb); have n2_ := A_ (blk_below (pk_ BK188.out) hb); have n3_ := A_ (blk_below (pk_ BK189.out) hb); have n4_ := A_ (below_step (bk_ HB.out) hb); clear BK187 BK188 BK189 HB; have HO195 := n0_; have BK187 := n1_; have BK188 := n2_; have BK189 := n3_; have HB := n4_; clear n0_ n1_ n2_ n3_ n4_; (try clear hb); (try clear hb2); (try clear hk); (try clear hi); (try clear ho0)) | ((with_reducible refine gate_dst (N := 15) rfl ?_); refine box_event ?hg (N := 15) ?hd (cs := #[.int .i64 0, .slice none 0 0]) (t := 27) ?hr ?_; (case hd => rfl); (case hg => rfl); (case hr => first | (go_simp; done) | (go_simp; rfl)); intro gb198 hg w49 hbox hb; have n0_ := A_ (Kd.R_below (rk_ HO195.out) hb); have n1_ := A_ (blk_below (pk_ BK187.out) hb); have n2_ := A_ (blk_below (pk_ BK188.out) hb); have n3_ := A_ (blk_below (pk_ BK189.out) hb); have n4_ := A_ (below_step (bk_ HB.out) hb); have n5_ := A_ (hbox); have n6_ := A_ (bz_ hg (bk_ HB.out)); have n7_ := A_ (bz_ hg (bk_ HB.out)); have n8_ := A_ (nl_ hg (pk_ BK187.out)); have n9_ := A_ (ng_ hg (pk_ BK187.out)); have n10_ := A_ (nl_ hg (pk_ BK188.out)); have n11_ := A_ (ng_ hg (pk_ BK188.out)); have n12_ := A_ (nl_ hg (pk_ BK189.out)); have n13_ := A_ (ng_ hg (pk_ BK189.out)); clear HO195 BK187 BK188 BK189 HB; have HO195 := n0_; have BK187 := n1_; have BK188 := n2_; have BK189 := n3_; have HB := n4_; have BK198 := n5_; have GW198 := n6_; have GE198 := n7_; have NB187_198 := n8_; have NB198_187 := n9_; have NB188_198 := n10_; have NB198_188 := n11_; have NB189_198 := n12_; have NB198_189 := n13_; clear n0_ n1_ n2_ n3_ n4_ n5_ n6_ n7_ n8_ n9_ n10_ n11_ n12_ n13_ hb hbox hg; have hnb50 := NB198_187.out; have hnc50 := NB187_198.out; have hnb51 := NB198_188.out; have hnc51 := NB188_198.out; have hnb52 := NB198_189.out; have hnc52 := NB189_198.out; obtain ⟨hcz53_0, hcz53_1⟩ := bc2_ BK198.out; have hfz53_0 := blk_frozen BK198.out 0; have hfz53_1 := blk_frozen BK198.out 1; obtain ⟨Ao54, co54, eo54⟩ := Kd.R_slice HO195.out; subst eo54; obtain ⟨hcz55_0, hcz55_1⟩ := bc2_ BK189.out; have hfz55_0 := blk_frozen BK189.out 0; have hfz55_1 := blk_frozen BK189.out 1) | (go_at_call 16; (with_reducible refine (standstillref06_SameCount.calls kj7 a4_0 _ _ l4_1 t192 _ _ t193 true _ ?side1 ?side2 ?side3 ?side4 A41.out).mono ?_); (case side1 => exact Kd.C_below HR4_1.out (bk_ HB.out)); (case side2 => exact HC4_1.out); (case side3 => refine (Kd.R_reads' (e := 3) (base := w.heap.size) (ok := fun k_ => True) (n := t193.length) (c := co54) ?_).2.2; exact (rz_ HO195.out BK198.out)); (case side4 => exact (Kd.R_reads' HO195.out).2.1); rintro e w56 ⟨rfl, hb⟩; have n0_ := A_ (Kd.R_below (rz_ HO195.out BK198.out) hb); have n1_ := A_ (bf_ BK187.out NB187_198.out hb); have n2_ := A_ (bf_ BK188.out NB188_198.out hb); have n3_ := A_ (bf_ BK189.out NB189_198.out hb); have n4_ := A_ (blk_below (g := gb198) (o := .cells #[.int .i64 t192, .slice Ao54 t193.length co54] 27 (0, 0)) (by refine pk_ ?_; refine blk_put (cs := #[.int .i64 t192, .slice none 0 0]) ?_ 1 _ rfl; refine pk_ ?_; refine blk_put (cs := #[.int .i64 0, .slice none 0 0]) ?_ 0 _ rfl; exact pk_ BK198.out) hb); have n5_ := A_ (below_step (bk_ HB.out) hb); clear HO195 BK187 BK188 BK189 BK198 HB; have HO195 := n0_; have BK187 := n1_; have BK188 := n2_; have BK189 := n3_; have BK198 := n4_; have HB := n5_; clear n0_ n1_ n2_ n3_ n4_ n5_; (try clear hb); (try clear hb2); (try clear hk); (try clear hi)))
      go_ret
      exact ⟨er_, bk_ HB.out⟩
     ·replace c42 := Bool.eq_false_iff.mpr c42
      subst c42
      have H1 : (some false) = some r := by rw [if_neg (show ¬ (false = true) by decide)] at H; exact H
      clear H
      have H := H1
      clear H1
      obtain rfl := Option.some.inj H
      have hnb57 := NB187_188.out
      have hnc57 := NB188_187.out
      have hnb58 := NB187_189.out
      have hnc58 := NB189_187.out
      obtain ⟨hcz59_0, hcz59_1⟩ := bc2_ BK187.out
      have hfz59_0 := blk_frozen BK187.out 0
      have hfz59_1 := blk_frozen BK187.out 1
      have hnb60 := NB188_189.out
      have hnc60 := NB189_188.out
      obtain ⟨hcz61_0, hcz61_1⟩ := bc2_ BK188.out
      have hfz61_0 := blk_frozen BK188.out 0
      have hfz61_1 := blk_frozen BK188.out 1
      go_wp2_with (first | ((with_reducible refine gate_callee (f := 36) rfl ?_); refine goesL_ (some 46) rfl rfl Try.func36 (by kernel_rfl) rfl #[.agg #[.int .i64 a0_0, .slice A0_1 l0_1.length c0_1], .agg #[.int .i64 a1_0, .slice A1_1 l1_1.length c1_1], .slice A2 l2.length c2, .int .i64 a3] rfl gl_ ?_; (with_reducible refine (standstillref06_Until.calls kj7 a0_0 _ _ l0_1 a1_0 _ _ l1_1 _ _ l2 a3 t192 t193 t196 t197 _ ?side1 ?side2 ?side3 ?side4 ?side5 ?side6 A39.out).mono ?_); (case side1 => exact ck_ (Kd.C_below HR0_1.out HB.out)); (case side2 => exact HC0_1.out); (case side3 => exact ck_ (Kd.C_below HR1_1.out HB.out)); (case side4 => exact HC1_1.out); (case side5 => exact ck_ (Kd.C_below HR2.out HB.out)); (case side6 => exact HC2.out); rintro e w62 ⟨v194, rfl, ho0, hb⟩; refine ⟨_, rfl, ?_⟩; have n0_ := A_ (Kd.R_lower ho0 (below_size (bk_ HB.out))); have n1_ := A_ (blk_below (pk_ BK187.out) hb); have n2_ := A_ (blk_below (pk_ BK188.out) hb); have n3_ := A_ (blk_below (pk_ BK189.out) hb); have n4_ := A_ (below_step (bk_ HB.out) hb); clear BK187 BK188 BK189 HB; have HO195 := n0_; have BK187 := n1_; have BK188 := n2_; have BK189 := n3_; have HB := n4_; clear n0_ n1_ n2_ n3_ n4_; (try clear hb); (try clear hb2); (try clear hk); (try clear hi); (try clear ho0)) | ((with_reducible refine gate_dst (N := 15) rfl ?_); refine box_event ?hg (N := 15) ?hd (cs := #[.int .i64 0, .slice none 0 0]) (t := 27) ?hr ?_; (case hd => rfl); (case hg => rfl); (case hr => first | (go_simp; done) | (go_simp; rfl)); intro gb198 hg w63 hbox hb; have n0_ := A_ (Kd.R_below (rk_ HO195.out) hb); have n1_ := A_ (blk_below (pk_ BK187.out) hb); have n2_ := A_ (blk_below (pk_ BK188.out) hb); have n3_ := A_ (blk_below (pk_ BK189.out) hb); have n4_ := A_ (below_step (bk_ HB.out) hb); have n5_ := A_ (hbox); have n6_ := A_ (bz_ hg (bk_ HB.out)); have n7_ := A_ (bz_ hg (bk_ HB.out)); have n8_ := A_ (nl_ hg (pk_ BK187.out)); have n9_ := A_ (ng_ hg (pk_ BK187.out)); have n10_ := A_ (nl_ hg (pk_ BK188.out)); have n11_ := A_ (ng_ hg (pk_ BK188.out)); have n12_ := A_ (nl_ hg (pk_ BK189.out)); have n13_ := A_ (ng_ hg (pk_ BK189.out)); clear HO195 BK187 BK188 BK189 HB; have HO195 := n0_; have BK187 := n1_; have BK188 := n2_; have BK189 := n3_; have HB := n4_; have BK198 := n5_; have GW198 := n6_; have GE198 := n7_; have NB187_198 := n8_; have NB198_187 := n9_; have NB188_198 := n10_; have NB198_188 := n11_; have NB189_198 := n12_; have NB198_189 := n13_; clear n0_ n1_ n2_ n3_ n4_ n5_ n6_ n7_ n8_ n9_ n10_ n11_ n12_ n13_ hb hbox hg; have hnb64 := NB198_187.out; have hnc64 := NB187_198.out; have hnb65 := NB198_188.out; have hnc65 := NB188_198.out; have hnb66 := NB198_189.out; have hnc66 := NB189_198.out; obtain ⟨hcz67_0, hcz67_1⟩ := bc2_ BK198.out; have hfz67_0 := blk_frozen BK198.out 0; have hfz67_1 := blk_frozen BK198.out 1; obtain ⟨Ao68, co68, eo68⟩ := Kd.R_slice HO195.out; subst eo68; obtain ⟨hcz69_0, hcz69_1⟩ := bc2_ BK189.out; have hfz69_0 := blk_frozen BK189.out 0; have hfz69_1 := blk_frozen BK189.out 1) | (go_at_call 16; (with_reducible refine (standstillref06_SameCount.calls kj7 a4_0 _ _ l4_1 t192 _ _ t193 false _ ?side1 ?side2 ?side3 ?side4 A41.out).mono ?_); (case side1 => exact Kd.C_below HR4_1.out (bk_ HB.out)); (case side2 => exact HC4_1.out); (case side3 => refine (Kd.R_reads' (e := 3) (base := w.heap.size) (ok := fun k_ => True) (n := t193.length) (c := co68) ?_).2.2; exact (rz_ HO195.out BK198.out)); (case side4 => exact (Kd.R_reads' HO195.out).2.1); rintro e w70 ⟨rfl, hb⟩; have n0_ := A_ (Kd.R_below (rz_ HO195.out BK198.out) hb); have n1_ := A_ (bf_ BK187.out NB187_198.out hb); have n2_ := A_ (bf_ BK188.out NB188_198.out hb); have n4_ := A_ (blk_below (g := gb198) (o := .cells #[.int .i64 t192, .slice Ao68 t193.length co68] 27 (0, 0)) (by refine pk_ ?_; refine blk_put (cs := #[.int .i64 t192, .slice none 0 0]) ?_ 1 _ rfl; refine pk_ ?_; refine blk_put (cs := #[.int .i64 0, .slice none 0 0]) ?_ 0 _ rfl; exact pk_ BK198.out) hb); have n5_ := A_ (below_step (bk_ HB.out) hb); clear HO195 BK187 BK188 BK198 HB; have HO195 := n0_; have BK187 := n1_; have BK188 := n2_; have BK198 := n4_; have HB := n5_; clear n0_ n1_ n2_ n4_ n5_; (try clear hb); (try clear hb2); (try clear hk); (try clear hi)))
      go_ret
      exact ⟨er_, bk_ HB.out⟩
    ·rw [if_neg c40] at H
     have c40b0 : (a6 == t197) = false := beq_eq_false_iff_ne.mpr c40
     have c40b1 : (a6 != t197) = true := bne_iff_ne.mpr c40
     obtain rfl := Option.some.inj H
     have hnb71 := NB187_188.out
     have hnc71 := NB188_187.out
     obtain ⟨hcz73_0, hcz73_1⟩ := bc2_ BK187.out
     have hfz73_0 := blk_frozen BK187.out 0
     have hfz73_1 := blk_frozen BK187.out 1
     obtain ⟨hcz75_0, hcz75_1⟩ := bc2_ BK188.out
     have hfz75_0 := blk_frozen BK188.out 0
     have hfz75_1 := blk_frozen BK188.out 1
     go_wp2_with (first | ((with_reducible refine gate_callee (f := 36) rfl ?_); refine goesL_ (some 46) rfl rfl Try.func36 (by kernel_rfl) rfl #[.agg #[.int .i64 a0_0, .slice A0_1 l0_1.length c0_1], .agg #[.int .i64 a1_0, .slice A1_1 l1_1.length c1_1], .slice A2 l2.length c2, .int .i64 a3] rfl gl_ ?_; (with_reducible refine (standstillref06_Until.calls kj7 a0_0 _ _ l0_1 a1_0 _ _ l1_1 _ _ l2 a3 t192 t193 t196 t197 _ ?side1 ?side2 ?side3 ?side4 ?side5 ?side6 A39.out).mono ?_); (case side1 => exact ck_ (Kd.C_below HR0_1.out HB.out)); (case side2 => exact HC0_1.out); (case side3 => exact ck_ (Kd.C_below HR1_1.out HB.out)); (case side4 => exact HC1_1.out); (case side5 => exact ck_ (Kd.C_below HR2.out HB.out)); (case side6 => exact HC2.out); rintro e w76 ⟨v194, rfl, ho0, hb⟩; refine ⟨_, rfl, ?_⟩; have n0_ := A_ (Kd.R_lower ho0 (below_size (bk_ HB.out))); have n4_ := A_ (below_step (bk_ HB.out) hb); clear HB; have HO195 := n0_; have HB := n4_; clear n0_ n4_; (try clear hb); (try clear hb2); (try clear hk); (try clear hi); (try clear ho0)) | ((with_reducible refine gate_dst (N := 15) rfl ?_); refine box_event ?hg (N := 15) ?hd (cs := #[.int .i64 0, .slice none 0 0]) (t := 27) ?hr ?_; (case hd => rfl); (case hg => rfl); (case hr => first | (go_simp; done) | (go_simp; rfl)); intro gb198 hg w77 hbox hb; have n0_ := A_ (Kd.R_below (rk_ HO195.out) hb); have n4_ := A_ (below_step (bk_ HB.out) hb); have n5_ := A_ (hbox); have n6_ := A_ (bz_ hg (bk_ HB.out)); have n7_ := A_ (bz_ hg (bk_ HB.out)); clear HO195 HB; have HO195 := n0_; have HB := n4_; have BK198 := n5_; have GW198 := n6_; have GE198 := n7_; clear n0_ n4_ n5_ n6_ n7_ hb hbox hg; obtain ⟨hcz81_0, hcz81_1⟩ := bc2_ BK198.out; have hfz81_0 := blk_frozen BK198.out 0; have hfz81_1 := blk_frozen BK198.out 1; obtain ⟨Ao82, co82, eo82⟩ := Kd.R_slice HO195.out; subst eo82))
     go_ret
     exact ⟨er_, bk_ HB.out⟩

end Go.Proofs.Ytkekehpfkfadfaa.PCounterRuns
