-- out of a turned copy of the print, by a program of this session; Lean checks it
import Derived.Test.YtkekehpfkfadfaaPCounterJoinedx0
import Derived.Test.YtkekehpfkfadfaaPCounterJoinedx1
namespace Go.Proofs.Ytkekehpfkfadfaa.PCounterJoined
open Go.RowKit Go.Proofs.YtkekehpfkfadfaaW.PrintWords Go.Proofs.YtkekehpfkfadfaaW.PrintLast Go.Proofs.YtkekehpfkfadfaaW.PrintMore
attribute [local go_sem] max2_int min2_int max_two min_two max_three min_three max_four min_four   -- for this text's walks alone
set_option linter.unusedVariables false
set_option linter.unusedSimpArgs false

attribute [local go_sem] isSome_put_
attribute [local go_sem high] eqA33
/-! ### standstillref06_index: function 25 -/
def standstillref06_index.f (a0_0 : Int) (l0_1 : List (S33)) (a1 : Int) : Option (Bool) := if a1 ≥ 0 then (some (decide (a1 < (l0_1.length : Int)))) else (some false)
set_option maxHeartbeats 8000000 in
set_option maxRecDepth 100000 in
theorem standstillref06_index.calls (a0_0 : Int) (A0_1 : Option Addr) (c0_1 : Nat) (l0_1 : List (S33)) (a1 : Int) (r : Bool) (w : World) (hr0_1 : Kd.C k33 w A0_1 l0_1.length l0_1) (hc0_1 : l0_1.length ≤ c0_1) (h : standstillref06_index.f a0_0 l0_1 a1 = some r) :
  Calls Try.prog 25 #[.agg #[.int .i64 a0_0, .slice A0_1 l0_1.length c0_1], .int .i64 a1] w fun e w' => e = .returned (.bool r) ∧ Below w.heap.size w w' := by
 have hu24 := Try.underlying24
 have HR0_1 := Aside0.mk hr0_1
 have HC0_1 := Aside0.mk hc0_1
 clear hr0_1 hc0_1
 have HB := A_ (Below.refl w.heap.size w)
 have H : (if a1 ≥ 0 then (some (decide (a1 < (l0_1.length : Int)))) else (some false)) = some r := h
 clear h
 by_cases c3 : a1 ≥ 0
 ·rw [if_pos c3] at H
  have c3b0 : decide (0 ≤ a1) = true := decide_eq_true c3
  clear c3
  obtain rfl := Option.some.inj H
  go_enter Try.func25, Try.ntmps25
  go_wp2_with (first | ((with_reducible refine gate_dst (N := 2) rfl ?_); (try (refine gate_guard (by rfl) ?_; dsimp only)); refine box_event ?hg (N := 2) ?hd (cs := #[.int .i64 a0_0, .slice A0_1 l0_1.length c0_1]) (t := 24) ?hr ?_; (case hd => rfl); (case hg => rfl); (case hr => first | (go_simp; done) | (go_simp; rfl)); intro gb101 hg w4 hbox hb; have n0_ := A_ (below_step (bk_ HB.out) hb); have n1_ := A_ (hbox); have n2_ := A_ ((by rw [hg]; exact (below_size (bk_ HB.out)) : w.heap.size ≤ gb101)); have n3_ := A_ ((by rw [hg]; exact (below_size (bk_ HB.out)) : w.heap.size ≤ gb101)); clear HB; have HB := n0_; have BK101 := n1_; have GW101 := n2_; have GE101 := n3_; clear n0_ n1_ n2_ n3_ hb hbox hg; have hcz5_0 : w4.cell? ⟨gb101, 0, none⟩ = some (.int .i64 a0_0) := (blk_cell BK101.out 0).trans rfl; have hcz5_1 : w4.cell? ⟨gb101, 1, none⟩ = some (.slice A0_1 l0_1.length c0_1) := (blk_cell BK101.out 1).trans rfl; have hfz5_0 := blk_frozen BK101.out 0; have hfz5_1 := blk_frozen BK101.out 1))
  go_ret
  exact ⟨er_, bk_ HB.out⟩
 ·rw [if_neg c3] at H
  have c3b0 : decide (0 ≤ a1) = false := decide_eq_false c3
  clear c3
  obtain rfl := Option.some.inj H
  go_enter Try.func25, Try.ntmps25
  go_wp2_with (first | ((with_reducible refine gate_dst (N := 2) rfl ?_); (try (refine gate_guard (by rfl) ?_; dsimp only)); refine box_event ?hg (N := 2) ?hd (cs := #[.int .i64 a0_0, .slice A0_1 l0_1.length c0_1]) (t := 24) ?hr ?_; (case hd => rfl); (case hg => rfl); (case hr => first | (go_simp; done) | (go_simp; rfl)); intro gb101 hg w6 hbox hb; have n0_ := A_ (below_step (bk_ HB.out) hb); have n1_ := A_ (hbox); have n2_ := A_ ((by rw [hg]; exact (below_size (bk_ HB.out)) : w.heap.size ≤ gb101)); have n3_ := A_ ((by rw [hg]; exact (below_size (bk_ HB.out)) : w.heap.size ≤ gb101)); clear HB; have HB := n0_; have BK101 := n1_; have GW101 := n2_; have GE101 := n3_; clear n0_ n1_ n2_ n3_ hb hbox hg))
  go_ret
  exact ⟨er_, bk_ HB.out⟩

/-! ### standstillref06_Valid: function 13 -/
mutual
def standstillref06_Valid.j0 : Nat → Bool → Int → List (S33) → Option (Bool)
 | 0, _, _, _ => none
 | k + 1, x24, x103000, x103001 => if x24 = true then (some false) else (standstillref06_Valid.l0 k 0 x103000 x103001)
def standstillref06_Valid.l0 : Nat → Int → Int → List (S33) → Option (Bool)
 | 0, _, _, _ => none
 | k + 1, x3, x103000, x103001 => if x3 < (x103001.length : Int) then (if 0 ≤ x3 then (if ((rd_T33 x103001 x3).f0) = 0 then (if ((rd_T33 x103001 x3).f1) < 0 then (some false) else (if ((rd_T33 x103001 x3).f1) ≥ x103000 then (some false) else ((standstillref06_index.f x103000 x103001 ((rd_T33 x103001 x3).f2)).bind fun t105 => (if t105 = true then (if ((rd_T33 x103001 x3).f3) = 0 then (standstillref06_Valid.l0 k (wrap64 (x3 + 1)) x103000 x103001) else (some false)) else (some false))))) else (if ((rd_T33 x103001 x3).f0) = 1 then (if ((rd_T33 x103001 x3).f1) < 0 then (some false) else (if ((rd_T33 x103001 x3).f1) ≥ x103000 then (some false) else ((standstillref06_index.f x103000 x103001 ((rd_T33 x103001 x3).f2)).bind fun t106 => (if t106 = true then ((standstillref06_index.f x103000 x103001 ((rd_T33 x103001 x3).f3)).bind fun t107 => (if t107 = true then (standstillref06_Valid.l0 k (wrap64 (x3 + 1)) x103000 x103001) else (some false))) else (some false))))) else (if ((rd_T33 x103001 x3).f0) = 2 then (if (!(((rd_T33 x103001 x3).f0) == 2) || (!(((rd_T33 x103001 x3).f1) == 0) || (!(((rd_T33 x103001 x3).f2) == 0) || (!(((rd_T33 x103001 x3).f3) == 0))))) = true then (some false) else (standstillref06_Valid.l0 k (wrap64 (x3 + 1)) x103000 x103001)) else (some false)))) else (none)) else (some true)
end
def standstillref06_Valid.f (k : Nat) (a0_0 : Int) (l0_1 : List (S33)) : Option (Bool) := if a0_0 < 1 then (standstillref06_Valid.j0 k true a0_0 l0_1) else (if a0_0 > 16 then (standstillref06_Valid.j0 k true a0_0 l0_1) else (if (l0_1.length : Int) < 1 then (standstillref06_Valid.j0 k true a0_0 l0_1) else (standstillref06_Valid.j0 k (decide ((l0_1.length : Int) > 2000)) a0_0 l0_1)))
theorem standstillref06_Valid.mono_l : ∀ k, (∀ y0 y1 y2, LeO (standstillref06_Valid.j0 k y0 y1 y2) (standstillref06_Valid.j0 (k + 1) y0 y1 y2)) ∧ (∀ y0 y1 y2, LeO (standstillref06_Valid.l0 k y0 y1 y2) (standstillref06_Valid.l0 (k + 1) y0 y1 y2))
 | 0 => ⟨fun _ _ _ r h => by simp [standstillref06_Valid.j0] at h, fun _ _ _ r h => by simp [standstillref06_Valid.l0] at h⟩
 | k + 1 => by
  obtain ⟨ih0, ih1⟩ := standstillref06_Valid.mono_l k
  refine ⟨?_, ?_⟩
  ·intro y0 y1 y2
   unfold standstillref06_Valid.j0
   repeat' first
   | (with_reducible exact ih0 _ _ _)
   | (with_reducible exact ih1 _ _ _)
   | (with_reducible exact LeO.refl _)
   | (with_reducible exact LeO.none _)
   | (with_reducible refine LeO.ite ?_ ?_)
   | (with_reducible refine LeO.bind ?_ (fun _ => ?_))
   | exact ih0 _ _ _
   | exact ih1 _ _ _
   | exact LeO.none _
   | refine LeO.ite ?_ ?_
   | refine LeO.bind ?_ (fun _ => ?_)
  ·intro y0 y1 y2
   unfold standstillref06_Valid.l0
   repeat' first
   | (with_reducible exact ih0 _ _ _)
   | (with_reducible exact ih1 _ _ _)
   | (with_reducible exact LeO.refl _)
   | (with_reducible exact LeO.none _)
   | (with_reducible refine LeO.ite ?_ ?_)
   | (with_reducible refine LeO.bind ?_ (fun _ => ?_))
   | exact ih0 _ _ _
   | exact ih1 _ _ _
   | exact LeO.none _
   | refine LeO.ite ?_ ?_
   | refine LeO.bind ?_ (fun _ => ?_)
theorem standstillref06_Valid.mono : ∀ a0 a1 k, LeO (standstillref06_Valid.f k a0 a1) (standstillref06_Valid.f (k + 1) a0 a1) := by
 intro a0 a1 k
 obtain ⟨ih0, ih1⟩ := standstillref06_Valid.mono_l k
 unfold standstillref06_Valid.f
 repeat' first
   | (with_reducible exact ih0 _ _ _)
   | (with_reducible exact ih1 _ _ _)
   | (with_reducible exact LeO.refl _)
   | (with_reducible exact LeO.none _)
   | (with_reducible refine LeO.ite ?_ ?_)
   | (with_reducible refine LeO.bind ?_ (fun _ => ?_))
   | exact ih0 _ _ _
   | exact ih1 _ _ _
   | exact LeO.none _
   | refine LeO.ite ?_ ?_
   | refine LeO.bind ?_ (fun _ => ?_)
set_option maxHeartbeats 8000000 in
set_option maxRecDepth 100000 in
theorem standstillref06_Valid.calls (k : Nat) (a0_0 : Int) (A0_1 : Option Addr) (c0_1 : Nat) (l0_1 : List (S33)) (r : Bool) (w : World) (hr0_1 : Kd.C k33 w A0_1 l0_1.length l0_1) (hc0_1 : l0_1.length ≤ c0_1) (h : standstillref06_Valid.f k a0_0 l0_1 = some r) :
  Calls Try.prog 13 #[.agg #[.int .i64 a0_0, .slice A0_1 l0_1.length c0_1]] w fun e w' => e = .returned (.bool r) ∧ Below w.heap.size w w' := by
 have hu24 := Try.underlying24
 have hu33 := Try.underlying33
 have HR0_1 := Aside0.mk hr0_1
 have HC0_1 := Aside0.mk hc0_1
 clear hr0_1 hc0_1
 have HB := A_ (Below.refl w.heap.size w)
 have H : (if a0_0 < 1 then (standstillref06_Valid.j0 k true a0_0 l0_1) else (if a0_0 > 16 then (standstillref06_Valid.j0 k true a0_0 l0_1) else (if (l0_1.length : Int) < 1 then (standstillref06_Valid.j0 k true a0_0 l0_1) else (standstillref06_Valid.j0 k (decide ((l0_1.length : Int) > 2000)) a0_0 l0_1)))) = some r := h
 clear h
 have HC2 := Aside0.mk H
 clear H
 go_enter Try.func13, Try.ntmps13
 go_upto_region 1 with (first | ((with_reducible refine gate_dst (N := 1) rfl ?_); (try (refine gate_guard (by rfl) ?_; dsimp only)); refine box_event ?hg (N := 1) ?hd (cs := #[.int .i64 a0_0, .slice A0_1 l0_1.length c0_1]) (t := 24) ?hr ?_; (case hd => rfl); (case hg => rfl); (case hr => first | (go_simp; done) | (go_simp; rfl)); intro gb102 hg w3 hbox hb; have n0_ := A_ (below_step (bk_ HB.out) hb); have n1_ := A_ (hbox); have n2_ := A_ ((by rw [hg]; exact (below_size (bk_ HB.out)) : w.heap.size ≤ gb102)); have n3_ := A_ ((by rw [hg]; exact (below_size (bk_ HB.out)) : w.heap.size ≤ gb102)); clear HB; have HB := n0_; have BK102 := n1_; have GW102 := n2_; have GE102 := n3_; clear n0_ n1_ n2_ n3_ hb hbox hg))
 (try simp only [Act.put, List.setIfInBounds_toArray, List.set_cons_zero, List.set_cons_succ])
 go_cut [24] (fun v24 wc => ∃ (kq : Nat) (x24_1 : Bool), v24 = .bool x24_1 ∧ Aside0 (standstillref06_Valid.j0 kq x24_1 a0_0 l0_1 = some r) ∧ Aside0 (kq ≤ k) ∧ Aside0 (wc.heap[gb102]? = some (.cells #[.int .i64 a0_0, (.slice A0_1 l0_1.length c0_1)] 24 (0, 0))) ∧ Aside0 (Below w.heap.size w wc))
 case first =>
  have H := HC2.out
  clear HC2
  by_cases c4 : a0_0 < 1
  ·rw [if_pos c4] at H
   have c4b0 : decide (a0_0 < 1) = true := decide_eq_true c4
   clear c4
   (first | rw [c4b0] | (simp only [i64_w, i32_w]; rw [c4b0]) | skip)
   have H' := Aside0.mk H
   clear H
   have hcz5_0 : w3.cell? ⟨gb102, 0, none⟩ = some (.int .i64 a0_0) := (blk_cell BK102.out 0).trans rfl
   have hcz5_1 : w3.cell? ⟨gb102, 1, none⟩ = some (.slice A0_1 l0_1.length c0_1) := (blk_cell BK102.out 1).trans rfl
   have hfz5_0 := blk_frozen BK102.out 0
   have hfz5_1 := blk_frozen BK102.out 1
   go_wp2
   go_meet
   case rel => exact ⟨_, (true), jr_, H', ⟨by first | omega | exact Nat.le_refl _⟩, ⟨pk_ BK102.out⟩, ⟨bk_ HB.out⟩⟩
  ·rw [if_neg c4] at H
   have c4b0 : decide (a0_0 < 1) = false := decide_eq_false c4
   clear c4
   (first | rw [c4b0] | (simp only [i64_w, i32_w]; rw [c4b0]) | skip)
   by_cases c6 : a0_0 > 16
   ·rw [if_pos c6] at H
    have c6b0 : decide (16 < a0_0) = true := decide_eq_true c6
    clear c6
    have H' := Aside0.mk H
    clear H
    have hcz7_0 : w3.cell? ⟨gb102, 0, none⟩ = some (.int .i64 a0_0) := (blk_cell BK102.out 0).trans rfl
    have hcz7_1 : w3.cell? ⟨gb102, 1, none⟩ = some (.slice A0_1 l0_1.length c0_1) := (blk_cell BK102.out 1).trans rfl
    have hfz7_0 := blk_frozen BK102.out 0
    have hfz7_1 := blk_frozen BK102.out 1
    go_wp2
    go_meet
    case rel => exact ⟨_, (true), jr_, H', ⟨by first | omega | exact Nat.le_refl _⟩, ⟨pk_ BK102.out⟩, ⟨bk_ HB.out⟩⟩
   ·rw [if_neg c6] at H
    have c6b0 : decide (16 < a0_0) = false := decide_eq_false c6
    clear c6
    by_cases c8 : (l0_1.length : Int) < 1
    ·rw [if_pos c8] at H
     have c8b0 : decide ((l0_1.length : Int) < 1) = true := decide_eq_true c8
     have c8b1 : decide (l0_1.length < 1) = true := decide_eq_true (by omega)
     clear c8
     have H' := Aside0.mk H
     clear H
     have hcz9_0 : w3.cell? ⟨gb102, 0, none⟩ = some (.int .i64 a0_0) := (blk_cell BK102.out 0).trans rfl
     have hcz9_1 : w3.cell? ⟨gb102, 1, none⟩ = some (.slice A0_1 l0_1.length c0_1) := (blk_cell BK102.out 1).trans rfl
     have hfz9_0 := blk_frozen BK102.out 0
     have hfz9_1 := blk_frozen BK102.out 1
     go_wp2
     go_meet
     case rel => exact ⟨_, (true), jr_, H', ⟨by first | omega | exact Nat.le_refl _⟩, ⟨pk_ BK102.out⟩, ⟨bk_ HB.out⟩⟩
    ·rw [if_neg c8] at H
     have c8b0 : decide ((l0_1.length : Int) < 1) = false := decide_eq_false c8
     have c8b1 : decide (l0_1.length < 1) = false := decide_eq_false (by omega)
     clear c8
     have H' := Aside0.mk H
     clear H
     have hcz10_0 : w3.cell? ⟨gb102, 0, none⟩ = some (.int .i64 a0_0) := (blk_cell BK102.out 0).trans rfl
     have hcz10_1 : w3.cell? ⟨gb102, 1, none⟩ = some (.slice A0_1 l0_1.length c0_1) := (blk_cell BK102.out 1).trans rfl
     have hfz10_0 := blk_frozen BK102.out 0
     have hfz10_1 := blk_frozen BK102.out 1
     go_wp2
     go_meet
     case rel => exact ⟨_, (decide ((l0_1.length : Int) > 2000)), jr_, H', ⟨by first | omega | exact Nat.le_refl _⟩, ⟨pk_ BK102.out⟩, ⟨bk_ HB.out⟩⟩
 case rest =>
  clear HC2
  obtain ⟨kq, x24_1, rfl, HA, HJ1, BK102, HB⟩ := hcut
  cases kq with
  | zero => exact absurd HA.out (by simp [standstillref06_Valid.j0])
  | succ kj1 =>
   have H := HA.out
   clear HA
   simp only [standstillref06_Valid.j0] at H
   by_cases c11 : x24_1 = true
   ·subst c11
    have H1 : (some false) = some r := by rw [if_pos rfl] at H; exact H
    clear H
    have H := H1
    clear H1
    obtain rfl := Option.some.inj H
    go_wp2
    go_ret
    exact ⟨er_, bk_ HB.out⟩
   ·replace c11 := Bool.eq_false_iff.mpr c11
    subst c11
    have H1 : (standstillref06_Valid.l0 kj1 0 a0_0 l0_1) = some r := by rw [if_neg (show ¬ (false = true) by decide)] at H; exact H
    clear H
    have H := H1
    clear H1
    have H' := Aside0.mk H
    clear H
    go_wp2
    go_loopg [3] kj1 (fun kq v3 w' => ∃ (x3_2 : Int), v3 = .int .i64 x3_2 ∧ Aside0 (standstillref06_Valid.l0 kq x3_2 a0_0 l0_1 = some r) ∧ Aside0 (kq ≤ kj1) ∧ Aside0 (w'.heap[gb102]? = some (.cells #[.int .i64 a0_0, (.slice A0_1 l0_1.length c0_1)] 24 (0, 0))) ∧ Aside0 (Below w.heap.size w w'))
    case atStart => exact ⟨(0), jr_, H', ⟨Nat.le_refl _⟩, ⟨pk_ BK102.out⟩, ⟨bk_ HB.out⟩⟩
    case round =>
     clear H'
     (try clear c11)
     obtain ⟨x3_2, rfl, HA, HK2, BK102, HB⟩ := hrel
     cases gk with
     | zero => exact absurd HA.out (by simp [standstillref06_Valid.l0])
     | succ k2 =>
      have H := HA.out
      clear HA
      simp only [standstillref06_Valid.l0] at H
      by_cases c12 : x3_2 < (l0_1.length : Int)
      ·rw [if_pos c12] at H
       have c12b0 : decide (x3_2 < (l0_1.length : Int)) = true := decide_eq_true c12
       clear c12
       by_cases c13 : 0 ≤ x3_2
       ·rw [if_pos c13] at H
        have c13b0 : decide (0 ≤ x3_2) = true := decide_eq_true c13
        clear c13
        by_cases c14 : ((rd_T33 l0_1 x3_2).f0) = 0
        ·rw [if_pos c14] at H
         have c14b0 : (((rd_T33 l0_1 x3_2).f0) == 0) = true := beq_iff_eq.mpr c14
         have c14b1 : (((rd_T33 l0_1 x3_2).f0) != 0) = false := bne_eq_false_iff_eq.mpr c14
         clear c14
         by_cases c15 : ((rd_T33 l0_1 x3_2).f1) < 0
         ·rw [if_pos c15] at H
          have c15b0 : decide (((rd_T33 l0_1 x3_2).f1) < 0) = true := decide_eq_true c15
          clear c15
          obtain rfl := Option.some.inj H
          have hcz16_0 : wr.cell? ⟨gb102, 0, none⟩ = some (.int .i64 a0_0) := (blk_cell BK102.out 0).trans rfl
          have hcz16_1 : wr.cell? ⟨gb102, 1, none⟩ = some (.slice A0_1 l0_1.length c0_1) := (blk_cell BK102.out 1).trans rfl
          have hfz16_0 := blk_frozen BK102.out 0
          have hfz16_1 := blk_frozen BK102.out 1
          have p103 : 0 ≤ (x3_2 : Int) := od_
          have q103 : x3_2 < (l0_1.length : Int) := od_
          obtain ⟨ad103, e103, hx103_0, hx103_1, hx103_2, hx103_3⟩ := at_T33 HR0_1.out x3_2 p103 q103
          cases e103
          replace hx103_0 := lf_ HB.out hx103_0
          replace hx103_1 := lf_ HB.out hx103_1
          replace hx103_2 := lf_ HB.out hx103_2
          replace hx103_3 := lf_ HB.out hx103_3
          replace p103 := eq_true p103
          replace q103 := eq_true q103
          go_wp2_with (first | ((with_reducible refine gate_dst (N := 4) rfl ?_); (try (refine gate_guard (by rfl) ?_; dsimp only)); refine box_event ?hg (N := 4) ?hd (cs := #[.int .i64 0, .int .i64 0, .int .i64 0, .int .i64 0]) (t := 33) ?hr ?_; (case hd => rfl); (case hg => rfl); (case hr => first | (go_simp; done) | (go_simp; rfl)); intro gb104 hg w17 hbox hb; have n0_ := A_ (blk_below (pk_ BK102.out) hb); have n1_ := A_ (below_step (bk_ HB.out) hb); have n2_ := A_ (hbox); have n3_ := A_ ((by rw [hg]; exact (below_size (bk_ HB.out)) : w.heap.size ≤ gb104)); have n4_ := A_ ((by rw [hg]; exact (below_size (bk_ HB.out)) : w.heap.size ≤ gb104)); have n5_ := A_ ((by rw [hg]; exact Nat.ne_of_lt (blk_lt (pk_ BK102.out)) : gb102 ≠ gb104)); have n6_ := A_ ((by rw [hg]; exact Nat.ne_of_gt (blk_lt (pk_ BK102.out)) : gb104 ≠ gb102)); clear BK102 HB; have BK102 := n0_; have HB := n1_; have BK104 := n2_; have GW104 := n3_; have GE104 := n4_; have NB102_104 := n5_; have NB104_102 := n6_; clear n0_ n1_ n2_ n3_ n4_ n5_ n6_ hb hbox hg; have hnb18 := NB104_102.out; have hnc18 := NB102_104.out; have hcz19_0 : w17.cell? ⟨gb104, 0, none⟩ = some (.int .i64 0) := (blk_cell BK104.out 0).trans rfl; have hcz19_1 : w17.cell? ⟨gb104, 1, none⟩ = some (.int .i64 0) := (blk_cell BK104.out 1).trans rfl; have hcz19_2 : w17.cell? ⟨gb104, 2, none⟩ = some (.int .i64 0) := (blk_cell BK104.out 2).trans rfl; have hcz19_3 : w17.cell? ⟨gb104, 3, none⟩ = some (.int .i64 0) := (blk_cell BK104.out 3).trans rfl; have hfz19_0 := blk_frozen BK104.out 0; have hfz19_1 := blk_frozen BK104.out 1; have hfz19_2 := blk_frozen BK104.out 2; have hfz19_3 := blk_frozen BK104.out 3))
          go_ret
          exact ⟨er_, bk_ HB.out⟩
         ·rw [if_neg c15] at H
          have c15b0 : decide (((rd_T33 l0_1 x3_2).f1) < 0) = false := decide_eq_false c15
          clear c15
          by_cases c20 : ((rd_T33 l0_1 x3_2).f1) ≥ a0_0
          ·rw [if_pos c20] at H
           have c20b0 : decide (a0_0 ≤ ((rd_T33 l0_1 x3_2).f1)) = true := decide_eq_true c20
           clear c20
           obtain rfl := Option.some.inj H
           have hcz21_0 : wr.cell? ⟨gb102, 0, none⟩ = some (.int .i64 a0_0) := (blk_cell BK102.out 0).trans rfl
           have hcz21_1 : wr.cell? ⟨gb102, 1, none⟩ = some (.slice A0_1 l0_1.length c0_1) := (blk_cell BK102.out 1).trans rfl
           have hfz21_0 := blk_frozen BK102.out 0
           have hfz21_1 := blk_frozen BK102.out 1
           have p103 : 0 ≤ (x3_2 : Int) := od_
           have q103 : x3_2 < (l0_1.length : Int) := od_
           obtain ⟨ad103, e103, hx103_0, hx103_1, hx103_2, hx103_3⟩ := at_T33 HR0_1.out x3_2 p103 q103
           cases e103
           replace hx103_0 := lf_ HB.out hx103_0
           replace hx103_1 := lf_ HB.out hx103_1
           replace hx103_2 := lf_ HB.out hx103_2
           replace hx103_3 := lf_ HB.out hx103_3
           replace p103 := eq_true p103
           replace q103 := eq_true q103
           go_wp2_with (first | ((with_reducible refine gate_dst (N := 4) rfl ?_); (try (refine gate_guard (by rfl) ?_; dsimp only)); refine box_event ?hg (N := 4) ?hd (cs := #[.int .i64 0, .int .i64 0, .int .i64 0, .int .i64 0]) (t := 33) ?hr ?_; (case hd => rfl); (case hg => rfl); (case hr => first | (go_simp; done) | (go_simp; rfl)); intro gb104 hg w22 hbox hb; have n0_ := A_ (blk_below (pk_ BK102.out) hb); have n1_ := A_ (below_step (bk_ HB.out) hb); have n2_ := A_ (hbox); have n3_ := A_ ((by rw [hg]; exact (below_size (bk_ HB.out)) : w.heap.size ≤ gb104)); have n4_ := A_ ((by rw [hg]; exact (below_size (bk_ HB.out)) : w.heap.size ≤ gb104)); have n5_ := A_ ((by rw [hg]; exact Nat.ne_of_lt (blk_lt (pk_ BK102.out)) : gb102 ≠ gb104)); have n6_ := A_ ((by rw [hg]; exact Nat.ne_of_gt (blk_lt (pk_ BK102.out)) : gb104 ≠ gb102)); clear BK102 HB; have BK102 := n0_; have HB := n1_; have BK104 := n2_; have GW104 := n3_; have GE104 := n4_; have NB102_104 := n5_; have NB104_102 := n6_; clear n0_ n1_ n2_ n3_ n4_ n5_ n6_ hb hbox hg; have hnb23 := NB104_102.out; have hnc23 := NB102_104.out; have hcz24_0 : w22.cell? ⟨gb104, 0, none⟩ = some (.int .i64 0) := (blk_cell BK104.out 0).trans rfl; have hcz24_1 : w22.cell? ⟨gb104, 1, none⟩ = some (.int .i64 0) := (blk_cell BK104.out 1).trans rfl; have hcz24_2 : w22.cell? ⟨gb104, 2, none⟩ = some (.int .i64 0) := (blk_cell BK104.out 2).trans rfl; have hcz24_3 : w22.cell? ⟨gb104, 3, none⟩ = some (.int .i64 0) := (blk_cell BK104.out 3).trans rfl; have hfz24_0 := blk_frozen BK104.out 0; have hfz24_1 := blk_frozen BK104.out 1; have hfz24_2 := blk_frozen BK104.out 2; have hfz24_3 := blk_frozen BK104.out 3; have hcz25_0 : w22.cell? ⟨gb102, 0, none⟩ = some (.int .i64 a0_0) := (blk_cell BK102.out 0).trans rfl; have hcz25_1 : w22.cell? ⟨gb102, 1, none⟩ = some (.slice (some ad103) l0_1.length c0_1) := (blk_cell BK102.out 1).trans rfl; have hfz25_0 := blk_frozen BK102.out 0; have hfz25_1 := blk_frozen BK102.out 1))
           go_ret
           exact ⟨er_, bk_ HB.out⟩
          ·rw [if_neg c20] at H
           have c20b0 : decide (a0_0 ≤ ((rd_T33 l0_1 x3_2).f1)) = false := decide_eq_false c20
           clear c20
           replace H := Option.bind_eq_some_iff.mp H
           obtain ⟨t105, A260, H⟩ := H
           replace H : (if t105 = true then (if ((rd_T33 l0_1 x3_2).f3) = 0 then (standstillref06_Valid.l0 k2 (wrap64 (x3_2 + 1)) a0_0 l0_1) else (some false)) else (some false)) = some r := H
           have A26 := Aside0.mk A260
           clear A260
           by_cases c27 : t105 = true
           ·subst c27
            have H1 : (if ((rd_T33 l0_1 x3_2).f3) = 0 then (standstillref06_Valid.l0 k2 (wrap64 (x3_2 + 1)) a0_0 l0_1) else (some false)) = some r := by rw [if_pos rfl] at H; exact H
            clear H
            have H := H1
            clear H1
            by_cases c28 : ((rd_T33 l0_1 x3_2).f3) = 0
            ·rw [if_pos c28] at H
             have c28b0 : (((rd_T33 l0_1 x3_2).f3) == 0) = true := beq_iff_eq.mpr c28
             have c28b1 : (((rd_T33 l0_1 x3_2).f3) != 0) = false := bne_eq_false_iff_eq.mpr c28
             clear c28
             have H' := Aside0.mk H
             clear H
             have hcz29_0 : wr.cell? ⟨gb102, 0, none⟩ = some (.int .i64 a0_0) := (blk_cell BK102.out 0).trans rfl
             have hcz29_1 : wr.cell? ⟨gb102, 1, none⟩ = some (.slice A0_1 l0_1.length c0_1) := (blk_cell BK102.out 1).trans rfl
             have hfz29_0 := blk_frozen BK102.out 0
             have hfz29_1 := blk_frozen BK102.out 1
             have p103 : 0 ≤ (x3_2 : Int) := od_
             have q103 : x3_2 < (l0_1.length : Int) := od_
             obtain ⟨ad103, e103, hx103_0, hx103_1, hx103_2, hx103_3⟩ := at_T33 HR0_1.out x3_2 p103 q103
             cases e103
             replace hx103_0 := lf_ HB.out hx103_0
             replace hx103_1 := lf_ HB.out hx103_1
             replace hx103_2 := lf_ HB.out hx103_2
             replace hx103_3 := lf_ HB.out hx103_3
             replace p103 := eq_true p103
             replace q103 := eq_true q103
             go_wp2_with (first | ((with_reducible refine gate_dst (N := 4) rfl ?_); (try (refine gate_guard (by rfl) ?_; dsimp only)); refine box_event ?hg (N := 4) ?hd (cs := #[.int .i64 0, .int .i64 0, .int .i64 0, .int .i64 0]) (t := 33) ?hr ?_; (case hd => rfl); (case hg => rfl); (case hr => first | (go_simp; done) | (go_simp; rfl)); intro gb104 hg w30 hbox hb; have n0_ := A_ (blk_below (pk_ BK102.out) hb); have n1_ := A_ (below_step (bk_ HB.out) hb); have n2_ := A_ (hbox); have n3_ := A_ ((by rw [hg]; exact (below_size (bk_ HB.out)) : w.heap.size ≤ gb104)); have n4_ := A_ ((by rw [hg]; exact (below_size (bk_ HB.out)) : w.heap.size ≤ gb104)); have n5_ := A_ ((by rw [hg]; exact Nat.ne_of_lt (blk_lt (pk_ BK102.out)) : gb102 ≠ gb104)); have n6_ := A_ ((by rw [hg]; exact Nat.ne_of_gt (blk_lt (pk_ BK102.out)) : gb104 ≠ gb102)); clear BK102 HB; have BK102 := n0_; have HB := n1_; have BK104 := n2_; have GW104 := n3_; have GE104 := n4_; have NB102_104 := n5_; have NB104_102 := n6_; clear n0_ n1_ n2_ n3_ n4_ n5_ n6_ hb hbox hg; have hnb31 := NB104_102.out; have hnc31 := NB102_104.out; have hcz32_0 : w30.cell? ⟨gb104, 0, none⟩ = some (.int .i64 0) := (blk_cell BK104.out 0).trans rfl; have hcz32_1 : w30.cell? ⟨gb104, 1, none⟩ = some (.int .i64 0) := (blk_cell BK104.out 1).trans rfl; have hcz32_2 : w30.cell? ⟨gb104, 2, none⟩ = some (.int .i64 0) := (blk_cell BK104.out 2).trans rfl; have hcz32_3 : w30.cell? ⟨gb104, 3, none⟩ = some (.int .i64 0) := (blk_cell BK104.out 3).trans rfl; have hfz32_0 := blk_frozen BK104.out 0; have hfz32_1 := blk_frozen BK104.out 1; have hfz32_2 := blk_frozen BK104.out 2; have hfz32_3 := blk_frozen BK104.out 3; have hcz33_0 : w30.cell? ⟨gb102, 0, none⟩ = some (.int .i64 a0_0) := (blk_cell BK102.out 0).trans rfl; have hcz33_1 : w30.cell? ⟨gb102, 1, none⟩ = some (.slice (some ad103) l0_1.length c0_1) := (blk_cell BK102.out 1).trans rfl; have hfz33_0 := blk_frozen BK102.out 0; have hfz33_1 := blk_frozen BK102.out 1) | (go_at_call 25; (with_reducible refine (standstillref06_index.calls a0_0 _ _ l0_1 ((rd_T33 l0_1 x3_2).f2) true _ ?side1 ?side2 A26.out).mono ?_); (case side1 => exact Kd.C_below HR0_1.out (bk_ HB.out)); (case side2 => exact HC0_1.out); rintro e w34 ⟨rfl, hb⟩; have n0_ := A_ (blk_below (g := gb102) (o := .cells #[.int .i64 a0_0, .slice (some ad103) l0_1.length c0_1] 24 (0, 0)) (by refine pk_ ?_; refine blk_far ?_ NB102_104.out _; refine pk_ ?_; refine blk_far ?_ NB102_104.out _; refine pk_ ?_; refine blk_far ?_ NB102_104.out _; refine pk_ ?_; refine blk_far ?_ NB102_104.out _; exact pk_ BK102.out) hb); have n1_ := A_ (blk_below (g := gb104) (o := .cells #[.int .i64 ((rd_T33 l0_1 x3_2).f0), .int .i64 ((rd_T33 l0_1 x3_2).f1), .int .i64 ((rd_T33 l0_1 x3_2).f2), .int .i64 ((rd_T33 l0_1 x3_2).f3)] 33 (0, 0)) (by refine pk_ ?_; refine blk_put (cs := #[.int .i64 ((rd_T33 l0_1 x3_2).f0), .int .i64 ((rd_T33 l0_1 x3_2).f1), .int .i64 ((rd_T33 l0_1 x3_2).f2), .int .i64 0]) ?_ 3 _ rfl; refine pk_ ?_; refine blk_put (cs := #[.int .i64 ((rd_T33 l0_1 x3_2).f0), .int .i64 ((rd_T33 l0_1 x3_2).f1), .int .i64 0, .int .i64 0]) ?_ 2 _ rfl; refine pk_ ?_; refine blk_put (cs := #[.int .i64 ((rd_T33 l0_1 x3_2).f0), .int .i64 0, .int .i64 0, .int .i64 0]) ?_ 1 _ rfl; refine pk_ ?_; refine blk_put (cs := #[.int .i64 0, .int .i64 0, .int .i64 0, .int .i64 0]) ?_ 0 _ rfl; exact pk_ BK104.out) hb); have n2_ := A_ (below_step (bk_ HB.out) hb); clear BK102 BK104 HB; have BK102 := n0_; have BK104 := n1_; have HB := n2_; clear n0_ n1_ n2_; (try clear hb); (try clear hb2); (try clear hk); (try clear hi); have hcz35_0 : w34.cell? ⟨gb104, 0, none⟩ = some (.int .i64 ((rd_T33 l0_1 x3_2).f0)) := (blk_cell BK104.out 0).trans rfl; have hcz35_1 : w34.cell? ⟨gb104, 1, none⟩ = some (.int .i64 ((rd_T33 l0_1 x3_2).f1)) := (blk_cell BK104.out 1).trans rfl; have hcz35_2 : w34.cell? ⟨gb104, 2, none⟩ = some (.int .i64 ((rd_T33 l0_1 x3_2).f2)) := (blk_cell BK104.out 2).trans rfl; have hcz35_3 : w34.cell? ⟨gb104, 3, none⟩ = some (.int .i64 ((rd_T33 l0_1 x3_2).f3)) := (blk_cell BK104.out 3).trans rfl; have hfz35_0 := blk_frozen BK104.out 0; have hfz35_1 := blk_frozen BK104.out 1; have hfz35_2 := blk_frozen BK104.out 2; have hfz35_3 := blk_frozen BK104.out 3))
             go_roundg k2
             case measure => have := HJ1.out; have := HK2.out; omega
             case rel => exact ⟨(wrap64 (x3_2 + 1)), jr_, H', ⟨by have := HJ1.out; have := HK2.out; omega⟩, ⟨pk_ BK102.out⟩, ⟨bk_ HB.out⟩⟩
            ·rw [if_neg c28] at H
             have c28b0 : (((rd_T33 l0_1 x3_2).f3) == 0) = false := beq_eq_false_iff_ne.mpr c28
             have c28b1 : (((rd_T33 l0_1 x3_2).f3) != 0) = true := bne_iff_ne.mpr c28
             obtain rfl := Option.some.inj H
             have hcz36_0 : wr.cell? ⟨gb102, 0, none⟩ = some (.int .i64 a0_0) := (blk_cell BK102.out 0).trans rfl
             have hcz36_1 : wr.cell? ⟨gb102, 1, none⟩ = some (.slice A0_1 l0_1.length c0_1) := (blk_cell BK102.out 1).trans rfl
             have hfz36_0 := blk_frozen BK102.out 0
             have hfz36_1 := blk_frozen BK102.out 1
             have p103 : 0 ≤ (x3_2 : Int) := od_
             have q103 : x3_2 < (l0_1.length : Int) := od_
             obtain ⟨ad103, e103, hx103_0, hx103_1, hx103_2, hx103_3⟩ := at_T33 HR0_1.out x3_2 p103 q103
             cases e103
             replace hx103_0 := lf_ HB.out hx103_0
             replace hx103_1 := lf_ HB.out hx103_1
             replace hx103_2 := lf_ HB.out hx103_2
             replace hx103_3 := lf_ HB.out hx103_3
             replace p103 := eq_true p103
             replace q103 := eq_true q103
             go_wp2_with (first | ((with_reducible refine gate_dst (N := 4) rfl ?_); (try (refine gate_guard (by rfl) ?_; dsimp only)); refine box_event ?hg (N := 4) ?hd (cs := #[.int .i64 0, .int .i64 0, .int .i64 0, .int .i64 0]) (t := 33) ?hr ?_; (case hd => rfl); (case hg => rfl); (case hr => first | (go_simp; done) | (go_simp; rfl)); intro gb104 hg w37 hbox hb; have n0_ := A_ (blk_below (pk_ BK102.out) hb); have n1_ := A_ (below_step (bk_ HB.out) hb); have n2_ := A_ (hbox); have n3_ := A_ ((by rw [hg]; exact (below_size (bk_ HB.out)) : w.heap.size ≤ gb104)); have n4_ := A_ ((by rw [hg]; exact (below_size (bk_ HB.out)) : w.heap.size ≤ gb104)); have n5_ := A_ ((by rw [hg]; exact Nat.ne_of_lt (blk_lt (pk_ BK102.out)) : gb102 ≠ gb104)); have n6_ := A_ ((by rw [hg]; exact Nat.ne_of_gt (blk_lt (pk_ BK102.out)) : gb104 ≠ gb102)); clear BK102 HB; have BK102 := n0_; have HB := n1_; have BK104 := n2_; have GW104 := n3_; have GE104 := n4_; have NB102_104 := n5_; have NB104_102 := n6_; clear n0_ n1_ n2_ n3_ n4_ n5_ n6_ hb hbox hg; have hnb38 := NB104_102.out; have hnc38 := NB102_104.out; have hcz39_0 : w37.cell? ⟨gb104, 0, none⟩ = some (.int .i64 0) := (blk_cell BK104.out 0).trans rfl; have hcz39_1 : w37.cell? ⟨gb104, 1, none⟩ = some (.int .i64 0) := (blk_cell BK104.out 1).trans rfl; have hcz39_2 : w37.cell? ⟨gb104, 2, none⟩ = some (.int .i64 0) := (blk_cell BK104.out 2).trans rfl; have hcz39_3 : w37.cell? ⟨gb104, 3, none⟩ = some (.int .i64 0) := (blk_cell BK104.out 3).trans rfl; have hfz39_0 := blk_frozen BK104.out 0; have hfz39_1 := blk_frozen BK104.out 1; have hfz39_2 := blk_frozen BK104.out 2; have hfz39_3 := blk_frozen BK104.out 3; have hcz40_0 : w37.cell? ⟨gb102, 0, none⟩ = some (.int .i64 a0_0) := (blk_cell BK102.out 0).trans rfl; have hcz40_1 : w37.cell? ⟨gb102, 1, none⟩ = some (.slice (some ad103) l0_1.length c0_1) := (blk_cell BK102.out 1).trans rfl; have hfz40_0 := blk_frozen BK102.out 0; have hfz40_1 := blk_frozen BK102.out 1) | (go_at_call 25; (with_reducible refine (standstillref06_index.calls a0_0 _ _ l0_1 ((rd_T33 l0_1 x3_2).f2) true _ ?side1 ?side2 A26.out).mono ?_); (case side1 => exact Kd.C_below HR0_1.out (bk_ HB.out)); (case side2 => exact HC0_1.out); rintro e w41 ⟨rfl, hb⟩; have n0_ := A_ (blk_below (g := gb102) (o := .cells #[.int .i64 a0_0, .slice (some ad103) l0_1.length c0_1] 24 (0, 0)) (by refine pk_ ?_; refine blk_far ?_ NB102_104.out _; refine pk_ ?_; refine blk_far ?_ NB102_104.out _; refine pk_ ?_; refine blk_far ?_ NB102_104.out _; refine pk_ ?_; refine blk_far ?_ NB102_104.out _; exact pk_ BK102.out) hb); have n1_ := A_ (blk_below (g := gb104) (o := .cells #[.int .i64 ((rd_T33 l0_1 x3_2).f0), .int .i64 ((rd_T33 l0_1 x3_2).f1), .int .i64 ((rd_T33 l0_1 x3_2).f2), .int .i64 ((rd_T33 l0_1 x3_2).f3)] 33 (0, 0)) (by refine pk_ ?_; refine blk_put (cs := #[.int .i64 ((rd_T33 l0_1 x3_2).f0), .int .i64 ((rd_T33 l0_1 x3_2).f1), .int .i64 ((rd_T33 l0_1 x3_2).f2), .int .i64 0]) ?_ 3 _ rfl; refine pk_ ?_; refine blk_put (cs := #[.int .i64 ((rd_T33 l0_1 x3_2).f0), .int .i64 ((rd_T33 l0_1 x3_2).f1), .int .i64 0, .int .i64 0]) ?_ 2 _ rfl; refine pk_ ?_; refine blk_put (cs := #[.int .i64 ((rd_T33 l0_1 x3_2).f0), .int .i64 0, .int .i64 0, .int .i64 0]) ?_ 1 _ rfl; refine pk_ ?_; refine blk_put (cs := #[.int .i64 0, .int .i64 0, .int .i64 0, .int .i64 0]) ?_ 0 _ rfl; exact pk_ BK104.out) hb); have n2_ := A_ (below_step (bk_ HB.out) hb); clear BK102 BK104 HB; have BK102 := n0_; have BK104 := n1_; have HB := n2_; clear n0_ n1_ n2_; (try clear hb); (try clear hb2); (try clear hk); (try clear hi); have hcz42_0 : w41.cell? ⟨gb104, 0, none⟩ = some (.int .i64 ((rd_T33 l0_1 x3_2).f0)) := (blk_cell BK104.out 0).trans rfl; have hcz42_1 : w41.cell? ⟨gb104, 1, none⟩ = some (.int .i64 ((rd_T33 l0_1 x3_2).f1)) := (blk_cell BK104.out 1).trans rfl; have hcz42_2 : w41.cell? ⟨gb104, 2, none⟩ = some (.int .i64 ((rd_T33 l0_1 x3_2).f2)) := (blk_cell BK104.out 2).trans rfl; have hcz42_3 : w41.cell? ⟨gb104, 3, none⟩ = some (.int .i64 ((rd_T33 l0_1 x3_2).f3)) := (blk_cell BK104.out 3).trans rfl; have hfz42_0 := blk_frozen BK104.out 0; have hfz42_1 := blk_frozen BK104.out 1; have hfz42_2 := blk_frozen BK104.out 2; have hfz42_3 := blk_frozen BK104.out 3))
             go_ret
             exact ⟨er_, bk_ HB.out⟩
           ·replace c27 := Bool.eq_false_iff.mpr c27
            subst c27
            have H1 : (some false) = some r := by rw [if_neg (show ¬ (false = true) by decide)] at H; exact H
            clear H
            have H := H1
            clear H1
            obtain rfl := Option.some.inj H
            have hcz43_0 : wr.cell? ⟨gb102, 0, none⟩ = some (.int .i64 a0_0) := (blk_cell BK102.out 0).trans rfl
            have hcz43_1 : wr.cell? ⟨gb102, 1, none⟩ = some (.slice A0_1 l0_1.length c0_1) := (blk_cell BK102.out 1).trans rfl
            have hfz43_0 := blk_frozen BK102.out 0
            have hfz43_1 := blk_frozen BK102.out 1
            have p103 : 0 ≤ (x3_2 : Int) := od_
            have q103 : x3_2 < (l0_1.length : Int) := od_
            obtain ⟨ad103, e103, hx103_0, hx103_1, hx103_2, hx103_3⟩ := at_T33 HR0_1.out x3_2 p103 q103
            cases e103
            replace hx103_0 := lf_ HB.out hx103_0
            replace hx103_1 := lf_ HB.out hx103_1
            replace hx103_2 := lf_ HB.out hx103_2
            replace hx103_3 := lf_ HB.out hx103_3
            replace p103 := eq_true p103
            replace q103 := eq_true q103
            go_wp2_with (first | ((with_reducible refine gate_dst (N := 4) rfl ?_); (try (refine gate_guard (by rfl) ?_; dsimp only)); refine box_event ?hg (N := 4) ?hd (cs := #[.int .i64 0, .int .i64 0, .int .i64 0, .int .i64 0]) (t := 33) ?hr ?_; (case hd => rfl); (case hg => rfl); (case hr => first | (go_simp; done) | (go_simp; rfl)); intro gb104 hg w44 hbox hb; have n0_ := A_ (blk_below (pk_ BK102.out) hb); have n1_ := A_ (below_step (bk_ HB.out) hb); have n2_ := A_ (hbox); have n3_ := A_ ((by rw [hg]; exact (below_size (bk_ HB.out)) : w.heap.size ≤ gb104)); have n4_ := A_ ((by rw [hg]; exact (below_size (bk_ HB.out)) : w.heap.size ≤ gb104)); have n5_ := A_ ((by rw [hg]; exact Nat.ne_of_lt (blk_lt (pk_ BK102.out)) : gb102 ≠ gb104)); have n6_ := A_ ((by rw [hg]; exact Nat.ne_of_gt (blk_lt (pk_ BK102.out)) : gb104 ≠ gb102)); clear BK102 HB; have BK102 := n0_; have HB := n1_; have BK104 := n2_; have GW104 := n3_; have GE104 := n4_; have NB102_104 := n5_; have NB104_102 := n6_; clear n0_ n1_ n2_ n3_ n4_ n5_ n6_ hb hbox hg; have hnb45 := NB104_102.out; have hnc45 := NB102_104.out; have hcz46_0 : w44.cell? ⟨gb104, 0, none⟩ = some (.int .i64 0) := (blk_cell BK104.out 0).trans rfl; have hcz46_1 : w44.cell? ⟨gb104, 1, none⟩ = some (.int .i64 0) := (blk_cell BK104.out 1).trans rfl; have hcz46_2 : w44.cell? ⟨gb104, 2, none⟩ = some (.int .i64 0) := (blk_cell BK104.out 2).trans rfl; have hcz46_3 : w44.cell? ⟨gb104, 3, none⟩ = some (.int .i64 0) := (blk_cell BK104.out 3).trans rfl; have hfz46_0 := blk_frozen BK104.out 0; have hfz46_1 := blk_frozen BK104.out 1; have hfz46_2 := blk_frozen BK104.out 2; have hfz46_3 := blk_frozen BK104.out 3; have hcz47_0 : w44.cell? ⟨gb102, 0, none⟩ = some (.int .i64 a0_0) := (blk_cell BK102.out 0).trans rfl; have hcz47_1 : w44.cell? ⟨gb102, 1, none⟩ = some (.slice (some ad103) l0_1.length c0_1) := (blk_cell BK102.out 1).trans rfl; have hfz47_0 := blk_frozen BK102.out 0; have hfz47_1 := blk_frozen BK102.out 1) | (go_at_call 25; (with_reducible refine (standstillref06_index.calls a0_0 _ _ l0_1 ((rd_T33 l0_1 x3_2).f2) false _ ?side1 ?side2 A26.out).mono ?_); (case side1 => exact Kd.C_below HR0_1.out (bk_ HB.out)); (case side2 => exact HC0_1.out); rintro e w48 ⟨rfl, hb⟩; have n0_ := A_ (blk_below (g := gb102) (o := .cells #[.int .i64 a0_0, .slice (some ad103) l0_1.length c0_1] 24 (0, 0)) (by refine pk_ ?_; refine blk_far ?_ NB102_104.out _; refine pk_ ?_; refine blk_far ?_ NB102_104.out _; refine pk_ ?_; refine blk_far ?_ NB102_104.out _; refine pk_ ?_; refine blk_far ?_ NB102_104.out _; exact pk_ BK102.out) hb); have n1_ := A_ (blk_below (g := gb104) (o := .cells #[.int .i64 ((rd_T33 l0_1 x3_2).f0), .int .i64 ((rd_T33 l0_1 x3_2).f1), .int .i64 ((rd_T33 l0_1 x3_2).f2), .int .i64 ((rd_T33 l0_1 x3_2).f3)] 33 (0, 0)) (by refine pk_ ?_; refine blk_put (cs := #[.int .i64 ((rd_T33 l0_1 x3_2).f0), .int .i64 ((rd_T33 l0_1 x3_2).f1), .int .i64 ((rd_T33 l0_1 x3_2).f2), .int .i64 0]) ?_ 3 _ rfl; refine pk_ ?_; refine blk_put (cs := #[.int .i64 ((rd_T33 l0_1 x3_2).f0), .int .i64 ((rd_T33 l0_1 x3_2).f1), .int .i64 0, .int .i64 0]) ?_ 2 _ rfl; refine pk_ ?_; refine blk_put (cs := #[.int .i64 ((rd_T33 l0_1 x3_2).f0), .int .i64 0, .int .i64 0, .int .i64 0]) ?_ 1 _ rfl; refine pk_ ?_; refine blk_put (cs := #[.int .i64 0, .int .i64 0, .int .i64 0, .int .i64 0]) ?_ 0 _ rfl; exact pk_ BK104.out) hb); have n2_ := A_ (below_step (bk_ HB.out) hb); clear BK102 BK104 HB; have BK102 := n0_; have BK104 := n1_; have HB := n2_; clear n0_ n1_ n2_; (try clear hb); (try clear hb2); (try clear hk); (try clear hi)))
            go_ret
            exact ⟨er_, bk_ HB.out⟩
        ·rw [if_neg c14] at H
         have c14b0 : (((rd_T33 l0_1 x3_2).f0) == 0) = false := beq_eq_false_iff_ne.mpr c14
         have c14b1 : (((rd_T33 l0_1 x3_2).f0) != 0) = true := bne_iff_ne.mpr c14
         by_cases c49 : ((rd_T33 l0_1 x3_2).f0) = 1
         ·rw [if_pos c49] at H
          have c49b0 : (((rd_T33 l0_1 x3_2).f0) == 1) = true := beq_iff_eq.mpr c49
          have c49b1 : (((rd_T33 l0_1 x3_2).f0) != 1) = false := bne_eq_false_iff_eq.mpr c49
          clear c49
          by_cases c50 : ((rd_T33 l0_1 x3_2).f1) < 0
          ·rw [if_pos c50] at H
           have c50b0 : decide (((rd_T33 l0_1 x3_2).f1) < 0) = true := decide_eq_true c50
           clear c50
           obtain rfl := Option.some.inj H
           have hcz51_0 : wr.cell? ⟨gb102, 0, none⟩ = some (.int .i64 a0_0) := (blk_cell BK102.out 0).trans rfl
           have hcz51_1 : wr.cell? ⟨gb102, 1, none⟩ = some (.slice A0_1 l0_1.length c0_1) := (blk_cell BK102.out 1).trans rfl
           have hfz51_0 := blk_frozen BK102.out 0
           have hfz51_1 := blk_frozen BK102.out 1
           have p103 : 0 ≤ (x3_2 : Int) := od_
           have q103 : x3_2 < (l0_1.length : Int) := od_
           obtain ⟨ad103, e103, hx103_0, hx103_1, hx103_2, hx103_3⟩ := at_T33 HR0_1.out x3_2 p103 q103
           cases e103
           replace hx103_0 := lf_ HB.out hx103_0
           replace hx103_1 := lf_ HB.out hx103_1
           replace hx103_2 := lf_ HB.out hx103_2
           replace hx103_3 := lf_ HB.out hx103_3
           replace p103 := eq_true p103
           replace q103 := eq_true q103
           go_wp2_with (first | ((with_reducible refine gate_dst (N := 4) rfl ?_); (try (refine gate_guard (by rfl) ?_; dsimp only)); refine box_event ?hg (N := 4) ?hd (cs := #[.int .i64 0, .int .i64 0, .int .i64 0, .int .i64 0]) (t := 33) ?hr ?_; (case hd => rfl); (case hg => rfl); (case hr => first | (go_simp; done) | (go_simp; rfl)); intro gb104 hg w52 hbox hb; have n0_ := A_ (blk_below (pk_ BK102.out) hb); have n1_ := A_ (below_step (bk_ HB.out) hb); have n2_ := A_ (hbox); have n3_ := A_ ((by rw [hg]; exact (below_size (bk_ HB.out)) : w.heap.size ≤ gb104)); have n4_ := A_ ((by rw [hg]; exact (below_size (bk_ HB.out)) : w.heap.size ≤ gb104)); have n5_ := A_ ((by rw [hg]; exact Nat.ne_of_lt (blk_lt (pk_ BK102.out)) : gb102 ≠ gb104)); have n6_ := A_ ((by rw [hg]; exact Nat.ne_of_gt (blk_lt (pk_ BK102.out)) : gb104 ≠ gb102)); clear BK102 HB; have BK102 := n0_; have HB := n1_; have BK104 := n2_; have GW104 := n3_; have GE104 := n4_; have NB102_104 := n5_; have NB104_102 := n6_; clear n0_ n1_ n2_ n3_ n4_ n5_ n6_ hb hbox hg; have hnb53 := NB104_102.out; have hnc53 := NB102_104.out; have hcz54_0 : w52.cell? ⟨gb104, 0, none⟩ = some (.int .i64 0) := (blk_cell BK104.out 0).trans rfl; have hcz54_1 : w52.cell? ⟨gb104, 1, none⟩ = some (.int .i64 0) := (blk_cell BK104.out 1).trans rfl; have hcz54_2 : w52.cell? ⟨gb104, 2, none⟩ = some (.int .i64 0) := (blk_cell BK104.out 2).trans rfl; have hcz54_3 : w52.cell? ⟨gb104, 3, none⟩ = some (.int .i64 0) := (blk_cell BK104.out 3).trans rfl; have hfz54_0 := blk_frozen BK104.out 0; have hfz54_1 := blk_frozen BK104.out 1; have hfz54_2 := blk_frozen BK104.out 2; have hfz54_3 := blk_frozen BK104.out 3))
           go_ret
           exact ⟨er_, bk_ HB.out⟩
          ·rw [if_neg c50] at H
           have c50b0 : decide (((rd_T33 l0_1 x3_2).f1) < 0) = false := decide_eq_false c50
           clear c50
           by_cases c55 : ((rd_T33 l0_1 x3_2).f1) ≥ a0_0
           ·rw [if_pos c55] at H
            have c55b0 : decide (a0_0 ≤ ((rd_T33 l0_1 x3_2).f1)) = true := decide_eq_true c55
            clear c55
            obtain rfl := Option.some.inj H
            have hcz56_0 : wr.cell? ⟨gb102, 0, none⟩ = some (.int .i64 a0_0) := (blk_cell BK102.out 0).trans rfl
            have hcz56_1 : wr.cell? ⟨gb102, 1, none⟩ = some (.slice A0_1 l0_1.length c0_1) := (blk_cell BK102.out 1).trans rfl
            have hfz56_0 := blk_frozen BK102.out 0
            have hfz56_1 := blk_frozen BK102.out 1
            have p103 : 0 ≤ (x3_2 : Int) := od_
            have q103 : x3_2 < (l0_1.length : Int) := od_
            obtain ⟨ad103, e103, hx103_0, hx103_1, hx103_2, hx103_3⟩ := at_T33 HR0_1.out x3_2 p103 q103
            cases e103
            replace hx103_0 := lf_ HB.out hx103_0
            replace hx103_1 := lf_ HB.out hx103_1
            replace hx103_2 := lf_ HB.out hx103_2
            replace hx103_3 := lf_ HB.out hx103_3
            replace p103 := eq_true p103
            replace q103 := eq_true q103
            go_wp2_with (first | ((with_reducible refine gate_dst (N := 4) rfl ?_); (try (refine gate_guard (by rfl) ?_; dsimp only)); refine box_event ?hg (N := 4) ?hd (cs := #[.int .i64 0, .int .i64 0, .int .i64 0, .int .i64 0]) (t := 33) ?hr ?_; (case hd => rfl); (case hg => rfl); (case hr => first | (go_simp; done) | (go_simp; rfl)); intro gb104 hg w57 hbox hb; have n0_ := A_ (blk_below (pk_ BK102.out) hb); have n1_ := A_ (below_step (bk_ HB.out) hb); have n2_ := A_ (hbox); have n3_ := A_ ((by rw [hg]; exact (below_size (bk_ HB.out)) : w.heap.size ≤ gb104)); have n4_ := A_ ((by rw [hg]; exact (below_size (bk_ HB.out)) : w.heap.size ≤ gb104)); have n5_ := A_ ((by rw [hg]; exact Nat.ne_of_lt (blk_lt (pk_ BK102.out)) : gb102 ≠ gb104)); have n6_ := A_ ((by rw [hg]; exact Nat.ne_of_gt (blk_lt (pk_ BK102.out)) : gb104 ≠ gb102)); clear BK102 HB; have BK102 := n0_; have HB := n1_; have BK104 := n2_; have GW104 := n3_; have GE104 := n4_; have NB102_104 := n5_; have NB104_102 := n6_; clear n0_ n1_ n2_ n3_ n4_ n5_ n6_ hb hbox hg; have hnb58 := NB104_102.out; have hnc58 := NB102_104.out; have hcz59_0 : w57.cell? ⟨gb104, 0, none⟩ = some (.int .i64 0) := (blk_cell BK104.out 0).trans rfl; have hcz59_1 : w57.cell? ⟨gb104, 1, none⟩ = some (.int .i64 0) := (blk_cell BK104.out 1).trans rfl; have hcz59_2 : w57.cell? ⟨gb104, 2, none⟩ = some (.int .i64 0) := (blk_cell BK104.out 2).trans rfl; have hcz59_3 : w57.cell? ⟨gb104, 3, none⟩ = some (.int .i64 0) := (blk_cell BK104.out 3).trans rfl; have hfz59_0 := blk_frozen BK104.out 0; have hfz59_1 := blk_frozen BK104.out 1; have hfz59_2 := blk_frozen BK104.out 2; have hfz59_3 := blk_frozen BK104.out 3; have hcz60_0 : w57.cell? ⟨gb102, 0, none⟩ = some (.int .i64 a0_0) := (blk_cell BK102.out 0).trans rfl; have hcz60_1 : w57.cell? ⟨gb102, 1, none⟩ = some (.slice (some ad103) l0_1.length c0_1) := (blk_cell BK102.out 1).trans rfl; have hfz60_0 := blk_frozen BK102.out 0; have hfz60_1 := blk_frozen BK102.out 1))
            go_ret
            exact ⟨er_, bk_ HB.out⟩
           ·rw [if_neg c55] at H
            have c55b0 : decide (a0_0 ≤ ((rd_T33 l0_1 x3_2).f1)) = false := decide_eq_false c55
            clear c55
            replace H := Option.bind_eq_some_iff.mp H
            obtain ⟨t106, A610, H⟩ := H
            replace H : (if t106 = true then ((standstillref06_index.f a0_0 l0_1 ((rd_T33 l0_1 x3_2).f3)).bind fun t107 => (if t107 = true then (standstillref06_Valid.l0 k2 (wrap64 (x3_2 + 1)) a0_0 l0_1) else (some false))) else (some false)) = some r := H
            have A61 := Aside0.mk A610
            clear A610
            by_cases c62 : t106 = true
            ·subst c62
             have H1 : ((standstillref06_index.f a0_0 l0_1 ((rd_T33 l0_1 x3_2).f3)).bind fun t107 => (if t107 = true then (standstillref06_Valid.l0 k2 (wrap64 (x3_2 + 1)) a0_0 l0_1) else (some false))) = some r := by rw [if_pos rfl] at H; exact H
             clear H
             have H := H1
             clear H1
             replace H := Option.bind_eq_some_iff.mp H
             obtain ⟨t107, A630, H⟩ := H
             replace H : (if t107 = true then (standstillref06_Valid.l0 k2 (wrap64 (x3_2 + 1)) a0_0 l0_1) else (some false)) = some r := H
             have A63 := Aside0.mk A630
             clear A630
             by_cases c64 : t107 = true
             ·subst c64
              have H1 : (standstillref06_Valid.l0 k2 (wrap64 (x3_2 + 1)) a0_0 l0_1) = some r := by rw [if_pos rfl] at H; exact H
              clear H
              have H := H1
              clear H1
              have H' := Aside0.mk H
              clear H
              have hcz65_0 : wr.cell? ⟨gb102, 0, none⟩ = some (.int .i64 a0_0) := (blk_cell BK102.out 0).trans rfl
              have hcz65_1 : wr.cell? ⟨gb102, 1, none⟩ = some (.slice A0_1 l0_1.length c0_1) := (blk_cell BK102.out 1).trans rfl
              have hfz65_0 := blk_frozen BK102.out 0
              have hfz65_1 := blk_frozen BK102.out 1
              have p103 : 0 ≤ (x3_2 : Int) := od_
              have q103 : x3_2 < (l0_1.length : Int) := od_
              obtain ⟨ad103, e103, hx103_0, hx103_1, hx103_2, hx103_3⟩ := at_T33 HR0_1.out x3_2 p103 q103
              cases e103
              replace hx103_0 := lf_ HB.out hx103_0
              replace hx103_1 := lf_ HB.out hx103_1
              replace hx103_2 := lf_ HB.out hx103_2
              replace hx103_3 := lf_ HB.out hx103_3
              replace p103 := eq_true p103
              replace q103 := eq_true q103
              go_wp2_with (first | ((with_reducible refine gate_dst (N := 4) rfl ?_); (try (refine gate_guard (by rfl) ?_; dsimp only)); refine box_event ?hg (N := 4) ?hd (cs := #[.int .i64 0, .int .i64 0, .int .i64 0, .int .i64 0]) (t := 33) ?hr ?_; (case hd => rfl); (case hg => rfl); (case hr => first | (go_simp; done) | (go_simp; rfl)); intro gb104 hg w66 hbox hb; have n0_ := A_ (blk_below (pk_ BK102.out) hb); have n1_ := A_ (below_step (bk_ HB.out) hb); have n2_ := A_ (hbox); have n3_ := A_ ((by rw [hg]; exact (below_size (bk_ HB.out)) : w.heap.size ≤ gb104)); have n4_ := A_ ((by rw [hg]; exact (below_size (bk_ HB.out)) : w.heap.size ≤ gb104)); have n5_ := A_ ((by rw [hg]; exact Nat.ne_of_lt (blk_lt (pk_ BK102.out)) : gb102 ≠ gb104)); have n6_ := A_ ((by rw [hg]; exact Nat.ne_of_gt (blk_lt (pk_ BK102.out)) : gb104 ≠ gb102)); clear BK102 HB; have BK102 := n0_; have HB := n1_; have BK104 := n2_; have GW104 := n3_; have GE104 := n4_; have NB102_104 := n5_; have NB104_102 := n6_; clear n0_ n1_ n2_ n3_ n4_ n5_ n6_ hb hbox hg; have hnb67 := NB104_102.out; have hnc67 := NB102_104.out; have hcz68_0 : w66.cell? ⟨gb104, 0, none⟩ = some (.int .i64 0) := (blk_cell BK104.out 0).trans rfl; have hcz68_1 : w66.cell? ⟨gb104, 1, none⟩ = some (.int .i64 0) := (blk_cell BK104.out 1).trans rfl; have hcz68_2 : w66.cell? ⟨gb104, 2, none⟩ = some (.int .i64 0) := (blk_cell BK104.out 2).trans rfl; have hcz68_3 : w66.cell? ⟨gb104, 3, none⟩ = some (.int .i64 0) := (blk_cell BK104.out 3).trans rfl; have hfz68_0 := blk_frozen BK104.out 0; have hfz68_1 := blk_frozen BK104.out 1; have hfz68_2 := blk_frozen BK104.out 2; have hfz68_3 := blk_frozen BK104.out 3; have hcz69_0 : w66.cell? ⟨gb102, 0, none⟩ = some (.int .i64 a0_0) := (blk_cell BK102.out 0).trans rfl; have hcz69_1 : w66.cell? ⟨gb102, 1, none⟩ = some (.slice (some ad103) l0_1.length c0_1) := (blk_cell BK102.out 1).trans rfl; have hfz69_0 := blk_frozen BK102.out 0; have hfz69_1 := blk_frozen BK102.out 1) | (go_at_call 25; (with_reducible refine (standstillref06_index.calls a0_0 _ _ l0_1 ((rd_T33 l0_1 x3_2).f2) true _ ?side1 ?side2 A61.out).mono ?_); (case side1 => exact Kd.C_below HR0_1.out (bk_ HB.out)); (case side2 => exact HC0_1.out); rintro e w70 ⟨rfl, hb⟩; have n0_ := A_ (blk_below (g := gb102) (o := .cells #[.int .i64 a0_0, .slice (some ad103) l0_1.length c0_1] 24 (0, 0)) (by refine pk_ ?_; refine blk_far ?_ NB102_104.out _; refine pk_ ?_; refine blk_far ?_ NB102_104.out _; refine pk_ ?_; refine blk_far ?_ NB102_104.out _; refine pk_ ?_; refine blk_far ?_ NB102_104.out _; exact pk_ BK102.out) hb); have n1_ := A_ (blk_below (g := gb104) (o := .cells #[.int .i64 ((rd_T33 l0_1 x3_2).f0), .int .i64 ((rd_T33 l0_1 x3_2).f1), .int .i64 ((rd_T33 l0_1 x3_2).f2), .int .i64 ((rd_T33 l0_1 x3_2).f3)] 33 (0, 0)) (by refine pk_ ?_; refine blk_put (cs := #[.int .i64 ((rd_T33 l0_1 x3_2).f0), .int .i64 ((rd_T33 l0_1 x3_2).f1), .int .i64 ((rd_T33 l0_1 x3_2).f2), .int .i64 0]) ?_ 3 _ rfl; refine pk_ ?_; refine blk_put (cs := #[.int .i64 ((rd_T33 l0_1 x3_2).f0), .int .i64 ((rd_T33 l0_1 x3_2).f1), .int .i64 0, .int .i64 0]) ?_ 2 _ rfl; refine pk_ ?_; refine blk_put (cs := #[.int .i64 ((rd_T33 l0_1 x3_2).f0), .int .i64 0, .int .i64 0, .int .i64 0]) ?_ 1 _ rfl; refine pk_ ?_; refine blk_put (cs := #[.int .i64 0, .int .i64 0, .int .i64 0, .int .i64 0]) ?_ 0 _ rfl; exact pk_ BK104.out) hb); have n2_ := A_ (below_step (bk_ HB.out) hb); clear BK102 BK104 HB; have BK102 := n0_; have BK104 := n1_; have HB := n2_; clear n0_ n1_ n2_; (try clear hb); (try clear hb2); (try clear hk); (try clear hi); have hcz71_0 : w70.cell? ⟨gb102, 0, none⟩ = some (.int .i64 a0_0) := (blk_cell BK102.out 0).trans rfl; have hcz71_1 : w70.cell? ⟨gb102, 1, none⟩ = some (.slice (some ad103) l0_1.length c0_1) := (blk_cell BK102.out 1).trans rfl; have hfz71_0 := blk_frozen BK102.out 0; have hfz71_1 := blk_frozen BK102.out 1; have hcz72_0 : w70.cell? ⟨gb104, 0, none⟩ = some (.int .i64 ((rd_T33 l0_1 x3_2).f0)) := (blk_cell BK104.out 0).trans rfl; have hcz72_1 : w70.cell? ⟨gb104, 1, none⟩ = some (.int .i64 ((rd_T33 l0_1 x3_2).f1)) := (blk_cell BK104.out 1).trans rfl; have hcz72_2 : w70.cell? ⟨gb104, 2, none⟩ = some (.int .i64 ((rd_T33 l0_1 x3_2).f2)) := (blk_cell BK104.out 2).trans rfl; have hcz72_3 : w70.cell? ⟨gb104, 3, none⟩ = some (.int .i64 ((rd_T33 l0_1 x3_2).f3)) := (blk_cell BK104.out 3).trans rfl; have hfz72_0 := blk_frozen BK104.out 0; have hfz72_1 := blk_frozen BK104.out 1; have hfz72_2 := blk_frozen BK104.out 2; have hfz72_3 := blk_frozen BK104.out 3) | (go_at_call 25; (with_reducible refine (standstillref06_index.calls a0_0 _ _ l0_1 ((rd_T33 l0_1 x3_2).f3) true _ ?side1 ?side2 A63.out).mono ?_); (case side1 => exact ck_ (Kd.C_below HR0_1.out HB.out)); (case side2 => exact HC0_1.out); rintro e w73 ⟨rfl, hb⟩; have n0_ := A_ (blk_below (pk_ BK102.out) hb); have n1_ := A_ (blk_below (pk_ BK104.out) hb); have n2_ := A_ (below_step (bk_ HB.out) hb); clear BK102 BK104 HB; have BK102 := n0_; have BK104 := n1_; have HB := n2_; clear n0_ n1_ n2_; (try clear hb); (try clear hb2); (try clear hk); (try clear hi)))
              go_roundg k2
              case measure => have := HJ1.out; have := HK2.out; omega
              case rel => exact ⟨(wrap64 (x3_2 + 1)), jr_, H', ⟨by have := HJ1.out; have := HK2.out; omega⟩, ⟨pk_ BK102.out⟩, ⟨bk_ HB.out⟩⟩
             ·replace c64 := Bool.eq_false_iff.mpr c64
              subst c64
              have H1 : (some false) = some r := by rw [if_neg (show ¬ (false = true) by decide)] at H; exact H
              clear H
              have H := H1
              clear H1
              obtain rfl := Option.some.inj H
              have hcz74_0 : wr.cell? ⟨gb102, 0, none⟩ = some (.int .i64 a0_0) := (blk_cell BK102.out 0).trans rfl
              have hcz74_1 : wr.cell? ⟨gb102, 1, none⟩ = some (.slice A0_1 l0_1.length c0_1) := (blk_cell BK102.out 1).trans rfl
              have hfz74_0 := blk_frozen BK102.out 0
              have hfz74_1 := blk_frozen BK102.out 1
              have p103 : 0 ≤ (x3_2 : Int) := od_
              have q103 : x3_2 < (l0_1.length : Int) := od_
              obtain ⟨ad103, e103, hx103_0, hx103_1, hx103_2, hx103_3⟩ := at_T33 HR0_1.out x3_2 p103 q103
              cases e103
              replace hx103_0 := lf_ HB.out hx103_0
              replace hx103_1 := lf_ HB.out hx103_1
              replace hx103_2 := lf_ HB.out hx103_2
              replace hx103_3 := lf_ HB.out hx103_3
              replace p103 := eq_true p103
              replace q103 := eq_true q103
              go_wp2_with (first | ((with_reducible refine gate_dst (N := 4) rfl ?_); (try (refine gate_guard (by rfl) ?_; dsimp only)); refine box_event ?hg (N := 4) ?hd (cs := #[.int .i64 0, .int .i64 0, .int .i64 0, .int .i64 0]) (t := 33) ?hr ?_; (case hd => rfl); (case hg => rfl); (case hr => first | (go_simp; done) | (go_simp; rfl)); intro gb104 hg w75 hbox hb; have n0_ := A_ (blk_below (pk_ BK102.out) hb); have n1_ := A_ (below_step (bk_ HB.out) hb); have n2_ := A_ (hbox); have n3_ := A_ ((by rw [hg]; exact (below_size (bk_ HB.out)) : w.heap.size ≤ gb104)); have n4_ := A_ ((by rw [hg]; exact (below_size (bk_ HB.out)) : w.heap.size ≤ gb104)); have n5_ := A_ ((by rw [hg]; exact Nat.ne_of_lt (blk_lt (pk_ BK102.out)) : gb102 ≠ gb104)); have n6_ := A_ ((by rw [hg]; exact Nat.ne_of_gt (blk_lt (pk_ BK102.out)) : gb104 ≠ gb102)); clear BK102 HB; have BK102 := n0_; have HB := n1_; have BK104 := n2_; have GW104 := n3_; have GE104 := n4_; have NB102_104 := n5_; have NB104_102 := n6_; clear n0_ n1_ n2_ n3_ n4_ n5_ n6_ hb hbox hg; have hnb76 := NB104_102.out; have hnc76 := NB102_104.out; have hcz77_0 : w75.cell? ⟨gb104, 0, none⟩ = some (.int .i64 0) := (blk_cell BK104.out 0).trans rfl; have hcz77_1 : w75.cell? ⟨gb104, 1, none⟩ = some (.int .i64 0) := (blk_cell BK104.out 1).trans rfl; have hcz77_2 : w75.cell? ⟨gb104, 2, none⟩ = some (.int .i64 0) := (blk_cell BK104.out 2).trans rfl; have hcz77_3 : w75.cell? ⟨gb104, 3, none⟩ = some (.int .i64 0) := (blk_cell BK104.out 3).trans rfl; have hfz77_0 := blk_frozen BK104.out 0; have hfz77_1 := blk_frozen BK104.out 1; have hfz77_2 := blk_frozen BK104.out 2; have hfz77_3 := blk_frozen BK104.out 3; have hcz78_0 : w75.cell? ⟨gb102, 0, none⟩ = some (.int .i64 a0_0) := (blk_cell BK102.out 0).trans rfl; have hcz78_1 : w75.cell? ⟨gb102, 1, none⟩ = some (.slice (some ad103) l0_1.length c0_1) := (blk_cell BK102.out 1).trans rfl; have hfz78_0 := blk_frozen BK102.out 0; have hfz78_1 := blk_frozen BK102.out 1) | (go_at_call 25; (with_reducible refine (standstillref06_index.calls a0_0 _ _ l0_1 ((rd_T33 l0_1 x3_2).f2) true _ ?side1 ?side2 A61.out).mono ?_); (case side1 => exact Kd.C_below HR0_1.out (bk_ HB.out)); (case side2 => exact HC0_1.out); rintro e w79 ⟨rfl, hb⟩; have n0_ := A_ (blk_below (g := gb102) (o := .cells #[.int .i64 a0_0, .slice (some ad103) l0_1.length c0_1] 24 (0, 0)) (by refine pk_ ?_; refine blk_far ?_ NB102_104.out _; refine pk_ ?_; refine blk_far ?_ NB102_104.out _; refine pk_ ?_; refine blk_far ?_ NB102_104.out _; refine pk_ ?_; refine blk_far ?_ NB102_104.out _; exact pk_ BK102.out) hb); have n1_ := A_ (blk_below (g := gb104) (o := .cells #[.int .i64 ((rd_T33 l0_1 x3_2).f0), .int .i64 ((rd_T33 l0_1 x3_2).f1), .int .i64 ((rd_T33 l0_1 x3_2).f2), .int .i64 ((rd_T33 l0_1 x3_2).f3)] 33 (0, 0)) (by refine pk_ ?_; refine blk_put (cs := #[.int .i64 ((rd_T33 l0_1 x3_2).f0), .int .i64 ((rd_T33 l0_1 x3_2).f1), .int .i64 ((rd_T33 l0_1 x3_2).f2), .int .i64 0]) ?_ 3 _ rfl; refine pk_ ?_; refine blk_put (cs := #[.int .i64 ((rd_T33 l0_1 x3_2).f0), .int .i64 ((rd_T33 l0_1 x3_2).f1), .int .i64 0, .int .i64 0]) ?_ 2 _ rfl; refine pk_ ?_; refine blk_put (cs := #[.int .i64 ((rd_T33 l0_1 x3_2).f0), .int .i64 0, .int .i64 0, .int .i64 0]) ?_ 1 _ rfl; refine pk_ ?_; refine blk_put (cs := #[.int .i64 0, .int .i64 0, .int .i64 0, .int .i64 0]) ?_ 0 _ rfl; exact pk_ BK104.out) hb); have n2_ := A_ (below_step (bk_ HB.out) hb); clear BK102 BK104 HB; have BK102 := n0_; have BK104 := n1_; have HB := n2_; clear n0_ n1_ n2_; (try clear hb); (try clear hb2); (try clear hk); (try clear hi); have hcz80_0 : w79.cell? ⟨gb102, 0, none⟩ = some (.int .i64 a0_0) := (blk_cell BK102.out 0).trans rfl; have hcz80_1 : w79.cell? ⟨gb102, 1, none⟩ = some (.slice (some ad103) l0_1.length c0_1) := (blk_cell BK102.out 1).trans rfl; have hfz80_0 := blk_frozen BK102.out 0; have hfz80_1 := blk_frozen BK102.out 1; have hcz81_0 : w79.cell? ⟨gb104, 0, none⟩ = some (.int .i64 ((rd_T33 l0_1 x3_2).f0)) := (blk_cell BK104.out 0).trans rfl; have hcz81_1 : w79.cell? ⟨gb104, 1, none⟩ = some (.int .i64 ((rd_T33 l0_1 x3_2).f1)) := (blk_cell BK104.out 1).trans rfl; have hcz81_2 : w79.cell? ⟨gb104, 2, none⟩ = some (.int .i64 ((rd_T33 l0_1 x3_2).f2)) := (blk_cell BK104.out 2).trans rfl; have hcz81_3 : w79.cell? ⟨gb104, 3, none⟩ = some (.int .i64 ((rd_T33 l0_1 x3_2).f3)) := (blk_cell BK104.out 3).trans rfl; have hfz81_0 := blk_frozen BK104.out 0; have hfz81_1 := blk_frozen BK104.out 1; have hfz81_2 := blk_frozen BK104.out 2; have hfz81_3 := blk_frozen BK104.out 3) | (go_at_call 25; (with_reducible refine (standstillref06_index.calls a0_0 _ _ l0_1 ((rd_T33 l0_1 x3_2).f3) false _ ?side1 ?side2 A63.out).mono ?_); (case side1 => exact ck_ (Kd.C_below HR0_1.out HB.out)); (case side2 => exact HC0_1.out); rintro e w82 ⟨rfl, hb⟩; have n0_ := A_ (blk_below (pk_ BK102.out) hb); have n1_ := A_ (blk_below (pk_ BK104.out) hb); have n2_ := A_ (below_step (bk_ HB.out) hb); clear BK102 BK104 HB; have BK102 := n0_; have BK104 := n1_; have HB := n2_; clear n0_ n1_ n2_; (try clear hb); (try clear hb2); (try clear hk); (try clear hi)))
              go_ret
              exact ⟨er_, bk_ HB.out⟩
            ·replace c62 := Bool.eq_false_iff.mpr c62
             subst c62
             have H1 : (some false) = some r := by rw [if_neg (show ¬ (false = true) by decide)] at H; exact H
             clear H
             have H := H1
             clear H1
             obtain rfl := Option.some.inj H
             have hcz83_0 : wr.cell? ⟨gb102, 0, none⟩ = some (.int .i64 a0_0) := (blk_cell BK102.out 0).trans rfl
             have hcz83_1 : wr.cell? ⟨gb102, 1, none⟩ = some (.slice A0_1 l0_1.length c0_1) := (blk_cell BK102.out 1).trans rfl
             have hfz83_0 := blk_frozen BK102.out 0
             have hfz83_1 := blk_frozen BK102.out 1
             have p103 : 0 ≤ (x3_2 : Int) := od_
             have q103 : x3_2 < (l0_1.length : Int) := od_
             obtain ⟨ad103, e103, hx103_0, hx103_1, hx103_2, hx103_3⟩ := at_T33 HR0_1.out x3_2 p103 q103
             cases e103
             replace hx103_0 := lf_ HB.out hx103_0
             replace hx103_1 := lf_ HB.out hx103_1
             replace hx103_2 := lf_ HB.out hx103_2
             replace hx103_3 := lf_ HB.out hx103_3
             replace p103 := eq_true p103
             replace q103 := eq_true q103
             go_wp2_with (first | ((with_reducible refine gate_dst (N := 4) rfl ?_); (try (refine gate_guard (by rfl) ?_; dsimp only)); refine box_event ?hg (N := 4) ?hd (cs := #[.int .i64 0, .int .i64 0, .int .i64 0, .int .i64 0]) (t := 33) ?hr ?_; (case hd => rfl); (case hg => rfl); (case hr => first | (go_simp; done) | (go_simp; rfl)); intro gb104 hg w84 hbox hb; have n0_ := A_ (blk_below (pk_ BK102.out) hb); have n1_ := A_ (below_step (bk_ HB.out) hb); have n2_ := A_ (hbox); have n3_ := A_ ((by rw [hg]; exact (below_size (bk_ HB.out)) : w.heap.size ≤ gb104)); have n4_ := A_ ((by rw [hg]; exact (below_size (bk_ HB.out)) : w.heap.size ≤ gb104)); have n5_ := A_ ((by rw [hg]; exact Nat.ne_of_lt (blk_lt (pk_ BK102.out)) : gb102 ≠ gb104)); have n6_ := A_ ((by rw [hg]; exact Nat.ne_of_gt (blk_lt (pk_ BK102.out)) : gb104 ≠ gb102)); clear BK102 HB; have BK102 := n0_; have HB := n1_; have BK104 := n2_; have GW104 := n3_; have GE104 := n4_; have NB102_104 := n5_; have NB104_102 := n6_; clear n0_ n1_ n2_ n3_ n4_ n5_ n6_ hb hbox hg; have hnb85 := NB104_102.out; have hnc85 := NB102_104.out; have hcz86_0 : w84.cell? ⟨gb104, 0, none⟩ = some (.int .i64 0) := (blk_cell BK104.out 0).trans rfl; have hcz86_1 : w84.cell? ⟨gb104, 1, none⟩ = some (.int .i64 0) := (blk_cell BK104.out 1).trans rfl; have hcz86_2 : w84.cell? ⟨gb104, 2, none⟩ = some (.int .i64 0) := (blk_cell BK104.out 2).trans rfl; have hcz86_3 : w84.cell? ⟨gb104, 3, none⟩ = some (.int .i64 0) := (blk_cell BK104.out 3).trans rfl; have hfz86_0 := blk_frozen BK104.out 0; have hfz86_1 := blk_frozen BK104.out 1; have hfz86_2 := blk_frozen BK104.out 2; have hfz86_3 := blk_frozen BK104.out 3; have hcz87_0 : w84.cell? ⟨gb102, 0, none⟩ = some (.int .i64 a0_0) := (blk_cell BK102.out 0).trans rfl; have hcz87_1 : w84.cell? ⟨gb102, 1, none⟩ = some (.slice (some ad103) l0_1.length c0_1) := (blk_cell BK102.out 1).trans rfl; have hfz87_0 := blk_frozen BK102.out 0; have hfz87_1 := blk_frozen BK102.out 1) | (go_at_call 25; (with_reducible refine (standstillref06_index.calls a0_0 _ _ l0_1 ((rd_T33 l0_1 x3_2).f2) false _ ?side1 ?side2 A61.out).mono ?_); (case side1 => exact Kd.C_below HR0_1.out (bk_ HB.out)); (case side2 => exact HC0_1.out); rintro e w88 ⟨rfl, hb⟩; have n0_ := A_ (blk_below (g := gb102) (o := .cells #[.int .i64 a0_0, .slice (some ad103) l0_1.length c0_1] 24 (0, 0)) (by refine pk_ ?_; refine blk_far ?_ NB102_104.out _; refine pk_ ?_; refine blk_far ?_ NB102_104.out _; refine pk_ ?_; refine blk_far ?_ NB102_104.out _; refine pk_ ?_; refine blk_far ?_ NB102_104.out _; exact pk_ BK102.out) hb); have n1_ := A_ (blk_below (g := gb104) (o := .cells #[.int .i64 ((rd_T33 l0_1 x3_2).f0), .int .i64 ((rd_T33 l0_1 x3_2).f1), .int .i64 ((rd_T33 l0_1 x3_2).f2), .int .i64 ((rd_T33 l0_1 x3_2).f3)] 33 (0, 0)) (by refine pk_ ?_; refine blk_put (cs := #[.int .i64 ((rd_T33 l0_1 x3_2).f0), .int .i64 ((rd_T33 l0_1 x3_2).f1), .int .i64 ((rd_T33 l0_1 x3_2).f2), .int .i64 0]) ?_ 3 _ rfl; refine pk_ ?_; refine blk_put (cs := #[.int .i64 ((rd_T33 l0_1 x3_2).f0), .int .i64 ((rd_T33 l0_1 x3_2).f1), .int .i64 0, .int .i64 0]) ?_ 2 _ rfl; refine pk_ ?_; refine blk_put (cs := #[.int .i64 ((rd_T33 l0_1 x3_2).f0), .int .i64 0, .int .i64 0, .int .i64 0]) ?_ 1 _ rfl; refine pk_ ?_; refine blk_put (cs := #[.int .i64 0, .int .i64 0, .int .i64 0, .int .i64 0]) ?_ 0 _ rfl; exact pk_ BK104.out) hb); have n2_ := A_ (below_step (bk_ HB.out) hb); clear BK102 BK104 HB; have BK102 := n0_; have BK104 := n1_; have HB := n2_; clear n0_ n1_ n2_; (try clear hb); (try clear hb2); (try clear hk); (try clear hi)))
             go_ret
             exact ⟨er_, bk_ HB.out⟩
         ·rw [if_neg c49] at H
          have c49b0 : (((rd_T33 l0_1 x3_2).f0) == 1) = false := beq_eq_false_iff_ne.mpr c49
          have c49b1 : (((rd_T33 l0_1 x3_2).f0) != 1) = true := bne_iff_ne.mpr c49
          by_cases c89 : ((rd_T33 l0_1 x3_2).f0) = 2
          ·rw [if_pos c89] at H
           have c89b0 : (((rd_T33 l0_1 x3_2).f0) == 2) = true := beq_iff_eq.mpr c89
           have c89b1 : (((rd_T33 l0_1 x3_2).f0) != 2) = false := bne_eq_false_iff_eq.mpr c89
           clear c89
           by_cases c90 : (!(((rd_T33 l0_1 x3_2).f0) == 2) || (!(((rd_T33 l0_1 x3_2).f1) == 0) || (!(((rd_T33 l0_1 x3_2).f2) == 0) || (!(((rd_T33 l0_1 x3_2).f3) == 0))))) = true
           ·rw [if_pos c90] at H
            have c90b0 : (!(((rd_T33 l0_1 x3_2).f0) == 2) || (!(((rd_T33 l0_1 x3_2).f1) == 0) || (!(((rd_T33 l0_1 x3_2).f2) == 0) || (!(((rd_T33 l0_1 x3_2).f3) == 0))))) = true := c90
            clear c90
            (try (have c90bs := c90b0; simp only [c14b0, c49b0, c89b0, Bool.not_true, Bool.not_false, Bool.false_or, Bool.true_or, Bool.false_and, Bool.true_and] at c90bs))
            obtain rfl := Option.some.inj H
            have hcz91_0 : wr.cell? ⟨gb102, 0, none⟩ = some (.int .i64 a0_0) := (blk_cell BK102.out 0).trans rfl
            have hcz91_1 : wr.cell? ⟨gb102, 1, none⟩ = some (.slice A0_1 l0_1.length c0_1) := (blk_cell BK102.out 1).trans rfl
            have hfz91_0 := blk_frozen BK102.out 0
            have hfz91_1 := blk_frozen BK102.out 1
            have p103 : 0 ≤ (x3_2 : Int) := od_
            have q103 : x3_2 < (l0_1.length : Int) := od_
            obtain ⟨ad103, e103, hx103_0, hx103_1, hx103_2, hx103_3⟩ := at_T33 HR0_1.out x3_2 p103 q103
            cases e103
            replace hx103_0 := lf_ HB.out hx103_0
            replace hx103_1 := lf_ HB.out hx103_1
            replace hx103_2 := lf_ HB.out hx103_2
            replace hx103_3 := lf_ HB.out hx103_3
            replace p103 := eq_true p103
            replace q103 := eq_true q103
            go_wp2_with (first | ((with_reducible refine gate_dst (N := 4) rfl ?_); (try (refine gate_guard (by rfl) ?_; dsimp only)); refine box_event ?hg (N := 4) ?hd (cs := #[.int .i64 0, .int .i64 0, .int .i64 0, .int .i64 0]) (t := 33) ?hr ?_; (case hd => rfl); (case hg => rfl); (case hr => first | (go_simp; done) | (go_simp; rfl)); intro gb104 hg w92 hbox hb; have n0_ := A_ (blk_below (pk_ BK102.out) hb); have n1_ := A_ (below_step (bk_ HB.out) hb); have n2_ := A_ (hbox); have n3_ := A_ ((by rw [hg]; exact (below_size (bk_ HB.out)) : w.heap.size ≤ gb104)); have n4_ := A_ ((by rw [hg]; exact (below_size (bk_ HB.out)) : w.heap.size ≤ gb104)); have n5_ := A_ ((by rw [hg]; exact Nat.ne_of_lt (blk_lt (pk_ BK102.out)) : gb102 ≠ gb104)); have n6_ := A_ ((by rw [hg]; exact Nat.ne_of_gt (blk_lt (pk_ BK102.out)) : gb104 ≠ gb102)); clear BK102 HB; have BK102 := n0_; have HB := n1_; have BK104 := n2_; have GW104 := n3_; have GE104 := n4_; have NB102_104 := n5_; have NB104_102 := n6_; clear n0_ n1_ n2_ n3_ n4_ n5_ n6_ hb hbox hg; have hnb93 := NB104_102.out; have hnc93 := NB102_104.out; have hcz94_0 : w92.cell? ⟨gb104, 0, none⟩ = some (.int .i64 0) := (blk_cell BK104.out 0).trans rfl; have hcz94_1 : w92.cell? ⟨gb104, 1, none⟩ = some (.int .i64 0) := (blk_cell BK104.out 1).trans rfl; have hcz94_2 : w92.cell? ⟨gb104, 2, none⟩ = some (.int .i64 0) := (blk_cell BK104.out 2).trans rfl; have hcz94_3 : w92.cell? ⟨gb104, 3, none⟩ = some (.int .i64 0) := (blk_cell BK104.out 3).trans rfl; have hfz94_0 := blk_frozen BK104.out 0; have hfz94_1 := blk_frozen BK104.out 1; have hfz94_2 := blk_frozen BK104.out 2; have hfz94_3 := blk_frozen BK104.out 3))
            go_ret
            exact ⟨er_, bk_ HB.out⟩
           ·rw [if_neg c90] at H
            have c90b0 : (!(((rd_T33 l0_1 x3_2).f0) == 2) || (!(((rd_T33 l0_1 x3_2).f1) == 0) || (!(((rd_T33 l0_1 x3_2).f2) == 0) || (!(((rd_T33 l0_1 x3_2).f3) == 0))))) = false := by simpa using c90
            clear c90
            (try (have c90bs := c90b0; simp only [c14b0, c49b0, c89b0, Bool.not_true, Bool.not_false, Bool.false_or, Bool.true_or, Bool.false_and, Bool.true_and] at c90bs))
            have H' := Aside0.mk H
            clear H
            have hcz95_0 : wr.cell? ⟨gb102, 0, none⟩ = some (.int .i64 a0_0) := (blk_cell BK102.out 0).trans rfl
            have hcz95_1 : wr.cell? ⟨gb102, 1, none⟩ = some (.slice A0_1 l0_1.length c0_1) := (blk_cell BK102.out 1).trans rfl
            have hfz95_0 := blk_frozen BK102.out 0
            have hfz95_1 := blk_frozen BK102.out 1
            have p103 : 0 ≤ (x3_2 : Int) := od_
            have q103 : x3_2 < (l0_1.length : Int) := od_
            obtain ⟨ad103, e103, hx103_0, hx103_1, hx103_2, hx103_3⟩ := at_T33 HR0_1.out x3_2 p103 q103
            cases e103
            replace hx103_0 := lf_ HB.out hx103_0
            replace hx103_1 := lf_ HB.out hx103_1
            replace hx103_2 := lf_ HB.out hx103_2
            replace hx103_3 := lf_ HB.out hx103_3
            replace p103 := eq_true p103
            replace q103 := eq_true q103
            go_wp2_with (first | ((with_reducible refine gate_dst (N := 4) rfl ?_); (try (refine gate_guard (by rfl) ?_; dsimp only)); refine box_event ?hg (N := 4) ?hd (cs := #[.int .i64 0, .int .i64 0, .int .i64 0, .int .i64 0]) (t := 33) ?hr ?_; (case hd => rfl); (case hg => rfl); (case hr => first | (go_simp; done) | (go_simp; rfl)); intro gb104 hg w96 hbox hb; have n0_ := A_ (blk_below (pk_ BK102.out) hb); have n1_ := A_ (below_step (bk_ HB.out) hb); have n2_ := A_ (hbox); have n3_ := A_ ((by rw [hg]; exact (below_size (bk_ HB.out)) : w.heap.size ≤ gb104)); have n4_ := A_ ((by rw [hg]; exact (below_size (bk_ HB.out)) : w.heap.size ≤ gb104)); have n5_ := A_ ((by rw [hg]; exact Nat.ne_of_lt (blk_lt (pk_ BK102.out)) : gb102 ≠ gb104)); have n6_ := A_ ((by rw [hg]; exact Nat.ne_of_gt (blk_lt (pk_ BK102.out)) : gb104 ≠ gb102)); clear BK102 HB; have BK102 := n0_; have HB := n1_; have BK104 := n2_; have GW104 := n3_; have GE104 := n4_; have NB102_104 := n5_; have NB104_102 := n6_; clear n0_ n1_ n2_ n3_ n4_ n5_ n6_ hb hbox hg; have hnb97 := NB104_102.out; have hnc97 := NB102_104.out; have hcz98_0 : w96.cell? ⟨gb104, 0, none⟩ = some (.int .i64 0) := (blk_cell BK104.out 0).trans rfl; have hcz98_1 : w96.cell? ⟨gb104, 1, none⟩ = some (.int .i64 0) := (blk_cell BK104.out 1).trans rfl; have hcz98_2 : w96.cell? ⟨gb104, 2, none⟩ = some (.int .i64 0) := (blk_cell BK104.out 2).trans rfl; have hcz98_3 : w96.cell? ⟨gb104, 3, none⟩ = some (.int .i64 0) := (blk_cell BK104.out 3).trans rfl; have hfz98_0 := blk_frozen BK104.out 0; have hfz98_1 := blk_frozen BK104.out 1; have hfz98_2 := blk_frozen BK104.out 2; have hfz98_3 := blk_frozen BK104.out 3))
            go_roundg k2
            case measure => have := HJ1.out; have := HK2.out; omega
            case rel => exact ⟨(wrap64 (x3_2 + 1)), jr_, H', ⟨by have := HJ1.out; have := HK2.out; omega⟩, ⟨by refine pk_ ?_; refine blk_far ?_ NB102_104.out _; refine pk_ ?_; refine blk_far ?_ NB102_104.out _; refine pk_ ?_; refine blk_far ?_ NB102_104.out _; refine pk_ ?_; refine blk_far ?_ NB102_104.out _; exact pk_ BK102.out⟩, ⟨bk_ HB.out⟩⟩
          ·rw [if_neg c89] at H
           have c89b0 : (((rd_T33 l0_1 x3_2).f0) == 2) = false := beq_eq_false_iff_ne.mpr c89
           have c89b1 : (((rd_T33 l0_1 x3_2).f0) != 2) = true := bne_iff_ne.mpr c89
           obtain rfl := Option.some.inj H
           have hcz99_0 : wr.cell? ⟨gb102, 0, none⟩ = some (.int .i64 a0_0) := (blk_cell BK102.out 0).trans rfl
           have hcz99_1 : wr.cell? ⟨gb102, 1, none⟩ = some (.slice A0_1 l0_1.length c0_1) := (blk_cell BK102.out 1).trans rfl
           have hfz99_0 := blk_frozen BK102.out 0
           have hfz99_1 := blk_frozen BK102.out 1
           have p103 : 0 ≤ (x3_2 : Int) := od_
           have q103 : x3_2 < (l0_1.length : Int) := od_
           obtain ⟨ad103, e103, hx103_0, hx103_1, hx103_2, hx103_3⟩ := at_T33 HR0_1.out x3_2 p103 q103
           cases e103
           replace hx103_0 := lf_ HB.out hx103_0
           replace hx103_1 := lf_ HB.out hx103_1
           replace hx103_2 := lf_ HB.out hx103_2
           replace hx103_3 := lf_ HB.out hx103_3
           replace p103 := eq_true p103
           replace q103 := eq_true q103
           go_wp2_with (first | ((with_reducible refine gate_dst (N := 4) rfl ?_); (try (refine gate_guard (by rfl) ?_; dsimp only)); refine box_event ?hg (N := 4) ?hd (cs := #[.int .i64 0, .int .i64 0, .int .i64 0, .int .i64 0]) (t := 33) ?hr ?_; (case hd => rfl); (case hg => rfl); (case hr => first | (go_simp; done) | (go_simp; rfl)); intro gb104 hg w100 hbox hb; have n0_ := A_ (blk_below (pk_ BK102.out) hb); have n1_ := A_ (below_step (bk_ HB.out) hb); have n2_ := A_ (hbox); have n3_ := A_ ((by rw [hg]; exact (below_size (bk_ HB.out)) : w.heap.size ≤ gb104)); have n4_ := A_ ((by rw [hg]; exact (below_size (bk_ HB.out)) : w.heap.size ≤ gb104)); have n5_ := A_ ((by rw [hg]; exact Nat.ne_of_lt (blk_lt (pk_ BK102.out)) : gb102 ≠ gb104)); have n6_ := A_ ((by rw [hg]; exact Nat.ne_of_gt (blk_lt (pk_ BK102.out)) : gb104 ≠ gb102)); clear BK102 HB; have BK102 := n0_; have HB := n1_; have BK104 := n2_; have GW104 := n3_; have GE104 := n4_; have NB102_104 := n5_; have NB104_102 := n6_; clear n0_ n1_ n2_ n3_ n4_ n5_ n6_ hb hbox hg; have hnb101 := NB104_102.out; have hnc101 := NB102_104.out; have hcz102_0 : w100.cell? ⟨gb104, 0, none⟩ = some (.int .i64 0) := (blk_cell BK104.out 0).trans rfl; have hcz102_1 : w100.cell? ⟨gb104, 1, none⟩ = some (.int .i64 0) := (blk_cell BK104.out 1).trans rfl; have hcz102_2 : w100.cell? ⟨gb104, 2, none⟩ = some (.int .i64 0) := (blk_cell BK104.out 2).trans rfl; have hcz102_3 : w100.cell? ⟨gb104, 3, none⟩ = some (.int .i64 0) := (blk_cell BK104.out 3).trans rfl; have hfz102_0 := blk_frozen BK104.out 0; have hfz102_1 := blk_frozen BK104.out 1; have hfz102_2 := blk_frozen BK104.out 2; have hfz102_3 := blk_frozen BK104.out 3))
           go_ret
           exact ⟨er_, bk_ HB.out⟩
       ·rw [if_neg c13] at H
        exact absurd H (by simp)
      ·rw [if_neg c12] at H
       have c12b0 : decide (x3_2 < (l0_1.length : Int)) = false := decide_eq_false c12
       clear c12
       obtain rfl := Option.some.inj H
       have hcz103_0 : wr.cell? ⟨gb102, 0, none⟩ = some (.int .i64 a0_0) := (blk_cell BK102.out 0).trans rfl
       have hcz103_1 : wr.cell? ⟨gb102, 1, none⟩ = some (.slice A0_1 l0_1.length c0_1) := (blk_cell BK102.out 1).trans rfl
       have hfz103_0 := blk_frozen BK102.out 0
       have hfz103_1 := blk_frozen BK102.out 1
       go_wp2
       go_ret
       exact ⟨er_, bk_ HB.out⟩

/-! ### standstillref06_Fits: function 9 -/
mutual
def standstillref06_Fits.j0 : Nat → Bool → Int → List Int → Option (Bool)
 | 0, _, _, _ => none
 | k + 1, x23, x110000, x110001 => if x23 = true then (some false) else (standstillref06_Fits.l0 k 0 x110000 x110001)
def standstillref06_Fits.l0 : Nat → Int → Int → List Int → Option (Bool)
 | 0, _, _, _ => none
 | k + 1, x5, x110000, x110001 => if x5 < (x110001.length : Int) then (if 0 ≤ x5 then (if (rd x110001 x5) < 0 then (some false) else (if (rd x110001 x5) > 1152921504606846976 then (some false) else (standstillref06_Fits.l0 k (wrap64 (x5 + 1)) x110000 x110001))) else (none)) else (some true)
end
def standstillref06_Fits.f (k : Nat) (a0_0 : Int) (l0_1 : List (S33)) (a1_0 : Int) (l1_1 : List Int) : Option (Bool) := (standstillref06_Valid.f k a0_0 l0_1).bind fun t110 => (if t110 = true then ((standstillref06_index.f a0_0 l0_1 a1_0).bind fun t111 => (if t111 = true then (standstillref06_Fits.j0 k ((l1_1.length : Int) != a0_0) a1_0 l1_1) else (standstillref06_Fits.j0 k true a1_0 l1_1))) else (standstillref06_Fits.j0 k true a1_0 l1_1))
theorem standstillref06_Fits.mono_l : ∀ k, (∀ y0 y1 y2, LeO (standstillref06_Fits.j0 k y0 y1 y2) (standstillref06_Fits.j0 (k + 1) y0 y1 y2)) ∧ (∀ y0 y1 y2, LeO (standstillref06_Fits.l0 k y0 y1 y2) (standstillref06_Fits.l0 (k + 1) y0 y1 y2))
 | 0 => ⟨fun _ _ _ r h => by simp [standstillref06_Fits.j0] at h, fun _ _ _ r h => by simp [standstillref06_Fits.l0] at h⟩
 | k + 1 => by
  obtain ⟨ih0, ih1⟩ := standstillref06_Fits.mono_l k
  refine ⟨?_, ?_⟩
  ·intro y0 y1 y2
   unfold standstillref06_Fits.j0
   repeat' first
   | (with_reducible exact ih0 _ _ _)
   | (with_reducible exact ih1 _ _ _)
   | (with_reducible exact standstillref06_Valid.mono _ _ _)
   | (with_reducible exact LeO.refl _)
   | (with_reducible exact LeO.none _)
   | (with_reducible refine LeO.ite ?_ ?_)
   | (with_reducible refine LeO.bind ?_ (fun _ => ?_))
   | exact ih0 _ _ _
   | exact ih1 _ _ _
   | exact standstillref06_Valid.mono _ _ _
   | exact LeO.none _
   | refine LeO.ite ?_ ?_
   | refine LeO.bind ?_ (fun _ => ?_)
  ·intro y0 y1 y2
   unfold standstillref06_Fits.l0
   repeat' first
   | (with_reducible exact ih0 _ _ _)
   | (with_reducible exact ih1 _ _ _)
   | (with_reducible exact standstillref06_Valid.mono _ _ _)
   | (with_reducible exact LeO.refl _)
   | (with_reducible exact LeO.none _)
   | (with_reducible refine LeO.ite ?_ ?_)
   | (with_reducible refine LeO.bind ?_ (fun _ => ?_))
   | exact ih0 _ _ _
   | exact ih1 _ _ _
   | exact standstillref06_Valid.mono _ _ _
   | exact LeO.none _
   | refine LeO.ite ?_ ?_
   | refine LeO.bind ?_ (fun _ => ?_)
theorem standstillref06_Fits.mono : ∀ a0 a1 a2 a3 k, LeO (standstillref06_Fits.f k a0 a1 a2 a3) (standstillref06_Fits.f (k + 1) a0 a1 a2 a3) := by
 intro a0 a1 a2 a3 k
 obtain ⟨ih0, ih1⟩ := standstillref06_Fits.mono_l k
 unfold standstillref06_Fits.f
 repeat' first
   | (with_reducible exact ih0 _ _ _)
   | (with_reducible exact ih1 _ _ _)
   | (with_reducible exact standstillref06_Valid.mono _ _ _)
   | (with_reducible exact LeO.refl _)
   | (with_reducible exact LeO.none _)
   | (with_reducible refine LeO.ite ?_ ?_)
   | (with_reducible refine LeO.bind ?_ (fun _ => ?_))
   | exact ih0 _ _ _
   | exact ih1 _ _ _
   | exact standstillref06_Valid.mono _ _ _
   | exact LeO.none _
   | refine LeO.ite ?_ ?_
   | refine LeO.bind ?_ (fun _ => ?_)
set_option maxHeartbeats 8000000 in
set_option maxRecDepth 100000 in
theorem standstillref06_Fits.calls (k : Nat) (a0_0 : Int) (A0_1 : Option Addr) (c0_1 : Nat) (l0_1 : List (S33)) (a1_0 : Int) (A1_1 : Option Addr) (c1_1 : Nat) (l1_1 : List Int) (r : Bool) (w : World) (hr0_1 : Kd.C k33 w A0_1 l0_1.length l0_1) (hc0_1 : l0_1.length ≤ c0_1) (hr1_1 : Kd.C (Kd.int .i64) w A1_1 l1_1.length l1_1) (hc1_1 : l1_1.length ≤ c1_1) (h : standstillref06_Fits.f k a0_0 l0_1 a1_0 l1_1 = some r) :
  Calls Try.prog 9 #[.agg #[.int .i64 a0_0, .slice A0_1 l0_1.length c0_1], .agg #[.int .i64 a1_0, .slice A1_1 l1_1.length c1_1]] w fun e w' => e = .returned (.bool r) ∧ Below w.heap.size w w' := by
 have hu24 := Try.underlying24
 have hu27 := Try.underlying27
 have HR0_1 := Aside0.mk hr0_1
 have HC0_1 := Aside0.mk hc0_1
 clear hr0_1 hc0_1
 have HR1_1 := Aside0.mk hr1_1
 have HC1_1 := Aside0.mk hc1_1
 clear hr1_1 hc1_1
 have HB := A_ (Below.refl w.heap.size w)
 have H : ((standstillref06_Valid.f k a0_0 l0_1).bind fun t110 => (if t110 = true then ((standstillref06_index.f a0_0 l0_1 a1_0).bind fun t111 => (if t111 = true then (standstillref06_Fits.j0 k ((l1_1.length : Int) != a0_0) a1_0 l1_1) else (standstillref06_Fits.j0 k true a1_0 l1_1))) else (standstillref06_Fits.j0 k true a1_0 l1_1))) = some r := h
 clear h
 have HC3 := Aside0.mk H
 clear H
 go_enter Try.func9, Try.ntmps9
 go_upto_region 1 with (first | ((with_reducible refine gate_dst (N := 2) rfl ?_); (try (refine gate_guard (by rfl) ?_; dsimp only)); refine box_event ?hg (N := 2) ?hd (cs := #[.int .i64 a0_0, .slice A0_1 l0_1.length c0_1]) (t := 24) ?hr ?_; (case hd => rfl); (case hg => rfl); (case hr => first | (go_simp; done) | (go_simp; rfl)); intro gb108 hg w4 hbox hb; have n0_ := A_ (below_step (bk_ HB.out) hb); have n1_ := A_ (hbox); have n2_ := A_ ((by rw [hg]; exact (below_size (bk_ HB.out)) : w.heap.size ≤ gb108)); have n3_ := A_ ((by rw [hg]; exact (below_size (bk_ HB.out)) : w.heap.size ≤ gb108)); clear HB; have HB := n0_; have BK108 := n1_; have GW108 := n2_; have GE108 := n3_; clear n0_ n1_ n2_ n3_ hb hbox hg) | ((with_reducible refine gate_dst (N := 3) rfl ?_); (try (refine gate_guard (by rfl) ?_; dsimp only)); refine box_event ?hg (N := 3) ?hd (cs := #[.int .i64 a1_0, .slice A1_1 l1_1.length c1_1]) (t := 27) ?hr ?_; (case hd => rfl); (case hg => rfl); (case hr => first | (go_simp; done) | (go_simp; rfl)); intro gb109 hg w5 hbox hb; have n0_ := A_ (blk_below (pk_ BK108.out) hb); have n1_ := A_ (below_step (bk_ HB.out) hb); have n2_ := A_ (hbox); have n3_ := A_ ((by rw [hg]; exact (below_size (bk_ HB.out)) : w.heap.size ≤ gb109)); have n4_ := A_ ((by rw [hg]; exact (below_size (bk_ HB.out)) : w.heap.size ≤ gb109)); have n5_ := A_ ((by rw [hg]; exact Nat.ne_of_lt (blk_lt (pk_ BK108.out)) : gb108 ≠ gb109)); have n6_ := A_ ((by rw [hg]; exact Nat.ne_of_gt (blk_lt (pk_ BK108.out)) : gb109 ≠ gb108)); clear BK108 HB; have BK108 := n0_; have HB := n1_; have BK109 := n2_; have GW109 := n3_; have GE109 := n4_; have NB108_109 := n5_; have NB109_108 := n6_; clear n0_ n1_ n2_ n3_ n4_ n5_ n6_ hb hbox hg))
 (try simp only [Act.put, List.setIfInBounds_toArray, List.set_cons_zero, List.set_cons_succ])
 go_cut [23] (fun v23 wc => ∃ (kq : Nat) (x23_2 : Bool), v23 = .bool x23_2 ∧ Aside0 (standstillref06_Fits.j0 kq x23_2 a1_0 l1_1 = some r) ∧ Aside0 (kq ≤ k) ∧ Aside0 (wc.heap[gb108]? = some (.cells #[.int .i64 a0_0, (.slice A0_1 l0_1.length c0_1)] 24 (0, 0))) ∧ Aside0 (wc.heap[gb109]? = some (.cells #[.int .i64 a1_0, (.slice A1_1 l1_1.length c1_1)] 27 (0, 0))) ∧ Aside0 (Below w.heap.size w wc))
 case first =>
  have H := HC3.out
  clear HC3
  replace H := Option.bind_eq_some_iff.mp H
  obtain ⟨t110, A60, H⟩ := H
  replace H : (if t110 = true then ((standstillref06_index.f a0_0 l0_1 a1_0).bind fun t111 => (if t111 = true then (standstillref06_Fits.j0 k ((l1_1.length : Int) != a0_0) a1_0 l1_1) else (standstillref06_Fits.j0 k true a1_0 l1_1))) else (standstillref06_Fits.j0 k true a1_0 l1_1)) = some r := H
  have A6 := Aside0.mk A60
  clear A60
  by_cases c7 : t110 = true
  ·subst c7
   have H1 : ((standstillref06_index.f a0_0 l0_1 a1_0).bind fun t111 => (if t111 = true then (standstillref06_Fits.j0 k ((l1_1.length : Int) != a0_0) a1_0 l1_1) else (standstillref06_Fits.j0 k true a1_0 l1_1))) = some r := by rw [if_pos rfl] at H; exact H
   clear H
   have H := H1
   clear H1
   replace H := Option.bind_eq_some_iff.mp H
   obtain ⟨t111, A80, H⟩ := H
   replace H : (if t111 = true then (standstillref06_Fits.j0 k ((l1_1.length : Int) != a0_0) a1_0 l1_1) else (standstillref06_Fits.j0 k true a1_0 l1_1)) = some r := H
   have A8 := Aside0.mk A80
   clear A80
   by_cases c9 : t111 = true
   ·subst c9
    have H1 : (standstillref06_Fits.j0 k ((l1_1.length : Int) != a0_0) a1_0 l1_1) = some r := by rw [if_pos rfl] at H; exact H
    clear H
    have H := H1
    clear H1
    have H' := Aside0.mk H
    clear H
    have hnb10 := NB108_109.out
    have hnc10 := NB109_108.out
    have hcz11_0 : w5.cell? ⟨gb108, 0, none⟩ = some (.int .i64 a0_0) := (blk_cell BK108.out 0).trans rfl
    have hcz11_1 : w5.cell? ⟨gb108, 1, none⟩ = some (.slice A0_1 l0_1.length c0_1) := (blk_cell BK108.out 1).trans rfl
    have hfz11_0 := blk_frozen BK108.out 0
    have hfz11_1 := blk_frozen BK108.out 1
    go_wp2_with (first | ((with_reducible refine gate_callee (f := 13) rfl ?_); refine goesL_ (some 7) rfl rfl Try.func13 (by kernel_rfl) rfl #[.agg #[.int .i64 a0_0, .slice A0_1 l0_1.length c0_1]] rfl gl_ ?_; (with_reducible refine (standstillref06_Valid.calls k a0_0 _ _ l0_1 true _ ?side1 ?side2 A6.out).mono ?_); (case side1 => exact ck_ (Kd.C_below HR0_1.out HB.out)); (case side2 => exact HC0_1.out); rintro e w12 ⟨rfl, hb⟩; refine ⟨_, rfl, ?_⟩; have n0_ := A_ (blk_below (pk_ BK108.out) hb); have n1_ := A_ (blk_below (pk_ BK109.out) hb); have n2_ := A_ (below_step (bk_ HB.out) hb); clear BK108 BK109 HB; have BK108 := n0_; have BK109 := n1_; have HB := n2_; clear n0_ n1_ n2_; (try clear hb); (try clear hb2); (try clear hk); (try clear hi); have hcz13_0 : w12.cell? ⟨gb108, 0, none⟩ = some (.int .i64 a0_0) := (blk_cell BK108.out 0).trans rfl; have hcz13_1 : w12.cell? ⟨gb108, 1, none⟩ = some (.slice A0_1 l0_1.length c0_1) := (blk_cell BK108.out 1).trans rfl; have hfz13_0 := blk_frozen BK108.out 0; have hfz13_1 := blk_frozen BK108.out 1; have hcz14_0 : w12.cell? ⟨gb109, 0, none⟩ = some (.int .i64 a1_0) := (blk_cell BK109.out 0).trans rfl; have hcz14_1 : w12.cell? ⟨gb109, 1, none⟩ = some (.slice A1_1 l1_1.length c1_1) := (blk_cell BK109.out 1).trans rfl; have hfz14_0 := blk_frozen BK109.out 0; have hfz14_1 := blk_frozen BK109.out 1) | (go_at_call 25; (with_reducible refine (standstillref06_index.calls a0_0 _ _ l0_1 a1_0 true _ ?side1 ?side2 A8.out).mono ?_); (case side1 => exact ck_ (Kd.C_below HR0_1.out HB.out)); (case side2 => exact HC0_1.out); rintro e w15 ⟨rfl, hb⟩; have n0_ := A_ (blk_below (pk_ BK108.out) hb); have n1_ := A_ (blk_below (pk_ BK109.out) hb); have n2_ := A_ (below_step (bk_ HB.out) hb); clear BK108 BK109 HB; have BK108 := n0_; have BK109 := n1_; have HB := n2_; clear n0_ n1_ n2_; (try clear hb); (try clear hb2); (try clear hk); (try clear hi); have hcz16_0 : w15.cell? ⟨gb109, 0, none⟩ = some (.int .i64 a1_0) := (blk_cell BK109.out 0).trans rfl; have hcz16_1 : w15.cell? ⟨gb109, 1, none⟩ = some (.slice A1_1 l1_1.length c1_1) := (blk_cell BK109.out 1).trans rfl; have hfz16_0 := blk_frozen BK109.out 0; have hfz16_1 := blk_frozen BK109.out 1; have hcz17_0 : w15.cell? ⟨gb108, 0, none⟩ = some (.int .i64 a0_0) := (blk_cell BK108.out 0).trans rfl; have hcz17_1 : w15.cell? ⟨gb108, 1, none⟩ = some (.slice A0_1 l0_1.length c0_1) := (blk_cell BK108.out 1).trans rfl; have hfz17_0 := blk_frozen BK108.out 0; have hfz17_1 := blk_frozen BK108.out 1))
    go_meet
    case rel => exact ⟨_, (((l1_1.length : Int) != a0_0)), jr_, H', ⟨by first | omega | exact Nat.le_refl _⟩, ⟨pk_ BK108.out⟩, ⟨pk_ BK109.out⟩, ⟨bk_ HB.out⟩⟩
   ·replace c9 := Bool.eq_false_iff.mpr c9
    subst c9
    have H1 : (standstillref06_Fits.j0 k true a1_0 l1_1) = some r := by rw [if_neg (show ¬ (false = true) by decide)] at H; exact H
    clear H
    have H := H1
    clear H1
    have H' := Aside0.mk H
    clear H
    have hnb18 := NB108_109.out
    have hnc18 := NB109_108.out
    have hcz19_0 : w5.cell? ⟨gb108, 0, none⟩ = some (.int .i64 a0_0) := (blk_cell BK108.out 0).trans rfl
    have hcz19_1 : w5.cell? ⟨gb108, 1, none⟩ = some (.slice A0_1 l0_1.length c0_1) := (blk_cell BK108.out 1).trans rfl
    have hfz19_0 := blk_frozen BK108.out 0
    have hfz19_1 := blk_frozen BK108.out 1
    go_wp2_with (first | ((with_reducible refine gate_callee (f := 13) rfl ?_); refine goesL_ (some 7) rfl rfl Try.func13 (by kernel_rfl) rfl #[.agg #[.int .i64 a0_0, .slice A0_1 l0_1.length c0_1]] rfl gl_ ?_; (with_reducible refine (standstillref06_Valid.calls k a0_0 _ _ l0_1 true _ ?side1 ?side2 A6.out).mono ?_); (case side1 => exact ck_ (Kd.C_below HR0_1.out HB.out)); (case side2 => exact HC0_1.out); rintro e w20 ⟨rfl, hb⟩; refine ⟨_, rfl, ?_⟩; have n0_ := A_ (blk_below (pk_ BK108.out) hb); have n1_ := A_ (blk_below (pk_ BK109.out) hb); have n2_ := A_ (below_step (bk_ HB.out) hb); clear BK108 BK109 HB; have BK108 := n0_; have BK109 := n1_; have HB := n2_; clear n0_ n1_ n2_; (try clear hb); (try clear hb2); (try clear hk); (try clear hi); have hcz21_0 : w20.cell? ⟨gb108, 0, none⟩ = some (.int .i64 a0_0) := (blk_cell BK108.out 0).trans rfl; have hcz21_1 : w20.cell? ⟨gb108, 1, none⟩ = some (.slice A0_1 l0_1.length c0_1) := (blk_cell BK108.out 1).trans rfl; have hfz21_0 := blk_frozen BK108.out 0; have hfz21_1 := blk_frozen BK108.out 1; have hcz22_0 : w20.cell? ⟨gb109, 0, none⟩ = some (.int .i64 a1_0) := (blk_cell BK109.out 0).trans rfl; have hcz22_1 : w20.cell? ⟨gb109, 1, none⟩ = some (.slice A1_1 l1_1.length c1_1) := (blk_cell BK109.out 1).trans rfl; have hfz22_0 := blk_frozen BK109.out 0; have hfz22_1 := blk_frozen BK109.out 1) | (go_at_call 25; (with_reducible refine (standstillref06_index.calls a0_0 _ _ l0_1 a1_0 false _ ?side1 ?side2 A8.out).mono ?_); (case side1 => exact ck_ (Kd.C_below HR0_1.out HB.out)); (case side2 => exact HC0_1.out); rintro e w23 ⟨rfl, hb⟩; have n0_ := A_ (blk_below (pk_ BK108.out) hb); have n1_ := A_ (blk_below (pk_ BK109.out) hb); have n2_ := A_ (below_step (bk_ HB.out) hb); clear BK108 BK109 HB; have BK108 := n0_; have BK109 := n1_; have HB := n2_; clear n0_ n1_ n2_; (try clear hb); (try clear hb2); (try clear hk); (try clear hi)))
    go_meet
    case rel => exact ⟨_, (true), jr_, H', ⟨by first | omega | exact Nat.le_refl _⟩, ⟨pk_ BK108.out⟩, ⟨pk_ BK109.out⟩, ⟨bk_ HB.out⟩⟩
  ·replace c7 := Bool.eq_false_iff.mpr c7
   subst c7
   have H1 : (standstillref06_Fits.j0 k true a1_0 l1_1) = some r := by rw [if_neg (show ¬ (false = true) by decide)] at H; exact H
   clear H
   have H := H1
   clear H1
   have H' := Aside0.mk H
   clear H
   have hnb24 := NB108_109.out
   have hnc24 := NB109_108.out
   have hcz25_0 : w5.cell? ⟨gb108, 0, none⟩ = some (.int .i64 a0_0) := (blk_cell BK108.out 0).trans rfl
   have hcz25_1 : w5.cell? ⟨gb108, 1, none⟩ = some (.slice A0_1 l0_1.length c0_1) := (blk_cell BK108.out 1).trans rfl
   have hfz25_0 := blk_frozen BK108.out 0
   have hfz25_1 := blk_frozen BK108.out 1
   go_wp2_with (first | ((with_reducible refine gate_callee (f := 13) rfl ?_); refine goesL_ (some 7) rfl rfl Try.func13 (by kernel_rfl) rfl #[.agg #[.int .i64 a0_0, .slice A0_1 l0_1.length c0_1]] rfl gl_ ?_; (with_reducible refine (standstillref06_Valid.calls k a0_0 _ _ l0_1 false _ ?side1 ?side2 A6.out).mono ?_); (case side1 => exact ck_ (Kd.C_below HR0_1.out HB.out)); (case side2 => exact HC0_1.out); rintro e w26 ⟨rfl, hb⟩; refine ⟨_, rfl, ?_⟩; have n0_ := A_ (blk_below (pk_ BK108.out) hb); have n1_ := A_ (blk_below (pk_ BK109.out) hb); have n2_ := A_ (below_step (bk_ HB.out) hb); clear BK108 BK109 HB; have BK108 := n0_; have BK109 := n1_; have HB := n2_; clear n0_ n1_ n2_; (try clear hb); (try clear hb2); (try clear hk); (try clear hi)))
   go_meet
   case rel => exact ⟨_, (true), jr_, H', ⟨by first | omega | exact Nat.le_refl _⟩, ⟨pk_ BK108.out⟩, ⟨pk_ BK109.out⟩, ⟨bk_ HB.out⟩⟩
 case rest =>
  clear HC3
  obtain ⟨kq, x23_2, rfl, HA, HJ2, BK108, BK109, HB⟩ := hcut
  cases kq with
  | zero => exact absurd HA.out (by simp [standstillref06_Fits.j0])
  | succ kj2 =>
   have H := HA.out
   clear HA
   simp only [standstillref06_Fits.j0] at H
   by_cases c27 : x23_2 = true
   ·subst c27
    have H1 : (some false) = some r := by rw [if_pos rfl] at H; exact H
    clear H
    have H := H1
    clear H1
    obtain rfl := Option.some.inj H
    go_wp2
    go_ret
    exact ⟨er_, bk_ HB.out⟩
   ·replace c27 := Bool.eq_false_iff.mpr c27
    subst c27
    have H1 : (standstillref06_Fits.l0 kj2 0 a1_0 l1_1) = some r := by rw [if_neg (show ¬ (false = true) by decide)] at H; exact H
    clear H
    have H := H1
    clear H1
    have H' := Aside0.mk H
    clear H
    go_wp2
    go_loopg [5] kj2 (fun kq v5 w' => ∃ (x5_2 : Int), v5 = .int .i64 x5_2 ∧ Aside0 (standstillref06_Fits.l0 kq x5_2 a1_0 l1_1 = some r) ∧ Aside0 (kq ≤ kj2) ∧ Aside0 (w'.heap[gb108]? = some (.cells #[.int .i64 a0_0, (.slice A0_1 l0_1.length c0_1)] 24 (0, 0))) ∧ Aside0 (w'.heap[gb109]? = some (.cells #[.int .i64 a1_0, (.slice A1_1 l1_1.length c1_1)] 27 (0, 0))) ∧ Aside0 (Below w.heap.size w w'))
    case atStart => exact ⟨(0), jr_, H', ⟨Nat.le_refl _⟩, ⟨pk_ BK108.out⟩, ⟨pk_ BK109.out⟩, ⟨bk_ HB.out⟩⟩
    case round =>
     clear H'
     (try clear c27)
     obtain ⟨x5_2, rfl, HA, HK2, BK108, BK109, HB⟩ := hrel
     cases gk with
     | zero => exact absurd HA.out (by simp [standstillref06_Fits.l0])
     | succ k2 =>
      have H := HA.out
      clear HA
      simp only [standstillref06_Fits.l0] at H
      by_cases c28 : x5_2 < (l1_1.length : Int)
      ·rw [if_pos c28] at H
       have c28b0 : decide (x5_2 < (l1_1.length : Int)) = true := decide_eq_true c28
       clear c28
       by_cases c29 : 0 ≤ x5_2
       ·rw [if_pos c29] at H
        have c29b0 : decide (0 ≤ x5_2) = true := decide_eq_true c29
        clear c29
        by_cases c30 : (rd l1_1 x5_2) < 0
        ·rw [if_pos c30] at H
         have c30b0 : decide ((rd l1_1 x5_2) < 0) = true := decide_eq_true c30
         clear c30
         obtain rfl := Option.some.inj H
         have hnb31 := NB109_108.out
         have hnc31 := NB108_109.out
         have hcz32_0 : wr.cell? ⟨gb109, 0, none⟩ = some (.int .i64 a1_0) := (blk_cell BK109.out 0).trans rfl
         have hcz32_1 : wr.cell? ⟨gb109, 1, none⟩ = some (.slice A1_1 l1_1.length c1_1) := (blk_cell BK109.out 1).trans rfl
         have hfz32_0 := blk_frozen BK109.out 0
         have hfz32_1 := blk_frozen BK109.out 1
         have p112 : 0 ≤ (x5_2 : Int) := od_
         have q112 : x5_2 < (l1_1.length : Int) := od_
         obtain ⟨ad112, e112, hx112_0⟩ := Kd.at_int HR1_1.out x5_2 p112 q112
         cases e112
         replace hx112_0 := lf_ HB.out hx112_0
         replace p112 := eq_true p112
         replace q112 := eq_true q112
         go_wp2
         go_ret
         exact ⟨er_, bk_ HB.out⟩
        ·rw [if_neg c30] at H
         have c30b0 : decide ((rd l1_1 x5_2) < 0) = false := decide_eq_false c30
         clear c30
         by_cases c33 : (rd l1_1 x5_2) > 1152921504606846976
         ·rw [if_pos c33] at H
          have c33b0 : decide (1152921504606846976 < (rd l1_1 x5_2)) = true := decide_eq_true c33
          clear c33
          obtain rfl := Option.some.inj H
          have hnb34 := NB109_108.out
          have hnc34 := NB108_109.out
          have hcz35_0 : wr.cell? ⟨gb109, 0, none⟩ = some (.int .i64 a1_0) := (blk_cell BK109.out 0).trans rfl
          have hcz35_1 : wr.cell? ⟨gb109, 1, none⟩ = some (.slice A1_1 l1_1.length c1_1) := (blk_cell BK109.out 1).trans rfl
          have hfz35_0 := blk_frozen BK109.out 0
          have hfz35_1 := blk_frozen BK109.out 1
          have p112 : 0 ≤ (x5_2 : Int) := od_
          have q112 : x5_2 < (l1_1.length : Int) := od_
          obtain ⟨ad112, e112, hx112_0⟩ := Kd.at_int HR1_1.out x5_2 p112 q112
          cases e112
          replace hx112_0 := lf_ HB.out hx112_0
          replace p112 := eq_true p112
          replace q112 := eq_true q112
          have p113 : 0 ≤ (x5_2 : Int) := od_
          have q113 : x5_2 < (l1_1.length : Int) := od_
          obtain ⟨ad113, e113, hx113_0⟩ := Kd.at_int HR1_1.out x5_2 p113 q113
          obtain rfl : ad112 = ad113 := (by injection e113)
          replace hx113_0 := lf_ HB.out hx113_0
          replace p113 := eq_true p113
          replace q113 := eq_true q113
          go_wp2
          go_ret
          exact ⟨er_, bk_ HB.out⟩
         ·rw [if_neg c33] at H
          have c33b0 : decide (1152921504606846976 < (rd l1_1 x5_2)) = false := decide_eq_false c33
          clear c33
          have H' := Aside0.mk H
          clear H
          have hnb36 := NB109_108.out
          have hnc36 := NB108_109.out
          have hcz37_0 : wr.cell? ⟨gb109, 0, none⟩ = some (.int .i64 a1_0) := (blk_cell BK109.out 0).trans rfl
          have hcz37_1 : wr.cell? ⟨gb109, 1, none⟩ = some (.slice A1_1 l1_1.length c1_1) := (blk_cell BK109.out 1).trans rfl
          have hfz37_0 := blk_frozen BK109.out 0
          have hfz37_1 := blk_frozen BK109.out 1
          have p112 : 0 ≤ (x5_2 : Int) := od_
          have q112 : x5_2 < (l1_1.length : Int) := od_
          obtain ⟨ad112, e112, hx112_0⟩ := Kd.at_int HR1_1.out x5_2 p112 q112
          cases e112
          replace hx112_0 := lf_ HB.out hx112_0
          replace p112 := eq_true p112
          replace q112 := eq_true q112
          have p113 : 0 ≤ (x5_2 : Int) := od_
          have q113 : x5_2 < (l1_1.length : Int) := od_
          obtain ⟨ad113, e113, hx113_0⟩ := Kd.at_int HR1_1.out x5_2 p113 q113
          obtain rfl : ad112 = ad113 := (by injection e113)
          replace hx113_0 := lf_ HB.out hx113_0
          replace p113 := eq_true p113
          replace q113 := eq_true q113
          go_wp2
          go_roundg k2
          case measure => have := HJ2.out; have := HK2.out; omega
          case rel => exact ⟨(wrap64 (x5_2 + 1)), jr_, H', ⟨by have := HJ2.out; have := HK2.out; omega⟩, ⟨pk_ BK108.out⟩, ⟨pk_ BK109.out⟩, ⟨bk_ HB.out⟩⟩
       ·rw [if_neg c29] at H
        exact absurd H (by simp)
      ·rw [if_neg c28] at H
       have c28b0 : decide (x5_2 < (l1_1.length : Int)) = false := decide_eq_false c28
       clear c28
       obtain rfl := Option.some.inj H
       have hnb38 := NB109_108.out
       have hnc38 := NB108_109.out
       have hcz39_0 : wr.cell? ⟨gb109, 0, none⟩ = some (.int .i64 a1_0) := (blk_cell BK109.out 0).trans rfl
       have hcz39_1 : wr.cell? ⟨gb109, 1, none⟩ = some (.slice A1_1 l1_1.length c1_1) := (blk_cell BK109.out 1).trans rfl
       have hfz39_0 := blk_frozen BK109.out 0
       have hfz39_1 := blk_frozen BK109.out 1
       go_wp2
       go_ret
       exact ⟨er_, bk_ HB.out⟩

end Go.Proofs.Ytkekehpfkfadfaa.PCounterJoined
