-- out of a turned copy of the print, by a program of this session; Lean checks it
import Derived.Test.YtcdejoaekkcknaaPBlockPartsx0
namespace Go.Proofs.Ytcdejoaekkcknaa.PBlockParts
open Go.RowKit Go.Proofs.YtcdejoaekkcknaaW.PrintWords Go.Proofs.YtcdejoaekkcknaaW.PrintLast Go.Proofs.YtcdejoaekkcknaaW.PrintMore
attribute [local go_sem] max2_int min2_int max_two min_two max_three min_three max_four min_four   -- for this text's walks alone
set_option linter.unusedVariables false
set_option linter.unusedSimpArgs false

attribute [local go_sem] isSome_put_
/-! ### standstilllaw05_wide: function 7 -/
def standstilllaw05_wide.l0 : Nat → Int → Int → Int → Int → List (List (S57)) → Option (Bool)
 | 0, _, _, _, _, _ => none
 | k + 1, x3, x4, x102000, x102001, x102002 => if x4 < (x102002.length : Int) then (if x3 ≤ 1000 then (if 0 ≤ x4 then (standstilllaw05_wide.l0 k (wrap64 (x3 + ((rd_L2 x102002 x4).length : Int))) (wrap64 (x4 + 1)) x102000 x102001 x102002) else (none)) else (some (decide (x3 > 1000)))) else (some (decide (x3 > 1000)))
def standstilllaw05_wide.f (k : Nat) (a0_0 : Int) (a0_1 : Int) (l0_2 : List (List (S57))) : Option (Bool) := standstilllaw05_wide.l0 k (l0_2.length : Int) 0 a0_0 a0_1 l0_2
theorem standstilllaw05_wide.mono_l : ∀ k, (∀ y0 y1 y2 y3 y4, LeO (standstilllaw05_wide.l0 k y0 y1 y2 y3 y4) (standstilllaw05_wide.l0 (k + 1) y0 y1 y2 y3 y4))
 | 0 => fun _ _ _ _ _ r h => by simp [standstilllaw05_wide.l0] at h
 | k + 1 => by
  have ih0 := standstilllaw05_wide.mono_l k
  ·intro y0 y1 y2 y3 y4
   unfold standstilllaw05_wide.l0
   repeat' first
   | (with_reducible exact ih0 _ _ _ _ _)
   | (with_reducible exact LeO.refl _)
   | (with_reducible exact LeO.none _)
   | (with_reducible refine LeO.ite ?_ ?_)
   | (with_reducible refine LeO.bind ?_ (fun _ => ?_))
   | exact ih0 _ _ _ _ _
   | exact LeO.none _
   | refine LeO.ite ?_ ?_
   | refine LeO.bind ?_ (fun _ => ?_)
theorem standstilllaw05_wide.mono : ∀ a0 a1 a2 k, LeO (standstilllaw05_wide.f k a0 a1 a2) (standstilllaw05_wide.f (k + 1) a0 a1 a2) := by
 intro a0 a1 a2 k
 have ih0 := standstilllaw05_wide.mono_l k
 unfold standstilllaw05_wide.f
 repeat' first
   | (with_reducible exact ih0 _ _ _ _ _)
   | (with_reducible exact LeO.refl _)
   | (with_reducible exact LeO.none _)
   | (with_reducible refine LeO.ite ?_ ?_)
   | (with_reducible refine LeO.bind ?_ (fun _ => ?_))
   | exact ih0 _ _ _ _ _
   | exact LeO.none _
   | refine LeO.ite ?_ ?_
   | refine LeO.bind ?_ (fun _ => ?_)
set_option maxHeartbeats 8000000 in
set_option maxRecDepth 100000 in
theorem standstilllaw05_wide.calls (k : Nat) (a0_0 : Int) (a0_1 : Int) (A0_2 : Option Addr) (c0_2 : Nat) (l0_2 : List (List (S57))) (r : Bool) (w : World) (hr0_2 : Kd.C (Kd.slice 57 k57) w A0_2 l0_2.length l0_2) (hc0_2 : l0_2.length ≤ c0_2) (h : standstilllaw05_wide.f k a0_0 a0_1 l0_2 = some r) :
  Calls Try.prog 7 #[.agg #[.int .i64 a0_0, .int .i64 a0_1, .slice A0_2 l0_2.length c0_2]] w fun e w' => e = .returned (.bool r) ∧ Below w.heap.size w w' := by
 have hu24 := Try.underlying24
 have HR0_2 := Aside0.mk hr0_2
 have HC0_2 := Aside0.mk hc0_2
 clear hr0_2 hc0_2
 have HB := A_ (Below.refl w.heap.size w)
 have H : (standstilllaw05_wide.l0 k (l0_2.length : Int) 0 a0_0 a0_1 l0_2) = some r := h
 clear h
 have H' := Aside0.mk H
 clear H
 go_enter Try.func7, Try.ntmps7
 go_wp2_with (first | ((with_reducible refine gate_dst (N := 1) rfl ?_); refine box_event ?hg (N := 1) ?hd (cs := #[.int .i64 a0_0, .int .i64 a0_1, .slice A0_2 l0_2.length c0_2]) (t := 24) ?hr ?_; (case hd => rfl); (case hg => rfl); (case hr => first | (go_simp; done) | (go_simp; rfl)); intro gb101 hg w2 hbox hb; have n0_ := A_ (below_step (bk_ HB.out) hb); have n1_ := A_ (hbox); have n2_ := A_ ((by rw [hg]; exact (below_size (bk_ HB.out)) : w.heap.size ≤ gb101)); have n3_ := A_ ((by rw [hg]; exact (below_size (bk_ HB.out)) : w.heap.size ≤ gb101)); clear HB; have HB := n0_; have BK101 := n1_; have GW101 := n2_; have GE101 := n3_; clear n0_ n1_ n2_ n3_ hb hbox hg; have hcz3_0 : w2.cell? ⟨gb101, 0, none⟩ = some (.int .i64 a0_0) := (blk_cell BK101.out 0).trans rfl; have hcz3_1 : w2.cell? ⟨gb101, 1, none⟩ = some (.int .i64 a0_1) := (blk_cell BK101.out 1).trans rfl; have hcz3_2 : w2.cell? ⟨gb101, 2, none⟩ = some (.slice A0_2 l0_2.length c0_2) := (blk_cell BK101.out 2).trans rfl; have hfz3_0 := blk_frozen BK101.out 0; have hfz3_1 := blk_frozen BK101.out 1; have hfz3_2 := blk_frozen BK101.out 2))
 go_loopg [3, 4] k (fun kq v3 v4 w' => ∃ (x3_1 : Int) (x4_1 : Int), v3 = .int .i64 x3_1 ∧ v4 = .int .i64 x4_1 ∧ Aside0 (standstilllaw05_wide.l0 kq x3_1 x4_1 a0_0 a0_1 l0_2 = some r) ∧ Aside0 (kq ≤ k) ∧ Aside0 (w'.heap[gb101]? = some (.cells #[.int .i64 a0_0, .int .i64 a0_1, (.slice A0_2 l0_2.length c0_2)] 24 (0, 0))) ∧ Aside0 (Below w.heap.size w w'))
 case atStart => exact ⟨((l0_2.length : Int)), (0), jr_, jr_, H', ⟨Nat.le_refl _⟩, ⟨pk_ BK101.out⟩, ⟨bk_ HB.out⟩⟩
 case round =>
  clear H'
  (try clear hcz3_0); (try clear hcz3_1); (try clear hcz3_2); (try clear hfz3_0); (try clear hfz3_1); (try clear hfz3_2)
  obtain ⟨x3_1, x4_1, rfl, rfl, HA, HK1, BK101, HB⟩ := hrel
  cases gk with
  | zero => exact absurd HA.out (by simp [standstilllaw05_wide.l0])
  | succ k1 =>
   have H := HA.out
   clear HA
   simp only [standstilllaw05_wide.l0] at H
   by_cases c4 : x4_1 < (l0_2.length : Int)
   ·rw [if_pos c4] at H
    have c4b0 : decide (x4_1 < (l0_2.length : Int)) = true := decide_eq_true c4
    clear c4
    by_cases c5 : x3_1 ≤ 1000
    ·rw [if_pos c5] at H
     have c5b0 : decide (x3_1 ≤ 1000) = true := decide_eq_true c5
     clear c5
     by_cases c6 : 0 ≤ x4_1
     ·rw [if_pos c6] at H
      have c6b0 : decide (0 ≤ x4_1) = true := decide_eq_true c6
      clear c6
      have H' := Aside0.mk H
      clear H
      have hcz7_0 : wr.cell? ⟨gb101, 0, none⟩ = some (.int .i64 a0_0) := (blk_cell BK101.out 0).trans rfl
      have hcz7_1 : wr.cell? ⟨gb101, 1, none⟩ = some (.int .i64 a0_1) := (blk_cell BK101.out 1).trans rfl
      have hcz7_2 : wr.cell? ⟨gb101, 2, none⟩ = some (.slice A0_2 l0_2.length c0_2) := (blk_cell BK101.out 2).trans rfl
      have hfz7_0 := blk_frozen BK101.out 0
      have hfz7_1 := blk_frozen BK101.out 1
      have hfz7_2 := blk_frozen BK101.out 2
      have p102 : 0 ≤ (x4_1 : Int) := od_
      have q102 : x4_1 < (l0_2.length : Int) := od_
      obtain ⟨ad102, A102_0, c102_0, e102, hx102_0, hl102_0, hi102_0⟩ := at_L2 HR0_2.out x4_1 p102 q102
      cases e102
      replace hx102_0 := lf_ HB.out hx102_0
      have HR102_0 := Aside0.mk hi102_0
      have HC102_0 := Aside0.mk hl102_0
      clear hi102_0 hl102_0
      replace p102 := eq_true p102
      replace q102 := eq_true q102
      go_wp2
      go_roundg k1
      case measure => have := HK1.out; omega
      case rel => exact ⟨(wrap64 (x3_1 + ((rd_L2 l0_2 x4_1).length : Int))), (wrap64 (x4_1 + 1)), jr_, jr_, H', ⟨by have := HK1.out; omega⟩, ⟨pk_ BK101.out⟩, ⟨bk_ HB.out⟩⟩
     ·rw [if_neg c6] at H
      exact absurd H (by simp)
    ·rw [if_neg c5] at H
     have c5b0 : decide (x3_1 ≤ 1000) = false := decide_eq_false c5
     clear c5
     obtain rfl := Option.some.inj H
     have hcz8_0 : wr.cell? ⟨gb101, 0, none⟩ = some (.int .i64 a0_0) := (blk_cell BK101.out 0).trans rfl
     have hcz8_1 : wr.cell? ⟨gb101, 1, none⟩ = some (.int .i64 a0_1) := (blk_cell BK101.out 1).trans rfl
     have hcz8_2 : wr.cell? ⟨gb101, 2, none⟩ = some (.slice A0_2 l0_2.length c0_2) := (blk_cell BK101.out 2).trans rfl
     have hfz8_0 := blk_frozen BK101.out 0
     have hfz8_1 := blk_frozen BK101.out 1
     have hfz8_2 := blk_frozen BK101.out 2
     go_wp2
     go_ret
     exact ⟨er_, bk_ HB.out⟩
   ·rw [if_neg c4] at H
    have c4b0 : decide (x4_1 < (l0_2.length : Int)) = false := decide_eq_false c4
    clear c4
    obtain rfl := Option.some.inj H
    have hcz9_0 : wr.cell? ⟨gb101, 0, none⟩ = some (.int .i64 a0_0) := (blk_cell BK101.out 0).trans rfl
    have hcz9_1 : wr.cell? ⟨gb101, 1, none⟩ = some (.int .i64 a0_1) := (blk_cell BK101.out 1).trans rfl
    have hcz9_2 : wr.cell? ⟨gb101, 2, none⟩ = some (.slice A0_2 l0_2.length c0_2) := (blk_cell BK101.out 2).trans rfl
    have hfz9_0 := blk_frozen BK101.out 0
    have hfz9_1 := blk_frozen BK101.out 1
    have hfz9_2 := blk_frozen BK101.out 2
    go_wp2
    go_ret
    exact ⟨er_, bk_ HB.out⟩

/-! ### tape_Valid: function 23 -/
mutual
def tape_Valid.j0 : Nat → Bool → Int → Int → List (List (S57)) → Option (Bool)
 | 0, _, _, _, _ => none
 | k + 1, x32, x104000, x104001, x104002 => if x32 = true then (some false) else (tape_Valid.l0 k x104002 (x104002.length : Int) 0 x104000 x104001 x104002)
def tape_Valid.l0 : Nat → List (List (S57)) → Int → Int → Int → Int → List (List (S57)) → Option (Bool)
 | 0, _, _, _, _, _, _ => none
 | k + 1, x34, x35, x36, x104000, x104001, x104002 => if x36 < x35 then (if 0 ≤ x36 then (if x36 < (x34.length : Int) then (if ((rd_L2 x34 x36).length : Int) = x104001 then (tape_Valid.l1 k x34 x35 x36 (rd_L2 x34 x36) ((rd_L2 x34 x36).length : Int) 0 x104000 x104001 x104002) else (some false)) else (none)) else (none)) else (some true)
def tape_Valid.l1 : Nat → List (List (S57)) → Int → Int → List (S57) → Int → Int → Int → Int → List (List (S57)) → Option (Bool)
 | 0, _, _, _, _, _, _, _, _, _ => none
 | k + 1, x34, x35, x36, x45, x46, x47, x104000, x104001, x104002 => if x47 < x46 then (if 0 ≤ x47 then (if x47 < (x45.length : Int) then (if ((rd_T57 x45 x47).f0) < 0 then (some false) else (if ((rd_T57 x45 x47).f0) ≥ x104001 then (some false) else (if ((rd_T57 x45 x47).f1) = (-1) then (if ((rd_T57 x45 x47).f2) < (-1) then (some false) else (if ((rd_T57 x45 x47).f2) ≥ x104000 then (some false) else (tape_Valid.l1 k x34 x35 x36 x45 x46 (wrap64 (x47 + 1)) x104000 x104001 x104002))) else (if ((rd_T57 x45 x47).f1) = 1 then (if ((rd_T57 x45 x47).f2) < (-1) then (some false) else (if ((rd_T57 x45 x47).f2) ≥ x104000 then (some false) else (tape_Valid.l1 k x34 x35 x36 x45 x46 (wrap64 (x47 + 1)) x104000 x104001 x104002))) else (some false))))) else (none)) else (none)) else (tape_Valid.l0 k x34 x35 (wrap64 (x36 + 1)) x104000 x104001 x104002)
end
def tape_Valid.f (k : Nat) (a0_0 : Int) (a0_1 : Int) (l0_2 : List (List (S57))) : Option (Bool) := if a0_0 < 1 then (tape_Valid.j0 k true a0_0 a0_1 l0_2) else (if a0_0 > 6 then (tape_Valid.j0 k true a0_0 a0_1 l0_2) else (if a0_1 < 2 then (tape_Valid.j0 k true a0_0 a0_1 l0_2) else (if a0_1 > 4 then (tape_Valid.j0 k true a0_0 a0_1 l0_2) else (tape_Valid.j0 k ((l0_2.length : Int) != a0_0) a0_0 a0_1 l0_2))))
theorem tape_Valid.mono_l : ∀ k, (∀ y0 y1 y2 y3, LeO (tape_Valid.j0 k y0 y1 y2 y3) (tape_Valid.j0 (k + 1) y0 y1 y2 y3)) ∧ (∀ y0 y1 y2 y3 y4 y5, LeO (tape_Valid.l0 k y0 y1 y2 y3 y4 y5) (tape_Valid.l0 (k + 1) y0 y1 y2 y3 y4 y5)) ∧ (∀ y0 y1 y2 y3 y4 y5 y6 y7 y8, LeO (tape_Valid.l1 k y0 y1 y2 y3 y4 y5 y6 y7 y8) (tape_Valid.l1 (k + 1) y0 y1 y2 y3 y4 y5 y6 y7 y8))
 | 0 => ⟨fun _ _ _ _ r h => by simp [tape_Valid.j0] at h, fun _ _ _ _ _ _ r h => by simp [tape_Valid.l0] at h, fun _ _ _ _ _ _ _ _ _ r h => by simp [tape_Valid.l1] at h⟩
 | k + 1 => by
  obtain ⟨ih0, ih1, ih2⟩ := tape_Valid.mono_l k
  refine ⟨?_, ?_, ?_⟩
  ·intro y0 y1 y2 y3
   unfold tape_Valid.j0
   repeat' first
   | (with_reducible exact ih0 _ _ _ _)
   | (with_reducible exact ih1 _ _ _ _ _ _)
   | (with_reducible exact ih2 _ _ _ _ _ _ _ _ _)
   | (with_reducible exact LeO.refl _)
   | (with_reducible exact LeO.none _)
   | (with_reducible refine LeO.ite ?_ ?_)
   | (with_reducible refine LeO.bind ?_ (fun _ => ?_))
   | exact ih0 _ _ _ _
   | exact ih1 _ _ _ _ _ _
   | exact ih2 _ _ _ _ _ _ _ _ _
   | exact LeO.none _
   | refine LeO.ite ?_ ?_
   | refine LeO.bind ?_ (fun _ => ?_)
  ·intro y0 y1 y2 y3 y4 y5
   unfold tape_Valid.l0
   repeat' first
   | (with_reducible exact ih0 _ _ _ _)
   | (with_reducible exact ih1 _ _ _ _ _ _)
   | (with_reducible exact ih2 _ _ _ _ _ _ _ _ _)
   | (with_reducible exact LeO.refl _)
   | (with_reducible exact LeO.none _)
   | (with_reducible refine LeO.ite ?_ ?_)
   | (with_reducible refine LeO.bind ?_ (fun _ => ?_))
   | exact ih0 _ _ _ _
   | exact ih1 _ _ _ _ _ _
   | exact ih2 _ _ _ _ _ _ _ _ _
   | exact LeO.none _
   | refine LeO.ite ?_ ?_
   | refine LeO.bind ?_ (fun _ => ?_)
  ·intro y0 y1 y2 y3 y4 y5 y6 y7 y8
   unfold tape_Valid.l1
   repeat' first
   | (with_reducible exact ih0 _ _ _ _)
   | (with_reducible exact ih1 _ _ _ _ _ _)
   | (with_reducible exact ih2 _ _ _ _ _ _ _ _ _)
   | (with_reducible exact LeO.refl _)
   | (with_reducible exact LeO.none _)
   | (with_reducible refine LeO.ite ?_ ?_)
   | (with_reducible refine LeO.bind ?_ (fun _ => ?_))
   | exact ih0 _ _ _ _
   | exact ih1 _ _ _ _ _ _
   | exact ih2 _ _ _ _ _ _ _ _ _
   | exact LeO.none _
   | refine LeO.ite ?_ ?_
   | refine LeO.bind ?_ (fun _ => ?_)
theorem tape_Valid.mono : ∀ a0 a1 a2 k, LeO (tape_Valid.f k a0 a1 a2) (tape_Valid.f (k + 1) a0 a1 a2) := by
 intro a0 a1 a2 k
 obtain ⟨ih0, ih1, ih2⟩ := tape_Valid.mono_l k
 unfold tape_Valid.f
 repeat' first
   | (with_reducible exact ih0 _ _ _ _)
   | (with_reducible exact ih1 _ _ _ _ _ _)
   | (with_reducible exact ih2 _ _ _ _ _ _ _ _ _)
   | (with_reducible exact LeO.refl _)
   | (with_reducible exact LeO.none _)
   | (with_reducible refine LeO.ite ?_ ?_)
   | (with_reducible refine LeO.bind ?_ (fun _ => ?_))
   | exact ih0 _ _ _ _
   | exact ih1 _ _ _ _ _ _
   | exact ih2 _ _ _ _ _ _ _ _ _
   | exact LeO.none _
   | refine LeO.ite ?_ ?_
   | refine LeO.bind ?_ (fun _ => ?_)
set_option maxHeartbeats 8000000 in
set_option maxRecDepth 100000 in
theorem tape_Valid.calls (k : Nat) (a0_0 : Int) (a0_1 : Int) (A0_2 : Option Addr) (c0_2 : Nat) (l0_2 : List (List (S57))) (r : Bool) (w : World) (hr0_2 : Kd.C (Kd.slice 57 k57) w A0_2 l0_2.length l0_2) (hc0_2 : l0_2.length ≤ c0_2) (h : tape_Valid.f k a0_0 a0_1 l0_2 = some r) :
  Calls Try.prog 23 #[.agg #[.int .i64 a0_0, .int .i64 a0_1, .slice A0_2 l0_2.length c0_2]] w fun e w' => e = .returned (.bool r) ∧ Below w.heap.size w w' := by
 have hu24 := Try.underlying24
 have hu57 := Try.underlying57
 have HR0_2 := Aside0.mk hr0_2
 have HC0_2 := Aside0.mk hc0_2
 clear hr0_2 hc0_2
 have HB := A_ (Below.refl w.heap.size w)
 have H : (if a0_0 < 1 then (tape_Valid.j0 k true a0_0 a0_1 l0_2) else (if a0_0 > 6 then (tape_Valid.j0 k true a0_0 a0_1 l0_2) else (if a0_1 < 2 then (tape_Valid.j0 k true a0_0 a0_1 l0_2) else (if a0_1 > 4 then (tape_Valid.j0 k true a0_0 a0_1 l0_2) else (tape_Valid.j0 k ((l0_2.length : Int) != a0_0) a0_0 a0_1 l0_2))))) = some r := h
 clear h
 have HC2 := Aside0.mk H
 clear H
 go_enter Try.func23, Try.ntmps23
 go_upto_region 1 with (first | ((with_reducible refine gate_dst (N := 1) rfl ?_); (try (refine gate_guard (by rfl) ?_; dsimp only)); refine box_event ?hg (N := 1) ?hd (cs := #[.int .i64 a0_0, .int .i64 a0_1, .slice A0_2 l0_2.length c0_2]) (t := 24) ?hr ?_; (case hd => rfl); (case hg => rfl); (case hr => first | (go_simp; done) | (go_simp; rfl)); intro gb103 hg w3 hbox hb; have n0_ := A_ (below_step (bk_ HB.out) hb); have n1_ := A_ (hbox); have n2_ := A_ ((by rw [hg]; exact (below_size (bk_ HB.out)) : w.heap.size ≤ gb103)); have n3_ := A_ ((by rw [hg]; exact (below_size (bk_ HB.out)) : w.heap.size ≤ gb103)); clear HB; have HB := n0_; have BK103 := n1_; have GW103 := n2_; have GE103 := n3_; clear n0_ n1_ n2_ n3_ hb hbox hg))
 (try simp only [Act.put, List.setIfInBounds_toArray, List.set_cons_zero, List.set_cons_succ])
 go_cut [32] (fun v32 wc => ∃ (kq : Nat) (x32_1 : Bool), v32 = .bool x32_1 ∧ Aside0 (tape_Valid.j0 kq x32_1 a0_0 a0_1 l0_2 = some r) ∧ Aside0 (kq ≤ k) ∧ Aside0 (wc.heap[gb103]? = some (.cells #[.int .i64 a0_0, .int .i64 a0_1, (.slice A0_2 l0_2.length c0_2)] 24 (0, 0))) ∧ Aside0 (Below w.heap.size w wc))
 case first =>
  have H := HC2.out
  clear HC2
  by_cases c4 : a0_0 < 1
  ·rw [if_pos c4] at H
   have c4b0 : decide (a0_0 < 1) = true := decide_eq_true c4
   clear c4
   (first | rw [c4b0] | (simp only [i64_w, i32_w]; rw [c4b0]) | skip)
   have H' := Aside0.mk H
   clear H
   have hcz5_0 : w3.cell? ⟨gb103, 0, none⟩ = some (.int .i64 a0_0) := (blk_cell BK103.out 0).trans rfl
   have hcz5_1 : w3.cell? ⟨gb103, 1, none⟩ = some (.int .i64 a0_1) := (blk_cell BK103.out 1).trans rfl
   have hcz5_2 : w3.cell? ⟨gb103, 2, none⟩ = some (.slice A0_2 l0_2.length c0_2) := (blk_cell BK103.out 2).trans rfl
   have hfz5_0 := blk_frozen BK103.out 0
   have hfz5_1 := blk_frozen BK103.out 1
   have hfz5_2 := blk_frozen BK103.out 2
   go_wp2
   go_meet
   case rel => exact ⟨_, (true), jr_, H', ⟨by first | omega | exact Nat.le_refl _⟩, ⟨pk_ BK103.out⟩, ⟨bk_ HB.out⟩⟩
  ·rw [if_neg c4] at H
   have c4b0 : decide (a0_0 < 1) = false := decide_eq_false c4
   clear c4
   (first | rw [c4b0] | (simp only [i64_w, i32_w]; rw [c4b0]) | skip)
   by_cases c6 : a0_0 > 6
   ·rw [if_pos c6] at H
    have c6b0 : decide (6 < a0_0) = true := decide_eq_true c6
    clear c6
    have H' := Aside0.mk H
    clear H
    have hcz7_0 : w3.cell? ⟨gb103, 0, none⟩ = some (.int .i64 a0_0) := (blk_cell BK103.out 0).trans rfl
    have hcz7_1 : w3.cell? ⟨gb103, 1, none⟩ = some (.int .i64 a0_1) := (blk_cell BK103.out 1).trans rfl
    have hcz7_2 : w3.cell? ⟨gb103, 2, none⟩ = some (.slice A0_2 l0_2.length c0_2) := (blk_cell BK103.out 2).trans rfl
    have hfz7_0 := blk_frozen BK103.out 0
    have hfz7_1 := blk_frozen BK103.out 1
    have hfz7_2 := blk_frozen BK103.out 2
    go_wp2
    go_meet
    case rel => exact ⟨_, (true), jr_, H', ⟨by first | omega | exact Nat.le_refl _⟩, ⟨pk_ BK103.out⟩, ⟨bk_ HB.out⟩⟩
   ·rw [if_neg c6] at H
    have c6b0 : decide (6 < a0_0) = false := decide_eq_false c6
    clear c6
    by_cases c8 : a0_1 < 2
    ·rw [if_pos c8] at H
     have c8b0 : decide (a0_1 < 2) = true := decide_eq_true c8
     clear c8
     have H' := Aside0.mk H
     clear H
     have hcz9_0 : w3.cell? ⟨gb103, 0, none⟩ = some (.int .i64 a0_0) := (blk_cell BK103.out 0).trans rfl
     have hcz9_1 : w3.cell? ⟨gb103, 1, none⟩ = some (.int .i64 a0_1) := (blk_cell BK103.out 1).trans rfl
     have hcz9_2 : w3.cell? ⟨gb103, 2, none⟩ = some (.slice A0_2 l0_2.length c0_2) := (blk_cell BK103.out 2).trans rfl
     have hfz9_0 := blk_frozen BK103.out 0
     have hfz9_1 := blk_frozen BK103.out 1
     have hfz9_2 := blk_frozen BK103.out 2
     go_wp2
     go_meet
     case rel => exact ⟨_, (true), jr_, H', ⟨by first | omega | exact Nat.le_refl _⟩, ⟨pk_ BK103.out⟩, ⟨bk_ HB.out⟩⟩
    ·rw [if_neg c8] at H
     have c8b0 : decide (a0_1 < 2) = false := decide_eq_false c8
     clear c8
     by_cases c10 : a0_1 > 4
     ·rw [if_pos c10] at H
      have c10b0 : decide (4 < a0_1) = true := decide_eq_true c10
      clear c10
      have H' := Aside0.mk H
      clear H
      have hcz11_0 : w3.cell? ⟨gb103, 0, none⟩ = some (.int .i64 a0_0) := (blk_cell BK103.out 0).trans rfl
      have hcz11_1 : w3.cell? ⟨gb103, 1, none⟩ = some (.int .i64 a0_1) := (blk_cell BK103.out 1).trans rfl
      have hcz11_2 : w3.cell? ⟨gb103, 2, none⟩ = some (.slice A0_2 l0_2.length c0_2) := (blk_cell BK103.out 2).trans rfl
      have hfz11_0 := blk_frozen BK103.out 0
      have hfz11_1 := blk_frozen BK103.out 1
      have hfz11_2 := blk_frozen BK103.out 2
      go_wp2
      go_meet
      case rel => exact ⟨_, (true), jr_, H', ⟨by first | omega | exact Nat.le_refl _⟩, ⟨pk_ BK103.out⟩, ⟨bk_ HB.out⟩⟩
     ·rw [if_neg c10] at H
      have c10b0 : decide (4 < a0_1) = false := decide_eq_false c10
      clear c10
      have H' := Aside0.mk H
      clear H
      have hcz12_0 : w3.cell? ⟨gb103, 0, none⟩ = some (.int .i64 a0_0) := (blk_cell BK103.out 0).trans rfl
      have hcz12_1 : w3.cell? ⟨gb103, 1, none⟩ = some (.int .i64 a0_1) := (blk_cell BK103.out 1).trans rfl
      have hcz12_2 : w3.cell? ⟨gb103, 2, none⟩ = some (.slice A0_2 l0_2.length c0_2) := (blk_cell BK103.out 2).trans rfl
      have hfz12_0 := blk_frozen BK103.out 0
      have hfz12_1 := blk_frozen BK103.out 1
      have hfz12_2 := blk_frozen BK103.out 2
      go_wp2
      go_meet
      case rel => exact ⟨_, (((l0_2.length : Int) != a0_0)), jr_, H', ⟨by first | omega | exact Nat.le_refl _⟩, ⟨pk_ BK103.out⟩, ⟨bk_ HB.out⟩⟩
 case rest =>
  clear HC2
  obtain ⟨kq, x32_1, rfl, HA, HJ1, BK103, HB⟩ := hcut
  cases kq with
  | zero => exact absurd HA.out (by simp [tape_Valid.j0])
  | succ kj1 =>
   have H := HA.out
   clear HA
   simp only [tape_Valid.j0] at H
   by_cases c13 : x32_1 = true
   ·subst c13
    have H1 : (some false) = some r := by rw [if_pos rfl] at H; exact H
    clear H
    have H := H1
    clear H1
    obtain rfl := Option.some.inj H
    go_wp2
    go_ret
    exact ⟨er_, bk_ HB.out⟩
   ·replace c13 := Bool.eq_false_iff.mpr c13
    subst c13
    have H1 : (tape_Valid.l0 kj1 l0_2 (l0_2.length : Int) 0 a0_0 a0_1 l0_2) = some r := by rw [if_neg (show ¬ (false = true) by decide)] at H; exact H
    clear H
    have H := H1
    clear H1
    have H' := Aside0.mk H
    clear H
    have hcz14_0 : wc.cell? ⟨gb103, 0, none⟩ = some (.int .i64 a0_0) := (blk_cell BK103.out 0).trans rfl
    have hcz14_1 : wc.cell? ⟨gb103, 1, none⟩ = some (.int .i64 a0_1) := (blk_cell BK103.out 1).trans rfl
    have hcz14_2 : wc.cell? ⟨gb103, 2, none⟩ = some (.slice A0_2 l0_2.length c0_2) := (blk_cell BK103.out 2).trans rfl
    have hfz14_0 := blk_frozen BK103.out 0
    have hfz14_1 := blk_frozen BK103.out 1
    have hfz14_2 := blk_frozen BK103.out 2
    go_wp2
    go_loopg [36] kj1 (fun kq v36 w' => ∃ (x36_2 : Int), v36 = .int .i64 x36_2 ∧ Aside0 (tape_Valid.l0 kq l0_2 (l0_2.length : Int) x36_2 a0_0 a0_1 l0_2 = some r) ∧ Aside0 (kq ≤ kj1) ∧ Aside0 (w'.heap[gb103]? = some (.cells #[.int .i64 a0_0, .int .i64 a0_1, (.slice A0_2 l0_2.length c0_2)] 24 (0, 0))) ∧ Aside0 (Below w.heap.size w w'))
    case atStart => exact ⟨(0), jr_, H', ⟨Nat.le_refl _⟩, ⟨pk_ BK103.out⟩, ⟨bk_ HB.out⟩⟩
    case round =>
     clear H'
     (try clear c13); (try clear hcz14_0); (try clear hcz14_1); (try clear hcz14_2); (try clear hfz14_0); (try clear hfz14_1); (try clear hfz14_2)
     obtain ⟨x36_2, rfl, HA, HK2, BK103, HB⟩ := hrel
     cases gk with
     | zero => exact absurd HA.out (by simp [tape_Valid.l0])
     | succ k2 =>
      have H := HA.out
      clear HA
      simp only [tape_Valid.l0] at H
      by_cases c15 : x36_2 < (l0_2.length : Int)
      ·rw [if_pos c15] at H
       have c15b0 : decide (x36_2 < (l0_2.length : Int)) = true := decide_eq_true c15
       clear c15
       by_cases c16 : 0 ≤ x36_2
       ·rw [if_pos c16] at H
        have c16b0 : decide (0 ≤ x36_2) = true := decide_eq_true c16
        clear c16
        by_cases c17 : x36_2 < (l0_2.length : Int)
        ·rw [if_pos c17] at H
         have c17b0 : decide (x36_2 < (l0_2.length : Int)) = true := decide_eq_true c17
         clear c17
         by_cases c18 : ((rd_L2 l0_2 x36_2).length : Int) = a0_1
         ·rw [if_pos c18] at H
          have c18b0 : (((rd_L2 l0_2 x36_2).length : Int) == a0_1) = true := beq_iff_eq.mpr c18
          have c18b1 : (((rd_L2 l0_2 x36_2).length : Int) != a0_1) = false := bne_eq_false_iff_eq.mpr c18
          clear c18
          have H' := Aside0.mk H
          clear H
          have p104 : 0 ≤ (x36_2 : Int) := od_
          have q104 : x36_2 < (l0_2.length : Int) := od_
          obtain ⟨ad104, A104_0, c104_0, e104, hx104_0, hl104_0, hi104_0⟩ := at_L2 HR0_2.out x36_2 p104 q104
          cases e104
          replace hx104_0 := lf_ HB.out hx104_0
          have HR104_0 := Aside0.mk hi104_0
          have HC104_0 := Aside0.mk hl104_0
          clear hi104_0 hl104_0
          replace p104 := eq_true p104
          replace q104 := eq_true q104
          have hcz19_0 : wr.cell? ⟨gb103, 0, none⟩ = some (.int .i64 a0_0) := (blk_cell BK103.out 0).trans rfl
          have hcz19_1 : wr.cell? ⟨gb103, 1, none⟩ = some (.int .i64 a0_1) := (blk_cell BK103.out 1).trans rfl
          have hcz19_2 : wr.cell? ⟨gb103, 2, none⟩ = some (.slice (some ad104) l0_2.length c0_2) := (blk_cell BK103.out 2).trans rfl
          have hfz19_0 := blk_frozen BK103.out 0
          have hfz19_1 := blk_frozen BK103.out 1
          have hfz19_2 := blk_frozen BK103.out 2
          go_wp2
          go_loopg [47] k2 (fun kq v47 w' => ∃ (x47_3 : Int), v47 = .int .i64 x47_3 ∧ Aside0 (tape_Valid.l1 kq l0_2 (l0_2.length : Int) x36_2 (rd_L2 l0_2 x36_2) ((rd_L2 l0_2 x36_2).length : Int) x47_3 a0_0 a0_1 l0_2 = some r) ∧ Aside0 (kq ≤ k2) ∧ Aside0 (w'.heap[gb103]? = some (.cells #[.int .i64 a0_0, .int .i64 a0_1, (.slice (some ad104) l0_2.length c0_2)] 24 (0, 0))) ∧ Aside0 (Below w.heap.size w w'))
          case atStart => exact ⟨(0), jr_, H', ⟨Nat.le_refl _⟩, ⟨pk_ BK103.out⟩, ⟨bk_ HB.out⟩⟩
          case round =>
           clear H'
           (try clear c13); (try clear c15); (try clear c15b0); (try clear c16); (try clear c16b0); (try clear c17); (try clear c17b0); (try clear c18); (try clear c18b0); (try clear c18b1); (try clear hcz14_0); (try clear hcz14_1); (try clear hcz14_2); (try clear hcz19_0); (try clear hcz19_1); (try clear hcz19_2); (try clear hfz14_0); (try clear hfz14_1); (try clear hfz14_2); (try clear hfz19_0); (try clear hfz19_1); (try clear hfz19_2); (try clear hx104_0); (try clear p104); (try clear q104)
           obtain ⟨x47_3, rfl, HA, HK3, BK103, HB⟩ := hrel
           cases gk with
           | zero => exact absurd HA.out (by simp [tape_Valid.l1])
           | succ k3 =>
            have H := HA.out
            clear HA
            simp only [tape_Valid.l1] at H
            by_cases c20 : x47_3 < ((rd_L2 l0_2 x36_2).length : Int)
            ·rw [if_pos c20] at H
             have c20b0 : decide (x47_3 < ((rd_L2 l0_2 x36_2).length : Int)) = true := decide_eq_true c20
             clear c20
             by_cases c21 : 0 ≤ x47_3
             ·rw [if_pos c21] at H
              have c21b0 : decide (0 ≤ x47_3) = true := decide_eq_true c21
              clear c21
              by_cases c22 : x47_3 < ((rd_L2 l0_2 x36_2).length : Int)
              ·rw [if_pos c22] at H
               have c22b0 : decide (x47_3 < ((rd_L2 l0_2 x36_2).length : Int)) = true := decide_eq_true c22
               clear c22
               by_cases c23 : ((rd_T57 (rd_L2 l0_2 x36_2) x47_3).f0) < 0
               ·rw [if_pos c23] at H
                have c23b0 : decide (((rd_T57 (rd_L2 l0_2 x36_2) x47_3).f0) < 0) = true := decide_eq_true c23
                clear c23
                obtain rfl := Option.some.inj H
                have p105 : 0 ≤ (x47_3 : Int) := od_
                have q105 : x47_3 < ((rd_L2 l0_2 x36_2).length : Int) := od_
                obtain ⟨ad105, e105, hx105_0, hx105_1, hx105_2⟩ := at_T57 HR104_0.out x47_3 p105 q105
                cases e105
                replace hx105_0 := lf_ HB.out hx105_0
                replace hx105_1 := lf_ HB.out hx105_1
                replace hx105_2 := lf_ HB.out hx105_2
                replace p105 := eq_true p105
                replace q105 := eq_true q105
                go_wp2_with (first | ((with_reducible refine gate_dst (N := 6) rfl ?_); (try (refine gate_guard (by rfl) ?_; dsimp only)); refine box_event ?hg (N := 6) ?hd (cs := #[.int .i64 0, .int .i64 0, .int .i64 0]) (t := 57) ?hr ?_; (case hd => rfl); (case hg => rfl); (case hr => first | (go_simp; done) | (go_simp; rfl)); intro gb106 hg w24 hbox hb; have n0_ := A_ (blk_below (pk_ BK103.out) hb); have n1_ := A_ (below_step (bk_ HB.out) hb); have n2_ := A_ (hbox); have n3_ := A_ ((by rw [hg]; exact (below_size (bk_ HB.out)) : w.heap.size ≤ gb106)); have n4_ := A_ ((by rw [hg]; exact (below_size (bk_ HB.out)) : w.heap.size ≤ gb106)); have n5_ := A_ ((by rw [hg]; exact Nat.ne_of_lt (blk_lt (pk_ BK103.out)) : gb103 ≠ gb106)); have n6_ := A_ ((by rw [hg]; exact Nat.ne_of_gt (blk_lt (pk_ BK103.out)) : gb106 ≠ gb103)); clear BK103 HB; have BK103 := n0_; have HB := n1_; have BK106 := n2_; have GW106 := n3_; have GE106 := n4_; have NB103_106 := n5_; have NB106_103 := n6_; clear n0_ n1_ n2_ n3_ n4_ n5_ n6_ hb hbox hg; have hnb25 := NB106_103.out; have hnc25 := NB103_106.out; have hcz26_0 : w24.cell? ⟨gb106, 0, none⟩ = some (.int .i64 0) := (blk_cell BK106.out 0).trans rfl; have hcz26_1 : w24.cell? ⟨gb106, 1, none⟩ = some (.int .i64 0) := (blk_cell BK106.out 1).trans rfl; have hcz26_2 : w24.cell? ⟨gb106, 2, none⟩ = some (.int .i64 0) := (blk_cell BK106.out 2).trans rfl; have hfz26_0 := blk_frozen BK106.out 0; have hfz26_1 := blk_frozen BK106.out 1; have hfz26_2 := blk_frozen BK106.out 2))
                go_ret
                exact ⟨er_, bk_ HB.out⟩
               ·rw [if_neg c23] at H
                have c23b0 : decide (((rd_T57 (rd_L2 l0_2 x36_2) x47_3).f0) < 0) = false := decide_eq_false c23
                clear c23
                by_cases c27 : ((rd_T57 (rd_L2 l0_2 x36_2) x47_3).f0) ≥ a0_1
                ·rw [if_pos c27] at H
                 have c27b0 : decide (a0_1 ≤ ((rd_T57 (rd_L2 l0_2 x36_2) x47_3).f0)) = true := decide_eq_true c27
                 clear c27
                 obtain rfl := Option.some.inj H
                 have p105 : 0 ≤ (x47_3 : Int) := od_
                 have q105 : x47_3 < ((rd_L2 l0_2 x36_2).length : Int) := od_
                 obtain ⟨ad105, e105, hx105_0, hx105_1, hx105_2⟩ := at_T57 HR104_0.out x47_3 p105 q105
                 cases e105
                 replace hx105_0 := lf_ HB.out hx105_0
                 replace hx105_1 := lf_ HB.out hx105_1
                 replace hx105_2 := lf_ HB.out hx105_2
                 replace p105 := eq_true p105
                 replace q105 := eq_true q105
                 go_wp2_with (first | ((with_reducible refine gate_dst (N := 6) rfl ?_); (try (refine gate_guard (by rfl) ?_; dsimp only)); refine box_event ?hg (N := 6) ?hd (cs := #[.int .i64 0, .int .i64 0, .int .i64 0]) (t := 57) ?hr ?_; (case hd => rfl); (case hg => rfl); (case hr => first | (go_simp; done) | (go_simp; rfl)); intro gb106 hg w28 hbox hb; have n0_ := A_ (blk_below (pk_ BK103.out) hb); have n1_ := A_ (below_step (bk_ HB.out) hb); have n2_ := A_ (hbox); have n3_ := A_ ((by rw [hg]; exact (below_size (bk_ HB.out)) : w.heap.size ≤ gb106)); have n4_ := A_ ((by rw [hg]; exact (below_size (bk_ HB.out)) : w.heap.size ≤ gb106)); have n5_ := A_ ((by rw [hg]; exact Nat.ne_of_lt (blk_lt (pk_ BK103.out)) : gb103 ≠ gb106)); have n6_ := A_ ((by rw [hg]; exact Nat.ne_of_gt (blk_lt (pk_ BK103.out)) : gb106 ≠ gb103)); clear BK103 HB; have BK103 := n0_; have HB := n1_; have BK106 := n2_; have GW106 := n3_; have GE106 := n4_; have NB103_106 := n5_; have NB106_103 := n6_; clear n0_ n1_ n2_ n3_ n4_ n5_ n6_ hb hbox hg; have hnb29 := NB106_103.out; have hnc29 := NB103_106.out; have hcz30_0 : w28.cell? ⟨gb106, 0, none⟩ = some (.int .i64 0) := (blk_cell BK106.out 0).trans rfl; have hcz30_1 : w28.cell? ⟨gb106, 1, none⟩ = some (.int .i64 0) := (blk_cell BK106.out 1).trans rfl; have hcz30_2 : w28.cell? ⟨gb106, 2, none⟩ = some (.int .i64 0) := (blk_cell BK106.out 2).trans rfl; have hfz30_0 := blk_frozen BK106.out 0; have hfz30_1 := blk_frozen BK106.out 1; have hfz30_2 := blk_frozen BK106.out 2; have hcz31_0 : w28.cell? ⟨gb103, 0, none⟩ = some (.int .i64 a0_0) := (blk_cell BK103.out 0).trans rfl; have hcz31_1 : w28.cell? ⟨gb103, 1, none⟩ = some (.int .i64 a0_1) := (blk_cell BK103.out 1).trans rfl; have hcz31_2 : w28.cell? ⟨gb103, 2, none⟩ = some (.slice (some ad104) l0_2.length c0_2) := (blk_cell BK103.out 2).trans rfl; have hfz31_0 := blk_frozen BK103.out 0; have hfz31_1 := blk_frozen BK103.out 1; have hfz31_2 := blk_frozen BK103.out 2))
                 go_ret
                 exact ⟨er_, bk_ HB.out⟩
                ·rw [if_neg c27] at H
                 have c27b0 : decide (a0_1 ≤ ((rd_T57 (rd_L2 l0_2 x36_2) x47_3).f0)) = false := decide_eq_false c27
                 clear c27
                 by_cases c32 : ((rd_T57 (rd_L2 l0_2 x36_2) x47_3).f1) = (-1)
                 ·rw [if_pos c32] at H
                  have c32b0 : (((rd_T57 (rd_L2 l0_2 x36_2) x47_3).f1) == (-1)) = true := beq_iff_eq.mpr c32
                  have c32b1 : (((rd_T57 (rd_L2 l0_2 x36_2) x47_3).f1) != (-1)) = false := bne_eq_false_iff_eq.mpr c32
                  clear c32
                  by_cases c33 : ((rd_T57 (rd_L2 l0_2 x36_2) x47_3).f2) < (-1)
                  ·rw [if_pos c33] at H
                   have c33b0 : decide (((rd_T57 (rd_L2 l0_2 x36_2) x47_3).f2) < (-1)) = true := decide_eq_true c33
                   clear c33
                   obtain rfl := Option.some.inj H
                   have p105 : 0 ≤ (x47_3 : Int) := od_
                   have q105 : x47_3 < ((rd_L2 l0_2 x36_2).length : Int) := od_
                   obtain ⟨ad105, e105, hx105_0, hx105_1, hx105_2⟩ := at_T57 HR104_0.out x47_3 p105 q105
                   cases e105
                   replace hx105_0 := lf_ HB.out hx105_0
                   replace hx105_1 := lf_ HB.out hx105_1
                   replace hx105_2 := lf_ HB.out hx105_2
                   replace p105 := eq_true p105
                   replace q105 := eq_true q105
                   go_wp2_with (first | ((with_reducible refine gate_dst (N := 6) rfl ?_); (try (refine gate_guard (by rfl) ?_; dsimp only)); refine box_event ?hg (N := 6) ?hd (cs := #[.int .i64 0, .int .i64 0, .int .i64 0]) (t := 57) ?hr ?_; (case hd => rfl); (case hg => rfl); (case hr => first | (go_simp; done) | (go_simp; rfl)); intro gb106 hg w34 hbox hb; have n0_ := A_ (blk_below (pk_ BK103.out) hb); have n1_ := A_ (below_step (bk_ HB.out) hb); have n2_ := A_ (hbox); have n3_ := A_ ((by rw [hg]; exact (below_size (bk_ HB.out)) : w.heap.size ≤ gb106)); have n4_ := A_ ((by rw [hg]; exact (below_size (bk_ HB.out)) : w.heap.size ≤ gb106)); have n5_ := A_ ((by rw [hg]; exact Nat.ne_of_lt (blk_lt (pk_ BK103.out)) : gb103 ≠ gb106)); have n6_ := A_ ((by rw [hg]; exact Nat.ne_of_gt (blk_lt (pk_ BK103.out)) : gb106 ≠ gb103)); clear BK103 HB; have BK103 := n0_; have HB := n1_; have BK106 := n2_; have GW106 := n3_; have GE106 := n4_; have NB103_106 := n5_; have NB106_103 := n6_; clear n0_ n1_ n2_ n3_ n4_ n5_ n6_ hb hbox hg; have hnb35 := NB106_103.out; have hnc35 := NB103_106.out; have hcz36_0 : w34.cell? ⟨gb106, 0, none⟩ = some (.int .i64 0) := (blk_cell BK106.out 0).trans rfl; have hcz36_1 : w34.cell? ⟨gb106, 1, none⟩ = some (.int .i64 0) := (blk_cell BK106.out 1).trans rfl; have hcz36_2 : w34.cell? ⟨gb106, 2, none⟩ = some (.int .i64 0) := (blk_cell BK106.out 2).trans rfl; have hfz36_0 := blk_frozen BK106.out 0; have hfz36_1 := blk_frozen BK106.out 1; have hfz36_2 := blk_frozen BK106.out 2; have hcz37_0 : w34.cell? ⟨gb103, 0, none⟩ = some (.int .i64 a0_0) := (blk_cell BK103.out 0).trans rfl; have hcz37_1 : w34.cell? ⟨gb103, 1, none⟩ = some (.int .i64 a0_1) := (blk_cell BK103.out 1).trans rfl; have hcz37_2 : w34.cell? ⟨gb103, 2, none⟩ = some (.slice (some ad104) l0_2.length c0_2) := (blk_cell BK103.out 2).trans rfl; have hfz37_0 := blk_frozen BK103.out 0; have hfz37_1 := blk_frozen BK103.out 1; have hfz37_2 := blk_frozen BK103.out 2))
                   go_ret
                   exact ⟨er_, bk_ HB.out⟩
                  ·rw [if_neg c33] at H
                   have c33b0 : decide (((rd_T57 (rd_L2 l0_2 x36_2) x47_3).f2) < (-1)) = false := decide_eq_false c33
                   clear c33
                   by_cases c38 : ((rd_T57 (rd_L2 l0_2 x36_2) x47_3).f2) ≥ a0_0
                   ·rw [if_pos c38] at H
                    have c38b0 : decide (a0_0 ≤ ((rd_T57 (rd_L2 l0_2 x36_2) x47_3).f2)) = true := decide_eq_true c38
                    clear c38
                    obtain rfl := Option.some.inj H
                    have p105 : 0 ≤ (x47_3 : Int) := od_
                    have q105 : x47_3 < ((rd_L2 l0_2 x36_2).length : Int) := od_
                    obtain ⟨ad105, e105, hx105_0, hx105_1, hx105_2⟩ := at_T57 HR104_0.out x47_3 p105 q105
                    cases e105
                    replace hx105_0 := lf_ HB.out hx105_0
                    replace hx105_1 := lf_ HB.out hx105_1
                    replace hx105_2 := lf_ HB.out hx105_2
                    replace p105 := eq_true p105
                    replace q105 := eq_true q105
                    go_wp2_with (first | ((with_reducible refine gate_dst (N := 6) rfl ?_); (try (refine gate_guard (by rfl) ?_; dsimp only)); refine box_event ?hg (N := 6) ?hd (cs := #[.int .i64 0, .int .i64 0, .int .i64 0]) (t := 57) ?hr ?_; (case hd => rfl); (case hg => rfl); (case hr => first | (go_simp; done) | (go_simp; rfl)); intro gb106 hg w39 hbox hb; have n0_ := A_ (blk_below (pk_ BK103.out) hb); have n1_ := A_ (below_step (bk_ HB.out) hb); have n2_ := A_ (hbox); have n3_ := A_ ((by rw [hg]; exact (below_size (bk_ HB.out)) : w.heap.size ≤ gb106)); have n4_ := A_ ((by rw [hg]; exact (below_size (bk_ HB.out)) : w.heap.size ≤ gb106)); have n5_ := A_ ((by rw [hg]; exact Nat.ne_of_lt (blk_lt (pk_ BK103.out)) : gb103 ≠ gb106)); have n6_ := A_ ((by rw [hg]; exact Nat.ne_of_gt (blk_lt (pk_ BK103.out)) : gb106 ≠ gb103)); clear BK103 HB; have BK103 := n0_; have HB := n1_; have BK106 := n2_; have GW106 := n3_; have GE106 := n4_; have NB103_106 := n5_; have NB106_103 := n6_; clear n0_ n1_ n2_ n3_ n4_ n5_ n6_ hb hbox hg; have hnb40 := NB106_103.out; have hnc40 := NB103_106.out; have hcz41_0 : w39.cell? ⟨gb106, 0, none⟩ = some (.int .i64 0) := (blk_cell BK106.out 0).trans rfl; have hcz41_1 : w39.cell? ⟨gb106, 1, none⟩ = some (.int .i64 0) := (blk_cell BK106.out 1).trans rfl; have hcz41_2 : w39.cell? ⟨gb106, 2, none⟩ = some (.int .i64 0) := (blk_cell BK106.out 2).trans rfl; have hfz41_0 := blk_frozen BK106.out 0; have hfz41_1 := blk_frozen BK106.out 1; have hfz41_2 := blk_frozen BK106.out 2; have hcz42_0 : w39.cell? ⟨gb103, 0, none⟩ = some (.int .i64 a0_0) := (blk_cell BK103.out 0).trans rfl; have hcz42_1 : w39.cell? ⟨gb103, 1, none⟩ = some (.int .i64 a0_1) := (blk_cell BK103.out 1).trans rfl; have hcz42_2 : w39.cell? ⟨gb103, 2, none⟩ = some (.slice (some ad104) l0_2.length c0_2) := (blk_cell BK103.out 2).trans rfl; have hfz42_0 := blk_frozen BK103.out 0; have hfz42_1 := blk_frozen BK103.out 1; have hfz42_2 := blk_frozen BK103.out 2))
                    go_ret
                    exact ⟨er_, bk_ HB.out⟩
                   ·rw [if_neg c38] at H
                    have c38b0 : decide (a0_0 ≤ ((rd_T57 (rd_L2 l0_2 x36_2) x47_3).f2)) = false := decide_eq_false c38
                    clear c38
                    have H' := Aside0.mk H
                    clear H
                    have p105 : 0 ≤ (x47_3 : Int) := od_
                    have q105 : x47_3 < ((rd_L2 l0_2 x36_2).length : Int) := od_
                    obtain ⟨ad105, e105, hx105_0, hx105_1, hx105_2⟩ := at_T57 HR104_0.out x47_3 p105 q105
                    cases e105
                    replace hx105_0 := lf_ HB.out hx105_0
                    replace hx105_1 := lf_ HB.out hx105_1
                    replace hx105_2 := lf_ HB.out hx105_2
                    replace p105 := eq_true p105
                    replace q105 := eq_true q105
                    go_wp2_with (first | ((with_reducible refine gate_dst (N := 6) rfl ?_); (try (refine gate_guard (by rfl) ?_; dsimp only)); refine box_event ?hg (N := 6) ?hd (cs := #[.int .i64 0, .int .i64 0, .int .i64 0]) (t := 57) ?hr ?_; (case hd => rfl); (case hg => rfl); (case hr => first | (go_simp; done) | (go_simp; rfl)); intro gb106 hg w43 hbox hb; have n0_ := A_ (blk_below (pk_ BK103.out) hb); have n1_ := A_ (below_step (bk_ HB.out) hb); have n2_ := A_ (hbox); have n3_ := A_ ((by rw [hg]; exact (below_size (bk_ HB.out)) : w.heap.size ≤ gb106)); have n4_ := A_ ((by rw [hg]; exact (below_size (bk_ HB.out)) : w.heap.size ≤ gb106)); have n5_ := A_ ((by rw [hg]; exact Nat.ne_of_lt (blk_lt (pk_ BK103.out)) : gb103 ≠ gb106)); have n6_ := A_ ((by rw [hg]; exact Nat.ne_of_gt (blk_lt (pk_ BK103.out)) : gb106 ≠ gb103)); clear BK103 HB; have BK103 := n0_; have HB := n1_; have BK106 := n2_; have GW106 := n3_; have GE106 := n4_; have NB103_106 := n5_; have NB106_103 := n6_; clear n0_ n1_ n2_ n3_ n4_ n5_ n6_ hb hbox hg; have hnb44 := NB106_103.out; have hnc44 := NB103_106.out; have hcz45_0 : w43.cell? ⟨gb106, 0, none⟩ = some (.int .i64 0) := (blk_cell BK106.out 0).trans rfl; have hcz45_1 : w43.cell? ⟨gb106, 1, none⟩ = some (.int .i64 0) := (blk_cell BK106.out 1).trans rfl; have hcz45_2 : w43.cell? ⟨gb106, 2, none⟩ = some (.int .i64 0) := (blk_cell BK106.out 2).trans rfl; have hfz45_0 := blk_frozen BK106.out 0; have hfz45_1 := blk_frozen BK106.out 1; have hfz45_2 := blk_frozen BK106.out 2; have hcz46_0 : w43.cell? ⟨gb103, 0, none⟩ = some (.int .i64 a0_0) := (blk_cell BK103.out 0).trans rfl; have hcz46_1 : w43.cell? ⟨gb103, 1, none⟩ = some (.int .i64 a0_1) := (blk_cell BK103.out 1).trans rfl; have hcz46_2 : w43.cell? ⟨gb103, 2, none⟩ = some (.slice (some ad104) l0_2.length c0_2) := (blk_cell BK103.out 2).trans rfl; have hfz46_0 := blk_frozen BK103.out 0; have hfz46_1 := blk_frozen BK103.out 1; have hfz46_2 := blk_frozen BK103.out 2))
                    go_roundg k3
                    case measure => have := HJ1.out; have := HK2.out; have := HK3.out; omega
                    case rel => exact ⟨(wrap64 (x47_3 + 1)), jr_, H', ⟨by have := HJ1.out; have := HK2.out; have := HK3.out; omega⟩, ⟨by refine pk_ ?_; refine blk_far ?_ NB103_106.out _; refine pk_ ?_; refine blk_far ?_ NB103_106.out _; refine pk_ ?_; refine blk_far ?_ NB103_106.out _; exact pk_ BK103.out⟩, ⟨bk_ HB.out⟩⟩
                 ·rw [if_neg c32] at H
                  have c32b0 : (((rd_T57 (rd_L2 l0_2 x36_2) x47_3).f1) == (-1)) = false := beq_eq_false_iff_ne.mpr c32
                  have c32b1 : (((rd_T57 (rd_L2 l0_2 x36_2) x47_3).f1) != (-1)) = true := bne_iff_ne.mpr c32
                  by_cases c47 : ((rd_T57 (rd_L2 l0_2 x36_2) x47_3).f1) = 1
                  ·rw [if_pos c47] at H
                   have c47b0 : (((rd_T57 (rd_L2 l0_2 x36_2) x47_3).f1) == 1) = true := beq_iff_eq.mpr c47
                   have c47b1 : (((rd_T57 (rd_L2 l0_2 x36_2) x47_3).f1) != 1) = false := bne_eq_false_iff_eq.mpr c47
                   clear c47
                   by_cases c48 : ((rd_T57 (rd_L2 l0_2 x36_2) x47_3).f2) < (-1)
                   ·rw [if_pos c48] at H
                    have c48b0 : decide (((rd_T57 (rd_L2 l0_2 x36_2) x47_3).f2) < (-1)) = true := decide_eq_true c48
                    clear c48
                    obtain rfl := Option.some.inj H
                    have p105 : 0 ≤ (x47_3 : Int) := od_
                    have q105 : x47_3 < ((rd_L2 l0_2 x36_2).length : Int) := od_
                    obtain ⟨ad105, e105, hx105_0, hx105_1, hx105_2⟩ := at_T57 HR104_0.out x47_3 p105 q105
                    cases e105
                    replace hx105_0 := lf_ HB.out hx105_0
                    replace hx105_1 := lf_ HB.out hx105_1
                    replace hx105_2 := lf_ HB.out hx105_2
                    replace p105 := eq_true p105
                    replace q105 := eq_true q105
                    go_wp2_with (first | ((with_reducible refine gate_dst (N := 6) rfl ?_); (try (refine gate_guard (by rfl) ?_; dsimp only)); refine box_event ?hg (N := 6) ?hd (cs := #[.int .i64 0, .int .i64 0, .int .i64 0]) (t := 57) ?hr ?_; (case hd => rfl); (case hg => rfl); (case hr => first | (go_simp; done) | (go_simp; rfl)); intro gb106 hg w49 hbox hb; have n0_ := A_ (blk_below (pk_ BK103.out) hb); have n1_ := A_ (below_step (bk_ HB.out) hb); have n2_ := A_ (hbox); have n3_ := A_ ((by rw [hg]; exact (below_size (bk_ HB.out)) : w.heap.size ≤ gb106)); have n4_ := A_ ((by rw [hg]; exact (below_size (bk_ HB.out)) : w.heap.size ≤ gb106)); have n5_ := A_ ((by rw [hg]; exact Nat.ne_of_lt (blk_lt (pk_ BK103.out)) : gb103 ≠ gb106)); have n6_ := A_ ((by rw [hg]; exact Nat.ne_of_gt (blk_lt (pk_ BK103.out)) : gb106 ≠ gb103)); clear BK103 HB; have BK103 := n0_; have HB := n1_; have BK106 := n2_; have GW106 := n3_; have GE106 := n4_; have NB103_106 := n5_; have NB106_103 := n6_; clear n0_ n1_ n2_ n3_ n4_ n5_ n6_ hb hbox hg; have hnb50 := NB106_103.out; have hnc50 := NB103_106.out; have hcz51_0 : w49.cell? ⟨gb106, 0, none⟩ = some (.int .i64 0) := (blk_cell BK106.out 0).trans rfl; have hcz51_1 : w49.cell? ⟨gb106, 1, none⟩ = some (.int .i64 0) := (blk_cell BK106.out 1).trans rfl; have hcz51_2 : w49.cell? ⟨gb106, 2, none⟩ = some (.int .i64 0) := (blk_cell BK106.out 2).trans rfl; have hfz51_0 := blk_frozen BK106.out 0; have hfz51_1 := blk_frozen BK106.out 1; have hfz51_2 := blk_frozen BK106.out 2; have hcz52_0 : w49.cell? ⟨gb103, 0, none⟩ = some (.int .i64 a0_0) := (blk_cell BK103.out 0).trans rfl; have hcz52_1 : w49.cell? ⟨gb103, 1, none⟩ = some (.int .i64 a0_1) := (blk_cell BK103.out 1).trans rfl; have hcz52_2 : w49.cell? ⟨gb103, 2, none⟩ = some (.slice (some ad104) l0_2.length c0_2) := (blk_cell BK103.out 2).trans rfl; have hfz52_0 := blk_frozen BK103.out 0; have hfz52_1 := blk_frozen BK103.out 1; have hfz52_2 := blk_frozen BK103.out 2))
                    go_ret
                    exact ⟨er_, bk_ HB.out⟩
                   ·rw [if_neg c48] at H
                    have c48b0 : decide (((rd_T57 (rd_L2 l0_2 x36_2) x47_3).f2) < (-1)) = false := decide_eq_false c48
                    clear c48
                    by_cases c53 : ((rd_T57 (rd_L2 l0_2 x36_2) x47_3).f2) ≥ a0_0
                    ·rw [if_pos c53] at H
                     have c53b0 : decide (a0_0 ≤ ((rd_T57 (rd_L2 l0_2 x36_2) x47_3).f2)) = true := decide_eq_true c53
                     clear c53
                     obtain rfl := Option.some.inj H
                     have p105 : 0 ≤ (x47_3 : Int) := od_
                     have q105 : x47_3 < ((rd_L2 l0_2 x36_2).length : Int) := od_
                     obtain ⟨ad105, e105, hx105_0, hx105_1, hx105_2⟩ := at_T57 HR104_0.out x47_3 p105 q105
                     cases e105
                     replace hx105_0 := lf_ HB.out hx105_0
                     replace hx105_1 := lf_ HB.out hx105_1
                     replace hx105_2 := lf_ HB.out hx105_2
                     replace p105 := eq_true p105
                     replace q105 := eq_true q105
                     go_wp2_with (first | ((with_reducible refine gate_dst (N := 6) rfl ?_); (try (refine gate_guard (by rfl) ?_; dsimp only)); refine box_event ?hg (N := 6) ?hd (cs := #[.int .i64 0, .int .i64 0, .int .i64 0]) (t := 57) ?hr ?_; (case hd => rfl); (case hg => rfl); (case hr => first | (go_simp; done) | (go_simp; rfl)); intro gb106 hg w54 hbox hb; have n0_ := A_ (blk_below (pk_ BK103.out) hb); have n1_ := A_ (below_step (bk_ HB.out) hb); have n2_ := A_ (hbox); have n3_ := A_ ((by rw [hg]; exact (below_size (bk_ HB.out)) : w.heap.size ≤ gb106)); have n4_ := A_ ((by rw [hg]; exact (below_size (bk_ HB.out)) : w.heap.size ≤ gb106)); have n5_ := A_ ((by rw [hg]; exact Nat.ne_of_lt (blk_lt (pk_ BK103.out)) : gb103 ≠ gb106)); have n6_ := A_ ((by rw [hg]; exact Nat.ne_of_gt (blk_lt (pk_ BK103.out)) : gb106 ≠ gb103)); clear BK103 HB; have BK103 := n0_; have HB := n1_; have BK106 := n2_; have GW106 := n3_; have GE106 := n4_; have NB103_106 := n5_; have NB106_103 := n6_; clear n0_ n1_ n2_ n3_ n4_ n5_ n6_ hb hbox hg; have hnb55 := NB106_103.out; have hnc55 := NB103_106.out; have hcz56_0 : w54.cell? ⟨gb106, 0, none⟩ = some (.int .i64 0) := (blk_cell BK106.out 0).trans rfl; have hcz56_1 : w54.cell? ⟨gb106, 1, none⟩ = some (.int .i64 0) := (blk_cell BK106.out 1).trans rfl; have hcz56_2 : w54.cell? ⟨gb106, 2, none⟩ = some (.int .i64 0) := (blk_cell BK106.out 2).trans rfl; have hfz56_0 := blk_frozen BK106.out 0; have hfz56_1 := blk_frozen BK106.out 1; have hfz56_2 := blk_frozen BK106.out 2; have hcz57_0 : w54.cell? ⟨gb103, 0, none⟩ = some (.int .i64 a0_0) := (blk_cell BK103.out 0).trans rfl; have hcz57_1 : w54.cell? ⟨gb103, 1, none⟩ = some (.int .i64 a0_1) := (blk_cell BK103.out 1).trans rfl; have hcz57_2 : w54.cell? ⟨gb103, 2, none⟩ = some (.slice (some ad104) l0_2.length c0_2) := (blk_cell BK103.out 2).trans rfl; have hfz57_0 := blk_frozen BK103.out 0; have hfz57_1 := blk_frozen BK103.out 1; have hfz57_2 := blk_frozen BK103.out 2))
                     go_ret
                     exact ⟨er_, bk_ HB.out⟩
                    ·rw [if_neg c53] at H
                     have c53b0 : decide (a0_0 ≤ ((rd_T57 (rd_L2 l0_2 x36_2) x47_3).f2)) = false := decide_eq_false c53
                     clear c53
                     have H' := Aside0.mk H
                     clear H
                     have p105 : 0 ≤ (x47_3 : Int) := od_
                     have q105 : x47_3 < ((rd_L2 l0_2 x36_2).length : Int) := od_
                     obtain ⟨ad105, e105, hx105_0, hx105_1, hx105_2⟩ := at_T57 HR104_0.out x47_3 p105 q105
                     cases e105
                     replace hx105_0 := lf_ HB.out hx105_0
                     replace hx105_1 := lf_ HB.out hx105_1
                     replace hx105_2 := lf_ HB.out hx105_2
                     replace p105 := eq_true p105
                     replace q105 := eq_true q105
                     go_wp2_with (first | ((with_reducible refine gate_dst (N := 6) rfl ?_); (try (refine gate_guard (by rfl) ?_; dsimp only)); refine box_event ?hg (N := 6) ?hd (cs := #[.int .i64 0, .int .i64 0, .int .i64 0]) (t := 57) ?hr ?_; (case hd => rfl); (case hg => rfl); (case hr => first | (go_simp; done) | (go_simp; rfl)); intro gb106 hg w58 hbox hb; have n0_ := A_ (blk_below (pk_ BK103.out) hb); have n1_ := A_ (below_step (bk_ HB.out) hb); have n2_ := A_ (hbox); have n3_ := A_ ((by rw [hg]; exact (below_size (bk_ HB.out)) : w.heap.size ≤ gb106)); have n4_ := A_ ((by rw [hg]; exact (below_size (bk_ HB.out)) : w.heap.size ≤ gb106)); have n5_ := A_ ((by rw [hg]; exact Nat.ne_of_lt (blk_lt (pk_ BK103.out)) : gb103 ≠ gb106)); have n6_ := A_ ((by rw [hg]; exact Nat.ne_of_gt (blk_lt (pk_ BK103.out)) : gb106 ≠ gb103)); clear BK103 HB; have BK103 := n0_; have HB := n1_; have BK106 := n2_; have GW106 := n3_; have GE106 := n4_; have NB103_106 := n5_; have NB106_103 := n6_; clear n0_ n1_ n2_ n3_ n4_ n5_ n6_ hb hbox hg; have hnb59 := NB106_103.out; have hnc59 := NB103_106.out; have hcz60_0 : w58.cell? ⟨gb106, 0, none⟩ = some (.int .i64 0) := (blk_cell BK106.out 0).trans rfl; have hcz60_1 : w58.cell? ⟨gb106, 1, none⟩ = some (.int .i64 0) := (blk_cell BK106.out 1).trans rfl; have hcz60_2 : w58.cell? ⟨gb106, 2, none⟩ = some (.int .i64 0) := (blk_cell BK106.out 2).trans rfl; have hfz60_0 := blk_frozen BK106.out 0; have hfz60_1 := blk_frozen BK106.out 1; have hfz60_2 := blk_frozen BK106.out 2; have hcz61_0 : w58.cell? ⟨gb103, 0, none⟩ = some (.int .i64 a0_0) := (blk_cell BK103.out 0).trans rfl; have hcz61_1 : w58.cell? ⟨gb103, 1, none⟩ = some (.int .i64 a0_1) := (blk_cell BK103.out 1).trans rfl; have hcz61_2 : w58.cell? ⟨gb103, 2, none⟩ = some (.slice (some ad104) l0_2.length c0_2) := (blk_cell BK103.out 2).trans rfl; have hfz61_0 := blk_frozen BK103.out 0; have hfz61_1 := blk_frozen BK103.out 1; have hfz61_2 := blk_frozen BK103.out 2))
                     go_roundg k3
                     case measure => have := HJ1.out; have := HK2.out; have := HK3.out; omega
                     case rel => exact ⟨(wrap64 (x47_3 + 1)), jr_, H', ⟨by have := HJ1.out; have := HK2.out; have := HK3.out; omega⟩, ⟨by refine pk_ ?_; refine blk_far ?_ NB103_106.out _; refine pk_ ?_; refine blk_far ?_ NB103_106.out _; refine pk_ ?_; refine blk_far ?_ NB103_106.out _; exact pk_ BK103.out⟩, ⟨bk_ HB.out⟩⟩
                  ·rw [if_neg c47] at H
                   have c47b0 : (((rd_T57 (rd_L2 l0_2 x36_2) x47_3).f1) == 1) = false := beq_eq_false_iff_ne.mpr c47
                   have c47b1 : (((rd_T57 (rd_L2 l0_2 x36_2) x47_3).f1) != 1) = true := bne_iff_ne.mpr c47
                   obtain rfl := Option.some.inj H
                   have p105 : 0 ≤ (x47_3 : Int) := od_
                   have q105 : x47_3 < ((rd_L2 l0_2 x36_2).length : Int) := od_
                   obtain ⟨ad105, e105, hx105_0, hx105_1, hx105_2⟩ := at_T57 HR104_0.out x47_3 p105 q105
                   cases e105
                   replace hx105_0 := lf_ HB.out hx105_0
                   replace hx105_1 := lf_ HB.out hx105_1
                   replace hx105_2 := lf_ HB.out hx105_2
                   replace p105 := eq_true p105
                   replace q105 := eq_true q105
                   go_wp2_with (first | ((with_reducible refine gate_dst (N := 6) rfl ?_); (try (refine gate_guard (by rfl) ?_; dsimp only)); refine box_event ?hg (N := 6) ?hd (cs := #[.int .i64 0, .int .i64 0, .int .i64 0]) (t := 57) ?hr ?_; (case hd => rfl); (case hg => rfl); (case hr => first | (go_simp; done) | (go_simp; rfl)); intro gb106 hg w62 hbox hb; have n0_ := A_ (blk_below (pk_ BK103.out) hb); have n1_ := A_ (below_step (bk_ HB.out) hb); have n2_ := A_ (hbox); have n3_ := A_ ((by rw [hg]; exact (below_size (bk_ HB.out)) : w.heap.size ≤ gb106)); have n4_ := A_ ((by rw [hg]; exact (below_size (bk_ HB.out)) : w.heap.size ≤ gb106)); have n5_ := A_ ((by rw [hg]; exact Nat.ne_of_lt (blk_lt (pk_ BK103.out)) : gb103 ≠ gb106)); have n6_ := A_ ((by rw [hg]; exact Nat.ne_of_gt (blk_lt (pk_ BK103.out)) : gb106 ≠ gb103)); clear BK103 HB; have BK103 := n0_; have HB := n1_; have BK106 := n2_; have GW106 := n3_; have GE106 := n4_; have NB103_106 := n5_; have NB106_103 := n6_; clear n0_ n1_ n2_ n3_ n4_ n5_ n6_ hb hbox hg; have hnb63 := NB106_103.out; have hnc63 := NB103_106.out; have hcz64_0 : w62.cell? ⟨gb106, 0, none⟩ = some (.int .i64 0) := (blk_cell BK106.out 0).trans rfl; have hcz64_1 : w62.cell? ⟨gb106, 1, none⟩ = some (.int .i64 0) := (blk_cell BK106.out 1).trans rfl; have hcz64_2 : w62.cell? ⟨gb106, 2, none⟩ = some (.int .i64 0) := (blk_cell BK106.out 2).trans rfl; have hfz64_0 := blk_frozen BK106.out 0; have hfz64_1 := blk_frozen BK106.out 1; have hfz64_2 := blk_frozen BK106.out 2; have hcz65_0 : w62.cell? ⟨gb103, 0, none⟩ = some (.int .i64 a0_0) := (blk_cell BK103.out 0).trans rfl; have hcz65_1 : w62.cell? ⟨gb103, 1, none⟩ = some (.int .i64 a0_1) := (blk_cell BK103.out 1).trans rfl; have hcz65_2 : w62.cell? ⟨gb103, 2, none⟩ = some (.slice (some ad104) l0_2.length c0_2) := (blk_cell BK103.out 2).trans rfl; have hfz65_0 := blk_frozen BK103.out 0; have hfz65_1 := blk_frozen BK103.out 1; have hfz65_2 := blk_frozen BK103.out 2))
                   go_ret
                   exact ⟨er_, bk_ HB.out⟩
              ·rw [if_neg c22] at H
               exact absurd H (by simp)
             ·rw [if_neg c21] at H
              exact absurd H (by simp)
            ·rw [if_neg c20] at H
             have c20b0 : decide (x47_3 < ((rd_L2 l0_2 x36_2).length : Int)) = false := decide_eq_false c20
             clear c20
             have H' := Aside0.mk H
             clear H
             go_wp2
             go_roundg k3
             case measure => have := HJ1.out; have := HK2.out; have := HK3.out; omega
             case rel => exact ⟨(wrap64 (x36_2 + 1)), jr_, H', ⟨by have := HJ1.out; have := HK2.out; have := HK3.out; omega⟩, ⟨pk_ BK103.out⟩, ⟨bk_ HB.out⟩⟩
         ·rw [if_neg c18] at H
          have c18b0 : (((rd_L2 l0_2 x36_2).length : Int) == a0_1) = false := beq_eq_false_iff_ne.mpr c18
          have c18b1 : (((rd_L2 l0_2 x36_2).length : Int) != a0_1) = true := bne_iff_ne.mpr c18
          obtain rfl := Option.some.inj H
          have p104 : 0 ≤ (x36_2 : Int) := od_
          have q104 : x36_2 < (l0_2.length : Int) := od_
          obtain ⟨ad104, A104_0, c104_0, e104, hx104_0, hl104_0, hi104_0⟩ := at_L2 HR0_2.out x36_2 p104 q104
          cases e104
          replace hx104_0 := lf_ HB.out hx104_0
          have HR104_0 := Aside0.mk hi104_0
          have HC104_0 := Aside0.mk hl104_0
          clear hi104_0 hl104_0
          replace p104 := eq_true p104
          replace q104 := eq_true q104
          have hcz66_0 : wr.cell? ⟨gb103, 0, none⟩ = some (.int .i64 a0_0) := (blk_cell BK103.out 0).trans rfl
          have hcz66_1 : wr.cell? ⟨gb103, 1, none⟩ = some (.int .i64 a0_1) := (blk_cell BK103.out 1).trans rfl
          have hcz66_2 : wr.cell? ⟨gb103, 2, none⟩ = some (.slice (some ad104) l0_2.length c0_2) := (blk_cell BK103.out 2).trans rfl
          have hfz66_0 := blk_frozen BK103.out 0
          have hfz66_1 := blk_frozen BK103.out 1
          have hfz66_2 := blk_frozen BK103.out 2
          go_wp2
          go_ret
          exact ⟨er_, bk_ HB.out⟩
        ·rw [if_neg c17] at H
         exact absurd H (by simp)
       ·rw [if_neg c16] at H
        exact absurd H (by simp)
      ·rw [if_neg c15] at H
       have c15b0 : decide (x36_2 < (l0_2.length : Int)) = false := decide_eq_false c15
       clear c15
       obtain rfl := Option.some.inj H
       go_wp2
       go_ret
       exact ⟨er_, bk_ HB.out⟩

/-! ### slices_Clone_int_int: function 33 (by hand) -/
def slices_Clone_int_int.f (l0 : List Int) : Option (List Int) := if l0.length < 17592186044416 then (some l0) else (none)
set_option maxHeartbeats 8000000 in
set_option maxRecDepth 100000 in
theorem slices_Clone_int_int.calls (A0 : Option Addr) (c0 : Nat) (l0 : List Int) (r : List Int) (w : World) (hr0 : Kd.C (Kd.int .i64) w A0 l0.length l0) (hc0 : l0.length ≤ c0) (h : slices_Clone_int_int.f l0 = some r) :
    Calls Try.prog 33 #[.slice A0 l0.length c0] w fun e w' => ∃ v0_ : Value, e = .returned (v0_) ∧ Kd.R (Kd.int .i64) 3 w' w.heap.size (fun _ => True) v0_ r ∧ Below w.heap.size w w' := by
  have qn_ : ∀ (w : World) (a : Option Addr) (n c n' c' : Nat), (binOp .eql 25 (.slice a n c) (.slice none n' c')).run Try.prog w = .ok (.bool a.isNone) w := fun w a n c n' c' => Lib.run_eql_slice_nil w _ _ a n c n' c' Try.underlying25
  unfold slices_Clone_int_int.f at h
  split at h
  rotate_left
  · cases h
  rename_i hlen
  obtain rfl := Option.some.inj h
  clear h
  cases A0 with
  | none =>
    have hl : l0.length = 0 := by
      rcases Nat.eq_zero_or_pos l0.length with h0 | h0
      · exact h0
      · obtain ⟨ad, h, _⟩ := hr0.2.2 h0
        cases h
    obtain rfl : l0 = [] := List.eq_nil_of_length_eq_zero hl
    clear hr0 hlen hl
    go_enter Try.func33, Try.ntmps33
    go_wp2
    go_ret
    exact ⟨_, rfl, Kd.R_nil _ _ _ _ _, Below.refl _ _⟩
  | some ad =>
    have HR0 := Aside0.mk hr0
    have HLEN := Aside0.mk hlen
    clear hr0 hlen
    go_enter Try.func33, Try.ntmps33
    go_wp2_with (first | ((with_reducible refine gate_builtin (b := .append) (xs := #[.tmp 5, .tmp 6]) rfl ?_); at_builtin; refine Kd.R_append_rows (Kd.int .i64) (w0 := w) w.heap.size rfl (.tmp 5) (.tmp 6) 25 3 (.int .i64 0) 8 rfl Try.underlying25 info3 rfl (by decide) (by omega) (.slice (some ⟨w.heap.size, 0, none⟩) 0 0) [] l0 _ _ _ (fun _ => True) (fun _ => False) rfl rfl ?aO ?aR (fun _ _ h => h) (fun _ h => h.elim) (fun _ _ => trivial) ?aB ?aS ?aL ?_; (case aO => exact ⟨fun _ _ => trivial, [], World.ownsRow_made w #[] 0 (Nat.le_refl _) (Nat.zero_le _) (by simp), Reps.none _ _⟩); (case aR => exact Kd.C_below HR0.out (below_alloc (Below.refl _ _) _)); (case aB => exact below_alloc (Below.refl _ _) _); (case aS => simp); (case aL => have := HLEN.out; simp; omega); intro v1 w1 ho hb hg hat; clear hg hat))
    go_ret
    exact ⟨_, rfl, by simpa using ho, hb⟩

end Go.Proofs.Ytcdejoaekkcknaa.PBlockParts
