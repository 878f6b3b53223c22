-- out of a turned copy of the print, by a program of this session; Lean checks it
import Derived.Test.YtngmdidegmbpfaaPLoopMirrorx0
import Derived.Test.YtngmdidegmbpfaaPLoopMirrorx4
import Derived.Test.YtngmdidegmbpfaaPLoopMirrorx5
import Derived.Test.YtngmdidegmbpfaaPLoopMirrorx6
namespace Go.Proofs.Ytngmdidegmbpfaa.PLoopMirror
open Go.RowKit Go.Proofs.YtngmdidegmbpfaaW.PrintWords Go.Proofs.YtngmdidegmbpfaaW.PrintLast Go.Proofs.YtngmdidegmbpfaaW.PrintMore
attribute [local go_sem] max2_int min2_int max_two min_two max_three min_three max_four min_four   -- for this text's walks alone
set_option linter.unusedVariables false
set_option linter.unusedSimpArgs false

attribute [local go_sem] isSome_put_
/-! ### standstillref10_Mirror: function 14 -/
mutual
def standstillref10_Mirror.l0 : Nat → Int → Int → Int → List (List (S52)) → Int → Int → List (List (S52)) → Option (Int × Int × (List (List (S52))))
 | 0, _, _, _, _, _, _, _ => none
 | k + 1, x4, x154000, x154001, x154002, x156000, x156001, x156002 => if x4 < (x154002.length : Int) then (standstillref10_Mirror.l1 k x4 ([] : List (S52)) 0 x154000 x154001 x154002 x156000 x156001 x156002) else (some (x156000, x156001, x156002))
def standstillref10_Mirror.l1 : Nat → Int → List (S52) → Int → Int → Int → List (List (S52)) → Int → Int → List (List (S52)) → Option (Int × Int × (List (List (S52))))
 | 0, _, _, _, _, _, _, _, _, _ => none
 | k + 1, x4, x5, x6, x154000, x154001, x154002, x156000, x156001, x156002 => if 0 ≤ x4 then (if x4 < (x154002.length : Int) then (if x6 < ((rd_L2 x154002 x4).length : Int) then (if 0 ≤ x6 then (if x5.length < 5864062014805 then (standstillref10_Mirror.l1 k x4 (x5 ++ [(⟨(rd_T52 (rd_L2 x154002 x4) x6).f0, wrap64 (-((rd_T52 (rd_L2 x154002 x4) x6).f1)), (rd_T52 (rd_L2 x154002 x4) x6).f2⟩ : S52)]) (wrap64 (x6 + 1)) x154000 x154001 x154002 x156000 x156001 x156002) else (none)) else (none)) else (if x156002.length < 5864062014805 then (standstillref10_Mirror.l0 k (wrap64 (x4 + 1)) x154000 x154001 x154002 x156000 x156001 (x156002 ++ [x5])) else (none))) else (none)) else (none)
end
def standstillref10_Mirror.f (k : Nat) (a0_0 : Int) (a0_1 : Int) (l0_2 : List (List (S52))) : Option (Int × Int × (List (List (S52)))) := standstillref10_Mirror.l0 k 0 a0_0 a0_1 l0_2 a0_0 a0_1 ([] : List (List (S52)))
theorem standstillref10_Mirror.mono_l : ∀ k, (∀ y0 y1 y2 y3 y4 y5 y6, LeO (standstillref10_Mirror.l0 k y0 y1 y2 y3 y4 y5 y6) (standstillref10_Mirror.l0 (k + 1) y0 y1 y2 y3 y4 y5 y6)) ∧ (∀ y0 y1 y2 y3 y4 y5 y6 y7 y8, LeO (standstillref10_Mirror.l1 k y0 y1 y2 y3 y4 y5 y6 y7 y8) (standstillref10_Mirror.l1 (k + 1) y0 y1 y2 y3 y4 y5 y6 y7 y8))
 | 0 => ⟨fun _ _ _ _ _ _ _ r h => by simp [standstillref10_Mirror.l0] at h, fun _ _ _ _ _ _ _ _ _ r h => by simp [standstillref10_Mirror.l1] at h⟩
 | k + 1 => by
  obtain ⟨ih0, ih1⟩ := standstillref10_Mirror.mono_l k
  refine ⟨?_, ?_⟩
  ·intro y0 y1 y2 y3 y4 y5 y6
   unfold standstillref10_Mirror.l0
   repeat' first
   | (with_reducible exact ih0 _ _ _ _ _ _ _)
   | (with_reducible exact ih1 _ _ _ _ _ _ _ _ _)
   | (with_reducible exact LeO.refl _)
   | (with_reducible exact LeO.none _)
   | (with_reducible refine LeO.ite ?_ ?_)
   | (with_reducible refine LeO.bind ?_ (fun _ => ?_))
   | exact ih0 _ _ _ _ _ _ _
   | exact ih1 _ _ _ _ _ _ _ _ _
   | exact LeO.none _
   | refine LeO.ite ?_ ?_
   | refine LeO.bind ?_ (fun _ => ?_)
  ·intro y0 y1 y2 y3 y4 y5 y6 y7 y8
   unfold standstillref10_Mirror.l1
   repeat' first
   | (with_reducible exact ih0 _ _ _ _ _ _ _)
   | (with_reducible exact ih1 _ _ _ _ _ _ _ _ _)
   | (with_reducible exact LeO.refl _)
   | (with_reducible exact LeO.none _)
   | (with_reducible refine LeO.ite ?_ ?_)
   | (with_reducible refine LeO.bind ?_ (fun _ => ?_))
   | exact ih0 _ _ _ _ _ _ _
   | exact ih1 _ _ _ _ _ _ _ _ _
   | exact LeO.none _
   | refine LeO.ite ?_ ?_
   | refine LeO.bind ?_ (fun _ => ?_)
theorem standstillref10_Mirror.mono : ∀ a0 a1 a2 k, LeO (standstillref10_Mirror.f k a0 a1 a2) (standstillref10_Mirror.f (k + 1) a0 a1 a2) := by
 intro a0 a1 a2 k
 obtain ⟨ih0, ih1⟩ := standstillref10_Mirror.mono_l k
 unfold standstillref10_Mirror.f
 repeat' first
   | (with_reducible exact ih0 _ _ _ _ _ _ _)
   | (with_reducible exact ih1 _ _ _ _ _ _ _ _ _)
   | (with_reducible exact LeO.refl _)
   | (with_reducible exact LeO.none _)
   | (with_reducible refine LeO.ite ?_ ?_)
   | (with_reducible refine LeO.bind ?_ (fun _ => ?_))
   | exact ih0 _ _ _ _ _ _ _
   | exact ih1 _ _ _ _ _ _ _ _ _
   | exact LeO.none _
   | refine LeO.ite ?_ ?_
   | refine LeO.bind ?_ (fun _ => ?_)
set_option maxHeartbeats 8000000 in
set_option maxRecDepth 100000 in
theorem standstillref10_Mirror.calls (k : Nat) (a0_0 : Int) (a0_1 : Int) (A0_2 : Option Addr) (c0_2 : Nat) (l0_2 : List (List (S52))) (r1 : Int) (r2 : Int) (r3 : List (List (S52))) (w : World) (hr0_2 : Kd.C (Kd.slice 52 k52) w A0_2 l0_2.length l0_2) (hc0_2 : l0_2.length ≤ c0_2) (h : standstillref10_Mirror.f k a0_0 a0_1 l0_2 = some (r1, r2, r3)) :
  Calls Try.prog 14 #[.agg #[.int .i64 a0_0, .int .i64 a0_1, .slice A0_2 l0_2.length c0_2]] w fun e w' => ∃ v2_ : Value, e = .returned (.agg #[.int .i64 r1, .int .i64 r2, v2_]) ∧ Kd.S (Kd.slice 52 k52) 53 w' w.heap.size (fun _ => True) v2_ r3 ∧ Below w.heap.size w w' := by
 have hu24 := Try.underlying24
 have hu52 := Try.underlying52
 have HR0_2 := Aside0.mk hr0_2
 have HC0_2 := Aside0.mk hc0_2
 clear hr0_2 hc0_2
 have HB := A_ (Below.refl w.heap.size w)
 have H : (standstillref10_Mirror.l0 k 0 a0_0 a0_1 l0_2 a0_0 a0_1 ([] : List (List (S52)))) = some (r1, r2, r3) := h
 clear h
 have H' := Aside0.mk H
 clear H
 go_enter Try.func14, Try.ntmps14
 go_wp2_with (first | ((with_reducible refine gate_dst (N := 1) rfl ?_); refine box_event ?hg (N := 1) ?hd (cs := #[.int .i64 a0_0, .int .i64 a0_1, .slice A0_2 l0_2.length c0_2]) (t := 24) ?hr ?_; (case hd => rfl); (case hg => rfl); (case hr => first | (go_simp; done) | (go_simp; rfl)); intro gb153 hg w2 hbox hb; have n0_ := A_ (below_step (bk_ HB.out) hb); have n1_ := A_ (hbox); have n2_ := A_ ((by rw [hg]; exact (below_size (bk_ HB.out)) : w.heap.size ≤ gb153)); have n3_ := A_ ((by rw [hg]; exact (below_size (bk_ HB.out)) : w.heap.size ≤ gb153)); clear HB; have HB := n0_; have BK153 := n1_; have GW153 := n2_; have GE153 := n3_; clear n0_ n1_ n2_ n3_ hb hbox hg) | ((with_reducible refine gate_dst (N := 2) rfl ?_); refine box_event ?hg (N := 2) ?hd (cs := #[.int .i64 0, .int .i64 0, .slice none 0 0]) (t := 24) ?hr ?_; (case hd => rfl); (case hg => rfl); (case hr => first | (go_simp; done) | (go_simp; rfl)); intro gb154 hg w3 hbox hb; have n0_ := A_ (blk_below (pk_ BK153.out) hb); have n1_ := A_ (below_step (bk_ HB.out) hb); have n2_ := A_ (hbox); have n3_ := A_ ((by rw [hg]; exact (below_size (bk_ HB.out)) : w.heap.size ≤ gb154)); have n4_ := A_ ((by rw [hg]; exact (below_size (bk_ HB.out)) : w.heap.size ≤ gb154)); have n5_ := A_ ((by rw [hg]; exact Nat.ne_of_lt (blk_lt (pk_ BK153.out)) : gb153 ≠ gb154)); have n6_ := A_ ((by rw [hg]; exact Nat.ne_of_gt (blk_lt (pk_ BK153.out)) : gb154 ≠ gb153)); clear BK153 HB; have BK153 := n0_; have HB := n1_; have BK154 := n2_; have GW154 := n3_; have GE154 := n4_; have NB153_154 := n5_; have NB154_153 := n6_; clear n0_ n1_ n2_ n3_ n4_ n5_ n6_ hb hbox hg; have hnb4 := NB153_154.out; have hnc4 := NB154_153.out; have hcz5_0 : w3.cell? ⟨gb153, 0, none⟩ = some (.int .i64 a0_0) := (blk_cell BK153.out 0).trans rfl; have hcz5_1 : w3.cell? ⟨gb153, 1, none⟩ = some (.int .i64 a0_1) := (blk_cell BK153.out 1).trans rfl; have hcz5_2 : w3.cell? ⟨gb153, 2, none⟩ = some (.slice A0_2 l0_2.length c0_2) := (blk_cell BK153.out 2).trans rfl; have hfz5_0 := blk_frozen BK153.out 0; have hfz5_1 := blk_frozen BK153.out 1; have hfz5_2 := blk_frozen BK153.out 2) | ((with_reducible refine gate_dst (N := 3) rfl ?_); refine box_event ?hg (N := 3) ?hd (cs := #[.int .i64 0, .int .i64 0, .slice none 0 0]) (t := 24) ?hr ?_; (case hd => rfl); (case hg => rfl); (case hr => first | (go_simp; done) | (go_simp; rfl)); intro gb155 hg w6 hbox hb; have n0_ := A_ (blk_below (pk_ BK153.out) hb); have n1_ := A_ (blk_below (pk_ BK154.out) hb); have n2_ := A_ (below_step (bk_ HB.out) hb); have n3_ := A_ (hbox); have n4_ := A_ ((by rw [hg]; exact (below_size (bk_ HB.out)) : w.heap.size ≤ gb155)); have n5_ := A_ ((by rw [hg]; exact (below_size (bk_ HB.out)) : w.heap.size ≤ gb155)); have n6_ := A_ ((by rw [hg]; exact Nat.ne_of_lt (blk_lt (pk_ BK153.out)) : gb153 ≠ gb155)); have n7_ := A_ ((by rw [hg]; exact Nat.ne_of_gt (blk_lt (pk_ BK153.out)) : gb155 ≠ gb153)); have n8_ := A_ ((by rw [hg]; exact Nat.ne_of_lt (blk_lt (pk_ BK154.out)) : gb154 ≠ gb155)); have n9_ := A_ ((by rw [hg]; exact Nat.ne_of_gt (blk_lt (pk_ BK154.out)) : gb155 ≠ gb154)); clear BK153 BK154 HB; have BK153 := n0_; have BK154 := n1_; have HB := n2_; have BK155 := n3_; have GW155 := n4_; have GE155 := n5_; have NB153_155 := n6_; have NB155_153 := n7_; have NB154_155 := n8_; have NB155_154 := n9_; clear n0_ n1_ n2_ n3_ n4_ n5_ n6_ n7_ n8_ n9_ hb hbox hg; have hnb7 := NB155_153.out; have hnc7 := NB153_155.out; have hnb8 := NB155_154.out; have hnc8 := NB154_155.out; have hcz9_0 : w6.cell? ⟨gb155, 0, none⟩ = some (.int .i64 0) := (blk_cell BK155.out 0).trans rfl; have hcz9_1 : w6.cell? ⟨gb155, 1, none⟩ = some (.int .i64 0) := (blk_cell BK155.out 1).trans rfl; have hcz9_2 : w6.cell? ⟨gb155, 2, none⟩ = some (.slice none 0 0) := (blk_cell BK155.out 2).trans rfl; have hfz9_0 := blk_frozen BK155.out 0; have hfz9_1 := blk_frozen BK155.out 1; have hfz9_2 := blk_frozen BK155.out 2))
 go_loopg [4] k (fun kq v4 w' => ∃ (x4_1 : Int) (x156002_1 : List (List (S52))) (u156002 : Value), v4 = .int .i64 x4_1 ∧ Aside0 (standstillref10_Mirror.l0 kq x4_1 a0_0 a0_1 l0_2 a0_0 a0_1 x156002_1 = some (r1, r2, r3)) ∧ Aside0 (kq ≤ k) ∧ Aside0 (Kd.S (Kd.slice 52 k52) 53 w' w.heap.size (fun _ => True) u156002 x156002_1) ∧ Aside0 (w'.heap[gb153]? = some (.cells #[.int .i64 a0_0, .int .i64 a0_1, (.slice A0_2 l0_2.length c0_2)] 24 (0, 0))) ∧ Aside0 (w'.heap[gb154]? = some (.cells #[.int .i64 0, .int .i64 0, (.slice none 0 0)] 24 (0, 0))) ∧ Aside0 (w'.heap[gb155]? = some (.cells #[.int .i64 a0_0, .int .i64 a0_1, u156002] 24 (0, 0))) ∧ Aside0 (Below w.heap.size w w'))
 case atStart => exact ⟨(0), (([] : List (List (S52)))), (.slice none 0 0), jr_, H', ⟨Nat.le_refl _⟩, ⟨by first | exact Kd.S_nil _ _ _ _ _ | exact Kd.N_nil _ _ _ _ _ | exact Kd.V_nil _ _ _ _ _ | exact Kd.Q_nil _ _ _ _ _ | exact Kd.R_nil _ _ _ _ _⟩, ⟨by refine pk_ ?_; refine blk_far ?_ NB153_155.out _; refine pk_ ?_; refine blk_far ?_ NB153_155.out _; refine pk_ ?_; refine blk_far ?_ NB153_155.out _; exact pk_ BK153.out⟩, ⟨by refine pk_ ?_; refine blk_far ?_ NB154_155.out _; refine pk_ ?_; refine blk_far ?_ NB154_155.out _; refine pk_ ?_; refine blk_far ?_ NB154_155.out _; exact pk_ BK154.out⟩, ⟨by refine pk_ ?_; refine blk_put (cs := #[.int .i64 a0_0, .int .i64 a0_1, .slice none 0 0]) ?_ 2 _ rfl; refine pk_ ?_; refine blk_put (cs := #[.int .i64 a0_0, .int .i64 0, .slice none 0 0]) ?_ 1 _ rfl; refine pk_ ?_; refine blk_put (cs := #[.int .i64 0, .int .i64 0, .slice none 0 0]) ?_ 0 _ rfl; exact pk_ BK155.out⟩, ⟨bk_ HB.out⟩⟩
 case round =>
  clear H'
  (try clear hcz5_0); (try clear hcz5_1); (try clear hcz5_2); (try clear hcz9_0); (try clear hcz9_1); (try clear hcz9_2); (try clear hfz5_0); (try clear hfz5_1); (try clear hfz5_2); (try clear hfz9_0); (try clear hfz9_1); (try clear hfz9_2)
  obtain ⟨x4_1, x156002_1, u156002, rfl, HA, HK1, HO_156002, BK153, BK154, BK155, HB⟩ := hrel
  cases gk with
  | zero => exact absurd HA.out (by simp [standstillref10_Mirror.l0])
  | succ k1 =>
   have H := HA.out
   clear HA
   simp only [standstillref10_Mirror.l0] at H
   by_cases c10 : x4_1 < (l0_2.length : Int)
   ·rw [if_pos c10] at H
    have c10b0 : decide (x4_1 < (l0_2.length : Int)) = true := decide_eq_true c10
    clear c10
    have H' := Aside0.mk H
    clear H
    have hnb11 := NB153_154.out
    have hnc11 := NB154_153.out
    have hnb12 := NB153_155.out
    have hnc12 := NB155_153.out
    have hcz13_0 : wr.cell? ⟨gb153, 0, none⟩ = some (.int .i64 a0_0) := (blk_cell BK153.out 0).trans rfl
    have hcz13_1 : wr.cell? ⟨gb153, 1, none⟩ = some (.int .i64 a0_1) := (blk_cell BK153.out 1).trans rfl
    have hcz13_2 : wr.cell? ⟨gb153, 2, none⟩ = some (.slice A0_2 l0_2.length c0_2) := (blk_cell BK153.out 2).trans rfl
    have hfz13_0 := blk_frozen BK153.out 0
    have hfz13_1 := blk_frozen BK153.out 1
    have hfz13_2 := blk_frozen BK153.out 2
    go_wp2
    go_loopg [5, 6] k1 (fun kq v5 v6 w' => ∃ (x5_2 : List (S52)) (x6_2 : Int), v6 = .int .i64 x6_2 ∧ Aside0 (standstillref10_Mirror.l1 kq x4_1 x5_2 x6_2 a0_0 a0_1 l0_2 a0_0 a0_1 x156002_1 = some (r1, r2, r3)) ∧ Aside0 (kq ≤ k1) ∧ Aside0 (Kd.R k52 52 w' w.heap.size (fun _ => True) v5 x5_2) ∧ Aside0 (Kd.S (Kd.slice 52 k52) 53 w' w.heap.size (fun k_ => some k_ ≠ (v5 : Value).ownBlock) u156002 x156002_1) ∧ Aside0 (w'.heap[gb153]? = some (.cells #[.int .i64 a0_0, .int .i64 a0_1, (.slice A0_2 l0_2.length c0_2)] 24 (0, 0))) ∧ Aside0 (w'.heap[gb154]? = some (.cells #[.int .i64 0, .int .i64 0, (.slice none 0 0)] 24 (0, 0))) ∧ Aside0 (w'.heap[gb155]? = some (.cells #[.int .i64 a0_0, .int .i64 a0_1, u156002] 24 (0, 0))) ∧ Aside0 (Below w.heap.size w w'))
    case atStart => exact ⟨(([] : List (S52))), (0), jr_, H', ⟨Nat.le_refl _⟩, ⟨by first | exact Kd.R_nil _ _ _ _ _ | exact Kd.N_nil _ _ _ _ _ | exact Kd.V_nil _ _ _ _ _ | exact Kd.Q_nil _ _ _ _ _ | exact Kd.S_nil _ _ _ _ _⟩, ⟨by (with_reducible repeat (first | apply Kd.S_alloc | apply Kd.S_drewN | apply Kd.S_drew)); exact Kd.S_mono HO_156002.out (fun _ hk => (by simp [Value.ownBlock]))⟩, ⟨pk_ BK153.out⟩, ⟨pk_ BK154.out⟩, ⟨pk_ BK155.out⟩, ⟨bk_ HB.out⟩⟩
    case round =>
     clear H'
     (try clear c10); (try clear c10b0); (try clear hcz13_0); (try clear hcz13_1); (try clear hcz13_2); (try clear hcz5_0); (try clear hcz5_1); (try clear hcz5_2); (try clear hcz9_0); (try clear hcz9_1); (try clear hcz9_2); (try clear hfz13_0); (try clear hfz13_1); (try clear hfz13_2); (try clear hfz5_0); (try clear hfz5_1); (try clear hfz5_2); (try clear hfz9_0); (try clear hfz9_1); (try clear hfz9_2)
     obtain ⟨x5_2, x6_2, rfl, HA, HK2, HO_5, HO_156002, BK153, BK154, BK155, HB⟩ := hrel
     cases gk with
     | zero => exact absurd HA.out (by simp [standstillref10_Mirror.l1])
     | succ k2 =>
      have H := HA.out
      clear HA
      simp only [standstillref10_Mirror.l1] at H
      by_cases c14 : 0 ≤ x4_1
      ·rw [if_pos c14] at H
       have c14b0 : decide (0 ≤ x4_1) = true := decide_eq_true c14
       clear c14
       by_cases c15 : x4_1 < (l0_2.length : Int)
       ·rw [if_pos c15] at H
        have c15b0 : decide (x4_1 < (l0_2.length : Int)) = true := decide_eq_true c15
        clear c15
        by_cases c16 : x6_2 < ((rd_L2 l0_2 x4_1).length : Int)
        ·rw [if_pos c16] at H
         have c16b0 : decide (x6_2 < ((rd_L2 l0_2 x4_1).length : Int)) = true := decide_eq_true c16
         clear c16
         by_cases c17 : 0 ≤ x6_2
         ·rw [if_pos c17] at H
          have c17b0 : decide (0 ≤ x6_2) = true := decide_eq_true c17
          clear c17
          by_cases c18 : x5_2.length < 5864062014805
          ·rw [if_pos c18] at H
           have LMc18 := Aside0.mk c18
           clear c18
           obtain ⟨y160, hy160⟩ : ∃ y_ : List (S52), y_ = (x5_2 ++ [(⟨(rd_T52 (rd_L2 l0_2 x4_1) x6_2).f0, wrap64 (-((rd_T52 (rd_L2 l0_2 x4_1) x6_2).f1)), (rd_T52 (rd_L2 l0_2 x4_1) x6_2).f2⟩ : S52)]) := ⟨_, rfl⟩
           replace H : (standstillref10_Mirror.l1 k2 x4_1 y160 (wrap64 (x6_2 + 1)) a0_0 a0_1 l0_2 a0_0 a0_1 x156002_1) = some (r1, r2, r3) := by first | (rw [hy160]; with_reducible exact H) | (have H2_ := (Option.bind_some _ _).symm.trans H; rw [hy160]; with_reducible exact H2_) | (have H2_ := (Option.bind_some _ _).symm.trans H; with_reducible exact H2_) | with_reducible exact H | (rw [hy160]; exact H) | exact H
           have Ny160 := Aside0.mk hy160
           clear hy160
           have H' := Aside0.mk H
           clear H
           have hnb19 := NB153_154.out
           have hnc19 := NB154_153.out
           have hnb20 := NB153_155.out
           have hnc20 := NB155_153.out
           have hcz21_0 : wr.cell? ⟨gb153, 0, none⟩ = some (.int .i64 a0_0) := (blk_cell BK153.out 0).trans rfl
           have hcz21_1 : wr.cell? ⟨gb153, 1, none⟩ = some (.int .i64 a0_1) := (blk_cell BK153.out 1).trans rfl
           have hcz21_2 : wr.cell? ⟨gb153, 2, none⟩ = some (.slice A0_2 l0_2.length c0_2) := (blk_cell BK153.out 2).trans rfl
           have hfz21_0 := blk_frozen BK153.out 0
           have hfz21_1 := blk_frozen BK153.out 1
           have hfz21_2 := blk_frozen BK153.out 2
           have p156 : 0 ≤ (x4_1 : Int) := od_
           have q156 : x4_1 < (l0_2.length : Int) := od_
           obtain ⟨ad156, A156_0, c156_0, e156, hx156_0, hl156_0, hi156_0⟩ := at_L2 HR0_2.out x4_1 p156 q156
           cases e156
           replace hx156_0 := lf_ HB.out hx156_0
           have HR156_0 := Aside0.mk hi156_0
           have HC156_0 := Aside0.mk hl156_0
           clear hi156_0 hl156_0
           replace p156 := eq_true p156
           replace q156 := eq_true q156
           have p157 : 0 ≤ (x4_1 : Int) := od_
           have q157 : x4_1 < (l0_2.length : Int) := od_
           obtain ⟨ad157, A157_0, c157_0, e157, hx157_0, hl157_0, hi157_0⟩ := at_L2 HR0_2.out x4_1 p157 q157
           obtain rfl : ad156 = ad157 := (by injection e157)
           replace hx157_0 := lf_ HB.out hx157_0
           have HR157_0 := Aside0.mk hi157_0
           have HC157_0 := Aside0.mk hl157_0
           clear hi157_0 hl157_0
           replace p157 := eq_true p157
           replace q157 := eq_true q157
           have ea_ := Option.some.inj (hx156_0.symm.trans hx157_0)
           injection ea_ with ea_ en_ ec_
           subst ea_
           subst ec_
           clear en_
           have p158 : 0 ≤ (x6_2 : Int) := od_
           have q158 : x6_2 < ((rd_L2 l0_2 x4_1).length : Int) := od_
           obtain ⟨ad158, e158, hx158_0, hx158_1, hx158_2⟩ := at_T52 HR157_0.out x6_2 p158 q158
           cases e158
           replace hx158_0 := lf_ HB.out hx158_0
           replace hx158_1 := lf_ HB.out hx158_1
           replace hx158_2 := lf_ HB.out hx158_2
           replace p158 := eq_true p158
           replace q158 := eq_true q158
           go_wp2_with (first | ((with_reducible refine gate_dst (N := 7) rfl ?_); refine box_event ?hg (N := 7) ?hd (cs := #[.int .i64 0, .int .i64 0, .int .i64 0]) (t := 52) ?hr ?_; (case hd => rfl); (case hg => rfl); (case hr => first | (go_simp; done) | (go_simp; rfl)); intro gb159 hg w22 hbox hb; have n0_ := A_ (Kd.R_below (Kd.R_elderB (rk_ HO_5.out) gb159 (Nat.le_of_eq hg.symm)) hb); have n1_ := A_ (Kd.S_below (Kd.S_elderB (by (with_reducible repeat (first | apply Kd.S_alloc | apply Kd.S_drewN | apply Kd.S_drew)); exact HO_156002.out) gb159 (Nat.le_of_eq hg.symm)) hb); have n2_ := A_ (blk_below (pk_ BK153.out) hb); have n3_ := A_ (blk_below (pk_ BK154.out) hb); have n4_ := A_ (blk_below (pk_ BK155.out) hb); have n5_ := A_ (below_step (bk_ HB.out) hb); have n6_ := A_ (hbox); have n7_ := A_ ((by rw [hg]; exact (below_size (bk_ HB.out)) : w.heap.size ≤ gb159)); have n8_ := A_ ((by rw [hg]; exact (below_size (bk_ HB.out)) : w.heap.size ≤ gb159)); have n9_ := A_ ((by rw [hg]; exact Nat.ne_of_lt (blk_lt (pk_ BK153.out)) : gb153 ≠ gb159)); have n10_ := A_ ((by rw [hg]; exact Nat.ne_of_gt (blk_lt (pk_ BK153.out)) : gb159 ≠ gb153)); have n11_ := A_ ((by rw [hg]; exact Nat.ne_of_lt (blk_lt (pk_ BK154.out)) : gb154 ≠ gb159)); have n12_ := A_ ((by rw [hg]; exact Nat.ne_of_gt (blk_lt (pk_ BK154.out)) : gb159 ≠ gb154)); have n13_ := A_ ((by rw [hg]; exact Nat.ne_of_lt (blk_lt (pk_ BK155.out)) : gb155 ≠ gb159)); have n14_ := A_ ((by rw [hg]; exact Nat.ne_of_gt (blk_lt (pk_ BK155.out)) : gb159 ≠ gb155)); clear HO_5 HO_156002 BK153 BK154 BK155 HB; have HO_5 := n0_; have HO_156002 := n1_; have BK153 := n2_; have BK154 := n3_; have BK155 := n4_; have HB := n5_; have BK159 := n6_; have GW159 := n7_; have GE159 := n8_; have NB153_159 := n9_; have NB159_153 := n10_; have NB154_159 := n11_; have NB159_154 := n12_; have NB155_159 := n13_; have NB159_155 := n14_; clear n0_ n1_ n2_ n3_ n4_ n5_ n6_ n7_ n8_ n9_ n10_ n11_ n12_ n13_ n14_ hb hbox hg; have hnb23 := NB159_153.out; have hnc23 := NB153_159.out; have hnb24 := NB159_154.out; have hnc24 := NB154_159.out; have hnb25 := NB159_155.out; have hnc25 := NB155_159.out; have hcz26_0 : w22.cell? ⟨gb159, 0, none⟩ = some (.int .i64 0) := (blk_cell BK159.out 0).trans rfl; have hcz26_1 : w22.cell? ⟨gb159, 1, none⟩ = some (.int .i64 0) := (blk_cell BK159.out 1).trans rfl; have hcz26_2 : w22.cell? ⟨gb159, 2, none⟩ = some (.int .i64 0) := (blk_cell BK159.out 2).trans rfl; have hfz26_0 := blk_frozen BK159.out 0; have hfz26_1 := blk_frozen BK159.out 1; have hfz26_2 := blk_frozen BK159.out 2) | ((with_reducible refine gate_builtin (b := .append) (xs := #[.tmp 38, .tmp 47]) rfl ?_); at_builtin; refine Kd.R_append k52 (w0 := w) w.heap.size rfl (.tmp 38) (.tmp 47) 53 52 (.agg #[(.int .i64 0), (.int .i64 0), (.int .i64 0)]) 24 rfl Try.underlying53 info52 rfl (by decide) (by omega) u5 x5_2 (⟨(rd_T52 (rd_L2 l0_2 x4_1) x6_2).f0, wrap64 (-((rd_T52 (rd_L2 l0_2 x4_1) x6_2).f1)), (rd_T52 (rd_L2 l0_2 x4_1) x6_2).f2⟩ : S52) [.int .i64 ((rd_T52 (rd_L2 l0_2 x4_1) x6_2).f0), .int .i64 (wrap64 (-((rd_T52 (rd_L2 l0_2 x4_1) x6_2).f1))), .int .i64 ((rd_T52 (rd_L2 l0_2 x4_1) x6_2).f2)] (fun k_ => k_ ≠ gb159) (fun _ => False) rfl (by first | (go_simp; done) | (go_simp; rfl)) ?aP (fun _ hk => hk.elim) ?aF ?aO ?aB ?aS ?aL ?_; (case aP => exact k52_mkM _ _ _ (⟨(rd_T52 (rd_L2 l0_2 x4_1) x6_2).f0, wrap64 (-((rd_T52 (rd_L2 l0_2 x4_1) x6_2).f1)), (rd_T52 (rd_L2 l0_2 x4_1) x6_2).f2⟩ : S52)); (case aB => exact (bk_ HB.out)); (case aF => exact (fun k_ hk => Kd.freshB (g := gb159) (o := .cells #[.int .i64 ((rd_T52 (rd_L2 l0_2 x4_1) x6_2).f0), .int .i64 ((rd_T52 (rd_L2 l0_2 x4_1) x6_2).f1), .int .i64 ((rd_T52 (rd_L2 l0_2 x4_1) x6_2).f2)] 52 (0, 0)) (by refine pk_ ?_; refine blk_put (cs := #[.int .i64 ((rd_T52 (rd_L2 l0_2 x4_1) x6_2).f0), .int .i64 ((rd_T52 (rd_L2 l0_2 x4_1) x6_2).f1), .int .i64 0]) ?_ 2 _ rfl; refine pk_ ?_; refine blk_put (cs := #[.int .i64 ((rd_T52 (rd_L2 l0_2 x4_1) x6_2).f0), .int .i64 0, .int .i64 0]) ?_ 1 _ rfl; refine pk_ ?_; refine blk_put (cs := #[.int .i64 0, .int .i64 0, .int .i64 0]) ?_ 0 _ rfl; exact pk_ BK159.out) k_ hk)); (case aO => exact (by (with_reducible repeat (first | apply Kd.R_alloc | apply Kd.R_drewN | apply Kd.R_drew)); exact Kd.R_mono (Kd.R_far (p := ⟨gb159, 2, none⟩) (Kd.R_far (p := ⟨gb159, 1, none⟩) (Kd.R_far (p := ⟨gb159, 0, none⟩) (Kd.R_mono HO_5.out (fun k_ hk => (⟨hk, hk.2⟩ : _ ∧ k_ ≠ gb159))) (fun _ hk => hk.2) (.int .i64 ((rd_T52 (rd_L2 l0_2 x4_1) x6_2).f0))) (fun _ hk => hk.2) (.int .i64 ((rd_T52 (rd_L2 l0_2 x4_1) x6_2).f1))) (fun _ hk => hk.2) (.int .i64 ((rd_T52 (rd_L2 l0_2 x4_1) x6_2).f2))) (fun _ hk => hk.1.2))); (case aS => exact (below_size (bk_ HB.out))); (case aL => have := LMc18.out; omega); intro v161 w27 ho hb hg hat; rw [← Ny160.out] at ho; have n0_ := A_ (Kd.S_after (ok := (fun k_ => k_ ≠ gb159)) (by (with_reducible repeat (first | apply Kd.S_alloc | apply Kd.S_drewN | apply Kd.S_drew)); exact Kd.S_mono (Kd.S_far (p := ⟨gb159, 2, none⟩) (Kd.S_far (p := ⟨gb159, 1, none⟩) (Kd.S_far (p := ⟨gb159, 0, none⟩) (Kd.S_mono HO_156002.out (fun k_ hk => (⟨hk, hk.2⟩ : _ ∧ k_ ≠ gb159))) (fun _ hk => hk.2) (.int .i64 ((rd_T52 (rd_L2 l0_2 x4_1) x6_2).f0))) (fun _ hk => hk.2) (.int .i64 ((rd_T52 (rd_L2 l0_2 x4_1) x6_2).f1))) (fun _ hk => hk.2) (.int .i64 ((rd_T52 (rd_L2 l0_2 x4_1) x6_2).f2))) (fun _ hk => ⟨hk.1.2, hk.1.1⟩)) hg hat); have n1_ := A_ (blk_grown (g := gb153) (o := .cells #[.int .i64 a0_0, .int .i64 a0_1, .slice (some ad156) l0_2.length c0_2] 24 (0, 0)) (by refine pk_ ?_; refine blk_far ?_ NB153_159.out _; refine pk_ ?_; refine blk_far ?_ NB153_159.out _; refine pk_ ?_; refine blk_far ?_ NB153_159.out _; exact pk_ BK153.out) hg (Kd.R_ne HO_5.out BK153.out (by decide))); have n2_ := A_ (blk_grown (g := gb154) (o := .cells #[.int .i64 0, .int .i64 0, .slice none 0 0] 24 (0, 0)) (by refine pk_ ?_; refine blk_far ?_ NB154_159.out _; refine pk_ ?_; refine blk_far ?_ NB154_159.out _; refine pk_ ?_; refine blk_far ?_ NB154_159.out _; exact pk_ BK154.out) hg (Kd.R_ne HO_5.out BK154.out (by decide))); have n3_ := A_ (blk_grown (g := gb155) (o := .cells #[.int .i64 a0_0, .int .i64 a0_1, u156002] 24 (0, 0)) (by refine pk_ ?_; refine blk_far ?_ NB155_159.out _; refine pk_ ?_; refine blk_far ?_ NB155_159.out _; refine pk_ ?_; refine blk_far ?_ NB155_159.out _; exact pk_ BK155.out) hg (Kd.R_ne HO_5.out BK155.out (by decide))); have n4_ := A_ (blk_grown (g := gb159) (o := .cells #[.int .i64 ((rd_T52 (rd_L2 l0_2 x4_1) x6_2).f0), .int .i64 ((rd_T52 (rd_L2 l0_2 x4_1) x6_2).f1), .int .i64 ((rd_T52 (rd_L2 l0_2 x4_1) x6_2).f2)] 52 (0, 0)) (by refine pk_ ?_; refine blk_put (cs := #[.int .i64 ((rd_T52 (rd_L2 l0_2 x4_1) x6_2).f0), .int .i64 ((rd_T52 (rd_L2 l0_2 x4_1) x6_2).f1), .int .i64 0]) ?_ 2 _ rfl; refine pk_ ?_; refine blk_put (cs := #[.int .i64 ((rd_T52 (rd_L2 l0_2 x4_1) x6_2).f0), .int .i64 0, .int .i64 0]) ?_ 1 _ rfl; refine pk_ ?_; refine blk_put (cs := #[.int .i64 0, .int .i64 0, .int .i64 0]) ?_ 0 _ rfl; exact pk_ BK159.out) hg (Kd.R_away HO_5.out (fun _ hk => hk.2))); have n5_ := A_ (hb); have n6_ := A_ (ho); clear HO_156002 BK153 BK154 BK155 BK159 HB HO_5; have HO_156002 := n0_; have BK153 := n1_; have BK154 := n2_; have BK155 := n3_; have BK159 := n4_; have HB := n5_; have HO162 := n6_; clear n0_ n1_ n2_ n3_ n4_ n5_ n6_ ho hb hg hat))
           go_roundg k2
           case measure => have := HK1.out; have := HK2.out; omega
           case rel => exact ⟨(y160), (wrap64 (x6_2 + 1)), jr_, H', ⟨by have := HK1.out; have := HK2.out; omega⟩, ⟨by (with_reducible repeat (first | apply Kd.R_alloc | apply Kd.R_drewN | apply Kd.R_drew)); exact Kd.R_mono HO162.out (fun _ hk => trivial)⟩, ⟨by (with_reducible repeat (first | apply Kd.S_alloc | apply Kd.S_drewN | apply Kd.S_drew)); exact Kd.S_mono HO_156002.out (fun _ hk => hk.2)⟩, ⟨pk_ BK153.out⟩, ⟨pk_ BK154.out⟩, ⟨pk_ BK155.out⟩, ⟨bk_ HB.out⟩⟩
          ·rw [if_neg c18] at H
           exact absurd H (by simp)
         ·rw [if_neg c17] at H
          exact absurd H (by simp)
        ·rw [if_neg c16] at H
         have c16b0 : decide (x6_2 < ((rd_L2 l0_2 x4_1).length : Int)) = false := decide_eq_false c16
         clear c16
         by_cases c28 : x156002_1.length < 5864062014805
         ·rw [if_pos c28] at H
          have LMc28 := Aside0.mk c28
          clear c28
          obtain ⟨y163, hy163⟩ : ∃ y_ : List (List (S52)), y_ = (x156002_1 ++ [x5_2]) := ⟨_, rfl⟩
          replace H : (standstillref10_Mirror.l0 k2 (wrap64 (x4_1 + 1)) a0_0 a0_1 l0_2 a0_0 a0_1 y163) = some (r1, r2, r3) := by first | (rw [hy163]; with_reducible exact H) | (have H2_ := (Option.bind_some _ _).symm.trans H; rw [hy163]; with_reducible exact H2_) | (have H2_ := (Option.bind_some _ _).symm.trans H; with_reducible exact H2_) | with_reducible exact H | (rw [hy163]; exact H) | exact H
          have Ny163 := Aside0.mk hy163
          clear hy163
          have H' := Aside0.mk H
          clear H
          have hnb29 := NB153_154.out
          have hnc29 := NB154_153.out
          have hnb30 := NB153_155.out
          have hnc30 := NB155_153.out
          have hcz31_0 : wr.cell? ⟨gb153, 0, none⟩ = some (.int .i64 a0_0) := (blk_cell BK153.out 0).trans rfl
          have hcz31_1 : wr.cell? ⟨gb153, 1, none⟩ = some (.int .i64 a0_1) := (blk_cell BK153.out 1).trans rfl
          have hcz31_2 : wr.cell? ⟨gb153, 2, none⟩ = some (.slice A0_2 l0_2.length c0_2) := (blk_cell BK153.out 2).trans rfl
          have hfz31_0 := blk_frozen BK153.out 0
          have hfz31_1 := blk_frozen BK153.out 1
          have hfz31_2 := blk_frozen BK153.out 2
          have p156 : 0 ≤ (x4_1 : Int) := od_
          have q156 : x4_1 < (l0_2.length : Int) := od_
          obtain ⟨ad156, A156_0, c156_0, e156, hx156_0, hl156_0, hi156_0⟩ := at_L2 HR0_2.out x4_1 p156 q156
          cases e156
          replace hx156_0 := lf_ HB.out hx156_0
          have HR156_0 := Aside0.mk hi156_0
          have HC156_0 := Aside0.mk hl156_0
          clear hi156_0 hl156_0
          replace p156 := eq_true p156
          replace q156 := eq_true q156
          have hnb32 := NB155_154.out
          have hnc32 := NB154_155.out
          have hcz33_0 : wr.cell? ⟨gb155, 0, none⟩ = some (.int .i64 a0_0) := (blk_cell BK155.out 0).trans rfl
          have hcz33_1 : wr.cell? ⟨gb155, 1, none⟩ = some (.int .i64 a0_1) := (blk_cell BK155.out 1).trans rfl
          have hcz33_2 : wr.cell? ⟨gb155, 2, none⟩ = some (u156002) := (blk_cell BK155.out 2).trans rfl
          have hfz33_0 := blk_frozen BK155.out 0
          have hfz33_1 := blk_frozen BK155.out 1
          have hfz33_2 := blk_frozen BK155.out 2
          obtain ⟨Ao35, co35, eo35⟩ := Kd.R_slice HO_5.out
          subst eo35
          go_wp2_with (first | ((with_reducible refine gate_builtin (b := .append) (xs := #[.tmp 50, .tmp 52]) rfl ?_); at_builtin; refine Kd.S_append (Kd.slice 52 k52) (w0 := w) w.heap.size rfl (.tmp 50) (.tmp 52) 22 53 (.slice none 0 0) 24 rfl Try.underlying22 info53 rfl (by decide) (by omega) u156002 x156002_1 x5_2 [.slice Ao35 x5_2.length co35] (fun _ => True) (fun k_ => some k_ = (.slice Ao35 x5_2.length co35 : Value).ownBlock) rfl rfl ?aP (fun k_ hk_ => ((Kd.R_mono (ok' := fun k_ => ((fun _ => True)) k_ ∧ some k_ ≠ (u156002 : Value).ownBlock) (Kd.R_apart' (HO_5.out) (Kd.S_typed HO_156002.out) (by decide)) (fun k_ hk => ⟨trivial, hk.2⟩))).1 k_ hk_.symm) ?aF ?aO ?aB ?aS ?aL ?_; (case aP => exact Kd.M_row (Kd.R_mono (Kd.R_tight rfl (Kd.R_mono (ok' := fun k_ => ((fun _ => True)) k_ ∧ some k_ ≠ (u156002 : Value).ownBlock) (Kd.R_apart' (HO_5.out) (Kd.S_typed HO_156002.out) (by decide)) (fun k_ hk => ⟨trivial, hk.2⟩))) (fun _ h_ => h_))); (case aB => exact (bk_ HB.out)); (case aF => exact (fun _ _ => trivial)); (case aO => exact (by (with_reducible repeat (first | apply Kd.S_alloc | apply Kd.S_drewN | apply Kd.S_drew)); exact Kd.S_mono HO_156002.out (fun k_ hk => ⟨trivial, fun e_ => hk e_⟩))); (case aS => exact (below_size (bk_ HB.out))); (case aL => have := LMc28.out; omega); intro v164 w34 ho hb hg hat; rw [← Ny163.out] at ho; have n0_ := A_ (blk_grown (pk_ BK153.out) hg (Kd.S_ne HO_156002.out BK153.out (by decide))); have n1_ := A_ (blk_grown (pk_ BK154.out) hg (Kd.S_ne HO_156002.out BK154.out (by decide))); have n2_ := A_ (blk_grown (pk_ BK155.out) hg (Kd.S_ne HO_156002.out BK155.out (by decide))); have n3_ := A_ (hb); have n4_ := A_ (ho); clear BK153 BK154 BK155 HB HO_156002 HO_5; have BK153 := n0_; have BK154 := n1_; have BK155 := n2_; have HB := n3_; have HO165 := n4_; clear n0_ n1_ n2_ n3_ n4_ ho hb hg hat; obtain ⟨Ao36, co36, eo36⟩ := Kd.S_slice HO165.out; subst eo36; have hcz37_0 : w34.cell? ⟨gb155, 0, none⟩ = some (.int .i64 a0_0) := (blk_cell BK155.out 0).trans rfl; have hcz37_1 : w34.cell? ⟨gb155, 1, none⟩ = some (.int .i64 a0_1) := (blk_cell BK155.out 1).trans rfl; have hcz37_2 : w34.cell? ⟨gb155, 2, none⟩ = some (u156002) := (blk_cell BK155.out 2).trans rfl; have hfz37_0 := blk_frozen BK155.out 0; have hfz37_1 := blk_frozen BK155.out 1; have hfz37_2 := blk_frozen BK155.out 2))
          go_roundg k2
          case measure => have := HK1.out; have := HK2.out; omega
          case rel => exact ⟨(wrap64 (x4_1 + 1)), (y163), (.slice Ao36 y163.length co36), jr_, H', ⟨by have := HK1.out; have := HK2.out; omega⟩, ⟨by (with_reducible repeat (first | apply Kd.S_alloc | apply Kd.S_drewN | apply Kd.S_drew)); exact Kd.S_mono (Kd.S_far (p := ⟨gb155, 2, none⟩) (Kd.S_types HO165.out BK155.out (by decide)) (fun _ hk => hk.2) (.slice Ao36 y163.length co36)) (fun _ hk => trivial)⟩, ⟨by refine pk_ ?_; refine blk_far ?_ NB153_155.out _; exact pk_ BK153.out⟩, ⟨by refine pk_ ?_; refine blk_far ?_ NB154_155.out _; exact pk_ BK154.out⟩, ⟨by refine pk_ ?_; refine blk_put (cs := #[.int .i64 a0_0, .int .i64 a0_1, u156002]) ?_ 2 _ rfl; exact pk_ BK155.out⟩, ⟨bk_ HB.out⟩⟩
         ·rw [if_neg c28] at H
          exact absurd H (by simp)
       ·rw [if_neg c15] at H
        exact absurd H (by simp)
      ·rw [if_neg c14] at H
       exact absurd H (by simp)
   ·rw [if_neg c10] at H
    have c10b0 : decide (x4_1 < (l0_2.length : Int)) = false := decide_eq_false c10
    clear c10
    simp only [Option.some.injEq, Prod.mk.injEq] at H
    obtain ⟨rfl, rfl, rfl⟩ := H
    have hnb38 := NB153_154.out
    have hnc38 := NB154_153.out
    have hnb39 := NB153_155.out
    have hnc39 := NB155_153.out
    have hcz40_0 : wr.cell? ⟨gb153, 0, none⟩ = some (.int .i64 a0_0) := (blk_cell BK153.out 0).trans rfl
    have hcz40_1 : wr.cell? ⟨gb153, 1, none⟩ = some (.int .i64 a0_1) := (blk_cell BK153.out 1).trans rfl
    have hcz40_2 : wr.cell? ⟨gb153, 2, none⟩ = some (.slice A0_2 l0_2.length c0_2) := (blk_cell BK153.out 2).trans rfl
    have hfz40_0 := blk_frozen BK153.out 0
    have hfz40_1 := blk_frozen BK153.out 1
    have hfz40_2 := blk_frozen BK153.out 2
    have hnb41 := NB155_154.out
    have hnc41 := NB154_155.out
    have hcz42_0 : wr.cell? ⟨gb155, 0, none⟩ = some (.int .i64 a0_0) := (blk_cell BK155.out 0).trans rfl
    have hcz42_1 : wr.cell? ⟨gb155, 1, none⟩ = some (.int .i64 a0_1) := (blk_cell BK155.out 1).trans rfl
    have hcz42_2 : wr.cell? ⟨gb155, 2, none⟩ = some (u156002) := (blk_cell BK155.out 2).trans rfl
    have hfz42_0 := blk_frozen BK155.out 0
    have hfz42_1 := blk_frozen BK155.out 1
    have hfz42_2 := blk_frozen BK155.out 2
    have hcz43_0 : wr.cell? ⟨gb154, 0, none⟩ = some (.int .i64 0) := (blk_cell BK154.out 0).trans rfl
    have hcz43_1 : wr.cell? ⟨gb154, 1, none⟩ = some (.int .i64 0) := (blk_cell BK154.out 1).trans rfl
    have hcz43_2 : wr.cell? ⟨gb154, 2, none⟩ = some (.slice none 0 0) := (blk_cell BK154.out 2).trans rfl
    have hfz43_0 := blk_frozen BK154.out 0
    have hfz43_1 := blk_frozen BK154.out 1
    have hfz43_2 := blk_frozen BK154.out 2
    obtain ⟨Ao44, co44, eo44⟩ := Kd.S_slice HO_156002.out
    subst eo44
    go_wp2
    refine bodyPost_ret (results_cell_row rfl _ _ gb154 24 #[.int .i64 a0_0, .int .i64 a0_1, .slice Ao44 x156002_1.length co44] (0, 0) _ rfl (by refine pk_ ?_; refine blk_put (cs := #[.int .i64 a0_0, .int .i64 a0_1, .slice none 0 0]) ?_ 2 _ rfl; refine pk_ ?_; refine blk_put (cs := #[.int .i64 a0_0, .int .i64 0, .slice none 0 0]) ?_ 1 _ rfl; refine pk_ ?_; refine blk_put (cs := #[.int .i64 0, .int .i64 0, .slice none 0 0]) ?_ 0 _ rfl; exact pk_ BK154.out) Try.underlying24 rfl (by kernel_rfl)) rfl ?_
    exact ⟨_, er_, by (with_reducible repeat (first | apply Kd.S_alloc | apply Kd.S_drewN | apply Kd.S_drew)); exact Kd.S_mono (Kd.S_far (p := ⟨gb154, 2, none⟩) (Kd.S_far (p := ⟨gb154, 1, none⟩) (Kd.S_far (p := ⟨gb154, 0, none⟩) (Kd.S_types HO_156002.out BK154.out (by decide)) (fun _ hk => hk.2) (.int .i64 a0_0)) (fun _ hk => hk.2) (.int .i64 a0_1)) (fun _ hk => hk.2) (.slice Ao44 x156002_1.length co44)) (fun _ hk => trivial), bk_ HB.out⟩

/-! ### standstilllaw10_LoopMirror: function 6 -/
def standstilllaw10_LoopMirror.j0 : Nat → Int → Int → Bool → Bool → Int → Int → List (List (S52)) → Option (Bool)
 | 0, _, _, _, _, _, _, _ => none
 | k + 1, x1, x2, x3, x19, x167000, x167001, x167002 => if x19 = true then ((standstilllaw10_awake.f k).bind fun t168 => (some t168)) else ((loop_Check.f k x167000 x167001 x167002 x1 x2 x3).bind fun bt169 => ((standstillref10_Mirror.f k x167000 x167001 x167002).bind fun bt171 => ((loop_Check.f k bt171.1 bt171.2.1 bt171.2.2 x1 x2 (!x3)).bind fun bt176 => (if (bt169.1 == bt176.1) = true then (if bt169.2 = bt176.2 then ((standstilllaw10_awake.f k).bind fun t178 => (some t178)) else (some false)) else (some false)))))
def standstilllaw10_LoopMirror.f (k : Nat) (a0_0 : Int) (a0_1 : Int) (l0_2 : List (List (S52))) (a1 : Int) (a2 : Int) (a3 : Bool) : Option (Bool) := (standstillref10_Valid.f k a0_0 a0_1 l0_2).bind fun t167 => (if t167 = true then (standstilllaw10_LoopMirror.j0 k a1 a2 a3 (decide (a2 > 2000)) a0_0 a0_1 l0_2) else (standstilllaw10_LoopMirror.j0 k a1 a2 a3 true a0_0 a0_1 l0_2))
theorem standstilllaw10_LoopMirror.mono_l : ∀ k, (∀ y0 y1 y2 y3 y4 y5 y6, LeO (standstilllaw10_LoopMirror.j0 k y0 y1 y2 y3 y4 y5 y6) (standstilllaw10_LoopMirror.j0 (k + 1) y0 y1 y2 y3 y4 y5 y6))
 | 0 => fun _ _ _ _ _ _ _ r h => by simp [standstilllaw10_LoopMirror.j0] at h
 | k + 1 => by
  have ih0 := standstilllaw10_LoopMirror.mono_l k
  ·intro y0 y1 y2 y3 y4 y5 y6
   unfold standstilllaw10_LoopMirror.j0
   repeat' first
   | (with_reducible exact ih0 _ _ _ _ _ _ _)
   | (with_reducible exact loop_Check.mono _ _ _ _ _ _ _)
   | (with_reducible exact standstilllaw10_awake.mono _)
   | (with_reducible exact standstillref10_Mirror.mono _ _ _ _)
   | (with_reducible exact standstillref10_Valid.mono _ _ _ _)
   | (with_reducible exact LeO.refl _)
   | (with_reducible exact LeO.none _)
   | (with_reducible refine LeO.ite ?_ ?_)
   | (with_reducible refine LeO.bind ?_ (fun _ => ?_))
   | exact ih0 _ _ _ _ _ _ _
   | exact loop_Check.mono _ _ _ _ _ _ _
   | exact standstilllaw10_awake.mono _
   | exact standstillref10_Mirror.mono _ _ _ _
   | exact standstillref10_Valid.mono _ _ _ _
   | exact LeO.none _
   | refine LeO.ite ?_ ?_
   | refine LeO.bind ?_ (fun _ => ?_)
theorem standstilllaw10_LoopMirror.mono : ∀ a0 a1 a2 a3 a4 a5 k, LeO (standstilllaw10_LoopMirror.f k a0 a1 a2 a3 a4 a5) (standstilllaw10_LoopMirror.f (k + 1) a0 a1 a2 a3 a4 a5) := by
 intro a0 a1 a2 a3 a4 a5 k
 have ih0 := standstilllaw10_LoopMirror.mono_l k
 unfold standstilllaw10_LoopMirror.f
 repeat' first
   | (with_reducible exact ih0 _ _ _ _ _ _ _)
   | (with_reducible exact loop_Check.mono _ _ _ _ _ _ _)
   | (with_reducible exact standstilllaw10_awake.mono _)
   | (with_reducible exact standstillref10_Mirror.mono _ _ _ _)
   | (with_reducible exact standstillref10_Valid.mono _ _ _ _)
   | (with_reducible exact LeO.refl _)
   | (with_reducible exact LeO.none _)
   | (with_reducible refine LeO.ite ?_ ?_)
   | (with_reducible refine LeO.bind ?_ (fun _ => ?_))
   | exact ih0 _ _ _ _ _ _ _
   | exact loop_Check.mono _ _ _ _ _ _ _
   | exact standstilllaw10_awake.mono _
   | exact standstillref10_Mirror.mono _ _ _ _
   | exact standstillref10_Valid.mono _ _ _ _
   | exact LeO.none _
   | refine LeO.ite ?_ ?_
   | refine LeO.bind ?_ (fun _ => ?_)
set_option maxHeartbeats 8000000 in
set_option maxRecDepth 100000 in
theorem standstilllaw10_LoopMirror.calls (k : Nat) (a0_0 : Int) (a0_1 : Int) (A0_2 : Option Addr) (c0_2 : Nat) (l0_2 : List (List (S52))) (a1 : Int) (a2 : Int) (a3 : Bool) (r : Bool) (w : World) (hr0_2 : Kd.C (Kd.slice 52 k52) w A0_2 l0_2.length l0_2) (hc0_2 : l0_2.length ≤ c0_2) (h : standstilllaw10_LoopMirror.f k a0_0 a0_1 l0_2 a1 a2 a3 = some r) :
  Calls Try.prog 6 #[.agg #[.int .i64 a0_0, .int .i64 a0_1, .slice A0_2 l0_2.length c0_2], .int .i64 a1, .int .i64 a2, .bool a3] w fun e w' => e = .returned (.bool r) ∧ Below w.heap.size w w' := by
 have hu24 := Try.underlying24
 have HR0_2 := Aside0.mk hr0_2
 have HC0_2 := Aside0.mk hc0_2
 clear hr0_2 hc0_2
 have HB := A_ (Below.refl w.heap.size w)
 have H : ((standstillref10_Valid.f k a0_0 a0_1 l0_2).bind fun t167 => (if t167 = true then (standstilllaw10_LoopMirror.j0 k a1 a2 a3 (decide (a2 > 2000)) a0_0 a0_1 l0_2) else (standstilllaw10_LoopMirror.j0 k a1 a2 a3 true a0_0 a0_1 l0_2))) = some r := h
 clear h
 have HC5 := Aside0.mk H
 clear H
 go_enter Try.func6, Try.ntmps6
 go_upto_region 1 with (first | ((with_reducible refine gate_dst (N := 4) rfl ?_); refine box_event ?hg (N := 4) ?hd (cs := #[.int .i64 a0_0, .int .i64 a0_1, .slice A0_2 l0_2.length c0_2]) (t := 24) ?hr ?_; (case hd => rfl); (case hg => rfl); (case hr => first | (go_simp; done) | (go_simp; rfl)); intro gb166 hg w6 hbox hb; have n0_ := A_ (below_step (bk_ HB.out) hb); have n1_ := A_ (hbox); have n2_ := A_ ((by rw [hg]; exact (below_size (bk_ HB.out)) : w.heap.size ≤ gb166)); have n3_ := A_ ((by rw [hg]; exact (below_size (bk_ HB.out)) : w.heap.size ≤ gb166)); clear HB; have HB := n0_; have BK166 := n1_; have GW166 := n2_; have GE166 := n3_; clear n0_ n1_ n2_ n3_ hb hbox hg))
 (try simp only [Act.put, List.setIfInBounds_toArray, List.set_cons_zero, List.set_cons_succ])
 go_cut [19] (fun v19 wc => ∃ (kq : Nat) (x19_4 : Bool), v19 = .bool x19_4 ∧ Aside0 (standstilllaw10_LoopMirror.j0 kq a1 a2 a3 x19_4 a0_0 a0_1 l0_2 = some r) ∧ Aside0 (kq ≤ k) ∧ Aside0 (wc.heap[gb166]? = some (.cells #[.int .i64 a0_0, .int .i64 a0_1, (.slice A0_2 l0_2.length c0_2)] 24 (0, 0))) ∧ Aside0 (Below w.heap.size w wc))
 case first =>
  have H := HC5.out
  clear HC5
  replace H := Option.bind_eq_some_iff.mp H
  obtain ⟨t167, A70, H⟩ := H
  replace H : (if t167 = true then (standstilllaw10_LoopMirror.j0 k a1 a2 a3 (decide (a2 > 2000)) a0_0 a0_1 l0_2) else (standstilllaw10_LoopMirror.j0 k a1 a2 a3 true a0_0 a0_1 l0_2)) = some r := H
  have A7 := Aside0.mk A70
  clear A70
  by_cases c8 : t167 = true
  ·subst c8
   have H1 : (standstilllaw10_LoopMirror.j0 k a1 a2 a3 (decide (a2 > 2000)) a0_0 a0_1 l0_2) = some r := by rw [if_pos rfl] at H; exact H
   clear H
   have H := H1
   clear H1
   have H' := Aside0.mk H
   clear H
   have hcz9_0 : w6.cell? ⟨gb166, 0, none⟩ = some (.int .i64 a0_0) := (blk_cell BK166.out 0).trans rfl
   have hcz9_1 : w6.cell? ⟨gb166, 1, none⟩ = some (.int .i64 a0_1) := (blk_cell BK166.out 1).trans rfl
   have hcz9_2 : w6.cell? ⟨gb166, 2, none⟩ = some (.slice A0_2 l0_2.length c0_2) := (blk_cell BK166.out 2).trans rfl
   have hfz9_0 := blk_frozen BK166.out 0
   have hfz9_1 := blk_frozen BK166.out 1
   have hfz9_2 := blk_frozen BK166.out 2
   go_wp2_with (first | ((with_reducible refine gate_callee (f := 11) rfl ?_); refine goesL_ (some 14) rfl rfl Try.func11 (by kernel_rfl) rfl #[.agg #[.int .i64 a0_0, .int .i64 a0_1, .slice A0_2 l0_2.length c0_2]] rfl gl_ ?_; (with_reducible refine (standstillref10_Valid.calls k a0_0 a0_1 _ _ l0_2 true _ ?side1 ?side2 A7.out).mono ?_); (case side1 => exact ck_ (Kd.C_below HR0_2.out HB.out)); (case side2 => exact HC0_2.out); rintro e w10 ⟨rfl, hb⟩; refine ⟨_, rfl, ?_⟩; have n0_ := A_ (blk_below (pk_ BK166.out) hb); have n1_ := A_ (below_step (bk_ HB.out) hb); clear BK166 HB; have BK166 := n0_; have HB := n1_; clear n0_ n1_; (try clear hb); (try clear hb2); (try clear hk); (try clear hi)))
   go_meet
   case rel => exact ⟨_, (decide (a2 > 2000)), jr_, H', ⟨by first | omega | exact Nat.le_refl _⟩, ⟨pk_ BK166.out⟩, ⟨bk_ HB.out⟩⟩
  ·replace c8 := Bool.eq_false_iff.mpr c8
   subst c8
   have H1 : (standstilllaw10_LoopMirror.j0 k a1 a2 a3 true a0_0 a0_1 l0_2) = some r := by rw [if_neg (show ¬ (false = true) by decide)] at H; exact H
   clear H
   have H := H1
   clear H1
   have H' := Aside0.mk H
   clear H
   have hcz11_0 : w6.cell? ⟨gb166, 0, none⟩ = some (.int .i64 a0_0) := (blk_cell BK166.out 0).trans rfl
   have hcz11_1 : w6.cell? ⟨gb166, 1, none⟩ = some (.int .i64 a0_1) := (blk_cell BK166.out 1).trans rfl
   have hcz11_2 : w6.cell? ⟨gb166, 2, none⟩ = some (.slice A0_2 l0_2.length c0_2) := (blk_cell BK166.out 2).trans rfl
   have hfz11_0 := blk_frozen BK166.out 0
   have hfz11_1 := blk_frozen BK166.out 1
   have hfz11_2 := blk_frozen BK166.out 2
   go_wp2_with (first | ((with_reducible refine gate_callee (f := 11) rfl ?_); refine goesL_ (some 14) rfl rfl Try.func11 (by kernel_rfl) rfl #[.agg #[.int .i64 a0_0, .int .i64 a0_1, .slice A0_2 l0_2.length c0_2]] rfl gl_ ?_; (with_reducible refine (standstillref10_Valid.calls k a0_0 a0_1 _ _ l0_2 false _ ?side1 ?side2 A7.out).mono ?_); (case side1 => exact ck_ (Kd.C_below HR0_2.out HB.out)); (case side2 => exact HC0_2.out); rintro e w12 ⟨rfl, hb⟩; refine ⟨_, rfl, ?_⟩; have n0_ := A_ (blk_below (pk_ BK166.out) hb); have n1_ := A_ (below_step (bk_ HB.out) hb); clear BK166 HB; have BK166 := n0_; have HB := n1_; clear n0_ n1_; (try clear hb); (try clear hb2); (try clear hk); (try clear hi)))
   go_meet
   case rel => exact ⟨_, (true), jr_, H', ⟨by first | omega | exact Nat.le_refl _⟩, ⟨pk_ BK166.out⟩, ⟨bk_ HB.out⟩⟩
 case rest =>
  clear HC5
  obtain ⟨kq, x19_4, rfl, HA, HJ4, BK166, HB⟩ := hcut
  cases kq with
  | zero => exact absurd HA.out (by simp [standstilllaw10_LoopMirror.j0])
  | succ kj4 =>
   have H := HA.out
   clear HA
   simp only [standstilllaw10_LoopMirror.j0] at H
   by_cases c13 : x19_4 = true
   ·subst c13
    have H1 : ((standstilllaw10_awake.f kj4).bind fun t168 => (some t168)) = some r := by rw [if_pos rfl] at H; exact H
    clear H
    have H := H1
    clear H1
    replace H := Option.bind_eq_some_iff.mp H
    obtain ⟨t168, A140, H⟩ := H
    replace H : (some t168) = some r := H
    have A14 := Aside0.mk A140
    clear A140
    obtain rfl := Option.some.inj H
    go_wp2_with (first | ((with_reducible refine gate_callee (f := 9) rfl ?_); refine goesL_ (some 20) rfl rfl Try.func9 (by kernel_rfl) rfl #[] rfl gl_ ?_; (with_reducible refine (standstilllaw10_awake.calls kj4  t168 _ A14.out).mono ?_); rintro e w15 ⟨rfl, hb⟩; refine ⟨_, rfl, ?_⟩; have n0_ := A_ (blk_below (pk_ BK166.out) hb); have n1_ := A_ (below_step (bk_ HB.out) hb); clear BK166 HB; have BK166 := n0_; have HB := n1_; clear n0_ n1_; (try clear hb); (try clear hb2); (try clear hk); (try clear hi)))
    go_ret
    exact ⟨er_, bk_ HB.out⟩
   ·replace c13 := Bool.eq_false_iff.mpr c13
    subst c13
    have H1 : ((loop_Check.f kj4 a0_0 a0_1 l0_2 a1 a2 a3).bind fun bt169 => ((standstillref10_Mirror.f kj4 a0_0 a0_1 l0_2).bind fun bt171 => ((loop_Check.f kj4 bt171.1 bt171.2.1 bt171.2.2 a1 a2 (!a3)).bind fun bt176 => (if (bt169.1 == bt176.1) = true then (if bt169.2 = bt176.2 then ((standstilllaw10_awake.f kj4).bind fun t178 => (some t178)) else (some false)) else (some false))))) = some r := by rw [if_neg (show ¬ (false = true) by decide)] at H; exact H
    clear H
    have H := H1
    clear H1
    replace H := Option.bind_eq_some_iff.mp H
    obtain ⟨⟨t169, t170⟩, A160, H⟩ := H
    replace H : ((standstillref10_Mirror.f kj4 a0_0 a0_1 l0_2).bind fun bt171 => ((loop_Check.f kj4 bt171.1 bt171.2.1 bt171.2.2 a1 a2 (!a3)).bind fun bt176 => (if (t169 == bt176.1) = true then (if t170 = bt176.2 then ((standstilllaw10_awake.f kj4).bind fun t178 => (some t178)) else (some false)) else (some false)))) = some r := H
    have A16 := Aside0.mk A160
    clear A160
    replace H := Option.bind_eq_some_iff.mp H
    obtain ⟨⟨t171, t172, t173⟩, A170, H⟩ := H
    replace H : ((loop_Check.f kj4 t171 t172 t173 a1 a2 (!a3)).bind fun bt176 => (if (t169 == bt176.1) = true then (if t170 = bt176.2 then ((standstilllaw10_awake.f kj4).bind fun t178 => (some t178)) else (some false)) else (some false))) = some r := H
    have A17 := Aside0.mk A170
    clear A170
    replace H := Option.bind_eq_some_iff.mp H
    obtain ⟨⟨t176, t177⟩, A180, H⟩ := H
    replace H : (if (t169 == t176) = true then (if t170 = t177 then ((standstilllaw10_awake.f kj4).bind fun t178 => (some t178)) else (some false)) else (some false)) = some r := H
    have A18 := Aside0.mk A180
    clear A180
    by_cases c19 : (t169 == t176) = true
    ·rw [if_pos c19] at H
     have c19b0 : (t169 == t176) = true := c19
     (try (have c19b1 : decide (t169 = t176) = true := by simpa using c19))
     (try (have c19b2 : (t169 == t176) = true := by simpa using c19))
     clear c19
     by_cases c20 : t170 = t177
     ·rw [if_pos c20] at H
      have c20b0 : (t170 == t177) = true := beq_iff_eq.mpr c20
      have c20b1 : (t170 != t177) = false := bne_eq_false_iff_eq.mpr c20
      clear c20
      replace H := Option.bind_eq_some_iff.mp H
      obtain ⟨t178, A210, H⟩ := H
      replace H : (some t178) = some r := H
      have A21 := Aside0.mk A210
      clear A210
      obtain rfl := Option.some.inj H
      have hcz22_0 : wc.cell? ⟨gb166, 0, none⟩ = some (.int .i64 a0_0) := (blk_cell BK166.out 0).trans rfl
      have hcz22_1 : wc.cell? ⟨gb166, 1, none⟩ = some (.int .i64 a0_1) := (blk_cell BK166.out 1).trans rfl
      have hcz22_2 : wc.cell? ⟨gb166, 2, none⟩ = some (.slice A0_2 l0_2.length c0_2) := (blk_cell BK166.out 2).trans rfl
      have hfz22_0 := blk_frozen BK166.out 0
      have hfz22_1 := blk_frozen BK166.out 1
      have hfz22_2 := blk_frozen BK166.out 2
      go_wp2_with (first | ((with_reducible refine gate_callee (f := 10) rfl ?_); refine goesL_ (some 26) rfl rfl Try.func10 (by kernel_rfl) rfl #[.agg #[.int .i64 a0_0, .int .i64 a0_1, .slice A0_2 l0_2.length c0_2], .int .i64 a1, .int .i64 a2, .bool a3] rfl gl_ ?_; (with_reducible refine (loop_Check.calls kj4 a0_0 a0_1 _ _ l0_2 a1 a2 a3 t169 t170 _ ?side1 ?side2 A16.out).mono ?_); (case side1 => exact ck_ (Kd.C_below HR0_2.out HB.out)); (case side2 => exact HC0_2.out); rintro e w23 ⟨rfl, hb⟩; refine ⟨_, rfl, ?_⟩; have n0_ := A_ (blk_below (pk_ BK166.out) hb); have n1_ := A_ (below_step (bk_ HB.out) hb); clear BK166 HB; have BK166 := n0_; have HB := n1_; clear n0_ n1_; (try clear hb); (try clear hb2); (try clear hk); (try clear hi); have hcz24_0 : w23.cell? ⟨gb166, 0, none⟩ = some (.int .i64 a0_0) := (blk_cell BK166.out 0).trans rfl; have hcz24_1 : w23.cell? ⟨gb166, 1, none⟩ = some (.int .i64 a0_1) := (blk_cell BK166.out 1).trans rfl; have hcz24_2 : w23.cell? ⟨gb166, 2, none⟩ = some (.slice A0_2 l0_2.length c0_2) := (blk_cell BK166.out 2).trans rfl; have hfz24_0 := blk_frozen BK166.out 0; have hfz24_1 := blk_frozen BK166.out 1; have hfz24_2 := blk_frozen BK166.out 2) | ((with_reducible refine gate_callee (f := 14) rfl ?_); refine goesL_ (some 31) rfl rfl Try.func14 (by kernel_rfl) rfl #[.agg #[.int .i64 a0_0, .int .i64 a0_1, .slice A0_2 l0_2.length c0_2]] rfl gl_ ?_; (with_reducible refine (standstillref10_Mirror.calls kj4 a0_0 a0_1 _ _ l0_2 t171 t172 t173 _ ?side1 ?side2 A17.out).mono ?_); (case side1 => exact ck_ (Kd.C_below HR0_2.out HB.out)); (case side2 => exact HC0_2.out); rintro e w25 ⟨v174, rfl, ho0, hb⟩; refine ⟨_, rfl, ?_⟩; have n0_ := A_ (Kd.S_lower ho0 (below_size (bk_ HB.out))); have n1_ := A_ (blk_below (pk_ BK166.out) hb); have n2_ := A_ (below_step (bk_ HB.out) hb); clear BK166 HB; have HO175 := n0_; have BK166 := n1_; have HB := n2_; clear n0_ n1_ n2_; (try clear hb); (try clear hb2); (try clear hk); (try clear hi); (try clear ho0); obtain ⟨Ao26, co26, eo26⟩ := Kd.S_slice HO175.out; subst eo26) | ((with_reducible refine gate_callee (f := 10) rfl ?_); refine goesL_ (some 36) rfl rfl Try.func10 (by kernel_rfl) rfl #[.agg #[.int .i64 t171, .int .i64 t172, .slice Ao26 t173.length co26], .int .i64 a1, .int .i64 a2, .bool (!a3)] rfl gl_ ?_; (with_reducible refine (loop_Check.calls kj4 t171 t172 _ _ t173 a1 a2 (!a3) t176 t177 _ ?side1 ?side2 A18.out).mono ?_); (case side1 => repeat (first | exact (Kd.S_reads' HO175.out).2.2 | (with_reducible refine Kd.C_alloc ?_ _) | (with_reducible refine Kd.C_drewN ?_ _) | (with_reducible refine Kd.C_drew ?_))); (case side2 => exact (Kd.S_reads' HO175.out).2.1); rintro e w27 ⟨rfl, hb⟩; refine ⟨_, rfl, ?_⟩; have n0_ := A_ (Kd.S_below (by (with_reducible repeat (first | apply Kd.S_alloc | apply Kd.S_drewN | apply Kd.S_drew)); exact HO175.out) hb); have n1_ := A_ (blk_below (pk_ BK166.out) hb); have n2_ := A_ (below_step (bk_ HB.out) hb); clear HO175 BK166 HB; have HO175 := n0_; have BK166 := n1_; have HB := n2_; clear n0_ n1_ n2_; (try clear hb); (try clear hb2); (try clear hk); (try clear hi)) | (go_at_call 9; (with_reducible refine (standstilllaw10_awake.calls kj4  t178 _ A21.out).mono ?_); rintro e w28 ⟨rfl, hb⟩; have n0_ := A_ (Kd.S_below (by (with_reducible repeat (first | apply Kd.S_alloc | apply Kd.S_drewN | apply Kd.S_drew)); exact HO175.out) hb); have n1_ := A_ (blk_below (pk_ BK166.out) hb); have n2_ := A_ (below_step (bk_ HB.out) hb); clear HO175 BK166 HB; have HO175 := n0_; have BK166 := n1_; have HB := n2_; clear n0_ n1_ n2_; (try clear hb); (try clear hb2); (try clear hk); (try clear hi)))
      go_ret
      exact ⟨er_, bk_ HB.out⟩
     ·rw [if_neg c20] at H
      have c20b0 : (t170 == t177) = false := beq_eq_false_iff_ne.mpr c20
      have c20b1 : (t170 != t177) = true := bne_iff_ne.mpr c20
      obtain rfl := Option.some.inj H
      have hcz29_0 : wc.cell? ⟨gb166, 0, none⟩ = some (.int .i64 a0_0) := (blk_cell BK166.out 0).trans rfl
      have hcz29_1 : wc.cell? ⟨gb166, 1, none⟩ = some (.int .i64 a0_1) := (blk_cell BK166.out 1).trans rfl
      have hcz29_2 : wc.cell? ⟨gb166, 2, none⟩ = some (.slice A0_2 l0_2.length c0_2) := (blk_cell BK166.out 2).trans rfl
      have hfz29_0 := blk_frozen BK166.out 0
      have hfz29_1 := blk_frozen BK166.out 1
      have hfz29_2 := blk_frozen BK166.out 2
      go_wp2_with (first | ((with_reducible refine gate_callee (f := 10) rfl ?_); refine goesL_ (some 26) rfl rfl Try.func10 (by kernel_rfl) rfl #[.agg #[.int .i64 a0_0, .int .i64 a0_1, .slice A0_2 l0_2.length c0_2], .int .i64 a1, .int .i64 a2, .bool a3] rfl gl_ ?_; (with_reducible refine (loop_Check.calls kj4 a0_0 a0_1 _ _ l0_2 a1 a2 a3 t169 t170 _ ?side1 ?side2 A16.out).mono ?_); (case side1 => exact ck_ (Kd.C_below HR0_2.out HB.out)); (case side2 => exact HC0_2.out); rintro e w30 ⟨rfl, hb⟩; refine ⟨_, rfl, ?_⟩; have n0_ := A_ (blk_below (pk_ BK166.out) hb); have n1_ := A_ (below_step (bk_ HB.out) hb); clear BK166 HB; have BK166 := n0_; have HB := n1_; clear n0_ n1_; (try clear hb); (try clear hb2); (try clear hk); (try clear hi); have hcz31_0 : w30.cell? ⟨gb166, 0, none⟩ = some (.int .i64 a0_0) := (blk_cell BK166.out 0).trans rfl; have hcz31_1 : w30.cell? ⟨gb166, 1, none⟩ = some (.int .i64 a0_1) := (blk_cell BK166.out 1).trans rfl; have hcz31_2 : w30.cell? ⟨gb166, 2, none⟩ = some (.slice A0_2 l0_2.length c0_2) := (blk_cell BK166.out 2).trans rfl; have hfz31_0 := blk_frozen BK166.out 0; have hfz31_1 := blk_frozen BK166.out 1; have hfz31_2 := blk_frozen BK166.out 2) | ((with_reducible refine gate_callee (f := 14) rfl ?_); refine goesL_ (some 31) rfl rfl Try.func14 (by kernel_rfl) rfl #[.agg #[.int .i64 a0_0, .int .i64 a0_1, .slice A0_2 l0_2.length c0_2]] rfl gl_ ?_; (with_reducible refine (standstillref10_Mirror.calls kj4 a0_0 a0_1 _ _ l0_2 t171 t172 t173 _ ?side1 ?side2 A17.out).mono ?_); (case side1 => exact ck_ (Kd.C_below HR0_2.out HB.out)); (case side2 => exact HC0_2.out); rintro e w32 ⟨v174, rfl, ho0, hb⟩; refine ⟨_, rfl, ?_⟩; have n0_ := A_ (Kd.S_lower ho0 (below_size (bk_ HB.out))); have n1_ := A_ (blk_below (pk_ BK166.out) hb); have n2_ := A_ (below_step (bk_ HB.out) hb); clear BK166 HB; have HO175 := n0_; have BK166 := n1_; have HB := n2_; clear n0_ n1_ n2_; (try clear hb); (try clear hb2); (try clear hk); (try clear hi); (try clear ho0); obtain ⟨Ao33, co33, eo33⟩ := Kd.S_slice HO175.out; subst eo33) | ((with_reducible refine gate_callee (f := 10) rfl ?_); refine goesL_ (some 36) rfl rfl Try.func10 (by kernel_rfl) rfl #[.agg #[.int .i64 t171, .int .i64 t172, .slice Ao33 t173.length co33], .int .i64 a1, .int .i64 a2, .bool (!a3)] rfl gl_ ?_; (with_reducible refine (loop_Check.calls kj4 t171 t172 _ _ t173 a1 a2 (!a3) t176 t177 _ ?side1 ?side2 A18.out).mono ?_); (case side1 => repeat (first | exact (Kd.S_reads' HO175.out).2.2 | (with_reducible refine Kd.C_alloc ?_ _) | (with_reducible refine Kd.C_drewN ?_ _) | (with_reducible refine Kd.C_drew ?_))); (case side2 => exact (Kd.S_reads' HO175.out).2.1); rintro e w34 ⟨rfl, hb⟩; refine ⟨_, rfl, ?_⟩; have n0_ := A_ (Kd.S_below (by (with_reducible repeat (first | apply Kd.S_alloc | apply Kd.S_drewN | apply Kd.S_drew)); exact HO175.out) hb); have n1_ := A_ (blk_below (pk_ BK166.out) hb); have n2_ := A_ (below_step (bk_ HB.out) hb); clear HO175 BK166 HB; have HO175 := n0_; have BK166 := n1_; have HB := n2_; clear n0_ n1_ n2_; (try clear hb); (try clear hb2); (try clear hk); (try clear hi)))
      go_ret
      exact ⟨er_, bk_ HB.out⟩
    ·rw [if_neg c19] at H
     have c19b0 : (t169 == t176) = false := by simpa using c19
     (try (have c19b1 : decide (t169 = t176) = false := by simpa using c19))
     (try (have c19b2 : (t169 == t176) = false := by simpa using c19))
     (try (have c19b3 : ¬ (t169 = t176) := by simpa using c19))
     clear c19
     obtain rfl := Option.some.inj H
     have hcz35_0 : wc.cell? ⟨gb166, 0, none⟩ = some (.int .i64 a0_0) := (blk_cell BK166.out 0).trans rfl
     have hcz35_1 : wc.cell? ⟨gb166, 1, none⟩ = some (.int .i64 a0_1) := (blk_cell BK166.out 1).trans rfl
     have hcz35_2 : wc.cell? ⟨gb166, 2, none⟩ = some (.slice A0_2 l0_2.length c0_2) := (blk_cell BK166.out 2).trans rfl
     have hfz35_0 := blk_frozen BK166.out 0
     have hfz35_1 := blk_frozen BK166.out 1
     have hfz35_2 := blk_frozen BK166.out 2
     go_wp2_with (first | ((with_reducible refine gate_callee (f := 10) rfl ?_); refine goesL_ (some 26) rfl rfl Try.func10 (by kernel_rfl) rfl #[.agg #[.int .i64 a0_0, .int .i64 a0_1, .slice A0_2 l0_2.length c0_2], .int .i64 a1, .int .i64 a2, .bool a3] rfl gl_ ?_; (with_reducible refine (loop_Check.calls kj4 a0_0 a0_1 _ _ l0_2 a1 a2 a3 t169 t170 _ ?side1 ?side2 A16.out).mono ?_); (case side1 => exact ck_ (Kd.C_below HR0_2.out HB.out)); (case side2 => exact HC0_2.out); rintro e w36 ⟨rfl, hb⟩; refine ⟨_, rfl, ?_⟩; have n0_ := A_ (blk_below (pk_ BK166.out) hb); have n1_ := A_ (below_step (bk_ HB.out) hb); clear BK166 HB; have BK166 := n0_; have HB := n1_; clear n0_ n1_; (try clear hb); (try clear hb2); (try clear hk); (try clear hi); have hcz37_0 : w36.cell? ⟨gb166, 0, none⟩ = some (.int .i64 a0_0) := (blk_cell BK166.out 0).trans rfl; have hcz37_1 : w36.cell? ⟨gb166, 1, none⟩ = some (.int .i64 a0_1) := (blk_cell BK166.out 1).trans rfl; have hcz37_2 : w36.cell? ⟨gb166, 2, none⟩ = some (.slice A0_2 l0_2.length c0_2) := (blk_cell BK166.out 2).trans rfl; have hfz37_0 := blk_frozen BK166.out 0; have hfz37_1 := blk_frozen BK166.out 1; have hfz37_2 := blk_frozen BK166.out 2) | ((with_reducible refine gate_callee (f := 14) rfl ?_); refine goesL_ (some 31) rfl rfl Try.func14 (by kernel_rfl) rfl #[.agg #[.int .i64 a0_0, .int .i64 a0_1, .slice A0_2 l0_2.length c0_2]] rfl gl_ ?_; (with_reducible refine (standstillref10_Mirror.calls kj4 a0_0 a0_1 _ _ l0_2 t171 t172 t173 _ ?side1 ?side2 A17.out).mono ?_); (case side1 => exact ck_ (Kd.C_below HR0_2.out HB.out)); (case side2 => exact HC0_2.out); rintro e w38 ⟨v174, rfl, ho0, hb⟩; refine ⟨_, rfl, ?_⟩; have n0_ := A_ (Kd.S_lower ho0 (below_size (bk_ HB.out))); have n1_ := A_ (blk_below (pk_ BK166.out) hb); have n2_ := A_ (below_step (bk_ HB.out) hb); clear BK166 HB; have HO175 := n0_; have BK166 := n1_; have HB := n2_; clear n0_ n1_ n2_; (try clear hb); (try clear hb2); (try clear hk); (try clear hi); (try clear ho0); obtain ⟨Ao39, co39, eo39⟩ := Kd.S_slice HO175.out; subst eo39) | ((with_reducible refine gate_callee (f := 10) rfl ?_); refine goesL_ (some 36) rfl rfl Try.func10 (by kernel_rfl) rfl #[.agg #[.int .i64 t171, .int .i64 t172, .slice Ao39 t173.length co39], .int .i64 a1, .int .i64 a2, .bool (!a3)] rfl gl_ ?_; (with_reducible refine (loop_Check.calls kj4 t171 t172 _ _ t173 a1 a2 (!a3) t176 t177 _ ?side1 ?side2 A18.out).mono ?_); (case side1 => repeat (first | exact (Kd.S_reads' HO175.out).2.2 | (with_reducible refine Kd.C_alloc ?_ _) | (with_reducible refine Kd.C_drewN ?_ _) | (with_reducible refine Kd.C_drew ?_))); (case side2 => exact (Kd.S_reads' HO175.out).2.1); rintro e w40 ⟨rfl, hb⟩; refine ⟨_, rfl, ?_⟩; have n0_ := A_ (Kd.S_below (by (with_reducible repeat (first | apply Kd.S_alloc | apply Kd.S_drewN | apply Kd.S_drew)); exact HO175.out) hb); have n1_ := A_ (blk_below (pk_ BK166.out) hb); have n2_ := A_ (below_step (bk_ HB.out) hb); clear HO175 BK166 HB; have HO175 := n0_; have BK166 := n1_; have HB := n2_; clear n0_ n1_ n2_; (try clear hb); (try clear hb2); (try clear hk); (try clear hi)))
     go_ret
     exact ⟨er_, bk_ HB.out⟩

/-- THE ONE PURE STATEMENT of standstilllaw10_LoopMirror. -/
def standstilllaw10_LoopMirror.Pure : Prop := ∀ (a0_0 : Int) (a0_1 : Int) (l0_2 : List (List (S52))) (a1 : Int) (a2 : Int) (a3 : Bool), ((Lit.int .i64 a0_0).wf = true) → ((Lit.int .i64 a0_1).wf = true) → (l0_2.length * 24 ≤ 140737488351232 ∧ ∀ y_ ∈ l0_2, (y_.length * 24 ≤ 140737488351232 ∧ ∀ y__ ∈ y_, inv52 y__)) → ((Lit.int .i64 a1).wf = true) → ((Lit.int .i64 a2).wf = true) → ∃ k, standstilllaw10_LoopMirror.f k a0_0 a0_1 l0_2 a1 a2 a3 = some true

end Go.Proofs.Ytngmdidegmbpfaa.PLoopMirror
