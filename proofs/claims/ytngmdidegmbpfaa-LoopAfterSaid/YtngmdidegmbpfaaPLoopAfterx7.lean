-- out of a turned copy of the print, by a program of this session; Lean checks it
import Derived.Test.YtngmdidegmbpfaaPLoopAfterx0
namespace Go.Proofs.Ytngmdidegmbpfaa.PLoopAfter
open Go.RowKit Go.Proofs.YtngmdidegmbpfaaW.PrintWords Go.Proofs.YtngmdidegmbpfaaW.PrintLast Go.Proofs.YtngmdidegmbpfaaW.PrintMore
attribute [local go_sem] max2_int min2_int max_two min_two max_three min_three max_four min_four   -- for this text's walks alone
set_option linter.unusedVariables false
set_option linter.unusedSimpArgs false

attribute [local go_sem] isSome_put_
/-! ### standstillref10_Mirror: function 14 -/
mutual
def standstillref10_Mirror.l0 : Nat → Int → Int → Int → List (List (S52)) → Int → Int → List (List (S52)) → Option (Int × Int × (List (List (S52))))
 | 0, _, _, _, _, _, _, _ => none
 | k + 1, x4, x154000, x154001, x154002, x156000, x156001, x156002 => if x4 < (x154002.length : Int) then (standstillref10_Mirror.l1 k x4 ([] : List (S52)) 0 x154000 x154001 x154002 x156000 x156001 x156002) else (some (x156000, x156001, x156002))
def standstillref10_Mirror.l1 : Nat → Int → List (S52) → Int → Int → Int → List (List (S52)) → Int → Int → List (List (S52)) → Option (Int × Int × (List (List (S52))))
 | 0, _, _, _, _, _, _, _, _, _ => none
 | k + 1, x4, x5, x6, x154000, x154001, x154002, x156000, x156001, x156002 => if 0 ≤ x4 then (if x4 < (x154002.length : Int) then (if x6 < ((rd_L2 x154002 x4).length : Int) then (if 0 ≤ x6 then (if x5.length < 5864062014805 then (standstillref10_Mirror.l1 k x4 (x5 ++ [(⟨(rd_T52 (rd_L2 x154002 x4) x6).f0, wrap64 (-((rd_T52 (rd_L2 x154002 x4) x6).f1)), (rd_T52 (rd_L2 x154002 x4) x6).f2⟩ : S52)]) (wrap64 (x6 + 1)) x154000 x154001 x154002 x156000 x156001 x156002) else (none)) else (none)) else (if x156002.length < 5864062014805 then (standstillref10_Mirror.l0 k (wrap64 (x4 + 1)) x154000 x154001 x154002 x156000 x156001 (x156002 ++ [x5])) else (none))) else (none)) else (none)
end
def standstillref10_Mirror.f (k : Nat) (a0_0 : Int) (a0_1 : Int) (l0_2 : List (List (S52))) : Option (Int × Int × (List (List (S52)))) := standstillref10_Mirror.l0 k 0 a0_0 a0_1 l0_2 a0_0 a0_1 ([] : List (List (S52)))
theorem standstillref10_Mirror.mono_l : ∀ k, (∀ y0 y1 y2 y3 y4 y5 y6, LeO (standstillref10_Mirror.l0 k y0 y1 y2 y3 y4 y5 y6) (standstillref10_Mirror.l0 (k + 1) y0 y1 y2 y3 y4 y5 y6)) ∧ (∀ y0 y1 y2 y3 y4 y5 y6 y7 y8, LeO (standstillref10_Mirror.l1 k y0 y1 y2 y3 y4 y5 y6 y7 y8) (standstillref10_Mirror.l1 (k + 1) y0 y1 y2 y3 y4 y5 y6 y7 y8))
 | 0 => ⟨fun _ _ _ _ _ _ _ r h => by simp [standstillref10_Mirror.l0] at h, fun _ _ _ _ _ _ _ _ _ r h => by simp [standstillref10_Mirror.l1] at h⟩
 | k + 1 => by
  obtain ⟨ih0, ih1⟩ := standstillref10_Mirror.mono_l k
  refine ⟨?_, ?_⟩
  ·intro y0 y1 y2 y3 y4 y5 y6
   unfold standstillref10_Mirror.l0
   repeat' first
   | (with_reducible exact ih0 _ _ _ _ _ _ _)
   | (with_reducible exact ih1 _ _ _ _ _ _ _ _ _)
   | (with_reducible exact LeO.refl _)
   | (with_reducible exact LeO.none _)
   | (with_reducible refine LeO.ite ?_ ?_)
   | (with_reducible refine LeO.bind ?_ (fun _ => ?_))
   | exact ih0 _ _ _ _ _ _ _
   | exact ih1 _ _ _ _ _ _ _ _ _
   | exact LeO.none _
   | refine LeO.ite ?_ ?_
   | refine LeO.bind ?_ (fun _ => ?_)
  ·intro y0 y1 y2 y3 y4 y5 y6 y7 y8
   unfold standstillref10_Mirror.l1
   repeat' first
   | (with_reducible exact ih0 _ _ _ _ _ _ _)
   | (with_reducible exact ih1 _ _ _ _ _ _ _ _ _)
   | (with_reducible exact LeO.refl _)
   | (with_reducible exact LeO.none _)
   | (with_reducible refine LeO.ite ?_ ?_)
   | (with_reducible refine LeO.bind ?_ (fun _ => ?_))
   | exact ih0 _ _ _ _ _ _ _
   | exact ih1 _ _ _ _ _ _ _ _ _
   | exact LeO.none _
   | refine LeO.ite ?_ ?_
   | refine LeO.bind ?_ (fun _ => ?_)
theorem standstillref10_Mirror.mono : ∀ a0 a1 a2 k, LeO (standstillref10_Mirror.f k a0 a1 a2) (standstillref10_Mirror.f (k + 1) a0 a1 a2) := by
 intro a0 a1 a2 k
 obtain ⟨ih0, ih1⟩ := standstillref10_Mirror.mono_l k
 unfold standstillref10_Mirror.f
 repeat' first
   | (with_reducible exact ih0 _ _ _ _ _ _ _)
   | (with_reducible exact ih1 _ _ _ _ _ _ _ _ _)
   | (with_reducible exact LeO.refl _)
   | (with_reducible exact LeO.none _)
   | (with_reducible refine LeO.ite ?_ ?_)
   | (with_reducible refine LeO.bind ?_ (fun _ => ?_))
   | exact ih0 _ _ _ _ _ _ _
   | exact ih1 _ _ _ _ _ _ _ _ _
   | exact LeO.none _
   | refine LeO.ite ?_ ?_
   | refine LeO.bind ?_ (fun _ => ?_)
set_option maxHeartbeats 8000000 in
set_option maxRecDepth 100000 in
theorem standstillref10_Mirror.calls (k : Nat) (a0_0 : Int) (a0_1 : Int) (A0_2 : Option Addr) (c0_2 : Nat) (l0_2 : List (List (S52))) (r1 : Int) (r2 : Int) (r3 : List (List (S52))) (w : World) (hr0_2 : Kd.C (Kd.slice 52 k52) w A0_2 l0_2.length l0_2) (hc0_2 : l0_2.length ≤ c0_2) (h : standstillref10_Mirror.f k a0_0 a0_1 l0_2 = some (r1, r2, r3)) :
  Calls Try.prog 14 #[.agg #[.int .i64 a0_0, .int .i64 a0_1, .slice A0_2 l0_2.length c0_2]] w fun e w' => ∃ v2_ : Value, e = .returned (.agg #[.int .i64 r1, .int .i64 r2, v2_]) ∧ Kd.S (Kd.slice 52 k52) 53 w' w.heap.size (fun _ => True) v2_ r3 ∧ Below w.heap.size w w' := by
 have hu24 := Try.underlying24
 have hu52 := Try.underlying52
 have HR0_2 := Aside0.mk hr0_2
 have HC0_2 := Aside0.mk hc0_2
 clear hr0_2 hc0_2
 have HB := A_ (Below.refl w.heap.size w)
 have H : (standstillref10_Mirror.l0 k 0 a0_0 a0_1 l0_2 a0_0 a0_1 ([] : List (List (S52)))) = some (r1, r2, r3) := h
 clear h
 have H' := Aside0.mk H
 clear H
 go_enter Try.func14, Try.ntmps14
 go_wp2_with (first | ((with_reducible refine gate_dst (N := 1) rfl ?_); refine box_event ?hg (N := 1) ?hd (cs := #[.int .i64 a0_0, .int .i64 a0_1, .slice A0_2 l0_2.length c0_2]) (t := 24) ?hr ?_; (case hd => rfl); (case hg => rfl); (case hr => first | (go_simp; done) | (go_simp; rfl)); intro gb153 hg w2 hbox hb; have n0_ := A_ (below_step (bk_ HB.out) hb); have n1_ := A_ (hbox); have n2_ := A_ ((by rw [hg]; exact (below_size (bk_ HB.out)) : w.heap.size ≤ gb153)); have n3_ := A_ ((by rw [hg]; exact (below_size (bk_ HB.out)) : w.heap.size ≤ gb153)); clear HB; have HB := n0_; have BK153 := n1_; have GW153 := n2_; have GE153 := n3_; clear n0_ n1_ n2_ n3_ hb hbox hg) | ((with_reducible refine gate_dst (N := 2) rfl ?_); refine box_event ?hg (N := 2) ?hd (cs := #[.int .i64 0, .int .i64 0, .slice none 0 0]) (t := 24) ?hr ?_; (case hd => rfl); (case hg => rfl); (case hr => first | (go_simp; done) | (go_simp; rfl)); intro gb154 hg w3 hbox hb; have n0_ := A_ (blk_below (pk_ BK153.out) hb); have n1_ := A_ (below_step (bk_ HB.out) hb); have n2_ := A_ (hbox); have n3_ := A_ ((by rw [hg]; exact (below_size (bk_ HB.out)) : w.heap.size ≤ gb154)); have n4_ := A_ ((by rw [hg]; exact (below_size (bk_ HB.out)) : w.heap.size ≤ gb154)); have n5_ := A_ ((by rw [hg]; exact Nat.ne_of_lt (blk_lt (pk_ BK153.out)) : gb153 ≠ gb154)); have n6_ := A_ ((by rw [hg]; exact Nat.ne_of_gt (blk_lt (pk_ BK153.out)) : gb154 ≠ gb153)); clear BK153 HB; have BK153 := n0_; have HB := n1_; have BK154 := n2_; have GW154 := n3_; have GE154 := n4_; have NB153_154 := n5_; have NB154_153 := n6_; clear n0_ n1_ n2_ n3_ n4_ n5_ n6_ hb hbox hg; have hnb4 := NB153_154.out; have hnc4 := NB154_153.out; have hcz5_0 : w3.cell? ⟨gb153, 0, none⟩ = some (.int .i64 a0_0) := (blk_cell BK153.out 0).trans rfl; have hcz5_1 : w3.cell? ⟨gb153, 1, none⟩ = some (.int .i64 a0_1) := (blk_cell BK153.out 1).trans rfl; have hcz5_2 : w3.cell? ⟨gb153, 2, none⟩ = some (.slice A0_2 l0_2.length c0_2) := (blk_cell BK153.out 2).trans rfl; have hfz5_0 := blk_frozen BK153.out 0; have hfz5_1 := blk_frozen BK153.out 1; have hfz5_2 := blk_frozen BK153.out 2) | ((with_reducible refine gate_dst (N := 3) rfl ?_); refine box_event ?hg (N := 3) ?hd (cs := #[.int .i64 0, .int .i64 0, .slice none 0 0]) (t := 24) ?hr ?_; (case hd => rfl); (case hg => rfl); (case hr => first | (go_simp; done) | (go_simp; rfl)); intro gb155 hg w6 hbox hb; have n0_ := A_ (blk_below (pk_ BK153.out) hb); have n1_ := A_ (blk_below (pk_ BK154.out) hb); have n2_ := A_ (below_step (bk_ HB.out) hb); have n3_ := A_ (hbox); have n4_ := A_ ((by rw [hg]; exact (below_size (bk_ HB.out)) : w.heap.size ≤ gb155)); have n5_ := A_ ((by rw [hg]; exact (below_size (bk_ HB.out)) : w.heap.size ≤ gb155)); have n6_ := A_ ((by rw [hg]; exact Nat.ne_of_lt (blk_lt (pk_ BK153.out)) : gb153 ≠ gb155)); have n7_ := A_ ((by rw [hg]; exact Nat.ne_of_gt (blk_lt (pk_ BK153.out)) : gb155 ≠ gb153)); have n8_ := A_ ((by rw [hg]; exact Nat.ne_of_lt (blk_lt (pk_ BK154.out)) : gb154 ≠ gb155)); have n9_ := A_ ((by rw [hg]; exact Nat.ne_of_gt (blk_lt (pk_ BK154.out)) : gb155 ≠ gb154)); clear BK153 BK154 HB; have BK153 := n0_; have BK154 := n1_; have HB := n2_; have BK155 := n3_; have GW155 := n4_; have GE155 := n5_; have NB153_155 := n6_; have NB155_153 := n7_; have NB154_155 := n8_; have NB155_154 := n9_; clear n0_ n1_ n2_ n3_ n4_ n5_ n6_ n7_ n8_ n9_ hb hbox hg; have hnb7 := NB155_153.out; have hnc7 := NB153_155.out; have hnb8 := NB155_154.out; have hnc8 := NB154_155.out; have hcz9_0 : w6.cell? ⟨gb155, 0, none⟩ = some (.int .i64 0) := (blk_cell BK155.out 0).trans rfl; have hcz9_1 : w6.cell? ⟨gb155, 1, none⟩ = some (.int .i64 0) := (blk_cell BK155.out 1).trans rfl; have hcz9_2 : w6.cell? ⟨gb155, 2, none⟩ = some (.slice none 0 0) := (blk_cell BK155.out 2).trans rfl; have hfz9_0 := blk_frozen BK155.out 0; have hfz9_1 := blk_frozen BK155.out 1; have hfz9_2 := blk_frozen BK155.out 2))
 go_loopg [4] k (fun kq v4 w' => ∃ (x4_1 : Int) (x156002_1 : List (List (S52))) (u156002 : Value), v4 = .int .i64 x4_1 ∧ Aside0 (standstillref10_Mirror.l0 kq x4_1 a0_0 a0_1 l0_2 a0_0 a0_1 x156002_1 = some (r1, r2, r3)) ∧ Aside0 (kq ≤ k) ∧ Aside0 (Kd.S (Kd.slice 52 k52) 53 w' w.heap.size (fun _ => True) u156002 x156002_1) ∧ Aside0 (w'.heap[gb153]? = some (.cells #[.int .i64 a0_0, .int .i64 a0_1, (.slice A0_2 l0_2.length c0_2)] 24 (0, 0))) ∧ Aside0 (w'.heap[gb154]? = some (.cells #[.int .i64 0, .int .i64 0, (.slice none 0 0)] 24 (0, 0))) ∧ Aside0 (w'.heap[gb155]? = some (.cells #[.int .i64 a0_0, .int .i64 a0_1, u156002] 24 (0, 0))) ∧ Aside0 (Below w.heap.size w w'))
 case atStart => exact ⟨(0), (([] : List (List (S52)))), (.slice none 0 0), jr_, H', ⟨Nat.le_refl _⟩, ⟨by first | exact Kd.S_nil _ _ _ _ _ | exact Kd.N_nil _ _ _ _ _ | exact Kd.V_nil _ _ _ _ _ | exact Kd.Q_nil _ _ _ _ _ | exact Kd.R_nil _ _ _ _ _⟩, ⟨by refine pk_ ?_; refine blk_far ?_ NB153_155.out _; refine pk_ ?_; refine blk_far ?_ NB153_155.out _; refine pk_ ?_; refine blk_far ?_ NB153_155.out _; exact pk_ BK153.out⟩, ⟨by refine pk_ ?_; refine blk_far ?_ NB154_155.out _; refine pk_ ?_; refine blk_far ?_ NB154_155.out _; refine pk_ ?_; refine blk_far ?_ NB154_155.out _; exact pk_ BK154.out⟩, ⟨by refine pk_ ?_; refine blk_put (cs := #[.int .i64 a0_0, .int .i64 a0_1, .slice none 0 0]) ?_ 2 _ rfl; refine pk_ ?_; refine blk_put (cs := #[.int .i64 a0_0, .int .i64 0, .slice none 0 0]) ?_ 1 _ rfl; refine pk_ ?_; refine blk_put (cs := #[.int .i64 0, .int .i64 0, .slice none 0 0]) ?_ 0 _ rfl; exact pk_ BK155.out⟩, ⟨bk_ HB.out⟩⟩
 case round =>
  clear H'
  (try clear hcz5_0); (try clear hcz5_1); (try clear hcz5_2); (try clear hcz9_0); (try clear hcz9_1); (try clear hcz9_2); (try clear hfz5_0); (try clear hfz5_1); (try clear hfz5_2); (try clear hfz9_0); (try clear hfz9_1); (try clear hfz9_2)
  obtain ⟨x4_1, x156002_1, u156002, rfl, HA, HK1, HO_156002, BK153, BK154, BK155, HB⟩ := hrel
  cases gk with
  | zero => exact absurd HA.out (by simp [standstillref10_Mirror.l0])
  | succ k1 =>
   have H := HA.out
   clear HA
   simp only [standstillref10_Mirror.l0] at H
   by_cases c10 : x4_1 < (l0_2.length : Int)
   ·rw [if_pos c10] at H
    have c10b0 : decide (x4_1 < (l0_2.length : Int)) = true := decide_eq_true c10
    clear c10
    have H' := Aside0.mk H
    clear H
    have hnb11 := NB153_154.out
    have hnc11 := NB154_153.out
    have hnb12 := NB153_155.out
    have hnc12 := NB155_153.out
    have hcz13_0 : wr.cell? ⟨gb153, 0, none⟩ = some (.int .i64 a0_0) := (blk_cell BK153.out 0).trans rfl
    have hcz13_1 : wr.cell? ⟨gb153, 1, none⟩ = some (.int .i64 a0_1) := (blk_cell BK153.out 1).trans rfl
    have hcz13_2 : wr.cell? ⟨gb153, 2, none⟩ = some (.slice A0_2 l0_2.length c0_2) := (blk_cell BK153.out 2).trans rfl
    have hfz13_0 := blk_frozen BK153.out 0
    have hfz13_1 := blk_frozen BK153.out 1
    have hfz13_2 := blk_frozen BK153.out 2
    go_wp2
    go_loopg [5, 6] k1 (fun kq v5 v6 w' => ∃ (x5_2 : List (S52)) (x6_2 : Int), v6 = .int .i64 x6_2 ∧ Aside0 (standstillref10_Mirror.l1 kq x4_1 x5_2 x6_2 a0_0 a0_1 l0_2 a0_0 a0_1 x156002_1 = some (r1, r2, r3)) ∧ Aside0 (kq ≤ k1) ∧ Aside0 (Kd.R k52 52 w' w.heap.size (fun _ => True) v5 x5_2) ∧ Aside0 (Kd.S (Kd.slice 52 k52) 53 w' w.heap.size (fun k_ => some k_ ≠ (v5 : Value).ownBlock) u156002 x156002_1) ∧ Aside0 (w'.heap[gb153]? = some (.cells #[.int .i64 a0_0, .int .i64 a0_1, (.slice A0_2 l0_2.length c0_2)] 24 (0, 0))) ∧ Aside0 (w'.heap[gb154]? = some (.cells #[.int .i64 0, .int .i64 0, (.slice none 0 0)] 24 (0, 0))) ∧ Aside0 (w'.heap[gb155]? = some (.cells #[.int .i64 a0_0, .int .i64 a0_1, u156002] 24 (0, 0))) ∧ Aside0 (Below w.heap.size w w'))
    case atStart => exact ⟨(([] : List (S52))), (0), jr_, H', ⟨Nat.le_refl _⟩, ⟨by first | exact Kd.R_nil _ _ _ _ _ | exact Kd.N_nil _ _ _ _ _ | exact Kd.V_nil _ _ _ _ _ | exact Kd.Q_nil _ _ _ _ _ | exact Kd.S_nil _ _ _ _ _⟩, ⟨by (with_reducible repeat (first | apply Kd.S_alloc | apply Kd.S_drewN | apply Kd.S_drew)); exact Kd.S_mono HO_156002.out (fun _ hk => (by simp [Value.ownBlock]))⟩, ⟨pk_ BK153.out⟩, ⟨pk_ BK154.out⟩, ⟨pk_ BK155.out⟩, ⟨bk_ HB.out⟩⟩
    case round =>
     clear H'
     (try clear c10); (try clear c10b0); (try clear hcz13_0); (try clear hcz13_1); (try clear hcz13_2); (try clear hcz5_0); (try clear hcz5_1); (try clear hcz5_2); (try clear hcz9_0); (try clear hcz9_1); (try clear hcz9_2); (try clear hfz13_0); (try clear hfz13_1); (try clear hfz13_2); (try clear hfz5_0); (try clear hfz5_1); (try clear hfz5_2); (try clear hfz9_0); (try clear hfz9_1); (try clear hfz9_2)
     obtain ⟨x5_2, x6_2, rfl, HA, HK2, HO_5, HO_156002, BK153, BK154, BK155, HB⟩ := hrel
     cases gk with
     | zero => exact absurd HA.out (by simp [standstillref10_Mirror.l1])
     | succ k2 =>
      have H := HA.out
      clear HA
      simp only [standstillref10_Mirror.l1] at H
      by_cases c14 : 0 ≤ x4_1
      ·rw [if_pos c14] at H
       have c14b0 : decide (0 ≤ x4_1) = true := decide_eq_true c14
       clear c14
       by_cases c15 : x4_1 < (l0_2.length : Int)
       ·rw [if_pos c15] at H
        have c15b0 : decide (x4_1 < (l0_2.length : Int)) = true := decide_eq_true c15
        clear c15
        by_cases c16 : x6_2 < ((rd_L2 l0_2 x4_1).length : Int)
        ·rw [if_pos c16] at H
         have c16b0 : decide (x6_2 < ((rd_L2 l0_2 x4_1).length : Int)) = true := decide_eq_true c16
         clear c16
         by_cases c17 : 0 ≤ x6_2
         ·rw [if_pos c17] at H
          have c17b0 : decide (0 ≤ x6_2) = true := decide_eq_true c17
          clear c17
          by_cases c18 : x5_2.length < 5864062014805
          ·rw [if_pos c18] at H
           have LMc18 := Aside0.mk c18
           clear c18
           obtain ⟨y160, hy160⟩ : ∃ y_ : List (S52), y_ = (x5_2 ++ [(⟨(rd_T52 (rd_L2 l0_2 x4_1) x6_2).f0, wrap64 (-((rd_T52 (rd_L2 l0_2 x4_1) x6_2).f1)), (rd_T52 (rd_L2 l0_2 x4_1) x6_2).f2⟩ : S52)]) := ⟨_, rfl⟩
           replace H : (standstillref10_Mirror.l1 k2 x4_1 y160 (wrap64 (x6_2 + 1)) a0_0 a0_1 l0_2 a0_0 a0_1 x156002_1) = some (r1, r2, r3) := by first | (rw [hy160]; with_reducible exact H) | (have H2_ := (Option.bind_some _ _).symm.trans H; rw [hy160]; with_reducible exact H2_) | (have H2_ := (Option.bind_some _ _).symm.trans H; with_reducible exact H2_) | with_reducible exact H | (rw [hy160]; exact H) | exact H
           have Ny160 := Aside0.mk hy160
           clear hy160
           have H' := Aside0.mk H
           clear H
           have hnb19 := NB153_154.out
           have hnc19 := NB154_153.out
           have hnb20 := NB153_155.out
           have hnc20 := NB155_153.out
           have hcz21_0 : wr.cell? ⟨gb153, 0, none⟩ = some (.int .i64 a0_0) := (blk_cell BK153.out 0).trans rfl
           have hcz21_1 : wr.cell? ⟨gb153, 1, none⟩ = some (.int .i64 a0_1) := (blk_cell BK153.out 1).trans rfl
           have hcz21_2 : wr.cell? ⟨gb153, 2, none⟩ = some (.slice A0_2 l0_2.length c0_2) := (blk_cell BK153.out 2).trans rfl
           have hfz21_0 := blk_frozen BK153.out 0
           have hfz21_1 := blk_frozen BK153.out 1
           have hfz21_2 := blk_frozen BK153.out 2
           have p156 : 0 ≤ (x4_1 : Int) := od_
           have q156 : x4_1 < (l0_2.length : Int) := od_
           obtain ⟨ad156, A156_0, c156_0, e156, hx156_0, hl156_0, hi156_0⟩ := at_L2 HR0_2.out x4_1 p156 q156
           cases e156
           replace hx156_0 := lf_ HB.out hx156_0
           have HR156_0 := Aside0.mk hi156_0
           have HC156_0 := Aside0.mk hl156_0
           clear hi156_0 hl156_0
           replace p156 := eq_true p156
           replace q156 := eq_true q156
           have p157 : 0 ≤ (x4_1 : Int) := od_
           have q157 : x4_1 < (l0_2.length : Int) := od_
           obtain ⟨ad157, A157_0, c157_0, e157, hx157_0, hl157_0, hi157_0⟩ := at_L2 HR0_2.out x4_1 p157 q157
           obtain rfl : ad156 = ad157 := (by injection e157)
           replace hx157_0 := lf_ HB.out hx157_0
           have HR157_0 := Aside0.mk hi157_0
           have HC157_0 := Aside0.mk hl157_0
           clear hi157_0 hl157_0
           replace p157 := eq_true p157
           replace q157 := eq_true q157
           have ea_ := Option.some.inj (hx156_0.symm.trans hx157_0)
           injection ea_ with ea_ en_ ec_
           subst ea_
           subst ec_
           clear en_
           have p158 : 0 ≤ (x6_2 : Int) := od_
           have q158 : x6_2 < ((rd_L2 l0_2 x4_1).length : Int) := od_
           obtain ⟨ad158, e158, hx158_0, hx158_1, hx158_2⟩ := at_T52 HR157_0.out x6_2 p158 q158
           cases e158
           replace hx158_0 := lf_ HB.out hx158_0
           replace hx158_1 := lf_ HB.out hx158_1
           replace hx158_2 := lf_ HB.out hx158_2
           replace p158 := eq_true p158
           replace q158 := eq_true q158
           go_wp2_with (first | ((with_reducible refine gate_dst (N := 7) rfl ?_); refine box_event ?hg (N := 7) ?hd (cs := #[.int .i64 0, .int .i64 0, .int .i64 0]) (t := 52) ?hr ?_; (case hd => rfl); (case hg => rfl); (case hr => first | (go_simp; done) | (go_simp; rfl)); intro gb159 hg w22 hbox hb; have n0_ := A_ (Kd.R_below (Kd.R_elderB (rk_ HO_5.out) gb159 (Nat.le_of_eq hg.symm)) hb); have n1_ := A_ (Kd.S_below (Kd.S_elderB (by (with_reducible repeat (first | apply Kd.S_alloc | apply Kd.S_drewN | apply Kd.S_drew)); exact HO_156002.out) gb159 (Nat.le_of_eq hg.symm)) hb); have n2_ := A_ (blk_below (pk_ BK153.out) hb); have n3_ := A_ (blk_below (pk_ BK154.out) hb); have n4_ := A_ (blk_below (pk_ BK155.out) hb); have n5_ := A_ (below_step (bk_ HB.out) hb); have n6_ := A_ (hbox); have n7_ := A_ ((by rw [hg]; exact (below_size (bk_ HB.out)) : w.heap.size ≤ gb159)); have n8_ := A_ ((by rw [hg]; exact (below_size (bk_ HB.out)) : w.heap.size ≤ gb159)); have n9_ := A_ ((by rw [hg]; exact Nat.ne_of_lt (blk_lt (pk_ BK153.out)) : gb153 ≠ gb159)); have n10_ := A_ ((by rw [hg]; exact Nat.ne_of_gt (blk_lt (pk_ BK153.out)) : gb159 ≠ gb153)); have n11_ := A_ ((by rw [hg]; exact Nat.ne_of_lt (blk_lt (pk_ BK154.out)) : gb154 ≠ gb159)); have n12_ := A_ ((by rw [hg]; exact Nat.ne_of_gt (blk_lt (pk_ BK154.out)) : gb159 ≠ gb154)); have n13_ := A_ ((by rw [hg]; exact Nat.ne_of_lt (blk_lt (pk_ BK155.out)) : gb155 ≠ gb159)); have n14_ := A_ ((by rw [hg]; exact Nat.ne_of_gt (blk_lt (pk_ BK155.out)) : gb159 ≠ gb155)); clear HO_5 HO_156002 BK153 BK154 BK155 HB; have HO_5 := n0_; have HO_156002 := n1_; have BK153 := n2_; have BK154 := n3_; have BK155 := n4_; have HB := n5_; have BK159 := n6_; have GW159 := n7_; have GE159 := n8_; have NB153_159 := n9_; have NB159_153 := n10_; have NB154_159 := n11_; have NB159_154 := n12_; have NB155_159 := n13_; have NB159_155 := n14_; clear n0_ n1_ n2_ n3_ n4_ n5_ n6_ n7_ n8_ n9_ n10_ n11_ n12_ n13_ n14_ hb hbox hg; have hnb23 := NB159_153.out; have hnc23 := NB153_159.out; have hnb24 := NB159_154.out; have hnc24 := NB154_159.out; have hnb25 := NB159_155.out; have hnc25 := NB155_159.out; have hcz26_0 : w22.cell? ⟨gb159, 0, none⟩ = some (.int .i64 0) := (blk_cell BK159.out 0).trans rfl; have hcz26_1 : w22.cell? ⟨gb159, 1, none⟩ = some (.int .i64 0) := (blk_cell BK159.out 1).trans rfl; have hcz26_2 : w22.cell? ⟨gb159, 2, none⟩ = some (.int .i64 0) := (blk_cell BK159.out 2).trans rfl; have hfz26_0 := blk_frozen BK159.out 0; have hfz26_1 := blk_frozen BK159.out 1; have hfz26_2 := blk_frozen BK159.out 2) | ((with_reducible refine gate_builtin (b := .append) (xs := #[.tmp 38, .tmp 47]) rfl ?_); at_builtin; refine Kd.R_append k52 (w0 := w) w.heap.size rfl (.tmp 38) (.tmp 47) 53 52 (.agg #[(.int .i64 0), (.int .i64 0), (.int .i64 0)]) 24 rfl Try.underlying53 info52 rfl (by decide) (by omega) u5 x5_2 (⟨(rd_T52 (rd_L2 l0_2 x4_1) x6_2).f0, wrap64 (-((rd_T52 (rd_L2 l0_2 x4_1) x6_2).f1)), (rd_T52 (rd_L2 l0_2 x4_1) x6_2).f2⟩ : S52) [.int .i64 ((rd_T52 (rd_L2 l0_2 x4_1) x6_2).f0), .int .i64 (wrap64 (-((rd_T52 (rd_L2 l0_2 x4_1) x6_2).f1))), .int .i64 ((rd_T52 (rd_L2 l0_2 x4_1) x6_2).f2)] (fun k_ => k_ ≠ gb159) (fun _ => False) rfl (by first | (go_simp; done) | (go_simp; rfl)) ?aP (fun _ hk => hk.elim) ?aF ?aO ?aB ?aS ?aL ?_; (case aP => exact k52_mkM _ _ _ (⟨(rd_T52 (rd_L2 l0_2 x4_1) x6_2).f0, wrap64 (-((rd_T52 (rd_L2 l0_2 x4_1) x6_2).f1)), (rd_T52 (rd_L2 l0_2 x4_1) x6_2).f2⟩ : S52)); (case aB => exact (bk_ HB.out)); (case aF => exact (fun k_ hk => Kd.freshB (g := gb159) (o := .cells #[.int .i64 ((rd_T52 (rd_L2 l0_2 x4_1) x6_2).f0), .int .i64 ((rd_T52 (rd_L2 l0_2 x4_1) x6_2).f1), .int .i64 ((rd_T52 (rd_L2 l0_2 x4_1) x6_2).f2)] 52 (0, 0)) (by refine pk_ ?_; refine blk_put (cs := #[.int .i64 ((rd_T52 (rd_L2 l0_2 x4_1) x6_2).f0), .int .i64 ((rd_T52 (rd_L2 l0_2 x4_1) x6_2).f1), .int .i64 0]) ?_ 2 _ rfl; refine pk_ ?_; refine blk_put (cs := #[.int .i64 ((rd_T52 (rd_L2 l0_2 x4_1) x6_2).f0), .int .i64 0, .int .i64 0]) ?_ 1 _ rfl; refine pk_ ?_; refine blk_put (cs := #[.int .i64 0, .int .i64 0, .int .i64 0]) ?_ 0 _ rfl; exact pk_ BK159.out) k_ hk)); (case aO => exact (by (with_reducible repeat (first | apply Kd.R_alloc | apply Kd.R_drewN | apply Kd.R_drew)); exact Kd.R_mono (Kd.R_far (p := ⟨gb159, 2, none⟩) (Kd.R_far (p := ⟨gb159, 1, none⟩) (Kd.R_far (p := ⟨gb159, 0, none⟩) (Kd.R_mono HO_5.out (fun k_ hk => (⟨hk, hk.2⟩ : _ ∧ k_ ≠ gb159))) (fun _ hk => hk.2) (.int .i64 ((rd_T52 (rd_L2 l0_2 x4_1) x6_2).f0))) (fun _ hk => hk.2) (.int .i64 ((rd_T52 (rd_L2 l0_2 x4_1) x6_2).f1))) (fun _ hk => hk.2) (.int .i64 ((rd_T52 (rd_L2 l0_2 x4_1) x6_2).f2))) (fun _ hk => hk.1.2))); (case aS => exact (below_size (bk_ HB.out))); (case aL => have := LMc18.out; omega); intro v161 w27 ho hb hg hat; rw [← Ny160.out] at ho; have n0_ := A_ (Kd.S_after (ok := (fun k_ => k_ ≠ gb159)) (by (with_reducible repeat (first | apply Kd.S_alloc | apply Kd.S_drewN | apply Kd.S_drew)); exact Kd.S_mono (Kd.S_far (p := ⟨gb159, 2, none⟩) (Kd.S_far (p := ⟨gb159, 1, none⟩) (Kd.S_far (p := ⟨gb159, 0, none⟩) (Kd.S_mono HO_156002.out (fun k_ hk => (⟨hk, hk.2⟩ : _ ∧ k_ ≠ gb159))) (fun _ hk => hk.2) (.int .i64 ((rd_T52 (rd_L2 l0_2 x4_1) x6_2).f0))) (fun _ hk => hk.2) (.int .i64 ((rd_T52 (rd_L2 l0_2 x4_1) x6_2).f1))) (fun _ hk => hk.2) (.int .i64 ((rd_T52 (rd_L2 l0_2 x4_1) x6_2).f2))) (fun _ hk => ⟨hk.1.2, hk.1.1⟩)) hg hat); have n1_ := A_ (blk_grown (g := gb153) (o := .cells #[.int .i64 a0_0, .int .i64 a0_1, .slice (some ad156) l0_2.length c0_2] 24 (0, 0)) (by refine pk_ ?_; refine blk_far ?_ NB153_159.out _; refine pk_ ?_; refine blk_far ?_ NB153_159.out _; refine pk_ ?_; refine blk_far ?_ NB153_159.out _; exact pk_ BK153.out) hg (Kd.R_ne HO_5.out BK153.out (by decide))); have n2_ := A_ (blk_grown (g := gb154) (o := .cells #[.int .i64 0, .int .i64 0, .slice none 0 0] 24 (0, 0)) (by refine pk_ ?_; refine blk_far ?_ NB154_159.out _; refine pk_ ?_; refine blk_far ?_ NB154_159.out _; refine pk_ ?_; refine blk_far ?_ NB154_159.out _; exact pk_ BK154.out) hg (Kd.R_ne HO_5.out BK154.out (by decide))); have n3_ := A_ (blk_grown (g := gb155) (o := .cells #[.int .i64 a0_0, .int .i64 a0_1, u156002] 24 (0, 0)) (by refine pk_ ?_; refine blk_far ?_ NB155_159.out _; refine pk_ ?_; refine blk_far ?_ NB155_159.out _; refine pk_ ?_; refine blk_far ?_ NB155_159.out _; exact pk_ BK155.out) hg (Kd.R_ne HO_5.out BK155.out (by decide))); have n4_ := A_ (blk_grown (g := gb159) (o := .cells #[.int .i64 ((rd_T52 (rd_L2 l0_2 x4_1) x6_2).f0), .int .i64 ((rd_T52 (rd_L2 l0_2 x4_1) x6_2).f1), .int .i64 ((rd_T52 (rd_L2 l0_2 x4_1) x6_2).f2)] 52 (0, 0)) (by refine pk_ ?_; refine blk_put (cs := #[.int .i64 ((rd_T52 (rd_L2 l0_2 x4_1) x6_2).f0), .int .i64 ((rd_T52 (rd_L2 l0_2 x4_1) x6_2).f1), .int .i64 0]) ?_ 2 _ rfl; refine pk_ ?_; refine blk_put (cs := #[.int .i64 ((rd_T52 (rd_L2 l0_2 x4_1) x6_2).f0), .int .i64 0, .int .i64 0]) ?_ 1 _ rfl; refine pk_ ?_; refine blk_put (cs := #[.int .i64 0, .int .i64 0, .int .i64 0]) ?_ 0 _ rfl; exact pk_ BK159.out) hg (Kd.R_away HO_5.out (fun _ hk => hk.2))); have n5_ := A_ (hb); have n6_ := A_ (ho); clear HO_156002 BK153 BK154 BK155 BK159 HB HO_5; have HO_156002 := n0_; have BK153 := n1_; have BK154 := n2_; have BK155 := n3_; have BK159 := n4_; have HB := n5_; have HO162 := n6_; clear n0_ n1_ n2_ n3_ n4_ n5_ n6_ ho hb hg hat))
           go_roundg k2
           case measure => have := HK1.out; have := HK2.out; omega
           case rel => exact ⟨(y160), (wrap64 (x6_2 + 1)), jr_, H', ⟨by have := HK1.out; have := HK2.out; omega⟩, ⟨by (with_reducible repeat (first | apply Kd.R_alloc | apply Kd.R_drewN | apply Kd.R_drew)); exact Kd.R_mono HO162.out (fun _ hk => trivial)⟩, ⟨by (with_reducible repeat (first | apply Kd.S_alloc | apply Kd.S_drewN | apply Kd.S_drew)); exact Kd.S_mono HO_156002.out (fun _ hk => hk.2)⟩, ⟨pk_ BK153.out⟩, ⟨pk_ BK154.out⟩, ⟨pk_ BK155.out⟩, ⟨bk_ HB.out⟩⟩
          ·rw [if_neg c18] at H
           exact absurd H (by simp)
         ·rw [if_neg c17] at H
          exact absurd H (by simp)
        ·rw [if_neg c16] at H
         have c16b0 : decide (x6_2 < ((rd_L2 l0_2 x4_1).length : Int)) = false := decide_eq_false c16
         clear c16
         by_cases c28 : x156002_1.length < 5864062014805
         ·rw [if_pos c28] at H
          have LMc28 := Aside0.mk c28
          clear c28
          obtain ⟨y163, hy163⟩ : ∃ y_ : List (List (S52)), y_ = (x156002_1 ++ [x5_2]) := ⟨_, rfl⟩
          replace H : (standstillref10_Mirror.l0 k2 (wrap64 (x4_1 + 1)) a0_0 a0_1 l0_2 a0_0 a0_1 y163) = some (r1, r2, r3) := by first | (rw [hy163]; with_reducible exact H) | (have H2_ := (Option.bind_some _ _).symm.trans H; rw [hy163]; with_reducible exact H2_) | (have H2_ := (Option.bind_some _ _).symm.trans H; with_reducible exact H2_) | with_reducible exact H | (rw [hy163]; exact H) | exact H
          have Ny163 := Aside0.mk hy163
          clear hy163
          have H' := Aside0.mk H
          clear H
          have hnb29 := NB153_154.out
          have hnc29 := NB154_153.out
          have hnb30 := NB153_155.out
          have hnc30 := NB155_153.out
          have hcz31_0 : wr.cell? ⟨gb153, 0, none⟩ = some (.int .i64 a0_0) := (blk_cell BK153.out 0).trans rfl
          have hcz31_1 : wr.cell? ⟨gb153, 1, none⟩ = some (.int .i64 a0_1) := (blk_cell BK153.out 1).trans rfl
          have hcz31_2 : wr.cell? ⟨gb153, 2, none⟩ = some (.slice A0_2 l0_2.length c0_2) := (blk_cell BK153.out 2).trans rfl
          have hfz31_0 := blk_frozen BK153.out 0
          have hfz31_1 := blk_frozen BK153.out 1
          have hfz31_2 := blk_frozen BK153.out 2
          have p156 : 0 ≤ (x4_1 : Int) := od_
          have q156 : x4_1 < (l0_2.length : Int) := od_
          obtain ⟨ad156, A156_0, c156_0, e156, hx156_0, hl156_0, hi156_0⟩ := at_L2 HR0_2.out x4_1 p156 q156
          cases e156
          replace hx156_0 := lf_ HB.out hx156_0
          have HR156_0 := Aside0.mk hi156_0
          have HC156_0 := Aside0.mk hl156_0
          clear hi156_0 hl156_0
          replace p156 := eq_true p156
          replace q156 := eq_true q156
          have hnb32 := NB155_154.out
          have hnc32 := NB154_155.out
          have hcz33_0 : wr.cell? ⟨gb155, 0, none⟩ = some (.int .i64 a0_0) := (blk_cell BK155.out 0).trans rfl
          have hcz33_1 : wr.cell? ⟨gb155, 1, none⟩ = some (.int .i64 a0_1) := (blk_cell BK155.out 1).trans rfl
          have hcz33_2 : wr.cell? ⟨gb155, 2, none⟩ = some (u156002) := (blk_cell BK155.out 2).trans rfl
          have hfz33_0 := blk_frozen BK155.out 0
          have hfz33_1 := blk_frozen BK155.out 1
          have hfz33_2 := blk_frozen BK155.out 2
          obtain ⟨Ao35, co35, eo35⟩ := Kd.R_slice HO_5.out
          subst eo35
          go_wp2_with (first | ((with_reducible refine gate_builtin (b := .append) (xs := #[.tmp 50, .tmp 52]) rfl ?_); at_builtin; refine Kd.S_append (Kd.slice 52 k52) (w0 := w) w.heap.size rfl (.tmp 50) (.tmp 52) 22 53 (.slice none 0 0) 24 rfl Try.underlying22 info53 rfl (by decide) (by omega) u156002 x156002_1 x5_2 [.slice Ao35 x5_2.length co35] (fun _ => True) (fun k_ => some k_ = (.slice Ao35 x5_2.length co35 : Value).ownBlock) rfl rfl ?aP (fun k_ hk_ => ((Kd.R_mono (ok' := fun k_ => ((fun _ => True)) k_ ∧ some k_ ≠ (u156002 : Value).ownBlock) (Kd.R_apart' (HO_5.out) (Kd.S_typed HO_156002.out) (by decide)) (fun k_ hk => ⟨trivial, hk.2⟩))).1 k_ hk_.symm) ?aF ?aO ?aB ?aS ?aL ?_; (case aP => exact Kd.M_row (Kd.R_mono (Kd.R_tight rfl (Kd.R_mono (ok' := fun k_ => ((fun _ => True)) k_ ∧ some k_ ≠ (u156002 : Value).ownBlock) (Kd.R_apart' (HO_5.out) (Kd.S_typed HO_156002.out) (by decide)) (fun k_ hk => ⟨trivial, hk.2⟩))) (fun _ h_ => h_))); (case aB => exact (bk_ HB.out)); (case aF => exact (fun _ _ => trivial)); (case aO => exact (by (with_reducible repeat (first | apply Kd.S_alloc | apply Kd.S_drewN | apply Kd.S_drew)); exact Kd.S_mono HO_156002.out (fun k_ hk => ⟨trivial, fun e_ => hk e_⟩))); (case aS => exact (below_size (bk_ HB.out))); (case aL => have := LMc28.out; omega); intro v164 w34 ho hb hg hat; rw [← Ny163.out] at ho; have n0_ := A_ (blk_grown (pk_ BK153.out) hg (Kd.S_ne HO_156002.out BK153.out (by decide))); have n1_ := A_ (blk_grown (pk_ BK154.out) hg (Kd.S_ne HO_156002.out BK154.out (by decide))); have n2_ := A_ (blk_grown (pk_ BK155.out) hg (Kd.S_ne HO_156002.out BK155.out (by decide))); have n3_ := A_ (hb); have n4_ := A_ (ho); clear BK153 BK154 BK155 HB HO_156002 HO_5; have BK153 := n0_; have BK154 := n1_; have BK155 := n2_; have HB := n3_; have HO165 := n4_; clear n0_ n1_ n2_ n3_ n4_ ho hb hg hat; obtain ⟨Ao36, co36, eo36⟩ := Kd.S_slice HO165.out; subst eo36; have hcz37_0 : w34.cell? ⟨gb155, 0, none⟩ = some (.int .i64 a0_0) := (blk_cell BK155.out 0).trans rfl; have hcz37_1 : w34.cell? ⟨gb155, 1, none⟩ = some (.int .i64 a0_1) := (blk_cell BK155.out 1).trans rfl; have hcz37_2 : w34.cell? ⟨gb155, 2, none⟩ = some (u156002) := (blk_cell BK155.out 2).trans rfl; have hfz37_0 := blk_frozen BK155.out 0; have hfz37_1 := blk_frozen BK155.out 1; have hfz37_2 := blk_frozen BK155.out 2))
          go_roundg k2
          case measure => have := HK1.out; have := HK2.out; omega
          case rel => exact ⟨(wrap64 (x4_1 + 1)), (y163), (.slice Ao36 y163.length co36), jr_, H', ⟨by have := HK1.out; have := HK2.out; omega⟩, ⟨by (with_reducible repeat (first | apply Kd.S_alloc | apply Kd.S_drewN | apply Kd.S_drew)); exact Kd.S_mono (Kd.S_far (p := ⟨gb155, 2, none⟩) (Kd.S_types HO165.out BK155.out (by decide)) (fun _ hk => hk.2) (.slice Ao36 y163.length co36)) (fun _ hk => trivial)⟩, ⟨by refine pk_ ?_; refine blk_far ?_ NB153_155.out _; exact pk_ BK153.out⟩, ⟨by refine pk_ ?_; refine blk_far ?_ NB154_155.out _; exact pk_ BK154.out⟩, ⟨by refine pk_ ?_; refine blk_put (cs := #[.int .i64 a0_0, .int .i64 a0_1, u156002]) ?_ 2 _ rfl; exact pk_ BK155.out⟩, ⟨bk_ HB.out⟩⟩
         ·rw [if_neg c28] at H
          exact absurd H (by simp)
       ·rw [if_neg c15] at H
        exact absurd H (by simp)
      ·rw [if_neg c14] at H
       exact absurd H (by simp)
   ·rw [if_neg c10] at H
    have c10b0 : decide (x4_1 < (l0_2.length : Int)) = false := decide_eq_false c10
    clear c10
    simp only [Option.some.injEq, Prod.mk.injEq] at H
    obtain ⟨rfl, rfl, rfl⟩ := H
    have hnb38 := NB153_154.out
    have hnc38 := NB154_153.out
    have hnb39 := NB153_155.out
    have hnc39 := NB155_153.out
    have hcz40_0 : wr.cell? ⟨gb153, 0, none⟩ = some (.int .i64 a0_0) := (blk_cell BK153.out 0).trans rfl
    have hcz40_1 : wr.cell? ⟨gb153, 1, none⟩ = some (.int .i64 a0_1) := (blk_cell BK153.out 1).trans rfl
    have hcz40_2 : wr.cell? ⟨gb153, 2, none⟩ = some (.slice A0_2 l0_2.length c0_2) := (blk_cell BK153.out 2).trans rfl
    have hfz40_0 := blk_frozen BK153.out 0
    have hfz40_1 := blk_frozen BK153.out 1
    have hfz40_2 := blk_frozen BK153.out 2
    have hnb41 := NB155_154.out
    have hnc41 := NB154_155.out
    have hcz42_0 : wr.cell? ⟨gb155, 0, none⟩ = some (.int .i64 a0_0) := (blk_cell BK155.out 0).trans rfl
    have hcz42_1 : wr.cell? ⟨gb155, 1, none⟩ = some (.int .i64 a0_1) := (blk_cell BK155.out 1).trans rfl
    have hcz42_2 : wr.cell? ⟨gb155, 2, none⟩ = some (u156002) := (blk_cell BK155.out 2).trans rfl
    have hfz42_0 := blk_frozen BK155.out 0
    have hfz42_1 := blk_frozen BK155.out 1
    have hfz42_2 := blk_frozen BK155.out 2
    have hcz43_0 : wr.cell? ⟨gb154, 0, none⟩ = some (.int .i64 0) := (blk_cell BK154.out 0).trans rfl
    have hcz43_1 : wr.cell? ⟨gb154, 1, none⟩ = some (.int .i64 0) := (blk_cell BK154.out 1).trans rfl
    have hcz43_2 : wr.cell? ⟨gb154, 2, none⟩ = some (.slice none 0 0) := (blk_cell BK154.out 2).trans rfl
    have hfz43_0 := blk_frozen BK154.out 0
    have hfz43_1 := blk_frozen BK154.out 1
    have hfz43_2 := blk_frozen BK154.out 2
    obtain ⟨Ao44, co44, eo44⟩ := Kd.S_slice HO_156002.out
    subst eo44
    go_wp2
    refine bodyPost_ret (results_cell_row rfl _ _ gb154 24 #[.int .i64 a0_0, .int .i64 a0_1, .slice Ao44 x156002_1.length co44] (0, 0) _ rfl (by refine pk_ ?_; refine blk_put (cs := #[.int .i64 a0_0, .int .i64 a0_1, .slice none 0 0]) ?_ 2 _ rfl; refine pk_ ?_; refine blk_put (cs := #[.int .i64 a0_0, .int .i64 0, .slice none 0 0]) ?_ 1 _ rfl; refine pk_ ?_; refine blk_put (cs := #[.int .i64 0, .int .i64 0, .slice none 0 0]) ?_ 0 _ rfl; exact pk_ BK154.out) Try.underlying24 rfl (by kernel_rfl)) rfl ?_
    exact ⟨_, er_, by (with_reducible repeat (first | apply Kd.S_alloc | apply Kd.S_drewN | apply Kd.S_drew)); exact Kd.S_mono (Kd.S_far (p := ⟨gb154, 2, none⟩) (Kd.S_far (p := ⟨gb154, 1, none⟩) (Kd.S_far (p := ⟨gb154, 0, none⟩) (Kd.S_types HO_156002.out BK154.out (by decide)) (fun _ hk => hk.2) (.int .i64 a0_0)) (fun _ hk => hk.2) (.int .i64 a0_1)) (fun _ hk => hk.2) (.slice Ao44 x156002_1.length co44)) (fun _ hk => trivial), bk_ HB.out⟩

/-! ### standstillref10_Begin: function 16 (by hand) -/
structure RR where
  rt : List Int
  lf : List Int
  st : Int
  po : Int
  k : Int
def RR.new : RR := ⟨[], [], 0, 0, 0⟩
def IsRr (w : World) (base : Nat) (S : Nat → Prop) (g : Nat) (a0 a1 : Int) (V : Value) (s : RR) : Prop :=
  base ≤ g ∧ S g ∧ ∃ v u, w.heap[g]? = some (.cells #[.int .i64 a0, .int .i64 a1, V, .int .i64 s.st, .int .i64 s.po, v, u, .int .i64 s.k] 43 (0, 0)) ∧ Kd.R (Kd.int .i64) 3 w base (fun k => S k ∧ k ≠ g) v s.rt ∧ Kd.R (Kd.int .i64) 3 w base (fun k => S k ∧ k ≠ g) u s.lf ∧ ∀ k, v.ownBlock = some k → some k ≠ u.ownBlock
theorem rr_ne {W : World} {v v1 u : Value} {e base : Nat} {ok : Nat → Prop} {ys : List Int} (h : ∀ k, v.ownBlock = some k → some k ≠ u.ownBlock) (hu : Kd.R (Kd.int .i64) e W base ok u ys) (hat : v1.ownBlock = v.ownBlock ∨ ∃ b, v1.ownBlock = some b ∧ W.heap.size ≤ b) : ∀ k, v1.ownBlock = some k → some k ≠ u.ownBlock := by
  intro k hk he
  rcases hat with hat | ⟨b, hb, hl⟩
  · exact h k (hat.symm.trans hk) he
  · rw [hb] at hk
    cases hk
    have := Kd.R_lt hu _ he.symm
    omega
theorem rr_ne' {u v : Value} (h : ∀ k, v.ownBlock = some k → some k ≠ u.ownBlock) : ∀ k, u.ownBlock = some k → some k ≠ v.ownBlock := fun k hk he => h k he.symm hk.symm
def RR.at_ (s : RR) (x : Int) : Int := if 0 ≤ x then (if x < (s.rt.length : Int) then rd s.rt x else 0) else if -1 - x < (s.lf.length : Int) then rd s.lf (-1 - x) else 0
def RR.pad (l : List Int) (n : Nat) : List Int := l ++ List.replicate (n - l.length) 0
theorem RR.pad_snoc {l : List Int} {n : Nat} (h : l.length < n) : RR.pad (l ++ [0]) n = RR.pad l n := by
  unfold RR.pad
  obtain ⟨m, hm⟩ : ∃ m, n - l.length = m + 1 := ⟨n - l.length - 1, by omega⟩
  have h2 : n - (l ++ [0]).length = m := by simp; omega
  rw [h2, hm, List.replicate_succ]
  simp
theorem RR.pad_done {l : List Int} {n : Nat} (h : n ≤ l.length) : RR.pad l n = l := by
  unfold RR.pad
  rw [show n - l.length = 0 by omega]
  simp
def RR.put (s : RR) (x : Int) : RR :=
  if 0 ≤ s.po then { s with rt := (RR.pad s.rt (s.po.toNat + 1)).set s.po.toNat x }
  else { s with lf := (RR.pad s.lf ((-1 - s.po).toNat + 1)).set (-1 - s.po).toNat x }
theorem rr_new_ (w : World) (o o' : Obj) : ((w.alloc o).alloc o').heap[w.heap.size + 1]? = some o' := by
  have h := heap_alloc_new (w.alloc o) o'
  rwa [show (w.alloc o).heap.size = w.heap.size + 1 by simp] at h
theorem wrap_mid_ {x : Int} (h : -9000000000000000000 ≤ x ∧ x ≤ 9000000000000000000) : wrap64 x = x := by
  unfold wrap64
  omega
theorem IsRr.drewN {w : World} {base : Nat} {S : Nat → Prop} {g : Nat} {a0 a1 : Int} {V : Value} {s : RR} (h : IsRr w base S g a0 a1 V s) (m : Nat) : IsRr (w.drewN m) base S g a0 a1 V s := by
  obtain ⟨a, b, v, u, c, d, e, f⟩ := h
  exact ⟨a, b, v, u, c, Kd.R_drewN d _, Kd.R_drewN e _, f⟩
theorem IsRr.drew {w : World} {base : Nat} {S : Nat → Prop} {g : Nat} {a0 a1 : Int} {V : Value} {s : RR} (h : IsRr w base S g a0 a1 V s) : IsRr w.drew base S g a0 a1 V s := by
  obtain ⟨a, b, v, u, c, d, e, f⟩ := h
  exact ⟨a, b, v, u, c, Kd.R_drew d, Kd.R_drew e, f⟩
theorem IsRr.below {w w' : World} {base : Nat} {S : Nat → Prop} {g : Nat} {a0 a1 : Int} {V : Value} {s : RR} (h : IsRr w base S g a0 a1 V s) (hb : Below w.heap.size w w') : IsRr w' base S g a0 a1 V s := by
  obtain ⟨a, b, v, u, c, d, e, f⟩ := h
  exact ⟨a, b, v, u, blk_below c hb, Kd.R_below d hb, Kd.R_below e hb, f⟩
theorem IsRr.mono {w : World} {base : Nat} {S S' : Nat → Prop} {g : Nat} {a0 a1 : Int} {V : Value} {s : RR} (h : IsRr w base S g a0 a1 V s) (hs : ∀ k, S k → S' k) : IsRr w base S' g a0 a1 V s := by
  obtain ⟨a, b, v, u, c, d, e, f⟩ := h
  exact ⟨a, hs _ b, v, u, c, Kd.R_mono d (fun k hk => ⟨hs k hk.1, hk.2⟩), Kd.R_mono e (fun k hk => ⟨hs k hk.1, hk.2⟩), f⟩
theorem IsRr.shrink {w : World} {base : Nat} {S : Nat → Prop} {g : Nat} {a0 a1 : Int} {V : Value} {s : RR} (h : IsRr w base S g a0 a1 V s) : IsRr w base (fun k => S k ∧ base ≤ k ∧ k < w.heap.size) g a0 a1 V s := by
  obtain ⟨a, b, v, u, c, d, e, f⟩ := h
  exact ⟨a, ⟨b, a, blk_lt c⟩, v, u, c, Kd.R_mono (Kd.R_bound d) (fun k hk => ⟨⟨hk.1.1, hk.2.1, hk.2.2.1⟩, hk.1.2⟩), Kd.R_mono (Kd.R_bound e) (fun k hk => ⟨⟨hk.1.1, hk.2.1, hk.2.2.1⟩, hk.1.2⟩), f⟩
theorem IsRr.kept {w w' : World} {base : Nat} {S S2 : Nat → Prop} {g : Nat} {a0 a1 : Int} {V : Value} {s : RR} (h : IsRr w base S g a0 a1 V s) (hk : Kept w w' S2) (hd : ∀ k, base ≤ k → k < w.heap.size → ¬ S2 k) : IsRr w' base S g a0 a1 V s := by
  obtain ⟨a, b, v, u, c, d, e, f⟩ := h
  exact ⟨a, b, v, u, blk_kept c hk (hd g a (blk_lt c)), Kd.R_mono (Kd.R_kept (Kd.R_bound d) hk (fun k hk => hd k hk.2.1 hk.2.2.1)) (fun k hk => hk.1), Kd.R_mono (Kd.R_kept (Kd.R_bound e) hk (fun k hk => hd k hk.2.1 hk.2.2.1)) (fun k hk => hk.1), f⟩
theorem RR.put_same (s : RR) (x : Int) : (s.put x).st = s.st ∧ (s.put x).po = s.po ∧ (s.put x).k = s.k := by unfold RR.put; split <;> exact ⟨rfl, rfl, rfl⟩
theorem IsRr.at_st {w : World} {base : Nat} {S : Nat → Prop} {g : Nat} {a0 a1 : Int} {V : Value} {s : RR} (h : IsRr w base S g a0 a1 V s) : w.cell? ⟨g, 3, none⟩ = some (.int .i64 s.st) ∧ w.cell? ⟨g, 4, none⟩ = some (.int .i64 s.po) ∧ ∃ A c, w.cell? ⟨g, 5, none⟩ = some (.slice A s.rt.length c) := by
  obtain ⟨a, b, v, u, c, d, e, f⟩ := h
  obtain ⟨A, c', rfl⟩ := Kd.R_slice d
  exact ⟨(blk_cell c 3).trans rfl, (blk_cell c 4).trans rfl, A, c', (blk_cell c 5).trans rfl⟩
set_option maxHeartbeats 8000000 in
set_option maxRecDepth 100000 in
theorem rr_begin (a0 a1 : Int) (A2 : Option Addr) (c2 : Nat) (l2 : List (List (S52))) (w : World) :
    Calls Try.prog 16 #[.agg #[.int .i64 a0, .int .i64 a1, .slice A2 l2.length c2]] w fun e w' => ∃ g, e = .returned (.pointer (some ⟨g, 0, none⟩)) ∧ IsRr w' w.heap.size (fun _ => True) g a0 a1 (.slice A2 l2.length c2) RR.new ∧ Below w.heap.size w w' := by
  go_enter Try.func16, Try.ntmps16
  go_wp2
  go_ret
  refine ⟨_, rfl, ⟨by simp, trivial, .slice none 0 0, .slice none 0 0, rr_new_ _ _ _, Kd.R_nil _ _ _ _ _, Kd.R_nil _ _ _ _ _, fun k hk => by simp [Value.ownBlock] at hk⟩, below_alloc (below_alloc (Below.refl _ _) _) _⟩

/-! ### standstillref10_Run_Cell: function 34 (by hand) -/
set_option maxHeartbeats 8000000 in
set_option maxRecDepth 100000 in
theorem rr_cell (w : World) (base : Nat) (S : Nat → Prop) (g : Nat) (a0 a1 : Int) (V : Value) (s : RR) (x : Int) (h : IsRr w base S g a0 a1 V s) (hx0 : -1000000000000 ≤ x) (hx1 : x ≤ 1000000000000) :
    Calls Try.prog 34 #[.pointer (some ⟨g, 0, none⟩), .int .i64 x] w fun e w' => e = .returned (.int .i64 (s.at_ x)) ∧ ∃ m, w' = w.drewN m := by
  obtain ⟨hg, hS, v, u, hb, hr, hl, hne⟩ := h
  obtain ⟨rt, lf, st, po, k⟩ := s
  obtain ⟨A, c, rfl⟩ := Kd.R_slice hr
  obtain ⟨B, d, rfl⟩ := Kd.R_slice hl
  simp only at hb hr hl
  have hrr := (Kd.R_reads' hr).2.2
  have hrl := (Kd.R_reads' hl).2.2
  have hc5 := (blk_cell hb 5).trans rfl
  have hc6 := (blk_cell hb 6).trans rfl
  clear hb hr hl hne
  obtain ⟨j, hj⟩ : ∃ j, -1 - x = j := ⟨_, rfl⟩
  have e1 : wrap64 (-1 - x) = j := (wrap_mid_ (by omega)).trans hj
  have HJ := Aside0.mk hj
  by_cases d0 : 0 ≤ x
  · have d3 : decide (0 ≤ x) = true := decide_eq_true d0
    have d4 : decide (x < 0) = false := decide_eq_false (by omega)
    have d5 : (x < 0) = False := eq_false (by omega)
    clear hx0 hx1 hj
    by_cases d1 : x < (rt.length : Int)
    · obtain ⟨ad, rfl, hx⟩ := Kd.at_int hrr x d0 d1
      have HV : Aside0 (RR.at_ ⟨rt, lf, st, po, k⟩ x = rd rt x) := ⟨by unfold RR.at_; simp only [d0, d1, if_true]⟩
      have d2 : decide (x < (rt.length : Int)) = true := decide_eq_true d1
      clear hrr hrl
      replace d0 := eq_true d0
      replace d1 := eq_true d1
      go_enter Try.func34, Try.ntmps34
      go_wp2
      repeat (go_quiet (fail); try go_wp2)
      go_ret
      exact ⟨by rw [HV.out]; rfl, 0, rfl⟩
    · have HV : Aside0 (RR.at_ ⟨rt, lf, st, po, k⟩ x = 0) := ⟨by unfold RR.at_; simp only [d0, d1, if_true, if_false]⟩
      have d2 : decide (x < (rt.length : Int)) = false := decide_eq_false d1
      clear hrr hrl
      replace d0 := eq_true d0
      replace d1 := eq_false d1
      go_enter Try.func34, Try.ntmps34
      go_wp2
      repeat (go_quiet (fail); try go_wp2)
      go_ret
      exact ⟨by rw [HV.out]; rfl, 0, rfl⟩
  · have d3 : decide (0 ≤ x) = false := decide_eq_false d0
    have d4 : decide (x < 0) = true := decide_eq_true (by omega)
    have d5 : (x < 0) = True := eq_true (by omega)
    have j0 : 0 ≤ j := by omega
    clear hx0 hx1 hj
    by_cases d1 : j < (lf.length : Int)
    · obtain ⟨ad, rfl, hx⟩ := Kd.at_int hrl j j0 d1
      have HV : Aside0 (RR.at_ ⟨rt, lf, st, po, k⟩ x = rd lf j) := ⟨by unfold RR.at_; simp only [d0, if_false, HJ.out, d1, if_true]⟩
      have d2 : decide (j < (lf.length : Int)) = true := decide_eq_true d1
      replace j0 := eq_true j0
      clear hrr hrl
      replace d0 := eq_false d0
      replace d1 := eq_true d1
      go_enter Try.func34, Try.ntmps34
      go_wp2
      repeat (go_quiet (fail); try go_wp2)
      go_ret
      exact ⟨by rw [HV.out]; rfl, 0, rfl⟩
    · have HV : Aside0 (RR.at_ ⟨rt, lf, st, po, k⟩ x = 0) := ⟨by unfold RR.at_; simp only [d0, if_false, HJ.out, d1]⟩
      have d2 : decide (j < (lf.length : Int)) = false := decide_eq_false d1
      clear hrr hrl
      replace d0 := eq_false d0
      replace d1 := eq_false d1
      go_enter Try.func34, Try.ntmps34
      go_wp2
      repeat (go_quiet (fail); try go_wp2)
      go_ret
      exact ⟨by rw [HV.out]; rfl, 0, rfl⟩

/-! ### standstillref10_Run_put: function 35 (by hand) -/
set_option maxHeartbeats 8000000 in
set_option maxRecDepth 100000 in
theorem rr_putR (w0 w : World) (base : Nat) (S : Nat → Prop) (g : Nat) (a0 a1 : Int) (V : Value) (rt lf : List Int) (st k : Int) (j : Nat) (x : Int) (h : IsRr w base S g a0 a1 V ⟨rt, lf, st, (j : Int), k⟩) (hB : Below base w0 w) (hs : base ≤ w.heap.size) (hF : ∀ k, w.heap.size ≤ k → S k) (hj : j ≤ 1000000000) (hl0 : rt.length ≤ 1000000000) :
    Calls Try.prog 35 #[.pointer (some ⟨g, 0, none⟩), .int .i64 x] w fun e w' => e = .returned (.tuple #[]) ∧ IsRr w' base S g a0 a1 V ⟨(RR.pad rt (j + 1)).set j x, lf, st, (j : Int), k⟩  ∧ Below base w0 w' ∧ Kept w w' S := by
  obtain ⟨hg, hS, v, u, hb, hr, hl, hne⟩ := h
  simp only at hb hr hl
  have hc4 := (blk_cell hb 4).trans rfl
  have HK := Aside0.mk hb
  have HRT := Aside0.mk hr
  have HLF := Aside0.mk hl
  have HNE := Aside0.mk hne
  have HB := Aside0.mk hB
  have HS := Aside0.mk hs
  have HF := Aside0.mk hF
  have HJ := Aside0.mk hj
  have HL0 := Aside0.mk hl0
  clear hb hr hl hne hB hs hF hj hl0
  have HKP := Aside0.mk (Kept.refl w S)

  go_enter Try.func35, Try.ntmps35
  go_wp2
  clear hc4
  go_loopg [18] (j + 1 - rt.length) (fun kq vb w' => ∃ (l : List Int) (v : Value), Aside0 (j + 1 - l.length = kq ∧ RR.pad l (j + 1) = RR.pad rt (j + 1) ∧ l.length ≤ 2000000000) ∧ Aside0 (w'.heap[g]? = some (.cells #[.int .i64 a0, .int .i64 a1, V, .int .i64 st, .int .i64 (j : Int), v, u, .int .i64 k] 43 (0, 0) )) ∧ Aside0 (Kd.R (Kd.int .i64) 3 w' base (fun k => S k ∧ k ≠ g) v l) ∧ Aside0 (Kd.R (Kd.int .i64) 3 w' base (fun k => S k ∧ k ≠ g) u lf) ∧ Aside0 (∀ k, v.ownBlock = some k → some k ≠ (u).ownBlock) ∧ Aside0 (Below base w0 w') ∧ Aside0 (Kept w w' S))
  case atStart => exact ⟨rt, v, ⟨rfl, rfl, by have := HL0.out; omega⟩, HK, HRT, HLF, HNE, HB, HKP⟩
  case round =>
    clear HK HRT HLF HNE HB HKP
    obtain ⟨l, v1, HN, HK, HR, HO, HNE, HB, HKP⟩ := hrel
    obtain ⟨hi0, hi1, hi2⟩ := HN.out
    obtain ⟨A, c, rfl⟩ := Kd.R_slice HR.out
    have hc4 := (blk_cell HK.out 4).trans rfl
    have hcf := (blk_cell HK.out 5).trans rfl
    cases gk with
    | zero =>
      have hin : ¬ l.length ≤ j := by omega
      have hlt : (j : Int) < (l.length : Int) := by omega
      rw [RR.pad_done (by omega)] at hi1
      have HPAD := Aside0.mk hi1
      clear hi0 hi1 hi2 HN
      have hd : decide (l.length ≤ j) = false := decide_eq_false hin
      replace hin := eq_false hin
      go_wp2
      go_quiet (fail)
      go_wp2
      obtain ⟨gb, cap, hAc, hgb, hgl, hbe⟩ := Kd.R_form HR.out (by omega)
      cases hAc
      have hel := (Kd.R_cell (0 : Int) HR.out (j : Int) (Int.natCast_nonneg _) hlt)
      rw [Int.toNat_natCast] at hel
      have hela := hel.1
      have helb := hel.2
      have hlt2 : j < l.length := by omega
      clear hel hgb hgl hbe
      have HLT := Aside0.mk hlt
      clear hlt
      replace hlt2 := eq_true hlt2

      refine start_ (n := 11) (S := fun w' => w'.cell? ⟨g, 5, none⟩ = some (.slice (some ⟨gb, 0, none⟩) l.length c) ∧ w'.cell? ⟨g, 4, none⟩ = some (.int .i64 (j : Int))) (ds := [10]) #[false, false, false, false, false, false, false, false, false, false, false] (by kernel_rfl) rfl rfl ⟨hcf, hc4⟩ (fun hHeld => ?_)
      refine pure_ (i := 0) (N := some 28) (v := ?_) (a' := ?_) #[true, false, false, false, false, false, false, false, false, false, false] rfl rfl (by kernel_rfl) (fun _ _ _ h => h) (Or.inl ⟨by rfl, ?_⟩) ?_ ?_
      rotate_left
      · intro w'
        go_simp
        with_reducible rfl
      rotate_left
      · simp only [Act.put, List.setIfInBounds_toArray, List.set_cons_zero, List.set_cons_succ, i64_w, i32_w]
        rfl
      refine pure_ (i := 1) (N := some 29) (v := ?_) (a' := ?_) #[true, true, false, false, false, false, false, false, false, false, false] rfl rfl (by kernel_rfl) (fun _ _ _ h => h) (Or.inl ⟨by rfl, ?_⟩) ?_ ?_
      rotate_left
      · intro w'
        go_simp
        with_reducible rfl
      rotate_left
      · simp only [Act.put, List.setIfInBounds_toArray, List.set_cons_zero, List.set_cons_succ, i64_w, i32_w]
        rfl
      refine pure_ (i := 2) (N := some 30) (v := ?_) (a' := ?_) #[true, true, true, false, false, false, false, false, false, false, false] rfl rfl (by kernel_rfl) (fun _ _ _ h => h) (Or.inl ⟨by rfl, ?_⟩) ?_ ?_
      rotate_left
      · intro w'
        go_simp
        with_reducible rfl
      rotate_left
      · simp only [Act.put, List.setIfInBounds_toArray, List.set_cons_zero, List.set_cons_succ, i64_w, i32_w]
        rfl
      refine pure_ (i := 4) (N := some 32) (v := ?_) (a' := ?_) #[true, true, true, false, true, false, false, false, false, false, false] rfl rfl (by kernel_rfl) (fun _ _ _ h => h) (Or.inl ⟨by rfl, ?_⟩) ?_ ?_
      rotate_left
      · intro w'
        go_simp
        with_reducible rfl
      rotate_left
      · simp only [Act.put, List.setIfInBounds_toArray, List.set_cons_zero, List.set_cons_succ, i64_w, i32_w]
        rfl
      refine pure_ (i := 5) (N := some 33) (v := ?_) (a' := ?_) #[true, true, true, false, true, true, false, false, false, false, false] rfl rfl (by kernel_rfl) (fun _ _ _ h => h) (Or.inl ⟨by rfl, ?_⟩) ?_ ?_
      rotate_left
      · intro w'
        go_simp
        with_reducible rfl
      rotate_left
      · simp only [Act.put, List.setIfInBounds_toArray, List.set_cons_zero, List.set_cons_succ, i64_w, i32_w]
        rfl
      refine pure_ (i := 6) (N := some 34) (v := ?_) (a' := ?_) #[true, true, true, false, true, true, true, false, false, false, false] rfl rfl (by kernel_rfl) (fun _ _ _ h => h) (Or.inl ⟨by rfl, ?_⟩) ?_ ?_
      rotate_left
      · intro w'
        go_simp
        with_reducible rfl
      rotate_left
      · simp only [Act.put, List.setIfInBounds_toArray, List.set_cons_zero, List.set_cons_succ, i64_w, i32_w]
        rfl
      refine pure_ (i := 8) (N := some 36) (v := ?_) (a' := ?_) #[true, true, true, false, true, true, true, false, true, false, false] rfl rfl (by kernel_rfl) (fun _ _ _ h => h) (Or.inl ⟨by rfl, ?_⟩) ?_ ?_
      rotate_left
      · intro w'
        go_simp
        with_reducible rfl
      rotate_left
      · simp only [Act.put, List.setIfInBounds_toArray, List.set_cons_zero, List.set_cons_succ, i64_w, i32_w]
        rfl
      refine take_ (i := 3) (N := some 31) (v := ?_) (a' := ?_) #[true, true, true, true, true, true, true, false, true, false, false] rfl rfl (by kernel_rfl) (fun _ _ _ h => h) (Or.inl ⟨by rfl, ?_⟩) hHeld ?_ ?_
      rotate_left
      · rintro w' ⟨s0, s1⟩
        go_simp
        with_reducible rfl
      rotate_left
      · simp only [Act.put, List.setIfInBounds_toArray, List.set_cons_zero, List.set_cons_succ, i64_w, i32_w]
        rfl
      refine take_ (i := 7) (N := some 35) (v := ?_) (a' := ?_) #[true, true, true, true, true, true, true, true, true, false, false] rfl rfl (by kernel_rfl) (fun _ _ _ h => h) (Or.inl ⟨by rfl, ?_⟩) hHeld ?_ ?_
      rotate_left
      · rintro w' ⟨s0, s1⟩
        go_simp
        with_reducible rfl
      rotate_left
      · simp only [Act.put, List.setIfInBounds_toArray, List.set_cons_zero, List.set_cons_succ, i64_w, i32_w]
        rfl
      refine pure_ (i := 9) (N := some 37) (v := ?_) (a' := ?_) #[true, true, true, true, true, true, true, true, true, true, false] rfl rfl (by kernel_rfl) (fun _ _ _ h => h) (Or.inl ⟨by rfl, ?_⟩) ?_ ?_
      rotate_left
      · intro w'
        go_simp
        with_reducible rfl
      rotate_left
      · simp only [Act.put, List.setIfInBounds_toArray, List.set_cons_zero, List.set_cons_succ, i64_w, i32_w]
        rfl
      refine last_ (i := 10) (N := none) #[true, true, true, true, true, true, true, true, true, true, true] rfl rfl (by kernel_rfl) (by decide) (fun K hK => ?_)
      refine skip_ (w1 := ?_) (by rfl) rfl ?_ ?_
      rotate_left
      · go_simp
        rfl
      refine hK.out _ _ ?_
      clear hK K
      refine done_ (by kernel_rfl) ?_

      go_wp2
      first | refine bodyPost_end (results_none rfl _ _ _) rfl ?_ | refine bodyPost_ret (results_none rfl _ _ _) rfl ?_
      have hput := Kd.R_putg (Kd.R_drewN HR.out (nq + 1)) (j : Int) x
      rw [Int.toNat_natCast] at hput
      have hO := Kd.R_grown2 (Kd.R_drewN HO.out (nq + 1)) rfl hput.2 (fun k hk => by have := HNE.out gb rfl; cases hk; exact this)
      have hgg : g ≠ gb := fun e => (HR.out.1 gb rfl).2 e.symm
      rw [← HPAD.out]
      exact ⟨rfl, ⟨hg, hS, _, u, blk_far (blk_drewN HK.out _) hgg _, hput.1, hO, HNE.out⟩, (pw_below_drewN HB.out _).setCell (Kd.R_base HR.out gb rfl) _, (HKP.out.drewN _).setCell (.inl (HR.out.1 gb rfl).1) _⟩
    | succ d =>
      have hin : l.length ≤ j := by omega
      have HNN : Aside0 (j + 1 - (l ++ [0]).length = d ∧ RR.pad (l ++ [0]) (j + 1) = RR.pad rt (j + 1) ∧ (l ++ [0]).length ≤ 2000000000) := ⟨by simp; omega, by rw [RR.pad_snoc (by omega)]; exact hi1, by have := HJ.out; simp; omega⟩
      have HLL : Aside0 (l.length ≤ 1000000000) := ⟨by have := HJ.out; omega⟩
      clear hi0 hi1 hi2 HN
      have hd : decide (l.length ≤ j) = true := decide_eq_true hin
      replace hin := eq_true hin
      go_wp2
      go_quiet (fail)
      go_wp2_with (first | ((with_reducible refine gate_builtin (b := .append) (xs := #[.tmp 23, .tmp 24]) rfl ?_); at_builtin; refine Kd.R_append (Kd.int .i64) (w0 := w0) base rfl (.tmp 23) (.tmp 24) 41 3 (.int .i64 0) 8 rfl Try.underlying41 info3 rfl (by decide) (by omega) (.slice A l.length c) l 0 [.int .i64 0] (fun k => S k ∧ k ≠ g) (fun _ => False) rfl rfl rfl (fun _ hk => hk.elim) (fun k hk => ⟨HF.out k (Nat.le_trans HKP.out.1 hk), fun e => by have := blk_lt HK.out; have : wr.heap.size ≤ k := hk; omega⟩) (Kd.R_drewN HR.out _) (pw_below_drewN HB.out _) (Nat.le_trans HS.out HKP.out.1) (by have := HLL.out; omega) ?_; intro v2 w2 hR2 hB2 hG2 hat2; obtain ⟨A2, c2, rfl⟩ := Kd.R_slice hR2; have HR2 := Aside0.mk hR2; have HB2 := Aside0.mk hB2; have HKP2 := Aside0.mk (Kept.of_grown hG2 (HKP.out.drewN nq) (fun k hk => .inl (HR.out.1 k hk).1)); have HK2 := Aside0.mk (blk_grown (blk_drewN HK.out nq) hG2 (Kd.R_ne HR.out HK.out (by decide))); have HO2 := Aside0.mk (Kd.R_grown2 (Kd.R_drewN HO.out nq) rfl hG2 HNE.out); have HNE2 := Aside0.mk (rr_ne HNE.out (Kd.R_drewN HO.out nq) hat2); have hz2 := (blk_cell HK2.out 5).trans rfl; have hf2 := blk_frozen HK2.out 5; clear hR2 hB2 hG2 hat2 hc4 hcf HK HR HO HNE HB HKP))

      obtain ⟨W3, hW3⟩ : ∃ W : World, W = w2.setCell ⟨g, 5, none⟩ (.slice A2 (l.length + 1) c2) := ⟨_, rfl⟩
      have HK3 := Aside0.mk (show W3.heap[g]? = some (.cells #[.int .i64 a0, .int .i64 a1, V, .int .i64 st, .int .i64 (j : Int), .slice A2 (l.length + 1) c2, u, .int .i64 k] 43 (0, 0)) from by rw [hW3]; exact by simpa using blk_set HK2.out 5 (.slice A2 (l.length + 1) c2))
      have HR3 := Aside0.mk (show Kd.R (Kd.int .i64) 3 W3 base (fun k => S k ∧ k ≠ g) (.slice A2 (l.length + 1) c2) (l ++ [0]) from by rw [hW3]; exact by have h := Kd.R_far HR2.out (p := ⟨g, 5, none⟩) (fun k hk => hk.2) (.slice A2 (l.length + 1) c2); rw [List.length_append] at h; exact h)
      have HO3 := Aside0.mk (show Kd.R (Kd.int .i64) 3 W3 base (fun k => S k ∧ k ≠ g) u lf from by rw [hW3]; exact Kd.R_far HO2.out (fun k hk => hk.2) _)
      have HB3 := Aside0.mk (show Below base w0 W3 from by rw [hW3]; exact HB2.out.setCell hg _)
      have HKP3 := Aside0.mk (show Kept w W3 S from by rw [hW3]; exact HKP2.out.setCell (.inl hS) _)
      rw [← hW3]
      clear hW3
      go_roundg d
      case measure => omega
      case rel => exact ⟨l ++ [0], _, HNN, HK3, HR3, HO3, ⟨by have h := HNE2.out; rw [List.length_append] at h; exact h⟩, HB3, HKP3⟩
set_option maxHeartbeats 8000000 in
set_option maxRecDepth 100000 in
theorem rr_putL (w0 w : World) (base : Nat) (S : Nat → Prop) (g : Nat) (a0 a1 : Int) (V : Value) (rt lf : List Int) (st k : Int) (j : Nat) (x : Int) (h : IsRr w base S g a0 a1 V ⟨rt, lf, st, (-1 - (j : Int)), k⟩) (hB : Below base w0 w) (hs : base ≤ w.heap.size) (hF : ∀ k, w.heap.size ≤ k → S k) (hj : j ≤ 1000000000) (hl0 : lf.length ≤ 1000000000) :
    Calls Try.prog 35 #[.pointer (some ⟨g, 0, none⟩), .int .i64 x] w fun e w' => e = .returned (.tuple #[]) ∧ IsRr w' base S g a0 a1 V ⟨rt, (RR.pad lf (j + 1)).set j x, st, -1 - (j : Int), k⟩  ∧ Below base w0 w' ∧ Kept w w' S := by
  obtain ⟨hg, hS, v_, u, hb, hr, hl, hne⟩ := h
  simp only at hb hr hl
  have hc4 := (blk_cell hb 4).trans rfl
  have HK := Aside0.mk hb
  have HRT := Aside0.mk hr
  have HLF := Aside0.mk hl
  have HNE := Aside0.mk hne
  have HB := Aside0.mk hB
  have HS := Aside0.mk hs
  have HF := Aside0.mk hF
  have HJ := Aside0.mk hj
  have HL0 := Aside0.mk hl0
  clear hb hr hl hne hB hs hF hj hl0
  have HKP := Aside0.mk (Kept.refl w S)
  have d0 : ¬ (0 ≤ -1 - (j : Int)) := by omega
  have d1 := decide_eq_false d0
  replace d0 := eq_false d0
  have e1 : IntKind.i64.wrap (-1 - (-1 - (j : Int))) = (j : Int) := (IntWalk.i64_in _ (by have := HJ.out; omega)).trans (by omega)
  go_enter Try.func35, Try.ntmps35
  go_wp2
  clear hc4
  go_loopg [48] (j + 1 - lf.length) (fun kq vb w' => ∃ (l : List Int) (v : Value), Aside0 (j + 1 - l.length = kq ∧ RR.pad l (j + 1) = RR.pad lf (j + 1) ∧ l.length ≤ 2000000000) ∧ Aside0 (w'.heap[g]? = some (.cells #[.int .i64 a0, .int .i64 a1, V, .int .i64 st, .int .i64 (-1 - (j : Int)), v_, v, .int .i64 k] 43 (0, 0) )) ∧ Aside0 (Kd.R (Kd.int .i64) 3 w' base (fun k => S k ∧ k ≠ g) v l) ∧ Aside0 (Kd.R (Kd.int .i64) 3 w' base (fun k => S k ∧ k ≠ g) v_ rt) ∧ Aside0 (∀ k, v.ownBlock = some k → some k ≠ (v_).ownBlock) ∧ Aside0 (Below base w0 w') ∧ Aside0 (Kept w w' S))
  case atStart => exact ⟨lf, u, ⟨rfl, rfl, by have := HL0.out; omega⟩, HK, HLF, HRT, ⟨rr_ne' HNE.out⟩, HB, HKP⟩
  case round =>
    clear HK HRT HLF HNE HB HKP
    obtain ⟨l, v1, HN, HK, HR, HO, HNE, HB, HKP⟩ := hrel
    obtain ⟨hi0, hi1, hi2⟩ := HN.out
    obtain ⟨A, c, rfl⟩ := Kd.R_slice HR.out
    have hc4 := (blk_cell HK.out 4).trans rfl
    have hcf := (blk_cell HK.out 6).trans rfl
    cases gk with
    | zero =>
      have hin : ¬ l.length ≤ j := by omega
      have hlt : (j : Int) < (l.length : Int) := by omega
      rw [RR.pad_done (by omega)] at hi1
      have HPAD := Aside0.mk hi1
      clear hi0 hi1 hi2 HN
      have hd : decide (l.length ≤ j) = false := decide_eq_false hin
      replace hin := eq_false hin
      go_wp2
      go_quiet (fail)
      go_wp2
      obtain ⟨gb, cap, hAc, hgb, hgl, hbe⟩ := Kd.R_form HR.out (by omega)
      cases hAc
      have hel := (Kd.R_cell (0 : Int) HR.out (j : Int) (Int.natCast_nonneg _) hlt)
      rw [Int.toNat_natCast] at hel
      have hela := hel.1
      have helb := hel.2
      have hlt2 : j < l.length := by omega
      clear hel hgb hgl hbe
      have HLT := Aside0.mk hlt
      clear hlt
      replace hlt2 := eq_true hlt2

      refine start_ (n := 12) (S := fun w' => w'.cell? ⟨g, 6, none⟩ = some (.slice (some ⟨gb, 0, none⟩) l.length c) ∧ w'.cell? ⟨g, 4, none⟩ = some (.int .i64 (-1 - (j : Int)))) (ds := [11]) #[false, false, false, false, false, false, false, false, false, false, false, false] (by kernel_rfl) rfl rfl ⟨hcf, hc4⟩ (fun hHeld => ?_)
      refine pure_ (i := 0) (N := some 58) (v := ?_) (a' := ?_) #[true, false, false, false, false, false, false, false, false, false, false, false] rfl rfl (by kernel_rfl) (fun _ _ _ h => h) (Or.inl ⟨by rfl, ?_⟩) ?_ ?_
      rotate_left
      · intro w'
        go_simp
        with_reducible rfl
      rotate_left
      · simp only [Act.put, List.setIfInBounds_toArray, List.set_cons_zero, List.set_cons_succ, i64_w, i32_w]
        rfl
      refine pure_ (i := 1) (N := some 59) (v := ?_) (a' := ?_) #[true, true, false, false, false, false, false, false, false, false, false, false] rfl rfl (by kernel_rfl) (fun _ _ _ h => h) (Or.inl ⟨by rfl, ?_⟩) ?_ ?_
      rotate_left
      · intro w'
        go_simp
        with_reducible rfl
      rotate_left
      · simp only [Act.put, List.setIfInBounds_toArray, List.set_cons_zero, List.set_cons_succ, i64_w, i32_w]
        rfl
      refine pure_ (i := 2) (N := some 60) (v := ?_) (a' := ?_) #[true, true, true, false, false, false, false, false, false, false, false, false] rfl rfl (by kernel_rfl) (fun _ _ _ h => h) (Or.inl ⟨by rfl, ?_⟩) ?_ ?_
      rotate_left
      · intro w'
        go_simp
        with_reducible rfl
      rotate_left
      · simp only [Act.put, List.setIfInBounds_toArray, List.set_cons_zero, List.set_cons_succ, i64_w, i32_w]
        rfl
      refine pure_ (i := 4) (N := some 62) (v := ?_) (a' := ?_) #[true, true, true, false, true, false, false, false, false, false, false, false] rfl rfl (by kernel_rfl) (fun _ _ _ h => h) (Or.inl ⟨by rfl, ?_⟩) ?_ ?_
      rotate_left
      · intro w'
        go_simp
        with_reducible rfl
      rotate_left
      · simp only [Act.put, List.setIfInBounds_toArray, List.set_cons_zero, List.set_cons_succ, i64_w, i32_w]
        rfl
      refine pure_ (i := 5) (N := some 63) (v := ?_) (a' := ?_) #[true, true, true, false, true, true, false, false, false, false, false, false] rfl rfl (by kernel_rfl) (fun _ _ _ h => h) (Or.inl ⟨by rfl, ?_⟩) ?_ ?_
      rotate_left
      · intro w'
        go_simp
        with_reducible rfl
      rotate_left
      · simp only [Act.put, List.setIfInBounds_toArray, List.set_cons_zero, List.set_cons_succ, i64_w, i32_w]
        rfl
      refine pure_ (i := 6) (N := some 64) (v := ?_) (a' := ?_) #[true, true, true, false, true, true, true, false, false, false, false, false] rfl rfl (by kernel_rfl) (fun _ _ _ h => h) (Or.inl ⟨by rfl, ?_⟩) ?_ ?_
      rotate_left
      · intro w'
        go_simp
        with_reducible rfl
      rotate_left
      · simp only [Act.put, List.setIfInBounds_toArray, List.set_cons_zero, List.set_cons_succ, i64_w, i32_w]
        rfl
      refine pure_ (i := 9) (N := some 67) (v := ?_) (a' := ?_) #[true, true, true, false, true, true, true, false, false, true, false, false] rfl rfl (by kernel_rfl) (fun _ _ _ h => h) (Or.inl ⟨by rfl, ?_⟩) ?_ ?_
      rotate_left
      · intro w'
        go_simp
        with_reducible rfl
      rotate_left
      · simp only [Act.put, List.setIfInBounds_toArray, List.set_cons_zero, List.set_cons_succ, i64_w, i32_w]
        rfl
      refine take_ (i := 3) (N := some 61) (v := ?_) (a' := ?_) #[true, true, true, true, true, true, true, false, false, true, false, false] rfl rfl (by kernel_rfl) (fun _ _ _ h => h) (Or.inl ⟨by rfl, ?_⟩) hHeld ?_ ?_
      rotate_left
      · rintro w' ⟨s0, s1⟩
        go_simp
        with_reducible rfl
      rotate_left
      · simp only [Act.put, List.setIfInBounds_toArray, List.set_cons_zero, List.set_cons_succ, i64_w, i32_w]
        rfl
      refine take_ (i := 7) (N := some 65) (v := ?_) (a' := ?_) #[true, true, true, true, true, true, true, true, false, true, false, false] rfl rfl (by kernel_rfl) (fun _ _ _ h => h) (Or.inl ⟨by rfl, ?_⟩) hHeld ?_ ?_
      rotate_left
      · rintro w' ⟨s0, s1⟩
        go_simp
        with_reducible rfl
      rotate_left
      · simp only [Act.put, List.setIfInBounds_toArray, List.set_cons_zero, List.set_cons_succ, i64_w, i32_w]
        rfl
      refine pure_ (i := 8) (N := some 66) (v := ?_) (a' := ?_) #[true, true, true, true, true, true, true, true, true, true, false, false] rfl rfl (by kernel_rfl) (fun _ _ _ h => h) (Or.inl ⟨by rfl, ?_⟩) ?_ ?_
      rotate_left
      · intro w'
        go_simp
        with_reducible rfl
      rotate_left
      · simp only [Act.put, List.setIfInBounds_toArray, List.set_cons_zero, List.set_cons_succ, i64_w, i32_w]
        rfl
      refine pure_ (i := 10) (N := some 68) (v := ?_) (a' := ?_) #[true, true, true, true, true, true, true, true, true, true, true, false] rfl rfl (by kernel_rfl) (fun _ _ _ h => h) (Or.inl ⟨by rfl, ?_⟩) ?_ ?_
      rotate_left
      · intro w'
        go_simp
        with_reducible rfl
      rotate_left
      · simp only [Act.put, List.setIfInBounds_toArray, List.set_cons_zero, List.set_cons_succ, i64_w, i32_w]
        rfl
      refine last_ (i := 11) (N := none) #[true, true, true, true, true, true, true, true, true, true, true, true] rfl rfl (by kernel_rfl) (by decide) (fun K hK => ?_)
      refine skip_ (w1 := ?_) (by rfl) rfl ?_ ?_
      rotate_left
      · go_simp
        rfl
      refine hK.out _ _ ?_
      clear hK K
      refine done_ (by kernel_rfl) ?_

      go_wp2
      first | refine bodyPost_end (results_none rfl _ _ _) rfl ?_ | refine bodyPost_ret (results_none rfl _ _ _) rfl ?_
      have hput := Kd.R_putg (Kd.R_drewN HR.out (nq + 1)) (j : Int) x
      rw [Int.toNat_natCast] at hput
      have hO := Kd.R_grown2 (Kd.R_drewN HO.out (nq + 1)) rfl hput.2 (fun k hk => by have := HNE.out gb rfl; cases hk; exact this)
      have hgg : g ≠ gb := fun e => (HR.out.1 gb rfl).2 e.symm
      rw [← HPAD.out]
      exact ⟨rfl, ⟨hg, hS, v_, _, blk_far (blk_drewN HK.out _) hgg _, hO, hput.1, rr_ne' HNE.out⟩, (pw_below_drewN HB.out _).setCell (Kd.R_base HR.out gb rfl) _, (HKP.out.drewN _).setCell (.inl (HR.out.1 gb rfl).1) _⟩
    | succ d =>
      have hin : l.length ≤ j := by omega
      have HNN : Aside0 (j + 1 - (l ++ [0]).length = d ∧ RR.pad (l ++ [0]) (j + 1) = RR.pad lf (j + 1) ∧ (l ++ [0]).length ≤ 2000000000) := ⟨by simp; omega, by rw [RR.pad_snoc (by omega)]; exact hi1, by have := HJ.out; simp; omega⟩
      have HLL : Aside0 (l.length ≤ 1000000000) := ⟨by have := HJ.out; omega⟩
      clear hi0 hi1 hi2 HN
      have hd : decide (l.length ≤ j) = true := decide_eq_true hin
      replace hin := eq_true hin
      go_wp2
      go_quiet (fail)
      go_wp2_with (first | ((with_reducible refine gate_builtin (b := .append) (xs := #[.tmp 53, .tmp 54]) rfl ?_); at_builtin; refine Kd.R_append (Kd.int .i64) (w0 := w0) base rfl (.tmp 53) (.tmp 54) 41 3 (.int .i64 0) 8 rfl Try.underlying41 info3 rfl (by decide) (by omega) (.slice A l.length c) l 0 [.int .i64 0] (fun k => S k ∧ k ≠ g) (fun _ => False) rfl rfl rfl (fun _ hk => hk.elim) (fun k hk => ⟨HF.out k (Nat.le_trans HKP.out.1 hk), fun e => by have := blk_lt HK.out; have : wr.heap.size ≤ k := hk; omega⟩) (Kd.R_drewN HR.out _) (pw_below_drewN HB.out _) (Nat.le_trans HS.out HKP.out.1) (by have := HLL.out; omega) ?_; intro v2 w2 hR2 hB2 hG2 hat2; obtain ⟨A2, c2, rfl⟩ := Kd.R_slice hR2; have HR2 := Aside0.mk hR2; have HB2 := Aside0.mk hB2; have HKP2 := Aside0.mk (Kept.of_grown hG2 (HKP.out.drewN nq) (fun k hk => .inl (HR.out.1 k hk).1)); have HK2 := Aside0.mk (blk_grown (blk_drewN HK.out nq) hG2 (Kd.R_ne HR.out HK.out (by decide))); have HO2 := Aside0.mk (Kd.R_grown2 (Kd.R_drewN HO.out nq) rfl hG2 HNE.out); have HNE2 := Aside0.mk (rr_ne HNE.out (Kd.R_drewN HO.out nq) hat2); have hz2 := (blk_cell HK2.out 6).trans rfl; have hf2 := blk_frozen HK2.out 6; clear hR2 hB2 hG2 hat2 hc4 hcf HK HR HO HNE HB HKP))

      obtain ⟨W3, hW3⟩ : ∃ W : World, W = w2.setCell ⟨g, 6, none⟩ (.slice A2 (l.length + 1) c2) := ⟨_, rfl⟩
      have HK3 := Aside0.mk (show W3.heap[g]? = some (.cells #[.int .i64 a0, .int .i64 a1, V, .int .i64 st, .int .i64 (-1 - (j : Int)), v_, .slice A2 (l.length + 1) c2, .int .i64 k] 43 (0, 0)) from by rw [hW3]; exact by simpa using blk_set HK2.out 6 (.slice A2 (l.length + 1) c2))
      have HR3 := Aside0.mk (show Kd.R (Kd.int .i64) 3 W3 base (fun k => S k ∧ k ≠ g) (.slice A2 (l.length + 1) c2) (l ++ [0]) from by rw [hW3]; exact by have h := Kd.R_far HR2.out (p := ⟨g, 6, none⟩) (fun k hk => hk.2) (.slice A2 (l.length + 1) c2); rw [List.length_append] at h; exact h)
      have HO3 := Aside0.mk (show Kd.R (Kd.int .i64) 3 W3 base (fun k => S k ∧ k ≠ g) v_ rt from by rw [hW3]; exact Kd.R_far HO2.out (fun k hk => hk.2) _)
      have HB3 := Aside0.mk (show Below base w0 W3 from by rw [hW3]; exact HB2.out.setCell hg _)
      have HKP3 := Aside0.mk (show Kept w W3 S from by rw [hW3]; exact HKP2.out.setCell (.inl hS) _)
      rw [← hW3]
      clear hW3
      go_roundg d
      case measure => omega
      case rel => exact ⟨l ++ [0], _, HNN, HK3, HR3, HO3, ⟨by have h := HNE2.out; rw [List.length_append] at h; exact h⟩, HB3, HKP3⟩
set_option maxHeartbeats 8000000 in
set_option maxRecDepth 100000 in
theorem rr_put (w0 w : World) (base : Nat) (S : Nat → Prop) (g : Nat) (a0 a1 : Int) (V : Value) (s : RR) (x : Int) (h : IsRr w base S g a0 a1 V s) (hB : Below base w0 w) (hs : base ≤ w.heap.size) (hF : ∀ k, w.heap.size ≤ k → S k) (hp0 : -1000000000 ≤ s.po) (hp1 : s.po ≤ 1000000000) (hl0 : s.rt.length ≤ 1000000000) (hl1 : s.lf.length ≤ 1000000000) :
    Calls Try.prog 35 #[.pointer (some ⟨g, 0, none⟩), .int .i64 x] w fun e w' => e = .returned (.tuple #[]) ∧ IsRr w' base S g a0 a1 V (s.put x) ∧ Below base w0 w' ∧ Kept w w' S := by
  obtain ⟨rt, lf, st, po, k⟩ := s
  simp only at hp0 hp1 hl0 hl1
  by_cases c : 0 ≤ po
  · obtain ⟨j, rfl⟩ := Int.eq_ofNat_of_zero_le c
    rw [show RR.put ⟨rt, lf, st, (j : Int), k⟩ x = ⟨(RR.pad rt (j + 1)).set j x, lf, st, (j : Int), k⟩ from (if_pos c).trans (by simp)]
    exact rr_putR w0 w base S g a0 a1 V rt lf st k j x h hB hs hF (by omega) hl0
  · obtain ⟨j, hj⟩ := Int.eq_ofNat_of_zero_le (show 0 ≤ -1 - po by omega)
    obtain rfl : po = -1 - (j : Int) := by omega
    rw [show RR.put ⟨rt, lf, st, -1 - (j : Int), k⟩ x = ⟨rt, (RR.pad lf (j + 1)).set j x, st, -1 - (j : Int), k⟩ from (if_neg c).trans (by simp only; rw [hj]; simp)]
    exact rr_putL w0 w base S g a0 a1 V rt lf st k j x h hB hs hF (by omega) hl1

end Go.Proofs.Ytngmdidegmbpfaa.PLoopAfter
