-- out of a turned copy of the print, by a program of this session; Lean checks it
import Derived.Test.YtkekehpfkfadfaaPCounterJoinedx0
import Derived.Test.YtkekehpfkfadfaaPCounterJoinedx3
namespace Go.Proofs.Ytkekehpfkfadfaa.PCounterJoined
open Go.RowKit Go.Proofs.YtkekehpfkfadfaaW.PrintWords Go.Proofs.YtkekehpfkfadfaaW.PrintLast Go.Proofs.YtkekehpfkfadfaaW.PrintMore
attribute [local go_sem] max2_int min2_int max_two min_two max_three min_three max_four min_four   -- for this text's walks alone
set_option linter.unusedVariables false
set_option linter.unusedSimpArgs false

attribute [local go_sem] isSome_put_
/-! ### counter_Join: function 12 -/
mutual
def counter_Join.j0 : Nat → Bool → Int → List (S33) → Int → List (S33) → Option (Int × (List (S33)) × Int)
 | 0, _, _, _, _, _ => none
 | k + 1, x20, x151000, x151001, x152000, x152001 => if x20 = true then (some (0, ([] : List (S33)), 1)) else (counter_Join.l0 k (x151001.length : Int) false x151001 (x151001.length : Int) 0 x152000 x152001 (mx x151000 x152000) ([] : List (S33)))
def counter_Join.l0 : Nat → Int → Bool → List (S33) → Int → Int → Int → List (S33) → Int → List (S33) → Option (Int × (List (S33)) × Int)
 | 0, _, _, _, _, _, _, _, _, _ => none
 | k + 1, x6, x7, x32, x33, x34, x152000, x152001, x156000, x156001 => if x34 < x33 then (if 0 ≤ x34 then (if x34 < (x32.length : Int) then (if ((rd_T33 x32 x34).f0) = 2 then (if x156001.length < 4398046511104 then (counter_Join.l0 k x6 true x32 x33 (wrap64 (x34 + 1)) x152000 x152001 x156000 (x156001 ++ [(⟨0, 0, x6, 0⟩ : S33)])) else (none)) else (if x156001.length < 4398046511104 then (counter_Join.l0 k x6 x7 x32 x33 (wrap64 (x34 + 1)) x152000 x152001 x156000 (x156001 ++ [(⟨(rd_T33 x32 x34).f0, (rd_T33 x32 x34).f1, (rd_T33 x32 x34).f2, (rd_T33 x32 x34).f3⟩ : S33)])) else (none))) else (none)) else (none)) else (if x7 = true then (if x156001.length < 4398046511104 then (counter_Join.j2 k (wrap64 (x6 + 1)) x152000 x152001 x156000 (x156001 ++ [(⟨1, 0, wrap64 (x6 + 1), wrap64 (x6 + 1)⟩ : S33)])) else (none)) else (counter_Join.j2 k x6 x152000 x152001 x156000 x156001))
def counter_Join.j2 : Nat → Int → Int → List (S33) → Int → List (S33) → Option (Int × (List (S33)) × Int)
 | 0, _, _, _, _, _ => none
 | k + 1, x6, x152000, x152001, x156000, x156001 => counter_Join.l1 k x6 x152001 (x152001.length : Int) 0 x156000 x156001
def counter_Join.l1 : Nat → Int → List (S33) → Int → Int → Int → List (S33) → Option (Int × (List (S33)) × Int)
 | 0, _, _, _, _, _, _ => none
 | k + 1, x6, x62, x63, x64, x156000, x156001 => if x64 < x63 then (if 0 ≤ x64 then (if x64 < (x62.length : Int) then (if ((rd_T33 x62 x64).f0) = 2 then (if ((rd_T33 x62 x64).f0) = 1 then (if x156001.length < 4398046511104 then (counter_Join.l1 k x6 x62 x63 (wrap64 (x64 + 1)) x156000 (x156001 ++ [(⟨(rd_T33 x62 x64).f0, (rd_T33 x62 x64).f1, (rd_T33 x62 x64).f2, wrap64 (((rd_T33 x62 x64).f3) + x6)⟩ : S33)])) else (none)) else (if x156001.length < 4398046511104 then (counter_Join.l1 k x6 x62 x63 (wrap64 (x64 + 1)) x156000 (x156001 ++ [(⟨(rd_T33 x62 x64).f0, (rd_T33 x62 x64).f1, (rd_T33 x62 x64).f2, (rd_T33 x62 x64).f3⟩ : S33)])) else (none))) else (if ((rd_T33 x62 x64).f0) = 1 then (if x156001.length < 4398046511104 then (counter_Join.l1 k x6 x62 x63 (wrap64 (x64 + 1)) x156000 (x156001 ++ [(⟨(rd_T33 x62 x64).f0, (rd_T33 x62 x64).f1, wrap64 (((rd_T33 x62 x64).f2) + x6), wrap64 (((rd_T33 x62 x64).f3) + x6)⟩ : S33)])) else (none)) else (if x156001.length < 4398046511104 then (counter_Join.l1 k x6 x62 x63 (wrap64 (x64 + 1)) x156000 (x156001 ++ [(⟨(rd_T33 x62 x64).f0, (rd_T33 x62 x64).f1, wrap64 (((rd_T33 x62 x64).f2) + x6), (rd_T33 x62 x64).f3⟩ : S33)])) else (none)))) else (none)) else (none)) else (if (x156001.length : Int) > 2000 then (some (0, ([] : List (S33)), 4)) else (some (x156000, x156001, 0)))
end
def counter_Join.f (k : Nat) (a0_0 : Int) (l0_1 : List (S33)) (a1_0 : Int) (l1_1 : List (S33)) : Option (Int × (List (S33)) × Int) := (counter_Valid.f k a0_0 l0_1).bind fun t153 => (if t153 = true then ((counter_Valid.f k a1_0 l1_1).bind fun t154 => (counter_Join.j0 k (!t154) a0_0 l0_1 a1_0 l1_1)) else (counter_Join.j0 k true a0_0 l0_1 a1_0 l1_1))
theorem counter_Join.mono_l : ∀ k, (∀ y0 y1 y2 y3 y4, LeO (counter_Join.j0 k y0 y1 y2 y3 y4) (counter_Join.j0 (k + 1) y0 y1 y2 y3 y4)) ∧ (∀ y0 y1 y2 y3 y4 y5 y6 y7 y8, LeO (counter_Join.l0 k y0 y1 y2 y3 y4 y5 y6 y7 y8) (counter_Join.l0 (k + 1) y0 y1 y2 y3 y4 y5 y6 y7 y8)) ∧ (∀ y0 y1 y2 y3 y4, LeO (counter_Join.j2 k y0 y1 y2 y3 y4) (counter_Join.j2 (k + 1) y0 y1 y2 y3 y4)) ∧ (∀ y0 y1 y2 y3 y4 y5, LeO (counter_Join.l1 k y0 y1 y2 y3 y4 y5) (counter_Join.l1 (k + 1) y0 y1 y2 y3 y4 y5))
 | 0 => ⟨fun _ _ _ _ _ r h => by simp [counter_Join.j0] at h, fun _ _ _ _ _ _ _ _ _ r h => by simp [counter_Join.l0] at h, fun _ _ _ _ _ r h => by simp [counter_Join.j2] at h, fun _ _ _ _ _ _ r h => by simp [counter_Join.l1] at h⟩
 | k + 1 => by
  obtain ⟨ih0, ih1, ih2, ih3⟩ := counter_Join.mono_l k
  refine ⟨?_, ?_, ?_, ?_⟩
  ·intro y0 y1 y2 y3 y4
   unfold counter_Join.j0
   repeat' first
   | (with_reducible exact ih0 _ _ _ _ _)
   | (with_reducible exact ih1 _ _ _ _ _ _ _ _ _)
   | (with_reducible exact ih2 _ _ _ _ _)
   | (with_reducible exact ih3 _ _ _ _ _ _)
   | (with_reducible exact counter_Valid.mono _ _ _)
   | (with_reducible exact LeO.refl _)
   | (with_reducible exact LeO.none _)
   | (with_reducible refine LeO.ite ?_ ?_)
   | (with_reducible refine LeO.bind ?_ (fun _ => ?_))
   | exact ih0 _ _ _ _ _
   | exact ih1 _ _ _ _ _ _ _ _ _
   | exact ih2 _ _ _ _ _
   | exact ih3 _ _ _ _ _ _
   | exact counter_Valid.mono _ _ _
   | exact LeO.none _
   | refine LeO.ite ?_ ?_
   | refine LeO.bind ?_ (fun _ => ?_)
  ·intro y0 y1 y2 y3 y4 y5 y6 y7 y8
   unfold counter_Join.l0
   repeat' first
   | (with_reducible exact ih0 _ _ _ _ _)
   | (with_reducible exact ih1 _ _ _ _ _ _ _ _ _)
   | (with_reducible exact ih2 _ _ _ _ _)
   | (with_reducible exact ih3 _ _ _ _ _ _)
   | (with_reducible exact counter_Valid.mono _ _ _)
   | (with_reducible exact LeO.refl _)
   | (with_reducible exact LeO.none _)
   | (with_reducible refine LeO.ite ?_ ?_)
   | (with_reducible refine LeO.bind ?_ (fun _ => ?_))
   | exact ih0 _ _ _ _ _
   | exact ih1 _ _ _ _ _ _ _ _ _
   | exact ih2 _ _ _ _ _
   | exact ih3 _ _ _ _ _ _
   | exact counter_Valid.mono _ _ _
   | exact LeO.none _
   | refine LeO.ite ?_ ?_
   | refine LeO.bind ?_ (fun _ => ?_)
  ·intro y0 y1 y2 y3 y4
   unfold counter_Join.j2
   repeat' first
   | (with_reducible exact ih0 _ _ _ _ _)
   | (with_reducible exact ih1 _ _ _ _ _ _ _ _ _)
   | (with_reducible exact ih2 _ _ _ _ _)
   | (with_reducible exact ih3 _ _ _ _ _ _)
   | (with_reducible exact counter_Valid.mono _ _ _)
   | (with_reducible exact LeO.refl _)
   | (with_reducible exact LeO.none _)
   | (with_reducible refine LeO.ite ?_ ?_)
   | (with_reducible refine LeO.bind ?_ (fun _ => ?_))
   | exact ih0 _ _ _ _ _
   | exact ih1 _ _ _ _ _ _ _ _ _
   | exact ih2 _ _ _ _ _
   | exact ih3 _ _ _ _ _ _
   | exact counter_Valid.mono _ _ _
   | exact LeO.none _
   | refine LeO.ite ?_ ?_
   | refine LeO.bind ?_ (fun _ => ?_)
  ·intro y0 y1 y2 y3 y4 y5
   unfold counter_Join.l1
   repeat' first
   | (with_reducible exact ih0 _ _ _ _ _)
   | (with_reducible exact ih1 _ _ _ _ _ _ _ _ _)
   | (with_reducible exact ih2 _ _ _ _ _)
   | (with_reducible exact ih3 _ _ _ _ _ _)
   | (with_reducible exact counter_Valid.mono _ _ _)
   | (with_reducible exact LeO.refl _)
   | (with_reducible exact LeO.none _)
   | (with_reducible refine LeO.ite ?_ ?_)
   | (with_reducible refine LeO.bind ?_ (fun _ => ?_))
   | exact ih0 _ _ _ _ _
   | exact ih1 _ _ _ _ _ _ _ _ _
   | exact ih2 _ _ _ _ _
   | exact ih3 _ _ _ _ _ _
   | exact counter_Valid.mono _ _ _
   | exact LeO.none _
   | refine LeO.ite ?_ ?_
   | refine LeO.bind ?_ (fun _ => ?_)
theorem counter_Join.mono : ∀ a0 a1 a2 a3 k, LeO (counter_Join.f k a0 a1 a2 a3) (counter_Join.f (k + 1) a0 a1 a2 a3) := by
 intro a0 a1 a2 a3 k
 obtain ⟨ih0, ih1, ih2, ih3⟩ := counter_Join.mono_l k
 unfold counter_Join.f
 repeat' first
   | (with_reducible exact ih0 _ _ _ _ _)
   | (with_reducible exact ih1 _ _ _ _ _ _ _ _ _)
   | (with_reducible exact ih2 _ _ _ _ _)
   | (with_reducible exact ih3 _ _ _ _ _ _)
   | (with_reducible exact counter_Valid.mono _ _ _)
   | (with_reducible exact LeO.refl _)
   | (with_reducible exact LeO.none _)
   | (with_reducible refine LeO.ite ?_ ?_)
   | (with_reducible refine LeO.bind ?_ (fun _ => ?_))
   | exact ih0 _ _ _ _ _
   | exact ih1 _ _ _ _ _ _ _ _ _
   | exact ih2 _ _ _ _ _
   | exact ih3 _ _ _ _ _ _
   | exact counter_Valid.mono _ _ _
   | exact LeO.none _
   | refine LeO.ite ?_ ?_
   | refine LeO.bind ?_ (fun _ => ?_)
set_option maxHeartbeats 8000000 in
set_option maxRecDepth 100000 in
theorem counter_Join.calls (k : Nat) (a0_0 : Int) (A0_1 : Option Addr) (c0_1 : Nat) (l0_1 : List (S33)) (a1_0 : Int) (A1_1 : Option Addr) (c1_1 : Nat) (l1_1 : List (S33)) (r1 : Int) (r2 : List (S33)) (r3 : Int) (w : World) (hr0_1 : Kd.C k33 w A0_1 l0_1.length l0_1) (hc0_1 : l0_1.length ≤ c0_1) (hr1_1 : Kd.C k33 w A1_1 l1_1.length l1_1) (hc1_1 : l1_1.length ≤ c1_1) (h : counter_Join.f k a0_0 l0_1 a1_0 l1_1 = some (r1, r2, r3)) :
  Calls Try.prog 12 #[.agg #[.int .i64 a0_0, .slice A0_1 l0_1.length c0_1], .agg #[.int .i64 a1_0, .slice A1_1 l1_1.length c1_1]] w fun e w' => ∃ v1_ : Value, e = .returned (.tuple #[.agg #[.int .i64 r1, v1_], .int .i64 r3]) ∧ Kd.R k33 33 w' w.heap.size (fun _ => True) v1_ r2 ∧ Below w.heap.size w w' := by
 have hu24 := Try.underlying24
 have hu33 := Try.underlying33
 have HR0_1 := Aside0.mk hr0_1
 have HC0_1 := Aside0.mk hc0_1
 clear hr0_1 hc0_1
 have HR1_1 := Aside0.mk hr1_1
 have HC1_1 := Aside0.mk hc1_1
 clear hr1_1 hc1_1
 have HB := A_ (Below.refl w.heap.size w)
 have H : ((counter_Valid.f k a0_0 l0_1).bind fun t153 => (if t153 = true then ((counter_Valid.f k a1_0 l1_1).bind fun t154 => (counter_Join.j0 k (!t154) a0_0 l0_1 a1_0 l1_1)) else (counter_Join.j0 k true a0_0 l0_1 a1_0 l1_1))) = some (r1, r2, r3) := h
 clear h
 have HC3 := Aside0.mk H
 clear H
 go_enter Try.func12, Try.ntmps12
 go_upto_region 1 with (first | ((with_reducible refine gate_dst (N := 2) rfl ?_); refine box_event ?hg (N := 2) ?hd (cs := #[.int .i64 a0_0, .slice A0_1 l0_1.length c0_1]) (t := 24) ?hr ?_; (case hd => rfl); (case hg => rfl); (case hr => first | (go_simp; done) | (go_simp; rfl)); intro gb150 hg w4 hbox hb; have n0_ := A_ (below_step (bk_ HB.out) hb); have n1_ := A_ (hbox); have n2_ := A_ ((by rw [hg]; exact (below_size (bk_ HB.out)) : w.heap.size ≤ gb150)); have n3_ := A_ ((by rw [hg]; exact (below_size (bk_ HB.out)) : w.heap.size ≤ gb150)); clear HB; have HB := n0_; have BK150 := n1_; have GW150 := n2_; have GE150 := n3_; clear n0_ n1_ n2_ n3_ hb hbox hg) | ((with_reducible refine gate_dst (N := 3) rfl ?_); refine box_event ?hg (N := 3) ?hd (cs := #[.int .i64 a1_0, .slice A1_1 l1_1.length c1_1]) (t := 24) ?hr ?_; (case hd => rfl); (case hg => rfl); (case hr => first | (go_simp; done) | (go_simp; rfl)); intro gb151 hg w5 hbox hb; have n0_ := A_ (blk_below (pk_ BK150.out) hb); have n1_ := A_ (below_step (bk_ HB.out) hb); have n2_ := A_ (hbox); have n3_ := A_ ((by rw [hg]; exact (below_size (bk_ HB.out)) : w.heap.size ≤ gb151)); have n4_ := A_ ((by rw [hg]; exact (below_size (bk_ HB.out)) : w.heap.size ≤ gb151)); have n5_ := A_ ((by rw [hg]; exact Nat.ne_of_lt (blk_lt (pk_ BK150.out)) : gb150 ≠ gb151)); have n6_ := A_ ((by rw [hg]; exact Nat.ne_of_gt (blk_lt (pk_ BK150.out)) : gb151 ≠ gb150)); clear BK150 HB; have BK150 := n0_; have HB := n1_; have BK151 := n2_; have GW151 := n3_; have GE151 := n4_; have NB150_151 := n5_; have NB151_150 := n6_; clear n0_ n1_ n2_ n3_ n4_ n5_ n6_ hb hbox hg) | ((with_reducible refine gate_dst (N := 4) rfl ?_); refine box_event ?hg (N := 4) ?hd (cs := #[.int .i64 0, .slice none 0 0]) (t := 24) ?hr ?_; (case hd => rfl); (case hg => rfl); (case hr => first | (go_simp; done) | (go_simp; rfl)); intro gb152 hg w6 hbox hb; have n0_ := A_ (blk_below (pk_ BK150.out) hb); have n1_ := A_ (blk_below (pk_ BK151.out) hb); have n2_ := A_ (below_step (bk_ HB.out) hb); have n3_ := A_ (hbox); have n4_ := A_ ((by rw [hg]; exact (below_size (bk_ HB.out)) : w.heap.size ≤ gb152)); have n5_ := A_ ((by rw [hg]; exact (below_size (bk_ HB.out)) : w.heap.size ≤ gb152)); have n6_ := A_ ((by rw [hg]; exact Nat.ne_of_lt (blk_lt (pk_ BK150.out)) : gb150 ≠ gb152)); have n7_ := A_ ((by rw [hg]; exact Nat.ne_of_gt (blk_lt (pk_ BK150.out)) : gb152 ≠ gb150)); have n8_ := A_ ((by rw [hg]; exact Nat.ne_of_lt (blk_lt (pk_ BK151.out)) : gb151 ≠ gb152)); have n9_ := A_ ((by rw [hg]; exact Nat.ne_of_gt (blk_lt (pk_ BK151.out)) : gb152 ≠ gb151)); clear BK150 BK151 HB; have BK150 := n0_; have BK151 := n1_; have HB := n2_; have BK152 := n3_; have GW152 := n4_; have GE152 := n5_; have NB150_152 := n6_; have NB152_150 := n7_; have NB151_152 := n8_; have NB152_151 := n9_; clear n0_ n1_ n2_ n3_ n4_ n5_ n6_ n7_ n8_ n9_ hb hbox hg))
 (try simp only [Act.put, List.setIfInBounds_toArray, List.set_cons_zero, List.set_cons_succ])
 go_cut [20] (fun v20 wc => ∃ (kq : Nat) (x20_2 : Bool), v20 = .bool x20_2 ∧ Aside0 (counter_Join.j0 kq x20_2 a0_0 l0_1 a1_0 l1_1 = some (r1, r2, r3)) ∧ Aside0 (kq ≤ k) ∧ Aside0 (wc.heap[gb150]? = some (.cells #[.int .i64 a0_0, (.slice A0_1 l0_1.length c0_1)] 24 (0, 0))) ∧ Aside0 (wc.heap[gb151]? = some (.cells #[.int .i64 a1_0, (.slice A1_1 l1_1.length c1_1)] 24 (0, 0))) ∧ Aside0 (wc.heap[gb152]? = some (.cells #[.int .i64 0, (.slice none 0 0)] 24 (0, 0))) ∧ Aside0 (Below w.heap.size w wc))
 case first =>
  have H := HC3.out
  clear HC3
  replace H := Option.bind_eq_some_iff.mp H
  obtain ⟨t153, A70, H⟩ := H
  replace H : (if t153 = true then ((counter_Valid.f k a1_0 l1_1).bind fun t154 => (counter_Join.j0 k (!t154) a0_0 l0_1 a1_0 l1_1)) else (counter_Join.j0 k true a0_0 l0_1 a1_0 l1_1)) = some (r1, r2, r3) := H
  have A7 := Aside0.mk A70
  clear A70
  by_cases c8 : t153 = true
  ·subst c8
   have H1 : ((counter_Valid.f k a1_0 l1_1).bind fun t154 => (counter_Join.j0 k (!t154) a0_0 l0_1 a1_0 l1_1)) = some (r1, r2, r3) := by rw [if_pos rfl] at H; exact H
   clear H
   have H := H1
   clear H1
   replace H := Option.bind_eq_some_iff.mp H
   obtain ⟨t154, A90, H⟩ := H
   replace H : (counter_Join.j0 k (!t154) a0_0 l0_1 a1_0 l1_1) = some (r1, r2, r3) := H
   have A9 := Aside0.mk A90
   clear A90
   have H' := Aside0.mk H
   clear H
   have hnb10 := NB150_151.out
   have hnc10 := NB151_150.out
   have hnb11 := NB150_152.out
   have hnc11 := NB152_150.out
   have hcz12_0 : w6.cell? ⟨gb150, 0, none⟩ = some (.int .i64 a0_0) := (blk_cell BK150.out 0).trans rfl
   have hcz12_1 : w6.cell? ⟨gb150, 1, none⟩ = some (.slice A0_1 l0_1.length c0_1) := (blk_cell BK150.out 1).trans rfl
   have hfz12_0 := blk_frozen BK150.out 0
   have hfz12_1 := blk_frozen BK150.out 1
   go_wp2_with (first | ((with_reducible refine gate_callee (f := 17) rfl ?_); refine goesL_ (some 14) rfl rfl Try.func17 (by kernel_rfl) rfl #[.agg #[.int .i64 a0_0, .slice A0_1 l0_1.length c0_1]] rfl gl_ ?_; (with_reducible refine (counter_Valid.calls k a0_0 _ _ l0_1 true _ ?side1 ?side2 A7.out).mono ?_); (case side1 => exact ck_ (Kd.C_below HR0_1.out HB.out)); (case side2 => exact HC0_1.out); rintro e w13 ⟨rfl, hb⟩; refine ⟨_, rfl, ?_⟩; have n0_ := A_ (blk_below (pk_ BK150.out) hb); have n1_ := A_ (blk_below (pk_ BK151.out) hb); have n2_ := A_ (blk_below (pk_ BK152.out) hb); have n3_ := A_ (below_step (bk_ HB.out) hb); clear BK150 BK151 BK152 HB; have BK150 := n0_; have BK151 := n1_; have BK152 := n2_; have HB := n3_; clear n0_ n1_ n2_ n3_; (try clear hb); (try clear hb2); (try clear hk); (try clear hi); have hnb14 := NB151_152.out; have hnc14 := NB152_151.out; have hcz15_0 : w13.cell? ⟨gb151, 0, none⟩ = some (.int .i64 a1_0) := (blk_cell BK151.out 0).trans rfl; have hcz15_1 : w13.cell? ⟨gb151, 1, none⟩ = some (.slice A1_1 l1_1.length c1_1) := (blk_cell BK151.out 1).trans rfl; have hfz15_0 := blk_frozen BK151.out 0; have hfz15_1 := blk_frozen BK151.out 1) | (go_at_call 17; (with_reducible refine (counter_Valid.calls k a1_0 _ _ l1_1 t154 _ ?side1 ?side2 A9.out).mono ?_); (case side1 => exact ck_ (Kd.C_below HR1_1.out HB.out)); (case side2 => exact HC1_1.out); rintro e w16 ⟨rfl, hb⟩; have n0_ := A_ (blk_below (pk_ BK150.out) hb); have n1_ := A_ (blk_below (pk_ BK151.out) hb); have n2_ := A_ (blk_below (pk_ BK152.out) hb); have n3_ := A_ (below_step (bk_ HB.out) hb); clear BK150 BK151 BK152 HB; have BK150 := n0_; have BK151 := n1_; have BK152 := n2_; have HB := n3_; clear n0_ n1_ n2_ n3_; (try clear hb); (try clear hb2); (try clear hk); (try clear hi)))
   go_meet
   case rel => exact ⟨_, (!t154), jr_, H', ⟨by first | omega | exact Nat.le_refl _⟩, ⟨pk_ BK150.out⟩, ⟨pk_ BK151.out⟩, ⟨pk_ BK152.out⟩, ⟨bk_ HB.out⟩⟩
  ·replace c8 := Bool.eq_false_iff.mpr c8
   subst c8
   have H1 : (counter_Join.j0 k true a0_0 l0_1 a1_0 l1_1) = some (r1, r2, r3) := by rw [if_neg (show ¬ (false = true) by decide)] at H; exact H
   clear H
   have H := H1
   clear H1
   have H' := Aside0.mk H
   clear H
   have hnb17 := NB150_151.out
   have hnc17 := NB151_150.out
   have hnb18 := NB150_152.out
   have hnc18 := NB152_150.out
   have hcz19_0 : w6.cell? ⟨gb150, 0, none⟩ = some (.int .i64 a0_0) := (blk_cell BK150.out 0).trans rfl
   have hcz19_1 : w6.cell? ⟨gb150, 1, none⟩ = some (.slice A0_1 l0_1.length c0_1) := (blk_cell BK150.out 1).trans rfl
   have hfz19_0 := blk_frozen BK150.out 0
   have hfz19_1 := blk_frozen BK150.out 1
   go_wp2_with (first | ((with_reducible refine gate_callee (f := 17) rfl ?_); refine goesL_ (some 14) rfl rfl Try.func17 (by kernel_rfl) rfl #[.agg #[.int .i64 a0_0, .slice A0_1 l0_1.length c0_1]] rfl gl_ ?_; (with_reducible refine (counter_Valid.calls k a0_0 _ _ l0_1 false _ ?side1 ?side2 A7.out).mono ?_); (case side1 => exact ck_ (Kd.C_below HR0_1.out HB.out)); (case side2 => exact HC0_1.out); rintro e w20 ⟨rfl, hb⟩; refine ⟨_, rfl, ?_⟩; have n0_ := A_ (blk_below (pk_ BK150.out) hb); have n1_ := A_ (blk_below (pk_ BK151.out) hb); have n2_ := A_ (blk_below (pk_ BK152.out) hb); have n3_ := A_ (below_step (bk_ HB.out) hb); clear BK150 BK151 BK152 HB; have BK150 := n0_; have BK151 := n1_; have BK152 := n2_; have HB := n3_; clear n0_ n1_ n2_ n3_; (try clear hb); (try clear hb2); (try clear hk); (try clear hi)))
   go_meet
   case rel => exact ⟨_, (true), jr_, H', ⟨by first | omega | exact Nat.le_refl _⟩, ⟨pk_ BK150.out⟩, ⟨pk_ BK151.out⟩, ⟨pk_ BK152.out⟩, ⟨bk_ HB.out⟩⟩
 case rest =>
  clear HC3
  obtain ⟨kq, x20_2, rfl, HA, HJ2, BK150, BK151, BK152, HB⟩ := hcut
  cases kq with
  | zero => exact absurd HA.out (by simp [counter_Join.j0])
  | succ kj2 =>
   have H := HA.out
   clear HA
   simp only [counter_Join.j0] at H
   by_cases c21 : x20_2 = true
   ·subst c21
    have H1 : (some (0, ([] : List (S33)), 1)) = some (r1, r2, r3) := by rw [if_pos rfl] at H; exact H
    clear H
    have H := H1
    clear H1
    simp only [Option.some.injEq, Prod.mk.injEq] at H
    obtain ⟨rfl, rfl, rfl⟩ := H
    have hnb22 := NB152_150.out
    have hnc22 := NB150_152.out
    have hnb23 := NB152_151.out
    have hnc23 := NB151_152.out
    have hcz24_0 : wc.cell? ⟨gb152, 0, none⟩ = some (.int .i64 0) := (blk_cell BK152.out 0).trans rfl
    have hcz24_1 : wc.cell? ⟨gb152, 1, none⟩ = some (.slice none 0 0) := (blk_cell BK152.out 1).trans rfl
    have hfz24_0 := blk_frozen BK152.out 0
    have hfz24_1 := blk_frozen BK152.out 1
    go_wp2
    refine bodyPost_ret (results_ct rfl _ _ gb152 24 #[.int .i64 0, .slice none 0 0] (0, 0) _ rfl (by refine pk_ ?_; refine blk_put (cs := #[.int .i64 0, .slice none 0 0]) ?_ 1 _ rfl; refine pk_ ?_; refine blk_put (cs := #[.int .i64 0, .slice none 0 0]) ?_ 0 _ rfl; exact pk_ BK152.out) Try.underlying24 rfl (by kernel_rfl)) rfl ?_
    exact ⟨_, er_, by first | exact Kd.R_nil _ _ _ _ _ | exact Kd.N_nil _ _ _ _ _ | exact Kd.V_nil _ _ _ _ _ | exact Kd.Q_nil _ _ _ _ _ | exact Kd.S_nil _ _ _ _ _, bk_ HB.out⟩
   ·replace c21 := Bool.eq_false_iff.mpr c21
    subst c21
    have H1 : (counter_Join.l0 kj2 (l0_1.length : Int) false l0_1 (l0_1.length : Int) 0 a1_0 l1_1 (mx a0_0 a1_0) ([] : List (S33))) = some (r1, r2, r3) := by rw [if_neg (show ¬ (false = true) by decide)] at H; exact H
    clear H
    have H := H1
    clear H1
    obtain ⟨ji25, hji25⟩ : ∃ j_ : Int, (mx a0_0 a1_0) = j_ := ⟨_, rfl⟩
    replace H : (counter_Join.l0 kj2 (l0_1.length : Int) false l0_1 (l0_1.length : Int) 0 a1_0 l1_1 ji25 ([] : List (S33))) = some (r1, r2, r3) := by first | (rw [hji25] at H; exact H) | (simp only [hji25] at H ⊢; exact H)
    have hji25_ : (if a0_0 < a1_0 then a1_0 else a0_0) = ji25 := hji25
    have H' := Aside0.mk H
    clear H
    have hnb26 := NB150_151.out
    have hnc26 := NB151_150.out
    have hnb27 := NB150_152.out
    have hnc27 := NB152_150.out
    have hcz28_0 : wc.cell? ⟨gb150, 0, none⟩ = some (.int .i64 a0_0) := (blk_cell BK150.out 0).trans rfl
    have hcz28_1 : wc.cell? ⟨gb150, 1, none⟩ = some (.slice A0_1 l0_1.length c0_1) := (blk_cell BK150.out 1).trans rfl
    have hfz28_0 := blk_frozen BK150.out 0
    have hfz28_1 := blk_frozen BK150.out 1
    have hnb29 := NB151_152.out
    have hnc29 := NB152_151.out
    have hcz30_0 : wc.cell? ⟨gb151, 0, none⟩ = some (.int .i64 a1_0) := (blk_cell BK151.out 0).trans rfl
    have hcz30_1 : wc.cell? ⟨gb151, 1, none⟩ = some (.slice A1_1 l1_1.length c1_1) := (blk_cell BK151.out 1).trans rfl
    have hfz30_0 := blk_frozen BK151.out 0
    have hfz30_1 := blk_frozen BK151.out 1
    go_wp2_with (first | ((with_reducible refine gate_dst (N := 8) rfl ?_); refine box_event ?hg (N := 8) ?hd (cs := #[.int .i64 0, .slice none 0 0]) (t := 24) ?hr ?_; (case hd => rfl); (case hg => rfl); (case hr => first | (go_simp; done) | (go_simp; rfl)); intro gb155 hg w31 hbox hb; have n0_ := A_ (blk_below (pk_ BK150.out) hb); have n1_ := A_ (blk_below (pk_ BK151.out) hb); have n2_ := A_ (blk_below (pk_ BK152.out) hb); have n3_ := A_ (below_step (bk_ HB.out) hb); have n4_ := A_ (hbox); have n5_ := A_ ((by rw [hg]; exact (below_size (bk_ HB.out)) : w.heap.size ≤ gb155)); have n6_ := A_ ((by rw [hg]; exact (below_size (bk_ HB.out)) : w.heap.size ≤ gb155)); have n7_ := A_ ((by rw [hg]; exact Nat.ne_of_lt (blk_lt (pk_ BK150.out)) : gb150 ≠ gb155)); have n8_ := A_ ((by rw [hg]; exact Nat.ne_of_gt (blk_lt (pk_ BK150.out)) : gb155 ≠ gb150)); have n9_ := A_ ((by rw [hg]; exact Nat.ne_of_lt (blk_lt (pk_ BK151.out)) : gb151 ≠ gb155)); have n10_ := A_ ((by rw [hg]; exact Nat.ne_of_gt (blk_lt (pk_ BK151.out)) : gb155 ≠ gb151)); have n11_ := A_ ((by rw [hg]; exact Nat.ne_of_lt (blk_lt (pk_ BK152.out)) : gb152 ≠ gb155)); have n12_ := A_ ((by rw [hg]; exact Nat.ne_of_gt (blk_lt (pk_ BK152.out)) : gb155 ≠ gb152)); clear BK150 BK151 BK152 HB; have BK150 := n0_; have BK151 := n1_; have BK152 := n2_; have HB := n3_; have BK155 := n4_; have GW155 := n5_; have GE155 := n6_; have NB150_155 := n7_; have NB155_150 := n8_; have NB151_155 := n9_; have NB155_151 := n10_; have NB152_155 := n11_; have NB155_152 := n12_; clear n0_ n1_ n2_ n3_ n4_ n5_ n6_ n7_ n8_ n9_ n10_ n11_ n12_ hb hbox hg; have hnb32 := NB155_150.out; have hnc32 := NB150_155.out; have hnb33 := NB155_151.out; have hnc33 := NB151_155.out; have hnb34 := NB155_152.out; have hnc34 := NB152_155.out; have hcz35_0 : w31.cell? ⟨gb155, 0, none⟩ = some (.int .i64 0) := (blk_cell BK155.out 0).trans rfl; have hcz35_1 : w31.cell? ⟨gb155, 1, none⟩ = some (.slice none 0 0) := (blk_cell BK155.out 1).trans rfl; have hfz35_0 := blk_frozen BK155.out 0; have hfz35_1 := blk_frozen BK155.out 1; have hcz36_0 : w31.cell? ⟨gb150, 0, none⟩ = some (.int .i64 a0_0) := (blk_cell BK150.out 0).trans rfl; have hcz36_1 : w31.cell? ⟨gb150, 1, none⟩ = some (.slice A0_1 l0_1.length c0_1) := (blk_cell BK150.out 1).trans rfl; have hfz36_0 := blk_frozen BK150.out 0; have hfz36_1 := blk_frozen BK150.out 1))
    go_loopg [7, 34] kj2 (fun kq v7 v34 w' => ∃ (x7_2 : Bool) (x34_2 : Int) (x156001_2 : List (S33)) (u156001 : Value), v7 = .bool x7_2 ∧ v34 = .int .i64 x34_2 ∧ Aside0 (counter_Join.l0 kq (l0_1.length : Int) x7_2 l0_1 (l0_1.length : Int) x34_2 a1_0 l1_1 ji25 x156001_2 = some (r1, r2, r3)) ∧ Aside0 (kq ≤ kj2) ∧ Aside0 (Kd.R k33 33 w' w.heap.size (fun _ => True) u156001 x156001_2) ∧ Aside0 (w'.heap[gb150]? = some (.cells #[.int .i64 a0_0, (.slice A0_1 l0_1.length c0_1)] 24 (0, 0))) ∧ Aside0 (w'.heap[gb151]? = some (.cells #[.int .i64 a1_0, (.slice A1_1 l1_1.length c1_1)] 24 (0, 0))) ∧ Aside0 (w'.heap[gb152]? = some (.cells #[.int .i64 0, (.slice none 0 0)] 24 (0, 0))) ∧ Aside0 (w'.heap[gb155]? = some (.cells #[.int .i64 ji25, u156001] 24 (0, 0))) ∧ Aside0 (Below w.heap.size w w'))
    case atStart => exact ⟨(false), (0), (([] : List (S33))), (.slice none 0 0), jr_, jr_, H', ⟨Nat.le_refl _⟩, ⟨by first | exact Kd.R_nil _ _ _ _ _ | exact Kd.N_nil _ _ _ _ _ | exact Kd.V_nil _ _ _ _ _ | exact Kd.Q_nil _ _ _ _ _ | exact Kd.S_nil _ _ _ _ _⟩, ⟨by refine pk_ ?_; refine blk_far ?_ NB150_155.out _; refine pk_ ?_; refine blk_far ?_ NB150_155.out _; exact pk_ BK150.out⟩, ⟨by refine pk_ ?_; refine blk_far ?_ NB151_155.out _; refine pk_ ?_; refine blk_far ?_ NB151_155.out _; exact pk_ BK151.out⟩, ⟨by refine pk_ ?_; refine blk_far ?_ NB152_155.out _; refine pk_ ?_; refine blk_far ?_ NB152_155.out _; exact pk_ BK152.out⟩, ⟨by refine pk_ ?_; refine blk_put (cs := #[.int .i64 ji25, .slice none 0 0]) ?_ 1 _ rfl; refine pk_ ?_; refine blk_put (cs := #[.int .i64 0, .slice none 0 0]) ?_ 0 _ rfl; exact pk_ BK155.out⟩, ⟨bk_ HB.out⟩⟩
    case round =>
     clear H'
     (try clear c21); (try clear hcz28_0); (try clear hcz28_1); (try clear hcz30_0); (try clear hcz30_1); (try clear hcz35_0); (try clear hcz35_1); (try clear hcz36_0); (try clear hcz36_1); (try clear hfz28_0); (try clear hfz28_1); (try clear hfz30_0); (try clear hfz30_1); (try clear hfz35_0); (try clear hfz35_1); (try clear hfz36_0); (try clear hfz36_1)
     obtain ⟨x7_2, x34_2, x156001_2, u156001, rfl, rfl, HA, HK2, HO_156001, BK150, BK151, BK152, BK155, HB⟩ := hrel
     cases gk with
     | zero => exact absurd HA.out (by simp [counter_Join.l0])
     | succ k2 =>
      have H := HA.out
      clear HA
      simp only [counter_Join.l0] at H
      by_cases c37 : x34_2 < (l0_1.length : Int)
      ·rw [if_pos c37] at H
       have c37b0 : decide (x34_2 < (l0_1.length : Int)) = true := decide_eq_true c37
       clear c37
       by_cases c38 : 0 ≤ x34_2
       ·rw [if_pos c38] at H
        have c38b0 : decide (0 ≤ x34_2) = true := decide_eq_true c38
        clear c38
        by_cases c39 : x34_2 < (l0_1.length : Int)
        ·rw [if_pos c39] at H
         have c39b0 : decide (x34_2 < (l0_1.length : Int)) = true := decide_eq_true c39
         clear c39
         by_cases c40 : ((rd_T33 l0_1 x34_2).f0) = 2
         ·rw [if_pos c40] at H
          have c40b0 : (((rd_T33 l0_1 x34_2).f0) == 2) = true := beq_iff_eq.mpr c40
          have c40b1 : (((rd_T33 l0_1 x34_2).f0) != 2) = false := bne_eq_false_iff_eq.mpr c40
          clear c40
          by_cases c41 : x156001_2.length < 4398046511104
          ·rw [if_pos c41] at H
           have LMc41 := Aside0.mk c41
           clear c41
           obtain ⟨y158, hy158⟩ : ∃ y_ : List (S33), y_ = (x156001_2 ++ [(⟨0, 0, (l0_1.length : Int), 0⟩ : S33)]) := ⟨_, rfl⟩
           replace H : (counter_Join.l0 k2 (l0_1.length : Int) true l0_1 (l0_1.length : Int) (wrap64 (x34_2 + 1)) a1_0 l1_1 ji25 y158) = some (r1, r2, r3) := by first | (rw [hy158]; with_reducible exact H) | (have H2_ := (Option.bind_some _ _).symm.trans H; rw [hy158]; with_reducible exact H2_) | (have H2_ := (Option.bind_some _ _).symm.trans H; with_reducible exact H2_) | with_reducible exact H | (rw [hy158]; exact H) | exact H
           have Ny158 := Aside0.mk hy158
           clear hy158
           have H' := Aside0.mk H
           clear H
           have p156 : 0 ≤ (x34_2 : Int) := od_
           have q156 : x34_2 < (l0_1.length : Int) := od_
           obtain ⟨ad156, e156, hx156_0, hx156_1, hx156_2, hx156_3⟩ := at_T33 HR0_1.out x34_2 p156 q156
           cases e156
           replace hx156_0 := lf_ HB.out hx156_0
           replace hx156_1 := lf_ HB.out hx156_1
           replace hx156_2 := lf_ HB.out hx156_2
           replace hx156_3 := lf_ HB.out hx156_3
           replace p156 := eq_true p156
           replace q156 := eq_true q156
           go_wp2_with (first | ((with_reducible refine gate_dst (N := 10) rfl ?_); refine box_event ?hg (N := 10) ?hd (cs := #[.int .i64 0, .int .i64 0, .int .i64 0, .int .i64 0]) (t := 33) ?hr ?_; (case hd => rfl); (case hg => rfl); (case hr => first | (go_simp; done) | (go_simp; rfl)); intro gb157 hg w42 hbox hb; have n0_ := A_ (Kd.R_below (Kd.R_elderB (rk_ HO_156001.out) gb157 (Nat.le_of_eq hg.symm)) hb); have n1_ := A_ (blk_below (pk_ BK150.out) hb); have n2_ := A_ (blk_below (pk_ BK151.out) hb); have n3_ := A_ (blk_below (pk_ BK152.out) hb); have n4_ := A_ (blk_below (pk_ BK155.out) hb); have n5_ := A_ (below_step (bk_ HB.out) hb); have n6_ := A_ (hbox); have n7_ := A_ ((by rw [hg]; exact (below_size (bk_ HB.out)) : w.heap.size ≤ gb157)); have n8_ := A_ ((by rw [hg]; exact (below_size (bk_ HB.out)) : w.heap.size ≤ gb157)); have n9_ := A_ ((by rw [hg]; exact Nat.ne_of_lt (blk_lt (pk_ BK150.out)) : gb150 ≠ gb157)); have n10_ := A_ ((by rw [hg]; exact Nat.ne_of_gt (blk_lt (pk_ BK150.out)) : gb157 ≠ gb150)); have n11_ := A_ ((by rw [hg]; exact Nat.ne_of_lt (blk_lt (pk_ BK151.out)) : gb151 ≠ gb157)); have n12_ := A_ ((by rw [hg]; exact Nat.ne_of_gt (blk_lt (pk_ BK151.out)) : gb157 ≠ gb151)); have n13_ := A_ ((by rw [hg]; exact Nat.ne_of_lt (blk_lt (pk_ BK152.out)) : gb152 ≠ gb157)); have n14_ := A_ ((by rw [hg]; exact Nat.ne_of_gt (blk_lt (pk_ BK152.out)) : gb157 ≠ gb152)); have n15_ := A_ ((by rw [hg]; exact Nat.ne_of_lt (blk_lt (pk_ BK155.out)) : gb155 ≠ gb157)); have n16_ := A_ ((by rw [hg]; exact Nat.ne_of_gt (blk_lt (pk_ BK155.out)) : gb157 ≠ gb155)); clear HO_156001 BK150 BK151 BK152 BK155 HB; have HO_156001 := n0_; have BK150 := n1_; have BK151 := n2_; have BK152 := n3_; have BK155 := n4_; have HB := n5_; have BK157 := n6_; have GW157 := n7_; have GE157 := n8_; have NB150_157 := n9_; have NB157_150 := n10_; have NB151_157 := n11_; have NB157_151 := n12_; have NB152_157 := n13_; have NB157_152 := n14_; have NB155_157 := n15_; have NB157_155 := n16_; clear n0_ n1_ n2_ n3_ n4_ n5_ n6_ n7_ n8_ n9_ n10_ n11_ n12_ n13_ n14_ n15_ n16_ hb hbox hg; have hnb43 := NB157_150.out; have hnc43 := NB150_157.out; have hnb44 := NB157_151.out; have hnc44 := NB151_157.out; have hnb45 := NB157_152.out; have hnc45 := NB152_157.out; have hnb46 := NB157_155.out; have hnc46 := NB155_157.out; have hcz47_0 : w42.cell? ⟨gb157, 0, none⟩ = some (.int .i64 0) := (blk_cell BK157.out 0).trans rfl; have hcz47_1 : w42.cell? ⟨gb157, 1, none⟩ = some (.int .i64 0) := (blk_cell BK157.out 1).trans rfl; have hcz47_2 : w42.cell? ⟨gb157, 2, none⟩ = some (.int .i64 0) := (blk_cell BK157.out 2).trans rfl; have hcz47_3 : w42.cell? ⟨gb157, 3, none⟩ = some (.int .i64 0) := (blk_cell BK157.out 3).trans rfl; have hfz47_0 := blk_frozen BK157.out 0; have hfz47_1 := blk_frozen BK157.out 1; have hfz47_2 := blk_frozen BK157.out 2; have hfz47_3 := blk_frozen BK157.out 3; have hnb48 := NB155_150.out; have hnc48 := NB150_155.out; have hnb49 := NB155_151.out; have hnc49 := NB151_155.out; have hnb50 := NB155_152.out; have hnc50 := NB152_155.out; have hcz51_0 : w42.cell? ⟨gb155, 0, none⟩ = some (.int .i64 ji25) := (blk_cell BK155.out 0).trans rfl; have hcz51_1 : w42.cell? ⟨gb155, 1, none⟩ = some (u156001) := (blk_cell BK155.out 1).trans rfl; have hfz51_0 := blk_frozen BK155.out 0; have hfz51_1 := blk_frozen BK155.out 1) | ((with_reducible refine gate_builtin (b := .append) (xs := #[.tmp 44, .tmp 46]) rfl ?_); at_builtin; refine Kd.R_append k33 (w0 := w) w.heap.size rfl (.tmp 44) (.tmp 46) 22 33 (.agg #[(.int .i64 0), (.int .i64 0), (.int .i64 0), (.int .i64 0)]) 32 rfl Try.underlying22 info33 rfl (by decide) (by omega) u156001 x156001_2 (⟨0, 0, (l0_1.length : Int), 0⟩ : S33) [.int .i64 0, .int .i64 0, .int .i64 (l0_1.length : Int), .int .i64 0] (fun k_ => k_ ≠ gb157) (fun _ => False) rfl (by first | (go_simp; done) | (go_simp; rfl)) ?aP (fun _ hk => hk.elim) ?aF ?aO ?aB ?aS ?aL ?_; (case aP => exact k33_mkM _ _ _ (⟨0, 0, (l0_1.length : Int), 0⟩ : S33)); (case aB => exact (bk_ HB.out)); (case aF => exact (fun k_ hk => Kd.freshB (g := gb157) (o := .cells #[.int .i64 0, .int .i64 0, .int .i64 (l0_1.length : Int), .int .i64 0] 33 (0, 0)) (by refine pk_ ?_; refine blk_put (cs := #[.int .i64 0, .int .i64 0, .int .i64 (l0_1.length : Int), .int .i64 ((rd_T33 l0_1 x34_2).f3)]) ?_ 3 _ rfl; refine pk_ ?_; refine blk_put (cs := #[.int .i64 0, .int .i64 0, .int .i64 ((rd_T33 l0_1 x34_2).f2), .int .i64 ((rd_T33 l0_1 x34_2).f3)]) ?_ 2 _ rfl; refine pk_ ?_; refine blk_put (cs := #[.int .i64 0, .int .i64 ((rd_T33 l0_1 x34_2).f1), .int .i64 ((rd_T33 l0_1 x34_2).f2), .int .i64 ((rd_T33 l0_1 x34_2).f3)]) ?_ 1 _ rfl; refine pk_ ?_; refine blk_put (cs := #[.int .i64 ((rd_T33 l0_1 x34_2).f0), .int .i64 ((rd_T33 l0_1 x34_2).f1), .int .i64 ((rd_T33 l0_1 x34_2).f2), .int .i64 ((rd_T33 l0_1 x34_2).f3)]) ?_ 0 _ rfl; refine pk_ ?_; refine blk_put (cs := #[.int .i64 ((rd_T33 l0_1 x34_2).f0), .int .i64 ((rd_T33 l0_1 x34_2).f1), .int .i64 ((rd_T33 l0_1 x34_2).f2), .int .i64 0]) ?_ 3 _ rfl; refine pk_ ?_; refine blk_put (cs := #[.int .i64 ((rd_T33 l0_1 x34_2).f0), .int .i64 ((rd_T33 l0_1 x34_2).f1), .int .i64 0, .int .i64 0]) ?_ 2 _ rfl; refine pk_ ?_; refine blk_put (cs := #[.int .i64 ((rd_T33 l0_1 x34_2).f0), .int .i64 0, .int .i64 0, .int .i64 0]) ?_ 1 _ rfl; refine pk_ ?_; refine blk_put (cs := #[.int .i64 0, .int .i64 0, .int .i64 0, .int .i64 0]) ?_ 0 _ rfl; exact pk_ BK157.out) k_ hk)); (case aO => exact (by (with_reducible repeat (first | apply Kd.R_alloc | apply Kd.R_drewN | apply Kd.R_drew)); exact Kd.R_mono (Kd.R_far (p := ⟨gb157, 3, none⟩) (Kd.R_far (p := ⟨gb157, 2, none⟩) (Kd.R_far (p := ⟨gb157, 1, none⟩) (Kd.R_far (p := ⟨gb157, 0, none⟩) (Kd.R_far (p := ⟨gb157, 3, none⟩) (Kd.R_far (p := ⟨gb157, 2, none⟩) (Kd.R_far (p := ⟨gb157, 1, none⟩) (Kd.R_far (p := ⟨gb157, 0, none⟩) (Kd.R_mono HO_156001.out (fun k_ hk => (⟨hk, hk.2⟩ : _ ∧ k_ ≠ gb157))) (fun _ hk => hk.2) (.int .i64 ((rd_T33 l0_1 x34_2).f0))) (fun _ hk => hk.2) (.int .i64 ((rd_T33 l0_1 x34_2).f1))) (fun _ hk => hk.2) (.int .i64 ((rd_T33 l0_1 x34_2).f2))) (fun _ hk => hk.2) (.int .i64 ((rd_T33 l0_1 x34_2).f3))) (fun _ hk => hk.2) (.int .i64 0)) (fun _ hk => hk.2) (.int .i64 0)) (fun _ hk => hk.2) (.int .i64 (l0_1.length : Int))) (fun _ hk => hk.2) (.int .i64 0)) (fun _ hk => hk.1.2))); (case aS => exact (below_size (bk_ HB.out))); (case aL => have := LMc41.out; omega); intro v159 w52 ho hb hg hat; rw [← Ny158.out] at ho; have n0_ := A_ (blk_grown (g := gb150) (o := .cells #[.int .i64 a0_0, .slice (some ad156) l0_1.length c0_1] 24 (0, 0)) (by refine pk_ ?_; refine blk_far ?_ NB150_157.out _; refine pk_ ?_; refine blk_far ?_ NB150_157.out _; refine pk_ ?_; refine blk_far ?_ NB150_157.out _; refine pk_ ?_; refine blk_far ?_ NB150_157.out _; refine pk_ ?_; refine blk_far ?_ NB150_157.out _; refine pk_ ?_; refine blk_far ?_ NB150_157.out _; refine pk_ ?_; refine blk_far ?_ NB150_157.out _; refine pk_ ?_; refine blk_far ?_ NB150_157.out _; exact pk_ BK150.out) hg (Kd.R_ne HO_156001.out BK150.out (by decide))); have n1_ := A_ (blk_grown (g := gb151) (o := .cells #[.int .i64 a1_0, .slice A1_1 l1_1.length c1_1] 24 (0, 0)) (by refine pk_ ?_; refine blk_far ?_ NB151_157.out _; refine pk_ ?_; refine blk_far ?_ NB151_157.out _; refine pk_ ?_; refine blk_far ?_ NB151_157.out _; refine pk_ ?_; refine blk_far ?_ NB151_157.out _; refine pk_ ?_; refine blk_far ?_ NB151_157.out _; refine pk_ ?_; refine blk_far ?_ NB151_157.out _; refine pk_ ?_; refine blk_far ?_ NB151_157.out _; refine pk_ ?_; refine blk_far ?_ NB151_157.out _; exact pk_ BK151.out) hg (Kd.R_ne HO_156001.out BK151.out (by decide))); have n2_ := A_ (blk_grown (g := gb152) (o := .cells #[.int .i64 0, .slice none 0 0] 24 (0, 0)) (by refine pk_ ?_; refine blk_far ?_ NB152_157.out _; refine pk_ ?_; refine blk_far ?_ NB152_157.out _; refine pk_ ?_; refine blk_far ?_ NB152_157.out _; refine pk_ ?_; refine blk_far ?_ NB152_157.out _; refine pk_ ?_; refine blk_far ?_ NB152_157.out _; refine pk_ ?_; refine blk_far ?_ NB152_157.out _; refine pk_ ?_; refine blk_far ?_ NB152_157.out _; refine pk_ ?_; refine blk_far ?_ NB152_157.out _; exact pk_ BK152.out) hg (Kd.R_ne HO_156001.out BK152.out (by decide))); have n3_ := A_ (blk_grown (g := gb155) (o := .cells #[.int .i64 ji25, u156001] 24 (0, 0)) (by refine pk_ ?_; refine blk_far ?_ NB155_157.out _; refine pk_ ?_; refine blk_far ?_ NB155_157.out _; refine pk_ ?_; refine blk_far ?_ NB155_157.out _; refine pk_ ?_; refine blk_far ?_ NB155_157.out _; refine pk_ ?_; refine blk_far ?_ NB155_157.out _; refine pk_ ?_; refine blk_far ?_ NB155_157.out _; refine pk_ ?_; refine blk_far ?_ NB155_157.out _; refine pk_ ?_; refine blk_far ?_ NB155_157.out _; exact pk_ BK155.out) hg (Kd.R_ne HO_156001.out BK155.out (by decide))); have n4_ := A_ (blk_grown (g := gb157) (o := .cells #[.int .i64 0, .int .i64 0, .int .i64 (l0_1.length : Int), .int .i64 0] 33 (0, 0)) (by refine pk_ ?_; refine blk_put (cs := #[.int .i64 0, .int .i64 0, .int .i64 (l0_1.length : Int), .int .i64 ((rd_T33 l0_1 x34_2).f3)]) ?_ 3 _ rfl; refine pk_ ?_; refine blk_put (cs := #[.int .i64 0, .int .i64 0, .int .i64 ((rd_T33 l0_1 x34_2).f2), .int .i64 ((rd_T33 l0_1 x34_2).f3)]) ?_ 2 _ rfl; refine pk_ ?_; refine blk_put (cs := #[.int .i64 0, .int .i64 ((rd_T33 l0_1 x34_2).f1), .int .i64 ((rd_T33 l0_1 x34_2).f2), .int .i64 ((rd_T33 l0_1 x34_2).f3)]) ?_ 1 _ rfl; refine pk_ ?_; refine blk_put (cs := #[.int .i64 ((rd_T33 l0_1 x34_2).f0), .int .i64 ((rd_T33 l0_1 x34_2).f1), .int .i64 ((rd_T33 l0_1 x34_2).f2), .int .i64 ((rd_T33 l0_1 x34_2).f3)]) ?_ 0 _ rfl; refine pk_ ?_; refine blk_put (cs := #[.int .i64 ((rd_T33 l0_1 x34_2).f0), .int .i64 ((rd_T33 l0_1 x34_2).f1), .int .i64 ((rd_T33 l0_1 x34_2).f2), .int .i64 0]) ?_ 3 _ rfl; refine pk_ ?_; refine blk_put (cs := #[.int .i64 ((rd_T33 l0_1 x34_2).f0), .int .i64 ((rd_T33 l0_1 x34_2).f1), .int .i64 0, .int .i64 0]) ?_ 2 _ rfl; refine pk_ ?_; refine blk_put (cs := #[.int .i64 ((rd_T33 l0_1 x34_2).f0), .int .i64 0, .int .i64 0, .int .i64 0]) ?_ 1 _ rfl; refine pk_ ?_; refine blk_put (cs := #[.int .i64 0, .int .i64 0, .int .i64 0, .int .i64 0]) ?_ 0 _ rfl; exact pk_ BK157.out) hg (Kd.R_away HO_156001.out (fun _ hk => hk.2))); have n5_ := A_ (hb); have n6_ := A_ (ho); clear BK150 BK151 BK152 BK155 BK157 HB HO_156001; have BK150 := n0_; have BK151 := n1_; have BK152 := n2_; have BK155 := n3_; have BK157 := n4_; have HB := n5_; have HO160 := n6_; clear n0_ n1_ n2_ n3_ n4_ n5_ n6_ ho hb hg hat; obtain ⟨Ao53, co53, eo53⟩ := Kd.R_slice HO160.out; subst eo53; have hcz54_0 : w52.cell? ⟨gb155, 0, none⟩ = some (.int .i64 ji25) := (blk_cell BK155.out 0).trans rfl; have hcz54_1 : w52.cell? ⟨gb155, 1, none⟩ = some (u156001) := (blk_cell BK155.out 1).trans rfl; have hfz54_0 := blk_frozen BK155.out 0; have hfz54_1 := blk_frozen BK155.out 1))
           go_roundg k2
           case measure => have := HJ2.out; have := HK2.out; omega
           case rel => exact ⟨(true), (wrap64 (x34_2 + 1)), (y158), (.slice Ao53 y158.length co53), jr_, jr_, H', ⟨by have := HJ2.out; have := HK2.out; omega⟩, ⟨by (with_reducible repeat (first | apply Kd.R_alloc | apply Kd.R_drewN | apply Kd.R_drew)); exact Kd.R_mono (Kd.R_far (p := ⟨gb155, 1, none⟩) (Kd.R_types HO160.out BK155.out (by decide)) (fun _ hk => hk.2) (.slice Ao53 y158.length co53)) (fun _ hk => trivial)⟩, ⟨by refine pk_ ?_; refine blk_far ?_ NB150_155.out _; exact pk_ BK150.out⟩, ⟨by refine pk_ ?_; refine blk_far ?_ NB151_155.out _; exact pk_ BK151.out⟩, ⟨by refine pk_ ?_; refine blk_far ?_ NB152_155.out _; exact pk_ BK152.out⟩, ⟨by refine pk_ ?_; refine blk_put (cs := #[.int .i64 ji25, u156001]) ?_ 1 _ rfl; exact pk_ BK155.out⟩, ⟨bk_ HB.out⟩⟩
          ·rw [if_neg c41] at H
           exact absurd H (by simp)
         ·rw [if_neg c40] at H
          have c40b0 : (((rd_T33 l0_1 x34_2).f0) == 2) = false := beq_eq_false_iff_ne.mpr c40
          have c40b1 : (((rd_T33 l0_1 x34_2).f0) != 2) = true := bne_iff_ne.mpr c40
          by_cases c55 : x156001_2.length < 4398046511104
          ·rw [if_pos c55] at H
           have LMc55 := Aside0.mk c55
           clear c55
           obtain ⟨y161, hy161⟩ : ∃ y_ : List (S33), y_ = (x156001_2 ++ [(⟨(rd_T33 l0_1 x34_2).f0, (rd_T33 l0_1 x34_2).f1, (rd_T33 l0_1 x34_2).f2, (rd_T33 l0_1 x34_2).f3⟩ : S33)]) := ⟨_, rfl⟩
           replace H : (counter_Join.l0 k2 (l0_1.length : Int) x7_2 l0_1 (l0_1.length : Int) (wrap64 (x34_2 + 1)) a1_0 l1_1 ji25 y161) = some (r1, r2, r3) := by first | (rw [hy161]; with_reducible exact H) | (have H2_ := (Option.bind_some _ _).symm.trans H; rw [hy161]; with_reducible exact H2_) | (have H2_ := (Option.bind_some _ _).symm.trans H; with_reducible exact H2_) | with_reducible exact H | (rw [hy161]; exact H) | exact H
           have Ny161 := Aside0.mk hy161
           clear hy161
           have H' := Aside0.mk H
           clear H
           have p156 : 0 ≤ (x34_2 : Int) := od_
           have q156 : x34_2 < (l0_1.length : Int) := od_
           obtain ⟨ad156, e156, hx156_0, hx156_1, hx156_2, hx156_3⟩ := at_T33 HR0_1.out x34_2 p156 q156
           cases e156
           replace hx156_0 := lf_ HB.out hx156_0
           replace hx156_1 := lf_ HB.out hx156_1
           replace hx156_2 := lf_ HB.out hx156_2
           replace hx156_3 := lf_ HB.out hx156_3
           replace p156 := eq_true p156
           replace q156 := eq_true q156
           go_wp2_with (first | ((with_reducible refine gate_dst (N := 10) rfl ?_); refine box_event ?hg (N := 10) ?hd (cs := #[.int .i64 0, .int .i64 0, .int .i64 0, .int .i64 0]) (t := 33) ?hr ?_; (case hd => rfl); (case hg => rfl); (case hr => first | (go_simp; done) | (go_simp; rfl)); intro gb157 hg w56 hbox hb; have n0_ := A_ (Kd.R_below (Kd.R_elderB (rk_ HO_156001.out) gb157 (Nat.le_of_eq hg.symm)) hb); have n1_ := A_ (blk_below (pk_ BK150.out) hb); have n2_ := A_ (blk_below (pk_ BK151.out) hb); have n3_ := A_ (blk_below (pk_ BK152.out) hb); have n4_ := A_ (blk_below (pk_ BK155.out) hb); have n5_ := A_ (below_step (bk_ HB.out) hb); have n6_ := A_ (hbox); have n7_ := A_ ((by rw [hg]; exact (below_size (bk_ HB.out)) : w.heap.size ≤ gb157)); have n8_ := A_ ((by rw [hg]; exact (below_size (bk_ HB.out)) : w.heap.size ≤ gb157)); have n9_ := A_ ((by rw [hg]; exact Nat.ne_of_lt (blk_lt (pk_ BK150.out)) : gb150 ≠ gb157)); have n10_ := A_ ((by rw [hg]; exact Nat.ne_of_gt (blk_lt (pk_ BK150.out)) : gb157 ≠ gb150)); have n11_ := A_ ((by rw [hg]; exact Nat.ne_of_lt (blk_lt (pk_ BK151.out)) : gb151 ≠ gb157)); have n12_ := A_ ((by rw [hg]; exact Nat.ne_of_gt (blk_lt (pk_ BK151.out)) : gb157 ≠ gb151)); have n13_ := A_ ((by rw [hg]; exact Nat.ne_of_lt (blk_lt (pk_ BK152.out)) : gb152 ≠ gb157)); have n14_ := A_ ((by rw [hg]; exact Nat.ne_of_gt (blk_lt (pk_ BK152.out)) : gb157 ≠ gb152)); have n15_ := A_ ((by rw [hg]; exact Nat.ne_of_lt (blk_lt (pk_ BK155.out)) : gb155 ≠ gb157)); have n16_ := A_ ((by rw [hg]; exact Nat.ne_of_gt (blk_lt (pk_ BK155.out)) : gb157 ≠ gb155)); clear HO_156001 BK150 BK151 BK152 BK155 HB; have HO_156001 := n0_; have BK150 := n1_; have BK151 := n2_; have BK152 := n3_; have BK155 := n4_; have HB := n5_; have BK157 := n6_; have GW157 := n7_; have GE157 := n8_; have NB150_157 := n9_; have NB157_150 := n10_; have NB151_157 := n11_; have NB157_151 := n12_; have NB152_157 := n13_; have NB157_152 := n14_; have NB155_157 := n15_; have NB157_155 := n16_; clear n0_ n1_ n2_ n3_ n4_ n5_ n6_ n7_ n8_ n9_ n10_ n11_ n12_ n13_ n14_ n15_ n16_ hb hbox hg; have hnb57 := NB157_150.out; have hnc57 := NB150_157.out; have hnb58 := NB157_151.out; have hnc58 := NB151_157.out; have hnb59 := NB157_152.out; have hnc59 := NB152_157.out; have hnb60 := NB157_155.out; have hnc60 := NB155_157.out; have hcz61_0 : w56.cell? ⟨gb157, 0, none⟩ = some (.int .i64 0) := (blk_cell BK157.out 0).trans rfl; have hcz61_1 : w56.cell? ⟨gb157, 1, none⟩ = some (.int .i64 0) := (blk_cell BK157.out 1).trans rfl; have hcz61_2 : w56.cell? ⟨gb157, 2, none⟩ = some (.int .i64 0) := (blk_cell BK157.out 2).trans rfl; have hcz61_3 : w56.cell? ⟨gb157, 3, none⟩ = some (.int .i64 0) := (blk_cell BK157.out 3).trans rfl; have hfz61_0 := blk_frozen BK157.out 0; have hfz61_1 := blk_frozen BK157.out 1; have hfz61_2 := blk_frozen BK157.out 2; have hfz61_3 := blk_frozen BK157.out 3; have hnb62 := NB155_150.out; have hnc62 := NB150_155.out; have hnb63 := NB155_151.out; have hnc63 := NB151_155.out; have hnb64 := NB155_152.out; have hnc64 := NB152_155.out; have hcz65_0 : w56.cell? ⟨gb155, 0, none⟩ = some (.int .i64 ji25) := (blk_cell BK155.out 0).trans rfl; have hcz65_1 : w56.cell? ⟨gb155, 1, none⟩ = some (u156001) := (blk_cell BK155.out 1).trans rfl; have hfz65_0 := blk_frozen BK155.out 0; have hfz65_1 := blk_frozen BK155.out 1) | ((with_reducible refine gate_builtin (b := .append) (xs := #[.tmp 44, .tmp 46]) rfl ?_); at_builtin; refine Kd.R_append k33 (w0 := w) w.heap.size rfl (.tmp 44) (.tmp 46) 22 33 (.agg #[(.int .i64 0), (.int .i64 0), (.int .i64 0), (.int .i64 0)]) 32 rfl Try.underlying22 info33 rfl (by decide) (by omega) u156001 x156001_2 (⟨(rd_T33 l0_1 x34_2).f0, (rd_T33 l0_1 x34_2).f1, (rd_T33 l0_1 x34_2).f2, (rd_T33 l0_1 x34_2).f3⟩ : S33) [.int .i64 ((rd_T33 l0_1 x34_2).f0), .int .i64 ((rd_T33 l0_1 x34_2).f1), .int .i64 ((rd_T33 l0_1 x34_2).f2), .int .i64 ((rd_T33 l0_1 x34_2).f3)] (fun k_ => k_ ≠ gb157) (fun _ => False) rfl (by first | (go_simp; done) | (go_simp; rfl)) ?aP (fun _ hk => hk.elim) ?aF ?aO ?aB ?aS ?aL ?_; (case aP => exact k33_mkM _ _ _ (⟨(rd_T33 l0_1 x34_2).f0, (rd_T33 l0_1 x34_2).f1, (rd_T33 l0_1 x34_2).f2, (rd_T33 l0_1 x34_2).f3⟩ : S33)); (case aB => exact (bk_ HB.out)); (case aF => exact (fun k_ hk => Kd.freshB (g := gb157) (o := .cells #[.int .i64 ((rd_T33 l0_1 x34_2).f0), .int .i64 ((rd_T33 l0_1 x34_2).f1), .int .i64 ((rd_T33 l0_1 x34_2).f2), .int .i64 ((rd_T33 l0_1 x34_2).f3)] 33 (0, 0)) (by refine pk_ ?_; refine blk_put (cs := #[.int .i64 ((rd_T33 l0_1 x34_2).f0), .int .i64 ((rd_T33 l0_1 x34_2).f1), .int .i64 ((rd_T33 l0_1 x34_2).f2), .int .i64 0]) ?_ 3 _ rfl; refine pk_ ?_; refine blk_put (cs := #[.int .i64 ((rd_T33 l0_1 x34_2).f0), .int .i64 ((rd_T33 l0_1 x34_2).f1), .int .i64 0, .int .i64 0]) ?_ 2 _ rfl; refine pk_ ?_; refine blk_put (cs := #[.int .i64 ((rd_T33 l0_1 x34_2).f0), .int .i64 0, .int .i64 0, .int .i64 0]) ?_ 1 _ rfl; refine pk_ ?_; refine blk_put (cs := #[.int .i64 0, .int .i64 0, .int .i64 0, .int .i64 0]) ?_ 0 _ rfl; exact pk_ BK157.out) k_ hk)); (case aO => exact (by (with_reducible repeat (first | apply Kd.R_alloc | apply Kd.R_drewN | apply Kd.R_drew)); exact Kd.R_mono (Kd.R_far (p := ⟨gb157, 3, none⟩) (Kd.R_far (p := ⟨gb157, 2, none⟩) (Kd.R_far (p := ⟨gb157, 1, none⟩) (Kd.R_far (p := ⟨gb157, 0, none⟩) (Kd.R_mono HO_156001.out (fun k_ hk => (⟨hk, hk.2⟩ : _ ∧ k_ ≠ gb157))) (fun _ hk => hk.2) (.int .i64 ((rd_T33 l0_1 x34_2).f0))) (fun _ hk => hk.2) (.int .i64 ((rd_T33 l0_1 x34_2).f1))) (fun _ hk => hk.2) (.int .i64 ((rd_T33 l0_1 x34_2).f2))) (fun _ hk => hk.2) (.int .i64 ((rd_T33 l0_1 x34_2).f3))) (fun _ hk => hk.1.2))); (case aS => exact (below_size (bk_ HB.out))); (case aL => have := LMc55.out; omega); intro v162 w66 ho hb hg hat; rw [← Ny161.out] at ho; have n0_ := A_ (blk_grown (g := gb150) (o := .cells #[.int .i64 a0_0, .slice (some ad156) l0_1.length c0_1] 24 (0, 0)) (by refine pk_ ?_; refine blk_far ?_ NB150_157.out _; refine pk_ ?_; refine blk_far ?_ NB150_157.out _; refine pk_ ?_; refine blk_far ?_ NB150_157.out _; refine pk_ ?_; refine blk_far ?_ NB150_157.out _; exact pk_ BK150.out) hg (Kd.R_ne HO_156001.out BK150.out (by decide))); have n1_ := A_ (blk_grown (g := gb151) (o := .cells #[.int .i64 a1_0, .slice A1_1 l1_1.length c1_1] 24 (0, 0)) (by refine pk_ ?_; refine blk_far ?_ NB151_157.out _; refine pk_ ?_; refine blk_far ?_ NB151_157.out _; refine pk_ ?_; refine blk_far ?_ NB151_157.out _; refine pk_ ?_; refine blk_far ?_ NB151_157.out _; exact pk_ BK151.out) hg (Kd.R_ne HO_156001.out BK151.out (by decide))); have n2_ := A_ (blk_grown (g := gb152) (o := .cells #[.int .i64 0, .slice none 0 0] 24 (0, 0)) (by refine pk_ ?_; refine blk_far ?_ NB152_157.out _; refine pk_ ?_; refine blk_far ?_ NB152_157.out _; refine pk_ ?_; refine blk_far ?_ NB152_157.out _; refine pk_ ?_; refine blk_far ?_ NB152_157.out _; exact pk_ BK152.out) hg (Kd.R_ne HO_156001.out BK152.out (by decide))); have n3_ := A_ (blk_grown (g := gb155) (o := .cells #[.int .i64 ji25, u156001] 24 (0, 0)) (by refine pk_ ?_; refine blk_far ?_ NB155_157.out _; refine pk_ ?_; refine blk_far ?_ NB155_157.out _; refine pk_ ?_; refine blk_far ?_ NB155_157.out _; refine pk_ ?_; refine blk_far ?_ NB155_157.out _; exact pk_ BK155.out) hg (Kd.R_ne HO_156001.out BK155.out (by decide))); have n4_ := A_ (blk_grown (g := gb157) (o := .cells #[.int .i64 ((rd_T33 l0_1 x34_2).f0), .int .i64 ((rd_T33 l0_1 x34_2).f1), .int .i64 ((rd_T33 l0_1 x34_2).f2), .int .i64 ((rd_T33 l0_1 x34_2).f3)] 33 (0, 0)) (by refine pk_ ?_; refine blk_put (cs := #[.int .i64 ((rd_T33 l0_1 x34_2).f0), .int .i64 ((rd_T33 l0_1 x34_2).f1), .int .i64 ((rd_T33 l0_1 x34_2).f2), .int .i64 0]) ?_ 3 _ rfl; refine pk_ ?_; refine blk_put (cs := #[.int .i64 ((rd_T33 l0_1 x34_2).f0), .int .i64 ((rd_T33 l0_1 x34_2).f1), .int .i64 0, .int .i64 0]) ?_ 2 _ rfl; refine pk_ ?_; refine blk_put (cs := #[.int .i64 ((rd_T33 l0_1 x34_2).f0), .int .i64 0, .int .i64 0, .int .i64 0]) ?_ 1 _ rfl; refine pk_ ?_; refine blk_put (cs := #[.int .i64 0, .int .i64 0, .int .i64 0, .int .i64 0]) ?_ 0 _ rfl; exact pk_ BK157.out) hg (Kd.R_away HO_156001.out (fun _ hk => hk.2))); have n5_ := A_ (hb); have n6_ := A_ (ho); clear BK150 BK151 BK152 BK155 BK157 HB HO_156001; have BK150 := n0_; have BK151 := n1_; have BK152 := n2_; have BK155 := n3_; have BK157 := n4_; have HB := n5_; have HO163 := n6_; clear n0_ n1_ n2_ n3_ n4_ n5_ n6_ ho hb hg hat; obtain ⟨Ao67, co67, eo67⟩ := Kd.R_slice HO163.out; subst eo67; have hcz68_0 : w66.cell? ⟨gb155, 0, none⟩ = some (.int .i64 ji25) := (blk_cell BK155.out 0).trans rfl; have hcz68_1 : w66.cell? ⟨gb155, 1, none⟩ = some (u156001) := (blk_cell BK155.out 1).trans rfl; have hfz68_0 := blk_frozen BK155.out 0; have hfz68_1 := blk_frozen BK155.out 1))
           go_roundg k2
           case measure => have := HJ2.out; have := HK2.out; omega
           case rel => exact ⟨(x7_2), (wrap64 (x34_2 + 1)), (y161), (.slice Ao67 y161.length co67), jr_, jr_, H', ⟨by have := HJ2.out; have := HK2.out; omega⟩, ⟨by (with_reducible repeat (first | apply Kd.R_alloc | apply Kd.R_drewN | apply Kd.R_drew)); exact Kd.R_mono (Kd.R_far (p := ⟨gb155, 1, none⟩) (Kd.R_types HO163.out BK155.out (by decide)) (fun _ hk => hk.2) (.slice Ao67 y161.length co67)) (fun _ hk => trivial)⟩, ⟨by refine pk_ ?_; refine blk_far ?_ NB150_155.out _; exact pk_ BK150.out⟩, ⟨by refine pk_ ?_; refine blk_far ?_ NB151_155.out _; exact pk_ BK151.out⟩, ⟨by refine pk_ ?_; refine blk_far ?_ NB152_155.out _; exact pk_ BK152.out⟩, ⟨by refine pk_ ?_; refine blk_put (cs := #[.int .i64 ji25, u156001]) ?_ 1 _ rfl; exact pk_ BK155.out⟩, ⟨bk_ HB.out⟩⟩
          ·rw [if_neg c55] at H
           exact absurd H (by simp)
        ·rw [if_neg c39] at H
         exact absurd H (by simp)
       ·rw [if_neg c38] at H
        exact absurd H (by simp)
      ·rw [if_neg c37] at H
       have c37b0 : decide (x34_2 < (l0_1.length : Int)) = false := decide_eq_false c37
       clear c37
       have HC69 := Aside0.mk H
       clear H
       go_upto_if 50 with (fail)
       go_cut [6] (fun v6 wc => ∃ (kq : Nat) (x6_68 : Int) (x156001_68 : List (S33)) (u156001 : Value), v6 = .int .i64 x6_68 ∧ Aside0 (counter_Join.j2 kq x6_68 a1_0 l1_1 ji25 x156001_68 = some (r1, r2, r3)) ∧ Aside0 (kq ≤ k2) ∧ Aside0 (Kd.R k33 33 wc w.heap.size (fun _ => True) u156001 x156001_68) ∧ Aside0 (wc.heap[gb150]? = some (.cells #[.int .i64 a0_0, (.slice A0_1 l0_1.length c0_1)] 24 (0, 0))) ∧ Aside0 (wc.heap[gb151]? = some (.cells #[.int .i64 a1_0, (.slice A1_1 l1_1.length c1_1)] 24 (0, 0))) ∧ Aside0 (wc.heap[gb152]? = some (.cells #[.int .i64 0, (.slice none 0 0)] 24 (0, 0))) ∧ Aside0 (wc.heap[gb155]? = some (.cells #[.int .i64 ji25, u156001] 24 (0, 0))) ∧ Aside0 (Below w.heap.size w wc))
       case first =>
        have H := HC69.out
        clear HC69
        by_cases c70 : x7_2 = true
        ·subst c70
         have H1 : (if x156001_2.length < 4398046511104 then (counter_Join.j2 k2 (wrap64 ((l0_1.length : Int) + 1)) a1_0 l1_1 ji25 (x156001_2 ++ [(⟨1, 0, wrap64 ((l0_1.length : Int) + 1), wrap64 ((l0_1.length : Int) + 1)⟩ : S33)])) else (none)) = some (r1, r2, r3) := by rw [if_pos rfl] at H; exact H
         clear H
         have H := H1
         clear H1
         by_cases c71 : x156001_2.length < 4398046511104
         ·rw [if_pos c71] at H
          have LMc71 := Aside0.mk c71
          clear c71
          obtain ⟨y164, hy164⟩ : ∃ y_ : List (S33), y_ = (x156001_2 ++ [(⟨1, 0, wrap64 ((l0_1.length : Int) + 1), wrap64 ((l0_1.length : Int) + 1)⟩ : S33)]) := ⟨_, rfl⟩
          replace H : (counter_Join.j2 k2 (wrap64 ((l0_1.length : Int) + 1)) a1_0 l1_1 ji25 y164) = some (r1, r2, r3) := by first | (rw [hy164]; with_reducible exact H) | (have H2_ := (Option.bind_some _ _).symm.trans H; rw [hy164]; with_reducible exact H2_) | (have H2_ := (Option.bind_some _ _).symm.trans H; with_reducible exact H2_) | with_reducible exact H | (rw [hy164]; exact H) | exact H
          have Ny164 := Aside0.mk hy164
          clear hy164
          have H' := Aside0.mk H
          clear H
          have hnb72 := NB155_150.out
          have hnc72 := NB150_155.out
          have hnb73 := NB155_151.out
          have hnc73 := NB151_155.out
          have hnb74 := NB155_152.out
          have hnc74 := NB152_155.out
          have hcz75_0 : wr.cell? ⟨gb155, 0, none⟩ = some (.int .i64 ji25) := (blk_cell BK155.out 0).trans rfl
          have hcz75_1 : wr.cell? ⟨gb155, 1, none⟩ = some (u156001) := (blk_cell BK155.out 1).trans rfl
          have hfz75_0 := blk_frozen BK155.out 0
          have hfz75_1 := blk_frozen BK155.out 1
          go_wp2_with (first | ((with_reducible refine gate_builtin (b := .append) (xs := #[.tmp 54, .tmp 58]) rfl ?_); at_builtin; refine Kd.R_append k33 (w0 := w) w.heap.size rfl (.tmp 54) (.tmp 58) 22 33 (.agg #[(.int .i64 0), (.int .i64 0), (.int .i64 0), (.int .i64 0)]) 32 rfl Try.underlying22 info33 rfl (by decide) (by omega) u156001 x156001_2 (⟨1, 0, wrap64 ((l0_1.length : Int) + 1), wrap64 ((l0_1.length : Int) + 1)⟩ : S33) [.int .i64 1, .int .i64 0, .int .i64 (wrap64 ((l0_1.length : Int) + 1)), .int .i64 (wrap64 ((l0_1.length : Int) + 1))] (fun _ => True) (fun _ => False) rfl rfl ?aP (fun _ hk => hk.elim) ?aF ?aO ?aB ?aS ?aL ?_; (case aP => exact k33_mkM _ _ _ (⟨1, 0, wrap64 ((l0_1.length : Int) + 1), wrap64 ((l0_1.length : Int) + 1)⟩ : S33)); (case aB => exact (bk_ HB.out)); (case aF => exact (fun _ _ => trivial)); (case aO => exact (rk_ HO_156001.out)); (case aS => exact (below_size (bk_ HB.out))); (case aL => have := LMc71.out; omega); intro v165 w76 ho hb hg hat; rw [← Ny164.out] at ho; have n0_ := A_ (blk_grown (pk_ BK150.out) hg (Kd.R_ne HO_156001.out BK150.out (by decide))); have n1_ := A_ (blk_grown (pk_ BK151.out) hg (Kd.R_ne HO_156001.out BK151.out (by decide))); have n2_ := A_ (blk_grown (pk_ BK152.out) hg (Kd.R_ne HO_156001.out BK152.out (by decide))); have n3_ := A_ (blk_grown (pk_ BK155.out) hg (Kd.R_ne HO_156001.out BK155.out (by decide))); have n4_ := A_ (hb); have n5_ := A_ (ho); clear BK150 BK151 BK152 BK155 HB HO_156001; have BK150 := n0_; have BK151 := n1_; have BK152 := n2_; have BK155 := n3_; have HB := n4_; have HO166 := n5_; clear n0_ n1_ n2_ n3_ n4_ n5_ ho hb hg hat; obtain ⟨Ao77, co77, eo77⟩ := Kd.R_slice HO166.out; subst eo77; have hcz78_0 : w76.cell? ⟨gb155, 0, none⟩ = some (.int .i64 ji25) := (blk_cell BK155.out 0).trans rfl; have hcz78_1 : w76.cell? ⟨gb155, 1, none⟩ = some (u156001) := (blk_cell BK155.out 1).trans rfl; have hfz78_0 := blk_frozen BK155.out 0; have hfz78_1 := blk_frozen BK155.out 1))
          go_meet
          case rel => exact ⟨_, (wrap64 ((l0_1.length : Int) + 1)), (y164), (.slice Ao77 y164.length co77), jr_, H', ⟨by have := HJ2.out; have := HK2.out; first | omega | exact Nat.le_refl _⟩, ⟨by (with_reducible repeat (first | apply Kd.R_alloc | apply Kd.R_drewN | apply Kd.R_drew)); exact Kd.R_mono (Kd.R_far (p := ⟨gb155, 1, none⟩) (Kd.R_types HO166.out BK155.out (by decide)) (fun _ hk => hk.2) (.slice Ao77 y164.length co77)) (fun _ hk => trivial)⟩, ⟨by refine pk_ ?_; refine blk_far ?_ NB150_155.out _; exact pk_ BK150.out⟩, ⟨by refine pk_ ?_; refine blk_far ?_ NB151_155.out _; exact pk_ BK151.out⟩, ⟨by refine pk_ ?_; refine blk_far ?_ NB152_155.out _; exact pk_ BK152.out⟩, ⟨by refine pk_ ?_; refine blk_put (cs := #[.int .i64 ji25, u156001]) ?_ 1 _ rfl; exact pk_ BK155.out⟩, ⟨bk_ HB.out⟩⟩
         ·rw [if_neg c71] at H
          exact absurd H (by simp)
        ·replace c70 := Bool.eq_false_iff.mpr c70
         subst c70
         have H1 : (counter_Join.j2 k2 (l0_1.length : Int) a1_0 l1_1 ji25 x156001_2) = some (r1, r2, r3) := by rw [if_neg (show ¬ (false = true) by decide)] at H; exact H
         clear H
         have H := H1
         clear H1
         have H' := Aside0.mk H
         clear H
         go_wp2
         go_meet
         case rel => exact ⟨_, ((l0_1.length : Int)), (x156001_2), (u156001), jr_, H', ⟨by have := HJ2.out; have := HK2.out; first | omega | exact Nat.le_refl _⟩, ⟨rk_ HO_156001.out⟩, ⟨pk_ BK150.out⟩, ⟨pk_ BK151.out⟩, ⟨pk_ BK152.out⟩, ⟨pk_ BK155.out⟩, ⟨bk_ HB.out⟩⟩
       case rest =>
        clear HC69
        (try clear c21); (try clear c37); (try clear c37b0); (try clear hcz28_0); (try clear hcz28_1); (try clear hcz30_0); (try clear hcz30_1); (try clear hcz35_0); (try clear hcz35_1); (try clear hcz36_0); (try clear hcz36_1); (try clear hfz28_0); (try clear hfz28_1); (try clear hfz30_0); (try clear hfz30_1); (try clear hfz35_0); (try clear hfz35_1); (try clear hfz36_0); (try clear hfz36_1)
        obtain ⟨kq, x6_68, x156001_68, u156001, rfl, HA, HJ68, HO_156001, BK150, BK151, BK152, BK155, HB⟩ := hcut
        cases kq with
        | zero => exact absurd HA.out (by simp [counter_Join.j2])
        | succ kj68 =>
         have H := HA.out
         clear HA
         simp only [counter_Join.j2] at H
         have H' := Aside0.mk H
         clear H
         have hnb79 := NB151_150.out
         have hnc79 := NB150_151.out
         have hnb80 := NB151_152.out
         have hnc80 := NB152_151.out
         have hnb81 := NB151_155.out
         have hnc81 := NB155_151.out
         have hcz82_0 : wc.cell? ⟨gb151, 0, none⟩ = some (.int .i64 a1_0) := (blk_cell BK151.out 0).trans rfl
         have hcz82_1 : wc.cell? ⟨gb151, 1, none⟩ = some (.slice A1_1 l1_1.length c1_1) := (blk_cell BK151.out 1).trans rfl
         have hfz82_0 := blk_frozen BK151.out 0
         have hfz82_1 := blk_frozen BK151.out 1
         go_wp2
         go_loopg [64] kj68 (fun kq v64 w' => ∃ (x64_4 : Int) (x156001_4 : List (S33)) (u156001 : Value), v64 = .int .i64 x64_4 ∧ Aside0 (counter_Join.l1 kq x6_68 l1_1 (l1_1.length : Int) x64_4 ji25 x156001_4 = some (r1, r2, r3)) ∧ Aside0 (kq ≤ kj68) ∧ Aside0 (Kd.R k33 33 w' w.heap.size (fun _ => True) u156001 x156001_4) ∧ Aside0 (w'.heap[gb150]? = some (.cells #[.int .i64 a0_0, (.slice A0_1 l0_1.length c0_1)] 24 (0, 0))) ∧ Aside0 (w'.heap[gb151]? = some (.cells #[.int .i64 a1_0, (.slice A1_1 l1_1.length c1_1)] 24 (0, 0))) ∧ Aside0 (w'.heap[gb152]? = some (.cells #[.int .i64 0, (.slice none 0 0)] 24 (0, 0))) ∧ Aside0 (w'.heap[gb155]? = some (.cells #[.int .i64 ji25, u156001] 24 (0, 0))) ∧ Aside0 (Below w.heap.size w w'))
         case atStart => exact ⟨(0), (x156001_68), (u156001), jr_, H', ⟨Nat.le_refl _⟩, ⟨rk_ HO_156001.out⟩, ⟨pk_ BK150.out⟩, ⟨pk_ BK151.out⟩, ⟨pk_ BK152.out⟩, ⟨pk_ BK155.out⟩, ⟨bk_ HB.out⟩⟩
         case round =>
          clear H'
          (try clear c21); (try clear c37); (try clear c37b0); (try clear hcz28_0); (try clear hcz28_1); (try clear hcz30_0); (try clear hcz30_1); (try clear hcz35_0); (try clear hcz35_1); (try clear hcz36_0); (try clear hcz36_1); (try clear hcz82_0); (try clear hcz82_1); (try clear hfz28_0); (try clear hfz28_1); (try clear hfz30_0); (try clear hfz30_1); (try clear hfz35_0); (try clear hfz35_1); (try clear hfz36_0); (try clear hfz36_1); (try clear hfz82_0); (try clear hfz82_1)
          obtain ⟨x64_4, x156001_4, u156001, rfl, HA, HK4, HO_156001, BK150, BK151, BK152, BK155, HB⟩ := hrel
          cases gk with
          | zero => exact absurd HA.out (by simp [counter_Join.l1])
          | succ k4 =>
           have H := HA.out
           clear HA
           simp only [counter_Join.l1] at H
           by_cases c83 : x64_4 < (l1_1.length : Int)
           ·rw [if_pos c83] at H
            have c83b0 : decide (x64_4 < (l1_1.length : Int)) = true := decide_eq_true c83
            clear c83
            by_cases c84 : 0 ≤ x64_4
            ·rw [if_pos c84] at H
             have c84b0 : decide (0 ≤ x64_4) = true := decide_eq_true c84
             clear c84
             by_cases c85 : x64_4 < (l1_1.length : Int)
             ·rw [if_pos c85] at H
              have c85b0 : decide (x64_4 < (l1_1.length : Int)) = true := decide_eq_true c85
              clear c85
              by_cases c86 : ((rd_T33 l1_1 x64_4).f0) = 2
              ·rw [if_pos c86] at H
               have c86b0 : (((rd_T33 l1_1 x64_4).f0) == 2) = true := beq_iff_eq.mpr c86
               have c86b1 : (((rd_T33 l1_1 x64_4).f0) != 2) = false := bne_eq_false_iff_eq.mpr c86
               clear c86
               by_cases c87 : ((rd_T33 l1_1 x64_4).f0) = 1
               ·rw [if_pos c87] at H
                have c87b0 : (((rd_T33 l1_1 x64_4).f0) == 1) = true := beq_iff_eq.mpr c87
                have c87b1 : (((rd_T33 l1_1 x64_4).f0) != 1) = false := bne_eq_false_iff_eq.mpr c87
                clear c87
                by_cases c88 : x156001_4.length < 4398046511104
                ·rw [if_pos c88] at H
                 have LMc88 := Aside0.mk c88
                 clear c88
                 obtain ⟨y169, hy169⟩ : ∃ y_ : List (S33), y_ = (x156001_4 ++ [(⟨(rd_T33 l1_1 x64_4).f0, (rd_T33 l1_1 x64_4).f1, (rd_T33 l1_1 x64_4).f2, wrap64 (((rd_T33 l1_1 x64_4).f3) + x6_68)⟩ : S33)]) := ⟨_, rfl⟩
                 replace H : (counter_Join.l1 k4 x6_68 l1_1 (l1_1.length : Int) (wrap64 (x64_4 + 1)) ji25 y169) = some (r1, r2, r3) := by first | (rw [hy169]; with_reducible exact H) | (have H2_ := (Option.bind_some _ _).symm.trans H; rw [hy169]; with_reducible exact H2_) | (have H2_ := (Option.bind_some _ _).symm.trans H; with_reducible exact H2_) | with_reducible exact H | (rw [hy169]; exact H) | exact H
                 have Ny169 := Aside0.mk hy169
                 clear hy169
                 have H' := Aside0.mk H
                 clear H
                 have p167 : 0 ≤ (x64_4 : Int) := od_
                 have q167 : x64_4 < (l1_1.length : Int) := od_
                 obtain ⟨ad167, e167, hx167_0, hx167_1, hx167_2, hx167_3⟩ := at_T33 HR1_1.out x64_4 p167 q167
                 cases e167
                 replace hx167_0 := lf_ HB.out hx167_0
                 replace hx167_1 := lf_ HB.out hx167_1
                 replace hx167_2 := lf_ HB.out hx167_2
                 replace hx167_3 := lf_ HB.out hx167_3
                 replace p167 := eq_true p167
                 replace q167 := eq_true q167
                 go_wp2_with (first | ((with_reducible refine gate_dst (N := 12) rfl ?_); refine box_event ?hg (N := 12) ?hd (cs := #[.int .i64 0, .int .i64 0, .int .i64 0, .int .i64 0]) (t := 33) ?hr ?_; (case hd => rfl); (case hg => rfl); (case hr => first | (go_simp; done) | (go_simp; rfl)); intro gb168 hg w89 hbox hb; have n0_ := A_ (Kd.R_below (Kd.R_elderB (rk_ HO_156001.out) gb168 (Nat.le_of_eq hg.symm)) hb); have n1_ := A_ (blk_below (pk_ BK150.out) hb); have n2_ := A_ (blk_below (pk_ BK151.out) hb); have n3_ := A_ (blk_below (pk_ BK152.out) hb); have n4_ := A_ (blk_below (pk_ BK155.out) hb); have n5_ := A_ (below_step (bk_ HB.out) hb); have n6_ := A_ (hbox); have n7_ := A_ ((by rw [hg]; exact (below_size (bk_ HB.out)) : w.heap.size ≤ gb168)); have n8_ := A_ ((by rw [hg]; exact (below_size (bk_ HB.out)) : w.heap.size ≤ gb168)); have n9_ := A_ ((by rw [hg]; exact Nat.ne_of_lt (blk_lt (pk_ BK150.out)) : gb150 ≠ gb168)); have n10_ := A_ ((by rw [hg]; exact Nat.ne_of_gt (blk_lt (pk_ BK150.out)) : gb168 ≠ gb150)); have n11_ := A_ ((by rw [hg]; exact Nat.ne_of_lt (blk_lt (pk_ BK151.out)) : gb151 ≠ gb168)); have n12_ := A_ ((by rw [hg]; exact Nat.ne_of_gt (blk_lt (pk_ BK151.out)) : gb168 ≠ gb151)); have n13_ := A_ ((by rw [hg]; exact Nat.ne_of_lt (blk_lt (pk_ BK152.out)) : gb152 ≠ gb168)); have n14_ := A_ ((by rw [hg]; exact Nat.ne_of_gt (blk_lt (pk_ BK152.out)) : gb168 ≠ gb152)); have n15_ := A_ ((by rw [hg]; exact Nat.ne_of_lt (blk_lt (pk_ BK155.out)) : gb155 ≠ gb168)); have n16_ := A_ ((by rw [hg]; exact Nat.ne_of_gt (blk_lt (pk_ BK155.out)) : gb168 ≠ gb155)); clear HO_156001 BK150 BK151 BK152 BK155 HB; have HO_156001 := n0_; have BK150 := n1_; have BK151 := n2_; have BK152 := n3_; have BK155 := n4_; have HB := n5_; have BK168 := n6_; have GW168 := n7_; have GE168 := n8_; have NB150_168 := n9_; have NB168_150 := n10_; have NB151_168 := n11_; have NB168_151 := n12_; have NB152_168 := n13_; have NB168_152 := n14_; have NB155_168 := n15_; have NB168_155 := n16_; clear n0_ n1_ n2_ n3_ n4_ n5_ n6_ n7_ n8_ n9_ n10_ n11_ n12_ n13_ n14_ n15_ n16_ hb hbox hg; have hnb90 := NB168_150.out; have hnc90 := NB150_168.out; have hnb91 := NB168_151.out; have hnc91 := NB151_168.out; have hnb92 := NB168_152.out; have hnc92 := NB152_168.out; have hnb93 := NB168_155.out; have hnc93 := NB155_168.out; have hcz94_0 : w89.cell? ⟨gb168, 0, none⟩ = some (.int .i64 0) := (blk_cell BK168.out 0).trans rfl; have hcz94_1 : w89.cell? ⟨gb168, 1, none⟩ = some (.int .i64 0) := (blk_cell BK168.out 1).trans rfl; have hcz94_2 : w89.cell? ⟨gb168, 2, none⟩ = some (.int .i64 0) := (blk_cell BK168.out 2).trans rfl; have hcz94_3 : w89.cell? ⟨gb168, 3, none⟩ = some (.int .i64 0) := (blk_cell BK168.out 3).trans rfl; have hfz94_0 := blk_frozen BK168.out 0; have hfz94_1 := blk_frozen BK168.out 1; have hfz94_2 := blk_frozen BK168.out 2; have hfz94_3 := blk_frozen BK168.out 3; have hnb95 := NB155_150.out; have hnc95 := NB150_155.out; have hnb96 := NB155_151.out; have hnc96 := NB151_155.out; have hnb97 := NB155_152.out; have hnc97 := NB152_155.out; have hcz98_0 : w89.cell? ⟨gb155, 0, none⟩ = some (.int .i64 ji25) := (blk_cell BK155.out 0).trans rfl; have hcz98_1 : w89.cell? ⟨gb155, 1, none⟩ = some (u156001) := (blk_cell BK155.out 1).trans rfl; have hfz98_0 := blk_frozen BK155.out 0; have hfz98_1 := blk_frozen BK155.out 1) | ((with_reducible refine gate_builtin (b := .append) (xs := #[.tmp 85, .tmp 87]) rfl ?_); at_builtin; refine Kd.R_append k33 (w0 := w) w.heap.size rfl (.tmp 85) (.tmp 87) 22 33 (.agg #[(.int .i64 0), (.int .i64 0), (.int .i64 0), (.int .i64 0)]) 32 rfl Try.underlying22 info33 rfl (by decide) (by omega) u156001 x156001_4 (⟨(rd_T33 l1_1 x64_4).f0, (rd_T33 l1_1 x64_4).f1, (rd_T33 l1_1 x64_4).f2, wrap64 (((rd_T33 l1_1 x64_4).f3) + x6_68)⟩ : S33) [.int .i64 ((rd_T33 l1_1 x64_4).f0), .int .i64 ((rd_T33 l1_1 x64_4).f1), .int .i64 ((rd_T33 l1_1 x64_4).f2), .int .i64 (wrap64 (((rd_T33 l1_1 x64_4).f3) + x6_68))] (fun k_ => k_ ≠ gb168) (fun _ => False) rfl (by first | (go_simp; done) | (go_simp; rfl)) ?aP (fun _ hk => hk.elim) ?aF ?aO ?aB ?aS ?aL ?_; (case aP => exact k33_mkM _ _ _ (⟨(rd_T33 l1_1 x64_4).f0, (rd_T33 l1_1 x64_4).f1, (rd_T33 l1_1 x64_4).f2, wrap64 (((rd_T33 l1_1 x64_4).f3) + x6_68)⟩ : S33)); (case aB => exact (bk_ HB.out)); (case aF => exact (fun k_ hk => Kd.freshB (g := gb168) (o := .cells #[.int .i64 ((rd_T33 l1_1 x64_4).f0), .int .i64 ((rd_T33 l1_1 x64_4).f1), .int .i64 ((rd_T33 l1_1 x64_4).f2), .int .i64 (wrap64 (((rd_T33 l1_1 x64_4).f3) + x6_68))] 33 (0, 0)) (by refine pk_ ?_; refine blk_put (cs := #[.int .i64 ((rd_T33 l1_1 x64_4).f0), .int .i64 ((rd_T33 l1_1 x64_4).f1), .int .i64 ((rd_T33 l1_1 x64_4).f2), .int .i64 ((rd_T33 l1_1 x64_4).f3)]) ?_ 3 _ rfl; refine pk_ ?_; refine blk_put (cs := #[.int .i64 ((rd_T33 l1_1 x64_4).f0), .int .i64 ((rd_T33 l1_1 x64_4).f1), .int .i64 ((rd_T33 l1_1 x64_4).f2), .int .i64 0]) ?_ 3 _ rfl; refine pk_ ?_; refine blk_put (cs := #[.int .i64 ((rd_T33 l1_1 x64_4).f0), .int .i64 ((rd_T33 l1_1 x64_4).f1), .int .i64 0, .int .i64 0]) ?_ 2 _ rfl; refine pk_ ?_; refine blk_put (cs := #[.int .i64 ((rd_T33 l1_1 x64_4).f0), .int .i64 0, .int .i64 0, .int .i64 0]) ?_ 1 _ rfl; refine pk_ ?_; refine blk_put (cs := #[.int .i64 0, .int .i64 0, .int .i64 0, .int .i64 0]) ?_ 0 _ rfl; exact pk_ BK168.out) k_ hk)); (case aO => exact (by (with_reducible repeat (first | apply Kd.R_alloc | apply Kd.R_drewN | apply Kd.R_drew)); exact Kd.R_mono (Kd.R_far (p := ⟨gb168, 3, none⟩) (Kd.R_far (p := ⟨gb168, 3, none⟩) (Kd.R_far (p := ⟨gb168, 2, none⟩) (Kd.R_far (p := ⟨gb168, 1, none⟩) (Kd.R_far (p := ⟨gb168, 0, none⟩) (Kd.R_mono HO_156001.out (fun k_ hk => (⟨hk, hk.2⟩ : _ ∧ k_ ≠ gb168))) (fun _ hk => hk.2) (.int .i64 ((rd_T33 l1_1 x64_4).f0))) (fun _ hk => hk.2) (.int .i64 ((rd_T33 l1_1 x64_4).f1))) (fun _ hk => hk.2) (.int .i64 ((rd_T33 l1_1 x64_4).f2))) (fun _ hk => hk.2) (.int .i64 ((rd_T33 l1_1 x64_4).f3))) (fun _ hk => hk.2) (.int .i64 (wrap64 (((rd_T33 l1_1 x64_4).f3) + x6_68)))) (fun _ hk => hk.1.2))); (case aS => exact (below_size (bk_ HB.out))); (case aL => have := LMc88.out; omega); intro v170 w99 ho hb hg hat; rw [← Ny169.out] at ho; have n0_ := A_ (blk_grown (g := gb150) (o := .cells #[.int .i64 a0_0, .slice A0_1 l0_1.length c0_1] 24 (0, 0)) (by refine pk_ ?_; refine blk_far ?_ NB150_168.out _; refine pk_ ?_; refine blk_far ?_ NB150_168.out _; refine pk_ ?_; refine blk_far ?_ NB150_168.out _; refine pk_ ?_; refine blk_far ?_ NB150_168.out _; refine pk_ ?_; refine blk_far ?_ NB150_168.out _; exact pk_ BK150.out) hg (Kd.R_ne HO_156001.out BK150.out (by decide))); have n1_ := A_ (blk_grown (g := gb151) (o := .cells #[.int .i64 a1_0, .slice (some ad167) l1_1.length c1_1] 24 (0, 0)) (by refine pk_ ?_; refine blk_far ?_ NB151_168.out _; refine pk_ ?_; refine blk_far ?_ NB151_168.out _; refine pk_ ?_; refine blk_far ?_ NB151_168.out _; refine pk_ ?_; refine blk_far ?_ NB151_168.out _; refine pk_ ?_; refine blk_far ?_ NB151_168.out _; exact pk_ BK151.out) hg (Kd.R_ne HO_156001.out BK151.out (by decide))); have n2_ := A_ (blk_grown (g := gb152) (o := .cells #[.int .i64 0, .slice none 0 0] 24 (0, 0)) (by refine pk_ ?_; refine blk_far ?_ NB152_168.out _; refine pk_ ?_; refine blk_far ?_ NB152_168.out _; refine pk_ ?_; refine blk_far ?_ NB152_168.out _; refine pk_ ?_; refine blk_far ?_ NB152_168.out _; refine pk_ ?_; refine blk_far ?_ NB152_168.out _; exact pk_ BK152.out) hg (Kd.R_ne HO_156001.out BK152.out (by decide))); have n3_ := A_ (blk_grown (g := gb155) (o := .cells #[.int .i64 ji25, u156001] 24 (0, 0)) (by refine pk_ ?_; refine blk_far ?_ NB155_168.out _; refine pk_ ?_; refine blk_far ?_ NB155_168.out _; refine pk_ ?_; refine blk_far ?_ NB155_168.out _; refine pk_ ?_; refine blk_far ?_ NB155_168.out _; refine pk_ ?_; refine blk_far ?_ NB155_168.out _; exact pk_ BK155.out) hg (Kd.R_ne HO_156001.out BK155.out (by decide))); have n4_ := A_ (blk_grown (g := gb168) (o := .cells #[.int .i64 ((rd_T33 l1_1 x64_4).f0), .int .i64 ((rd_T33 l1_1 x64_4).f1), .int .i64 ((rd_T33 l1_1 x64_4).f2), .int .i64 (wrap64 (((rd_T33 l1_1 x64_4).f3) + x6_68))] 33 (0, 0)) (by refine pk_ ?_; refine blk_put (cs := #[.int .i64 ((rd_T33 l1_1 x64_4).f0), .int .i64 ((rd_T33 l1_1 x64_4).f1), .int .i64 ((rd_T33 l1_1 x64_4).f2), .int .i64 ((rd_T33 l1_1 x64_4).f3)]) ?_ 3 _ rfl; refine pk_ ?_; refine blk_put (cs := #[.int .i64 ((rd_T33 l1_1 x64_4).f0), .int .i64 ((rd_T33 l1_1 x64_4).f1), .int .i64 ((rd_T33 l1_1 x64_4).f2), .int .i64 0]) ?_ 3 _ rfl; refine pk_ ?_; refine blk_put (cs := #[.int .i64 ((rd_T33 l1_1 x64_4).f0), .int .i64 ((rd_T33 l1_1 x64_4).f1), .int .i64 0, .int .i64 0]) ?_ 2 _ rfl; refine pk_ ?_; refine blk_put (cs := #[.int .i64 ((rd_T33 l1_1 x64_4).f0), .int .i64 0, .int .i64 0, .int .i64 0]) ?_ 1 _ rfl; refine pk_ ?_; refine blk_put (cs := #[.int .i64 0, .int .i64 0, .int .i64 0, .int .i64 0]) ?_ 0 _ rfl; exact pk_ BK168.out) hg (Kd.R_away HO_156001.out (fun _ hk => hk.2))); have n5_ := A_ (hb); have n6_ := A_ (ho); clear BK150 BK151 BK152 BK155 BK168 HB HO_156001; have BK150 := n0_; have BK151 := n1_; have BK152 := n2_; have BK155 := n3_; have BK168 := n4_; have HB := n5_; have HO171 := n6_; clear n0_ n1_ n2_ n3_ n4_ n5_ n6_ ho hb hg hat; obtain ⟨Ao100, co100, eo100⟩ := Kd.R_slice HO171.out; subst eo100; have hcz101_0 : w99.cell? ⟨gb155, 0, none⟩ = some (.int .i64 ji25) := (blk_cell BK155.out 0).trans rfl; have hcz101_1 : w99.cell? ⟨gb155, 1, none⟩ = some (u156001) := (blk_cell BK155.out 1).trans rfl; have hfz101_0 := blk_frozen BK155.out 0; have hfz101_1 := blk_frozen BK155.out 1))
                 go_roundg k4
                 case measure => have := HJ2.out; have := HK2.out; have := HJ68.out; have := HK4.out; omega
                 case rel => exact ⟨(wrap64 (x64_4 + 1)), (y169), (.slice Ao100 y169.length co100), jr_, H', ⟨by have := HJ2.out; have := HK2.out; have := HJ68.out; have := HK4.out; omega⟩, ⟨by (with_reducible repeat (first | apply Kd.R_alloc | apply Kd.R_drewN | apply Kd.R_drew)); exact Kd.R_mono (Kd.R_far (p := ⟨gb155, 1, none⟩) (Kd.R_types HO171.out BK155.out (by decide)) (fun _ hk => hk.2) (.slice Ao100 y169.length co100)) (fun _ hk => trivial)⟩, ⟨by refine pk_ ?_; refine blk_far ?_ NB150_155.out _; exact pk_ BK150.out⟩, ⟨by refine pk_ ?_; refine blk_far ?_ NB151_155.out _; exact pk_ BK151.out⟩, ⟨by refine pk_ ?_; refine blk_far ?_ NB152_155.out _; exact pk_ BK152.out⟩, ⟨by refine pk_ ?_; refine blk_put (cs := #[.int .i64 ji25, u156001]) ?_ 1 _ rfl; exact pk_ BK155.out⟩, ⟨bk_ HB.out⟩⟩
                ·rw [if_neg c88] at H
                 exact absurd H (by simp)
               ·rw [if_neg c87] at H
                have c87b0 : (((rd_T33 l1_1 x64_4).f0) == 1) = false := beq_eq_false_iff_ne.mpr c87
                have c87b1 : (((rd_T33 l1_1 x64_4).f0) != 1) = true := bne_iff_ne.mpr c87
                by_cases c102 : x156001_4.length < 4398046511104
                ·rw [if_pos c102] at H
                 have LMc102 := Aside0.mk c102
                 clear c102
                 obtain ⟨y172, hy172⟩ : ∃ y_ : List (S33), y_ = (x156001_4 ++ [(⟨(rd_T33 l1_1 x64_4).f0, (rd_T33 l1_1 x64_4).f1, (rd_T33 l1_1 x64_4).f2, (rd_T33 l1_1 x64_4).f3⟩ : S33)]) := ⟨_, rfl⟩
                 replace H : (counter_Join.l1 k4 x6_68 l1_1 (l1_1.length : Int) (wrap64 (x64_4 + 1)) ji25 y172) = some (r1, r2, r3) := by first | (rw [hy172]; with_reducible exact H) | (have H2_ := (Option.bind_some _ _).symm.trans H; rw [hy172]; with_reducible exact H2_) | (have H2_ := (Option.bind_some _ _).symm.trans H; with_reducible exact H2_) | with_reducible exact H | (rw [hy172]; exact H) | exact H
                 have Ny172 := Aside0.mk hy172
                 clear hy172
                 have H' := Aside0.mk H
                 clear H
                 have p167 : 0 ≤ (x64_4 : Int) := od_
                 have q167 : x64_4 < (l1_1.length : Int) := od_
                 obtain ⟨ad167, e167, hx167_0, hx167_1, hx167_2, hx167_3⟩ := at_T33 HR1_1.out x64_4 p167 q167
                 cases e167
                 replace hx167_0 := lf_ HB.out hx167_0
                 replace hx167_1 := lf_ HB.out hx167_1
                 replace hx167_2 := lf_ HB.out hx167_2
                 replace hx167_3 := lf_ HB.out hx167_3
                 replace p167 := eq_true p167
                 replace q167 := eq_true q167
                 go_wp2_with (first | ((with_reducible refine gate_dst (N := 12) rfl ?_); refine box_event ?hg (N := 12) ?hd (cs := #[.int .i64 0, .int .i64 0, .int .i64 0, .int .i64 0]) (t := 33) ?hr ?_; (case hd => rfl); (case hg => rfl); (case hr => first | (go_simp; done) | (go_simp; rfl)); intro gb168 hg w103 hbox hb; have n0_ := A_ (Kd.R_below (Kd.R_elderB (rk_ HO_156001.out) gb168 (Nat.le_of_eq hg.symm)) hb); have n1_ := A_ (blk_below (pk_ BK150.out) hb); have n2_ := A_ (blk_below (pk_ BK151.out) hb); have n3_ := A_ (blk_below (pk_ BK152.out) hb); have n4_ := A_ (blk_below (pk_ BK155.out) hb); have n5_ := A_ (below_step (bk_ HB.out) hb); have n6_ := A_ (hbox); have n7_ := A_ ((by rw [hg]; exact (below_size (bk_ HB.out)) : w.heap.size ≤ gb168)); have n8_ := A_ ((by rw [hg]; exact (below_size (bk_ HB.out)) : w.heap.size ≤ gb168)); have n9_ := A_ ((by rw [hg]; exact Nat.ne_of_lt (blk_lt (pk_ BK150.out)) : gb150 ≠ gb168)); have n10_ := A_ ((by rw [hg]; exact Nat.ne_of_gt (blk_lt (pk_ BK150.out)) : gb168 ≠ gb150)); have n11_ := A_ ((by rw [hg]; exact Nat.ne_of_lt (blk_lt (pk_ BK151.out)) : gb151 ≠ gb168)); have n12_ := A_ ((by rw [hg]; exact Nat.ne_of_gt (blk_lt (pk_ BK151.out)) : gb168 ≠ gb151)); have n13_ := A_ ((by rw [hg]; exact Nat.ne_of_lt (blk_lt (pk_ BK152.out)) : gb152 ≠ gb168)); have n14_ := A_ ((by rw [hg]; exact Nat.ne_of_gt (blk_lt (pk_ BK152.out)) : gb168 ≠ gb152)); have n15_ := A_ ((by rw [hg]; exact Nat.ne_of_lt (blk_lt (pk_ BK155.out)) : gb155 ≠ gb168)); have n16_ := A_ ((by rw [hg]; exact Nat.ne_of_gt (blk_lt (pk_ BK155.out)) : gb168 ≠ gb155)); clear HO_156001 BK150 BK151 BK152 BK155 HB; have HO_156001 := n0_; have BK150 := n1_; have BK151 := n2_; have BK152 := n3_; have BK155 := n4_; have HB := n5_; have BK168 := n6_; have GW168 := n7_; have GE168 := n8_; have NB150_168 := n9_; have NB168_150 := n10_; have NB151_168 := n11_; have NB168_151 := n12_; have NB152_168 := n13_; have NB168_152 := n14_; have NB155_168 := n15_; have NB168_155 := n16_; clear n0_ n1_ n2_ n3_ n4_ n5_ n6_ n7_ n8_ n9_ n10_ n11_ n12_ n13_ n14_ n15_ n16_ hb hbox hg; have hnb104 := NB168_150.out; have hnc104 := NB150_168.out; have hnb105 := NB168_151.out; have hnc105 := NB151_168.out; have hnb106 := NB168_152.out; have hnc106 := NB152_168.out; have hnb107 := NB168_155.out; have hnc107 := NB155_168.out; have hcz108_0 : w103.cell? ⟨gb168, 0, none⟩ = some (.int .i64 0) := (blk_cell BK168.out 0).trans rfl; have hcz108_1 : w103.cell? ⟨gb168, 1, none⟩ = some (.int .i64 0) := (blk_cell BK168.out 1).trans rfl; have hcz108_2 : w103.cell? ⟨gb168, 2, none⟩ = some (.int .i64 0) := (blk_cell BK168.out 2).trans rfl; have hcz108_3 : w103.cell? ⟨gb168, 3, none⟩ = some (.int .i64 0) := (blk_cell BK168.out 3).trans rfl; have hfz108_0 := blk_frozen BK168.out 0; have hfz108_1 := blk_frozen BK168.out 1; have hfz108_2 := blk_frozen BK168.out 2; have hfz108_3 := blk_frozen BK168.out 3; have hnb109 := NB155_150.out; have hnc109 := NB150_155.out; have hnb110 := NB155_151.out; have hnc110 := NB151_155.out; have hnb111 := NB155_152.out; have hnc111 := NB152_155.out; have hcz112_0 : w103.cell? ⟨gb155, 0, none⟩ = some (.int .i64 ji25) := (blk_cell BK155.out 0).trans rfl; have hcz112_1 : w103.cell? ⟨gb155, 1, none⟩ = some (u156001) := (blk_cell BK155.out 1).trans rfl; have hfz112_0 := blk_frozen BK155.out 0; have hfz112_1 := blk_frozen BK155.out 1) | ((with_reducible refine gate_builtin (b := .append) (xs := #[.tmp 85, .tmp 87]) rfl ?_); at_builtin; refine Kd.R_append k33 (w0 := w) w.heap.size rfl (.tmp 85) (.tmp 87) 22 33 (.agg #[(.int .i64 0), (.int .i64 0), (.int .i64 0), (.int .i64 0)]) 32 rfl Try.underlying22 info33 rfl (by decide) (by omega) u156001 x156001_4 (⟨(rd_T33 l1_1 x64_4).f0, (rd_T33 l1_1 x64_4).f1, (rd_T33 l1_1 x64_4).f2, (rd_T33 l1_1 x64_4).f3⟩ : S33) [.int .i64 ((rd_T33 l1_1 x64_4).f0), .int .i64 ((rd_T33 l1_1 x64_4).f1), .int .i64 ((rd_T33 l1_1 x64_4).f2), .int .i64 ((rd_T33 l1_1 x64_4).f3)] (fun k_ => k_ ≠ gb168) (fun _ => False) rfl (by first | (go_simp; done) | (go_simp; rfl)) ?aP (fun _ hk => hk.elim) ?aF ?aO ?aB ?aS ?aL ?_; (case aP => exact k33_mkM _ _ _ (⟨(rd_T33 l1_1 x64_4).f0, (rd_T33 l1_1 x64_4).f1, (rd_T33 l1_1 x64_4).f2, (rd_T33 l1_1 x64_4).f3⟩ : S33)); (case aB => exact (bk_ HB.out)); (case aF => exact (fun k_ hk => Kd.freshB (g := gb168) (o := .cells #[.int .i64 ((rd_T33 l1_1 x64_4).f0), .int .i64 ((rd_T33 l1_1 x64_4).f1), .int .i64 ((rd_T33 l1_1 x64_4).f2), .int .i64 ((rd_T33 l1_1 x64_4).f3)] 33 (0, 0)) (by refine pk_ ?_; refine blk_put (cs := #[.int .i64 ((rd_T33 l1_1 x64_4).f0), .int .i64 ((rd_T33 l1_1 x64_4).f1), .int .i64 ((rd_T33 l1_1 x64_4).f2), .int .i64 0]) ?_ 3 _ rfl; refine pk_ ?_; refine blk_put (cs := #[.int .i64 ((rd_T33 l1_1 x64_4).f0), .int .i64 ((rd_T33 l1_1 x64_4).f1), .int .i64 0, .int .i64 0]) ?_ 2 _ rfl; refine pk_ ?_; refine blk_put (cs := #[.int .i64 ((rd_T33 l1_1 x64_4).f0), .int .i64 0, .int .i64 0, .int .i64 0]) ?_ 1 _ rfl; refine pk_ ?_; refine blk_put (cs := #[.int .i64 0, .int .i64 0, .int .i64 0, .int .i64 0]) ?_ 0 _ rfl; exact pk_ BK168.out) k_ hk)); (case aO => exact (by (with_reducible repeat (first | apply Kd.R_alloc | apply Kd.R_drewN | apply Kd.R_drew)); exact Kd.R_mono (Kd.R_far (p := ⟨gb168, 3, none⟩) (Kd.R_far (p := ⟨gb168, 2, none⟩) (Kd.R_far (p := ⟨gb168, 1, none⟩) (Kd.R_far (p := ⟨gb168, 0, none⟩) (Kd.R_mono HO_156001.out (fun k_ hk => (⟨hk, hk.2⟩ : _ ∧ k_ ≠ gb168))) (fun _ hk => hk.2) (.int .i64 ((rd_T33 l1_1 x64_4).f0))) (fun _ hk => hk.2) (.int .i64 ((rd_T33 l1_1 x64_4).f1))) (fun _ hk => hk.2) (.int .i64 ((rd_T33 l1_1 x64_4).f2))) (fun _ hk => hk.2) (.int .i64 ((rd_T33 l1_1 x64_4).f3))) (fun _ hk => hk.1.2))); (case aS => exact (below_size (bk_ HB.out))); (case aL => have := LMc102.out; omega); intro v173 w113 ho hb hg hat; rw [← Ny172.out] at ho; have n0_ := A_ (blk_grown (g := gb150) (o := .cells #[.int .i64 a0_0, .slice A0_1 l0_1.length c0_1] 24 (0, 0)) (by refine pk_ ?_; refine blk_far ?_ NB150_168.out _; refine pk_ ?_; refine blk_far ?_ NB150_168.out _; refine pk_ ?_; refine blk_far ?_ NB150_168.out _; refine pk_ ?_; refine blk_far ?_ NB150_168.out _; exact pk_ BK150.out) hg (Kd.R_ne HO_156001.out BK150.out (by decide))); have n1_ := A_ (blk_grown (g := gb151) (o := .cells #[.int .i64 a1_0, .slice (some ad167) l1_1.length c1_1] 24 (0, 0)) (by refine pk_ ?_; refine blk_far ?_ NB151_168.out _; refine pk_ ?_; refine blk_far ?_ NB151_168.out _; refine pk_ ?_; refine blk_far ?_ NB151_168.out _; refine pk_ ?_; refine blk_far ?_ NB151_168.out _; exact pk_ BK151.out) hg (Kd.R_ne HO_156001.out BK151.out (by decide))); have n2_ := A_ (blk_grown (g := gb152) (o := .cells #[.int .i64 0, .slice none 0 0] 24 (0, 0)) (by refine pk_ ?_; refine blk_far ?_ NB152_168.out _; refine pk_ ?_; refine blk_far ?_ NB152_168.out _; refine pk_ ?_; refine blk_far ?_ NB152_168.out _; refine pk_ ?_; refine blk_far ?_ NB152_168.out _; exact pk_ BK152.out) hg (Kd.R_ne HO_156001.out BK152.out (by decide))); have n3_ := A_ (blk_grown (g := gb155) (o := .cells #[.int .i64 ji25, u156001] 24 (0, 0)) (by refine pk_ ?_; refine blk_far ?_ NB155_168.out _; refine pk_ ?_; refine blk_far ?_ NB155_168.out _; refine pk_ ?_; refine blk_far ?_ NB155_168.out _; refine pk_ ?_; refine blk_far ?_ NB155_168.out _; exact pk_ BK155.out) hg (Kd.R_ne HO_156001.out BK155.out (by decide))); have n4_ := A_ (blk_grown (g := gb168) (o := .cells #[.int .i64 ((rd_T33 l1_1 x64_4).f0), .int .i64 ((rd_T33 l1_1 x64_4).f1), .int .i64 ((rd_T33 l1_1 x64_4).f2), .int .i64 ((rd_T33 l1_1 x64_4).f3)] 33 (0, 0)) (by refine pk_ ?_; refine blk_put (cs := #[.int .i64 ((rd_T33 l1_1 x64_4).f0), .int .i64 ((rd_T33 l1_1 x64_4).f1), .int .i64 ((rd_T33 l1_1 x64_4).f2), .int .i64 0]) ?_ 3 _ rfl; refine pk_ ?_; refine blk_put (cs := #[.int .i64 ((rd_T33 l1_1 x64_4).f0), .int .i64 ((rd_T33 l1_1 x64_4).f1), .int .i64 0, .int .i64 0]) ?_ 2 _ rfl; refine pk_ ?_; refine blk_put (cs := #[.int .i64 ((rd_T33 l1_1 x64_4).f0), .int .i64 0, .int .i64 0, .int .i64 0]) ?_ 1 _ rfl; refine pk_ ?_; refine blk_put (cs := #[.int .i64 0, .int .i64 0, .int .i64 0, .int .i64 0]) ?_ 0 _ rfl; exact pk_ BK168.out) hg (Kd.R_away HO_156001.out (fun _ hk => hk.2))); have n5_ := A_ (hb); have n6_ := A_ (ho); clear BK150 BK151 BK152 BK155 BK168 HB HO_156001; have BK150 := n0_; have BK151 := n1_; have BK152 := n2_; have BK155 := n3_; have BK168 := n4_; have HB := n5_; have HO174 := n6_; clear n0_ n1_ n2_ n3_ n4_ n5_ n6_ ho hb hg hat; obtain ⟨Ao114, co114, eo114⟩ := Kd.R_slice HO174.out; subst eo114; have hcz115_0 : w113.cell? ⟨gb155, 0, none⟩ = some (.int .i64 ji25) := (blk_cell BK155.out 0).trans rfl; have hcz115_1 : w113.cell? ⟨gb155, 1, none⟩ = some (u156001) := (blk_cell BK155.out 1).trans rfl; have hfz115_0 := blk_frozen BK155.out 0; have hfz115_1 := blk_frozen BK155.out 1))
                 go_roundg k4
                 case measure => have := HJ2.out; have := HK2.out; have := HJ68.out; have := HK4.out; omega
                 case rel => exact ⟨(wrap64 (x64_4 + 1)), (y172), (.slice Ao114 y172.length co114), jr_, H', ⟨by have := HJ2.out; have := HK2.out; have := HJ68.out; have := HK4.out; omega⟩, ⟨by (with_reducible repeat (first | apply Kd.R_alloc | apply Kd.R_drewN | apply Kd.R_drew)); exact Kd.R_mono (Kd.R_far (p := ⟨gb155, 1, none⟩) (Kd.R_types HO174.out BK155.out (by decide)) (fun _ hk => hk.2) (.slice Ao114 y172.length co114)) (fun _ hk => trivial)⟩, ⟨by refine pk_ ?_; refine blk_far ?_ NB150_155.out _; exact pk_ BK150.out⟩, ⟨by refine pk_ ?_; refine blk_far ?_ NB151_155.out _; exact pk_ BK151.out⟩, ⟨by refine pk_ ?_; refine blk_far ?_ NB152_155.out _; exact pk_ BK152.out⟩, ⟨by refine pk_ ?_; refine blk_put (cs := #[.int .i64 ji25, u156001]) ?_ 1 _ rfl; exact pk_ BK155.out⟩, ⟨bk_ HB.out⟩⟩
                ·rw [if_neg c102] at H
                 exact absurd H (by simp)
              ·rw [if_neg c86] at H
               have c86b0 : (((rd_T33 l1_1 x64_4).f0) == 2) = false := beq_eq_false_iff_ne.mpr c86
               have c86b1 : (((rd_T33 l1_1 x64_4).f0) != 2) = true := bne_iff_ne.mpr c86
               by_cases c116 : ((rd_T33 l1_1 x64_4).f0) = 1
               ·rw [if_pos c116] at H
                have c116b0 : (((rd_T33 l1_1 x64_4).f0) == 1) = true := beq_iff_eq.mpr c116
                have c116b1 : (((rd_T33 l1_1 x64_4).f0) != 1) = false := bne_eq_false_iff_eq.mpr c116
                clear c116
                by_cases c117 : x156001_4.length < 4398046511104
                ·rw [if_pos c117] at H
                 have LMc117 := Aside0.mk c117
                 clear c117
                 obtain ⟨y175, hy175⟩ : ∃ y_ : List (S33), y_ = (x156001_4 ++ [(⟨(rd_T33 l1_1 x64_4).f0, (rd_T33 l1_1 x64_4).f1, wrap64 (((rd_T33 l1_1 x64_4).f2) + x6_68), wrap64 (((rd_T33 l1_1 x64_4).f3) + x6_68)⟩ : S33)]) := ⟨_, rfl⟩
                 replace H : (counter_Join.l1 k4 x6_68 l1_1 (l1_1.length : Int) (wrap64 (x64_4 + 1)) ji25 y175) = some (r1, r2, r3) := by first | (rw [hy175]; with_reducible exact H) | (have H2_ := (Option.bind_some _ _).symm.trans H; rw [hy175]; with_reducible exact H2_) | (have H2_ := (Option.bind_some _ _).symm.trans H; with_reducible exact H2_) | with_reducible exact H | (rw [hy175]; exact H) | exact H
                 have Ny175 := Aside0.mk hy175
                 clear hy175
                 have H' := Aside0.mk H
                 clear H
                 have p167 : 0 ≤ (x64_4 : Int) := od_
                 have q167 : x64_4 < (l1_1.length : Int) := od_
                 obtain ⟨ad167, e167, hx167_0, hx167_1, hx167_2, hx167_3⟩ := at_T33 HR1_1.out x64_4 p167 q167
                 cases e167
                 replace hx167_0 := lf_ HB.out hx167_0
                 replace hx167_1 := lf_ HB.out hx167_1
                 replace hx167_2 := lf_ HB.out hx167_2
                 replace hx167_3 := lf_ HB.out hx167_3
                 replace p167 := eq_true p167
                 replace q167 := eq_true q167
                 go_wp2_with (first | ((with_reducible refine gate_dst (N := 12) rfl ?_); refine box_event ?hg (N := 12) ?hd (cs := #[.int .i64 0, .int .i64 0, .int .i64 0, .int .i64 0]) (t := 33) ?hr ?_; (case hd => rfl); (case hg => rfl); (case hr => first | (go_simp; done) | (go_simp; rfl)); intro gb168 hg w118 hbox hb; have n0_ := A_ (Kd.R_below (Kd.R_elderB (rk_ HO_156001.out) gb168 (Nat.le_of_eq hg.symm)) hb); have n1_ := A_ (blk_below (pk_ BK150.out) hb); have n2_ := A_ (blk_below (pk_ BK151.out) hb); have n3_ := A_ (blk_below (pk_ BK152.out) hb); have n4_ := A_ (blk_below (pk_ BK155.out) hb); have n5_ := A_ (below_step (bk_ HB.out) hb); have n6_ := A_ (hbox); have n7_ := A_ ((by rw [hg]; exact (below_size (bk_ HB.out)) : w.heap.size ≤ gb168)); have n8_ := A_ ((by rw [hg]; exact (below_size (bk_ HB.out)) : w.heap.size ≤ gb168)); have n9_ := A_ ((by rw [hg]; exact Nat.ne_of_lt (blk_lt (pk_ BK150.out)) : gb150 ≠ gb168)); have n10_ := A_ ((by rw [hg]; exact Nat.ne_of_gt (blk_lt (pk_ BK150.out)) : gb168 ≠ gb150)); have n11_ := A_ ((by rw [hg]; exact Nat.ne_of_lt (blk_lt (pk_ BK151.out)) : gb151 ≠ gb168)); have n12_ := A_ ((by rw [hg]; exact Nat.ne_of_gt (blk_lt (pk_ BK151.out)) : gb168 ≠ gb151)); have n13_ := A_ ((by rw [hg]; exact Nat.ne_of_lt (blk_lt (pk_ BK152.out)) : gb152 ≠ gb168)); have n14_ := A_ ((by rw [hg]; exact Nat.ne_of_gt (blk_lt (pk_ BK152.out)) : gb168 ≠ gb152)); have n15_ := A_ ((by rw [hg]; exact Nat.ne_of_lt (blk_lt (pk_ BK155.out)) : gb155 ≠ gb168)); have n16_ := A_ ((by rw [hg]; exact Nat.ne_of_gt (blk_lt (pk_ BK155.out)) : gb168 ≠ gb155)); clear HO_156001 BK150 BK151 BK152 BK155 HB; have HO_156001 := n0_; have BK150 := n1_; have BK151 := n2_; have BK152 := n3_; have BK155 := n4_; have HB := n5_; have BK168 := n6_; have GW168 := n7_; have GE168 := n8_; have NB150_168 := n9_; have NB168_150 := n10_; have NB151_168 := n11_; have NB168_151 := n12_; have NB152_168 := n13_; have NB168_152 := n14_; have NB155_168 := n15_; have NB168_155 := n16_; clear n0_ n1_ n2_ n3_ n4_ n5_ n6_ n7_ n8_ n9_ n10_ n11_ n12_ n13_ n14_ n15_ n16_ hb hbox hg; have hnb119 := NB168_150.out; have hnc119 := NB150_168.out; have hnb120 := NB168_151.out; have hnc120 := NB151_168.out; have hnb121 := NB168_152.out; have hnc121 := NB152_168.out; have hnb122 := NB168_155.out; have hnc122 := NB155_168.out; have hcz123_0 : w118.cell? ⟨gb168, 0, none⟩ = some (.int .i64 0) := (blk_cell BK168.out 0).trans rfl; have hcz123_1 : w118.cell? ⟨gb168, 1, none⟩ = some (.int .i64 0) := (blk_cell BK168.out 1).trans rfl; have hcz123_2 : w118.cell? ⟨gb168, 2, none⟩ = some (.int .i64 0) := (blk_cell BK168.out 2).trans rfl; have hcz123_3 : w118.cell? ⟨gb168, 3, none⟩ = some (.int .i64 0) := (blk_cell BK168.out 3).trans rfl; have hfz123_0 := blk_frozen BK168.out 0; have hfz123_1 := blk_frozen BK168.out 1; have hfz123_2 := blk_frozen BK168.out 2; have hfz123_3 := blk_frozen BK168.out 3; have hnb124 := NB155_150.out; have hnc124 := NB150_155.out; have hnb125 := NB155_151.out; have hnc125 := NB151_155.out; have hnb126 := NB155_152.out; have hnc126 := NB152_155.out; have hcz127_0 : w118.cell? ⟨gb155, 0, none⟩ = some (.int .i64 ji25) := (blk_cell BK155.out 0).trans rfl; have hcz127_1 : w118.cell? ⟨gb155, 1, none⟩ = some (u156001) := (blk_cell BK155.out 1).trans rfl; have hfz127_0 := blk_frozen BK155.out 0; have hfz127_1 := blk_frozen BK155.out 1) | ((with_reducible refine gate_builtin (b := .append) (xs := #[.tmp 85, .tmp 87]) rfl ?_); at_builtin; refine Kd.R_append k33 (w0 := w) w.heap.size rfl (.tmp 85) (.tmp 87) 22 33 (.agg #[(.int .i64 0), (.int .i64 0), (.int .i64 0), (.int .i64 0)]) 32 rfl Try.underlying22 info33 rfl (by decide) (by omega) u156001 x156001_4 (⟨(rd_T33 l1_1 x64_4).f0, (rd_T33 l1_1 x64_4).f1, wrap64 (((rd_T33 l1_1 x64_4).f2) + x6_68), wrap64 (((rd_T33 l1_1 x64_4).f3) + x6_68)⟩ : S33) [.int .i64 ((rd_T33 l1_1 x64_4).f0), .int .i64 ((rd_T33 l1_1 x64_4).f1), .int .i64 (wrap64 (((rd_T33 l1_1 x64_4).f2) + x6_68)), .int .i64 (wrap64 (((rd_T33 l1_1 x64_4).f3) + x6_68))] (fun k_ => k_ ≠ gb168) (fun _ => False) rfl (by first | (go_simp; done) | (go_simp; rfl)) ?aP (fun _ hk => hk.elim) ?aF ?aO ?aB ?aS ?aL ?_; (case aP => exact k33_mkM _ _ _ (⟨(rd_T33 l1_1 x64_4).f0, (rd_T33 l1_1 x64_4).f1, wrap64 (((rd_T33 l1_1 x64_4).f2) + x6_68), wrap64 (((rd_T33 l1_1 x64_4).f3) + x6_68)⟩ : S33)); (case aB => exact (bk_ HB.out)); (case aF => exact (fun k_ hk => Kd.freshB (g := gb168) (o := .cells #[.int .i64 ((rd_T33 l1_1 x64_4).f0), .int .i64 ((rd_T33 l1_1 x64_4).f1), .int .i64 (wrap64 (((rd_T33 l1_1 x64_4).f2) + x6_68)), .int .i64 (wrap64 (((rd_T33 l1_1 x64_4).f3) + x6_68))] 33 (0, 0)) (by refine pk_ ?_; refine blk_put (cs := #[.int .i64 ((rd_T33 l1_1 x64_4).f0), .int .i64 ((rd_T33 l1_1 x64_4).f1), .int .i64 (wrap64 (((rd_T33 l1_1 x64_4).f2) + x6_68)), .int .i64 ((rd_T33 l1_1 x64_4).f3)]) ?_ 3 _ rfl; refine pk_ ?_; refine blk_put (cs := #[.int .i64 ((rd_T33 l1_1 x64_4).f0), .int .i64 ((rd_T33 l1_1 x64_4).f1), .int .i64 ((rd_T33 l1_1 x64_4).f2), .int .i64 ((rd_T33 l1_1 x64_4).f3)]) ?_ 2 _ rfl; refine pk_ ?_; refine blk_put (cs := #[.int .i64 ((rd_T33 l1_1 x64_4).f0), .int .i64 ((rd_T33 l1_1 x64_4).f1), .int .i64 ((rd_T33 l1_1 x64_4).f2), .int .i64 0]) ?_ 3 _ rfl; refine pk_ ?_; refine blk_put (cs := #[.int .i64 ((rd_T33 l1_1 x64_4).f0), .int .i64 ((rd_T33 l1_1 x64_4).f1), .int .i64 0, .int .i64 0]) ?_ 2 _ rfl; refine pk_ ?_; refine blk_put (cs := #[.int .i64 ((rd_T33 l1_1 x64_4).f0), .int .i64 0, .int .i64 0, .int .i64 0]) ?_ 1 _ rfl; refine pk_ ?_; refine blk_put (cs := #[.int .i64 0, .int .i64 0, .int .i64 0, .int .i64 0]) ?_ 0 _ rfl; exact pk_ BK168.out) k_ hk)); (case aO => exact (by (with_reducible repeat (first | apply Kd.R_alloc | apply Kd.R_drewN | apply Kd.R_drew)); exact Kd.R_mono (Kd.R_far (p := ⟨gb168, 3, none⟩) (Kd.R_far (p := ⟨gb168, 2, none⟩) (Kd.R_far (p := ⟨gb168, 3, none⟩) (Kd.R_far (p := ⟨gb168, 2, none⟩) (Kd.R_far (p := ⟨gb168, 1, none⟩) (Kd.R_far (p := ⟨gb168, 0, none⟩) (Kd.R_mono HO_156001.out (fun k_ hk => (⟨hk, hk.2⟩ : _ ∧ k_ ≠ gb168))) (fun _ hk => hk.2) (.int .i64 ((rd_T33 l1_1 x64_4).f0))) (fun _ hk => hk.2) (.int .i64 ((rd_T33 l1_1 x64_4).f1))) (fun _ hk => hk.2) (.int .i64 ((rd_T33 l1_1 x64_4).f2))) (fun _ hk => hk.2) (.int .i64 ((rd_T33 l1_1 x64_4).f3))) (fun _ hk => hk.2) (.int .i64 (wrap64 (((rd_T33 l1_1 x64_4).f2) + x6_68)))) (fun _ hk => hk.2) (.int .i64 (wrap64 (((rd_T33 l1_1 x64_4).f3) + x6_68)))) (fun _ hk => hk.1.2))); (case aS => exact (below_size (bk_ HB.out))); (case aL => have := LMc117.out; omega); intro v176 w128 ho hb hg hat; rw [← Ny175.out] at ho; have n0_ := A_ (blk_grown (g := gb150) (o := .cells #[.int .i64 a0_0, .slice A0_1 l0_1.length c0_1] 24 (0, 0)) (by refine pk_ ?_; refine blk_far ?_ NB150_168.out _; refine pk_ ?_; refine blk_far ?_ NB150_168.out _; refine pk_ ?_; refine blk_far ?_ NB150_168.out _; refine pk_ ?_; refine blk_far ?_ NB150_168.out _; refine pk_ ?_; refine blk_far ?_ NB150_168.out _; refine pk_ ?_; refine blk_far ?_ NB150_168.out _; exact pk_ BK150.out) hg (Kd.R_ne HO_156001.out BK150.out (by decide))); have n1_ := A_ (blk_grown (g := gb151) (o := .cells #[.int .i64 a1_0, .slice (some ad167) l1_1.length c1_1] 24 (0, 0)) (by refine pk_ ?_; refine blk_far ?_ NB151_168.out _; refine pk_ ?_; refine blk_far ?_ NB151_168.out _; refine pk_ ?_; refine blk_far ?_ NB151_168.out _; refine pk_ ?_; refine blk_far ?_ NB151_168.out _; refine pk_ ?_; refine blk_far ?_ NB151_168.out _; refine pk_ ?_; refine blk_far ?_ NB151_168.out _; exact pk_ BK151.out) hg (Kd.R_ne HO_156001.out BK151.out (by decide))); have n2_ := A_ (blk_grown (g := gb152) (o := .cells #[.int .i64 0, .slice none 0 0] 24 (0, 0)) (by refine pk_ ?_; refine blk_far ?_ NB152_168.out _; refine pk_ ?_; refine blk_far ?_ NB152_168.out _; refine pk_ ?_; refine blk_far ?_ NB152_168.out _; refine pk_ ?_; refine blk_far ?_ NB152_168.out _; refine pk_ ?_; refine blk_far ?_ NB152_168.out _; refine pk_ ?_; refine blk_far ?_ NB152_168.out _; exact pk_ BK152.out) hg (Kd.R_ne HO_156001.out BK152.out (by decide))); have n3_ := A_ (blk_grown (g := gb155) (o := .cells #[.int .i64 ji25, u156001] 24 (0, 0)) (by refine pk_ ?_; refine blk_far ?_ NB155_168.out _; refine pk_ ?_; refine blk_far ?_ NB155_168.out _; refine pk_ ?_; refine blk_far ?_ NB155_168.out _; refine pk_ ?_; refine blk_far ?_ NB155_168.out _; refine pk_ ?_; refine blk_far ?_ NB155_168.out _; refine pk_ ?_; refine blk_far ?_ NB155_168.out _; exact pk_ BK155.out) hg (Kd.R_ne HO_156001.out BK155.out (by decide))); have n4_ := A_ (blk_grown (g := gb168) (o := .cells #[.int .i64 ((rd_T33 l1_1 x64_4).f0), .int .i64 ((rd_T33 l1_1 x64_4).f1), .int .i64 (wrap64 (((rd_T33 l1_1 x64_4).f2) + x6_68)), .int .i64 (wrap64 (((rd_T33 l1_1 x64_4).f3) + x6_68))] 33 (0, 0)) (by refine pk_ ?_; refine blk_put (cs := #[.int .i64 ((rd_T33 l1_1 x64_4).f0), .int .i64 ((rd_T33 l1_1 x64_4).f1), .int .i64 (wrap64 (((rd_T33 l1_1 x64_4).f2) + x6_68)), .int .i64 ((rd_T33 l1_1 x64_4).f3)]) ?_ 3 _ rfl; refine pk_ ?_; refine blk_put (cs := #[.int .i64 ((rd_T33 l1_1 x64_4).f0), .int .i64 ((rd_T33 l1_1 x64_4).f1), .int .i64 ((rd_T33 l1_1 x64_4).f2), .int .i64 ((rd_T33 l1_1 x64_4).f3)]) ?_ 2 _ rfl; refine pk_ ?_; refine blk_put (cs := #[.int .i64 ((rd_T33 l1_1 x64_4).f0), .int .i64 ((rd_T33 l1_1 x64_4).f1), .int .i64 ((rd_T33 l1_1 x64_4).f2), .int .i64 0]) ?_ 3 _ rfl; refine pk_ ?_; refine blk_put (cs := #[.int .i64 ((rd_T33 l1_1 x64_4).f0), .int .i64 ((rd_T33 l1_1 x64_4).f1), .int .i64 0, .int .i64 0]) ?_ 2 _ rfl; refine pk_ ?_; refine blk_put (cs := #[.int .i64 ((rd_T33 l1_1 x64_4).f0), .int .i64 0, .int .i64 0, .int .i64 0]) ?_ 1 _ rfl; refine pk_ ?_; refine blk_put (cs := #[.int .i64 0, .int .i64 0, .int .i64 0, .int .i64 0]) ?_ 0 _ rfl; exact pk_ BK168.out) hg (Kd.R_away HO_156001.out (fun _ hk => hk.2))); have n5_ := A_ (hb); have n6_ := A_ (ho); clear BK150 BK151 BK152 BK155 BK168 HB HO_156001; have BK150 := n0_; have BK151 := n1_; have BK152 := n2_; have BK155 := n3_; have BK168 := n4_; have HB := n5_; have HO177 := n6_; clear n0_ n1_ n2_ n3_ n4_ n5_ n6_ ho hb hg hat; obtain ⟨Ao129, co129, eo129⟩ := Kd.R_slice HO177.out; subst eo129; have hcz130_0 : w128.cell? ⟨gb155, 0, none⟩ = some (.int .i64 ji25) := (blk_cell BK155.out 0).trans rfl; have hcz130_1 : w128.cell? ⟨gb155, 1, none⟩ = some (u156001) := (blk_cell BK155.out 1).trans rfl; have hfz130_0 := blk_frozen BK155.out 0; have hfz130_1 := blk_frozen BK155.out 1))
                 go_roundg k4
                 case measure => have := HJ2.out; have := HK2.out; have := HJ68.out; have := HK4.out; omega
                 case rel => exact ⟨(wrap64 (x64_4 + 1)), (y175), (.slice Ao129 y175.length co129), jr_, H', ⟨by have := HJ2.out; have := HK2.out; have := HJ68.out; have := HK4.out; omega⟩, ⟨by (with_reducible repeat (first | apply Kd.R_alloc | apply Kd.R_drewN | apply Kd.R_drew)); exact Kd.R_mono (Kd.R_far (p := ⟨gb155, 1, none⟩) (Kd.R_types HO177.out BK155.out (by decide)) (fun _ hk => hk.2) (.slice Ao129 y175.length co129)) (fun _ hk => trivial)⟩, ⟨by refine pk_ ?_; refine blk_far ?_ NB150_155.out _; exact pk_ BK150.out⟩, ⟨by refine pk_ ?_; refine blk_far ?_ NB151_155.out _; exact pk_ BK151.out⟩, ⟨by refine pk_ ?_; refine blk_far ?_ NB152_155.out _; exact pk_ BK152.out⟩, ⟨by refine pk_ ?_; refine blk_put (cs := #[.int .i64 ji25, u156001]) ?_ 1 _ rfl; exact pk_ BK155.out⟩, ⟨bk_ HB.out⟩⟩
                ·rw [if_neg c117] at H
                 exact absurd H (by simp)
               ·rw [if_neg c116] at H
                have c116b0 : (((rd_T33 l1_1 x64_4).f0) == 1) = false := beq_eq_false_iff_ne.mpr c116
                have c116b1 : (((rd_T33 l1_1 x64_4).f0) != 1) = true := bne_iff_ne.mpr c116
                by_cases c131 : x156001_4.length < 4398046511104
                ·rw [if_pos c131] at H
                 have LMc131 := Aside0.mk c131
                 clear c131
                 obtain ⟨y178, hy178⟩ : ∃ y_ : List (S33), y_ = (x156001_4 ++ [(⟨(rd_T33 l1_1 x64_4).f0, (rd_T33 l1_1 x64_4).f1, wrap64 (((rd_T33 l1_1 x64_4).f2) + x6_68), (rd_T33 l1_1 x64_4).f3⟩ : S33)]) := ⟨_, rfl⟩
                 replace H : (counter_Join.l1 k4 x6_68 l1_1 (l1_1.length : Int) (wrap64 (x64_4 + 1)) ji25 y178) = some (r1, r2, r3) := by first | (rw [hy178]; with_reducible exact H) | (have H2_ := (Option.bind_some _ _).symm.trans H; rw [hy178]; with_reducible exact H2_) | (have H2_ := (Option.bind_some _ _).symm.trans H; with_reducible exact H2_) | with_reducible exact H | (rw [hy178]; exact H) | exact H
                 have Ny178 := Aside0.mk hy178
                 clear hy178
                 have H' := Aside0.mk H
                 clear H
                 have p167 : 0 ≤ (x64_4 : Int) := od_
                 have q167 : x64_4 < (l1_1.length : Int) := od_
                 obtain ⟨ad167, e167, hx167_0, hx167_1, hx167_2, hx167_3⟩ := at_T33 HR1_1.out x64_4 p167 q167
                 cases e167
                 replace hx167_0 := lf_ HB.out hx167_0
                 replace hx167_1 := lf_ HB.out hx167_1
                 replace hx167_2 := lf_ HB.out hx167_2
                 replace hx167_3 := lf_ HB.out hx167_3
                 replace p167 := eq_true p167
                 replace q167 := eq_true q167
                 go_wp2_with (first | ((with_reducible refine gate_dst (N := 12) rfl ?_); refine box_event ?hg (N := 12) ?hd (cs := #[.int .i64 0, .int .i64 0, .int .i64 0, .int .i64 0]) (t := 33) ?hr ?_; (case hd => rfl); (case hg => rfl); (case hr => first | (go_simp; done) | (go_simp; rfl)); intro gb168 hg w132 hbox hb; have n0_ := A_ (Kd.R_below (Kd.R_elderB (rk_ HO_156001.out) gb168 (Nat.le_of_eq hg.symm)) hb); have n1_ := A_ (blk_below (pk_ BK150.out) hb); have n2_ := A_ (blk_below (pk_ BK151.out) hb); have n3_ := A_ (blk_below (pk_ BK152.out) hb); have n4_ := A_ (blk_below (pk_ BK155.out) hb); have n5_ := A_ (below_step (bk_ HB.out) hb); have n6_ := A_ (hbox); have n7_ := A_ ((by rw [hg]; exact (below_size (bk_ HB.out)) : w.heap.size ≤ gb168)); have n8_ := A_ ((by rw [hg]; exact (below_size (bk_ HB.out)) : w.heap.size ≤ gb168)); have n9_ := A_ ((by rw [hg]; exact Nat.ne_of_lt (blk_lt (pk_ BK150.out)) : gb150 ≠ gb168)); have n10_ := A_ ((by rw [hg]; exact Nat.ne_of_gt (blk_lt (pk_ BK150.out)) : gb168 ≠ gb150)); have n11_ := A_ ((by rw [hg]; exact Nat.ne_of_lt (blk_lt (pk_ BK151.out)) : gb151 ≠ gb168)); have n12_ := A_ ((by rw [hg]; exact Nat.ne_of_gt (blk_lt (pk_ BK151.out)) : gb168 ≠ gb151)); have n13_ := A_ ((by rw [hg]; exact Nat.ne_of_lt (blk_lt (pk_ BK152.out)) : gb152 ≠ gb168)); have n14_ := A_ ((by rw [hg]; exact Nat.ne_of_gt (blk_lt (pk_ BK152.out)) : gb168 ≠ gb152)); have n15_ := A_ ((by rw [hg]; exact Nat.ne_of_lt (blk_lt (pk_ BK155.out)) : gb155 ≠ gb168)); have n16_ := A_ ((by rw [hg]; exact Nat.ne_of_gt (blk_lt (pk_ BK155.out)) : gb168 ≠ gb155)); clear HO_156001 BK150 BK151 BK152 BK155 HB; have HO_156001 := n0_; have BK150 := n1_; have BK151 := n2_; have BK152 := n3_; have BK155 := n4_; have HB := n5_; have BK168 := n6_; have GW168 := n7_; have GE168 := n8_; have NB150_168 := n9_; have NB168_150 := n10_; have NB151_168 := n11_; have NB168_151 := n12_; have NB152_168 := n13_; have NB168_152 := n14_; have NB155_168 := n15_; have NB168_155 := n16_; clear n0_ n1_ n2_ n3_ n4_ n5_ n6_ n7_ n8_ n9_ n10_ n11_ n12_ n13_ n14_ n15_ n16_ hb hbox hg; have hnb133 := NB168_150.out; have hnc133 := NB150_168.out; have hnb134 := NB168_151.out; have hnc134 := NB151_168.out; have hnb135 := NB168_152.out; have hnc135 := NB152_168.out; have hnb136 := NB168_155.out; have hnc136 := NB155_168.out; have hcz137_0 : w132.cell? ⟨gb168, 0, none⟩ = some (.int .i64 0) := (blk_cell BK168.out 0).trans rfl; have hcz137_1 : w132.cell? ⟨gb168, 1, none⟩ = some (.int .i64 0) := (blk_cell BK168.out 1).trans rfl; have hcz137_2 : w132.cell? ⟨gb168, 2, none⟩ = some (.int .i64 0) := (blk_cell BK168.out 2).trans rfl; have hcz137_3 : w132.cell? ⟨gb168, 3, none⟩ = some (.int .i64 0) := (blk_cell BK168.out 3).trans rfl; have hfz137_0 := blk_frozen BK168.out 0; have hfz137_1 := blk_frozen BK168.out 1; have hfz137_2 := blk_frozen BK168.out 2; have hfz137_3 := blk_frozen BK168.out 3; have hnb138 := NB155_150.out; have hnc138 := NB150_155.out; have hnb139 := NB155_151.out; have hnc139 := NB151_155.out; have hnb140 := NB155_152.out; have hnc140 := NB152_155.out; have hcz141_0 : w132.cell? ⟨gb155, 0, none⟩ = some (.int .i64 ji25) := (blk_cell BK155.out 0).trans rfl; have hcz141_1 : w132.cell? ⟨gb155, 1, none⟩ = some (u156001) := (blk_cell BK155.out 1).trans rfl; have hfz141_0 := blk_frozen BK155.out 0; have hfz141_1 := blk_frozen BK155.out 1) | ((with_reducible refine gate_builtin (b := .append) (xs := #[.tmp 85, .tmp 87]) rfl ?_); at_builtin; refine Kd.R_append k33 (w0 := w) w.heap.size rfl (.tmp 85) (.tmp 87) 22 33 (.agg #[(.int .i64 0), (.int .i64 0), (.int .i64 0), (.int .i64 0)]) 32 rfl Try.underlying22 info33 rfl (by decide) (by omega) u156001 x156001_4 (⟨(rd_T33 l1_1 x64_4).f0, (rd_T33 l1_1 x64_4).f1, wrap64 (((rd_T33 l1_1 x64_4).f2) + x6_68), (rd_T33 l1_1 x64_4).f3⟩ : S33) [.int .i64 ((rd_T33 l1_1 x64_4).f0), .int .i64 ((rd_T33 l1_1 x64_4).f1), .int .i64 (wrap64 (((rd_T33 l1_1 x64_4).f2) + x6_68)), .int .i64 ((rd_T33 l1_1 x64_4).f3)] (fun k_ => k_ ≠ gb168) (fun _ => False) rfl (by first | (go_simp; done) | (go_simp; rfl)) ?aP (fun _ hk => hk.elim) ?aF ?aO ?aB ?aS ?aL ?_; (case aP => exact k33_mkM _ _ _ (⟨(rd_T33 l1_1 x64_4).f0, (rd_T33 l1_1 x64_4).f1, wrap64 (((rd_T33 l1_1 x64_4).f2) + x6_68), (rd_T33 l1_1 x64_4).f3⟩ : S33)); (case aB => exact (bk_ HB.out)); (case aF => exact (fun k_ hk => Kd.freshB (g := gb168) (o := .cells #[.int .i64 ((rd_T33 l1_1 x64_4).f0), .int .i64 ((rd_T33 l1_1 x64_4).f1), .int .i64 (wrap64 (((rd_T33 l1_1 x64_4).f2) + x6_68)), .int .i64 ((rd_T33 l1_1 x64_4).f3)] 33 (0, 0)) (by refine pk_ ?_; refine blk_put (cs := #[.int .i64 ((rd_T33 l1_1 x64_4).f0), .int .i64 ((rd_T33 l1_1 x64_4).f1), .int .i64 ((rd_T33 l1_1 x64_4).f2), .int .i64 ((rd_T33 l1_1 x64_4).f3)]) ?_ 2 _ rfl; refine pk_ ?_; refine blk_put (cs := #[.int .i64 ((rd_T33 l1_1 x64_4).f0), .int .i64 ((rd_T33 l1_1 x64_4).f1), .int .i64 ((rd_T33 l1_1 x64_4).f2), .int .i64 0]) ?_ 3 _ rfl; refine pk_ ?_; refine blk_put (cs := #[.int .i64 ((rd_T33 l1_1 x64_4).f0), .int .i64 ((rd_T33 l1_1 x64_4).f1), .int .i64 0, .int .i64 0]) ?_ 2 _ rfl; refine pk_ ?_; refine blk_put (cs := #[.int .i64 ((rd_T33 l1_1 x64_4).f0), .int .i64 0, .int .i64 0, .int .i64 0]) ?_ 1 _ rfl; refine pk_ ?_; refine blk_put (cs := #[.int .i64 0, .int .i64 0, .int .i64 0, .int .i64 0]) ?_ 0 _ rfl; exact pk_ BK168.out) k_ hk)); (case aO => exact (by (with_reducible repeat (first | apply Kd.R_alloc | apply Kd.R_drewN | apply Kd.R_drew)); exact Kd.R_mono (Kd.R_far (p := ⟨gb168, 2, none⟩) (Kd.R_far (p := ⟨gb168, 3, none⟩) (Kd.R_far (p := ⟨gb168, 2, none⟩) (Kd.R_far (p := ⟨gb168, 1, none⟩) (Kd.R_far (p := ⟨gb168, 0, none⟩) (Kd.R_mono HO_156001.out (fun k_ hk => (⟨hk, hk.2⟩ : _ ∧ k_ ≠ gb168))) (fun _ hk => hk.2) (.int .i64 ((rd_T33 l1_1 x64_4).f0))) (fun _ hk => hk.2) (.int .i64 ((rd_T33 l1_1 x64_4).f1))) (fun _ hk => hk.2) (.int .i64 ((rd_T33 l1_1 x64_4).f2))) (fun _ hk => hk.2) (.int .i64 ((rd_T33 l1_1 x64_4).f3))) (fun _ hk => hk.2) (.int .i64 (wrap64 (((rd_T33 l1_1 x64_4).f2) + x6_68)))) (fun _ hk => hk.1.2))); (case aS => exact (below_size (bk_ HB.out))); (case aL => have := LMc131.out; omega); intro v179 w142 ho hb hg hat; rw [← Ny178.out] at ho; have n0_ := A_ (blk_grown (g := gb150) (o := .cells #[.int .i64 a0_0, .slice A0_1 l0_1.length c0_1] 24 (0, 0)) (by refine pk_ ?_; refine blk_far ?_ NB150_168.out _; refine pk_ ?_; refine blk_far ?_ NB150_168.out _; refine pk_ ?_; refine blk_far ?_ NB150_168.out _; refine pk_ ?_; refine blk_far ?_ NB150_168.out _; refine pk_ ?_; refine blk_far ?_ NB150_168.out _; exact pk_ BK150.out) hg (Kd.R_ne HO_156001.out BK150.out (by decide))); have n1_ := A_ (blk_grown (g := gb151) (o := .cells #[.int .i64 a1_0, .slice (some ad167) l1_1.length c1_1] 24 (0, 0)) (by refine pk_ ?_; refine blk_far ?_ NB151_168.out _; refine pk_ ?_; refine blk_far ?_ NB151_168.out _; refine pk_ ?_; refine blk_far ?_ NB151_168.out _; refine pk_ ?_; refine blk_far ?_ NB151_168.out _; refine pk_ ?_; refine blk_far ?_ NB151_168.out _; exact pk_ BK151.out) hg (Kd.R_ne HO_156001.out BK151.out (by decide))); have n2_ := A_ (blk_grown (g := gb152) (o := .cells #[.int .i64 0, .slice none 0 0] 24 (0, 0)) (by refine pk_ ?_; refine blk_far ?_ NB152_168.out _; refine pk_ ?_; refine blk_far ?_ NB152_168.out _; refine pk_ ?_; refine blk_far ?_ NB152_168.out _; refine pk_ ?_; refine blk_far ?_ NB152_168.out _; refine pk_ ?_; refine blk_far ?_ NB152_168.out _; exact pk_ BK152.out) hg (Kd.R_ne HO_156001.out BK152.out (by decide))); have n3_ := A_ (blk_grown (g := gb155) (o := .cells #[.int .i64 ji25, u156001] 24 (0, 0)) (by refine pk_ ?_; refine blk_far ?_ NB155_168.out _; refine pk_ ?_; refine blk_far ?_ NB155_168.out _; refine pk_ ?_; refine blk_far ?_ NB155_168.out _; refine pk_ ?_; refine blk_far ?_ NB155_168.out _; refine pk_ ?_; refine blk_far ?_ NB155_168.out _; exact pk_ BK155.out) hg (Kd.R_ne HO_156001.out BK155.out (by decide))); have n4_ := A_ (blk_grown (g := gb168) (o := .cells #[.int .i64 ((rd_T33 l1_1 x64_4).f0), .int .i64 ((rd_T33 l1_1 x64_4).f1), .int .i64 (wrap64 (((rd_T33 l1_1 x64_4).f2) + x6_68)), .int .i64 ((rd_T33 l1_1 x64_4).f3)] 33 (0, 0)) (by refine pk_ ?_; refine blk_put (cs := #[.int .i64 ((rd_T33 l1_1 x64_4).f0), .int .i64 ((rd_T33 l1_1 x64_4).f1), .int .i64 ((rd_T33 l1_1 x64_4).f2), .int .i64 ((rd_T33 l1_1 x64_4).f3)]) ?_ 2 _ rfl; refine pk_ ?_; refine blk_put (cs := #[.int .i64 ((rd_T33 l1_1 x64_4).f0), .int .i64 ((rd_T33 l1_1 x64_4).f1), .int .i64 ((rd_T33 l1_1 x64_4).f2), .int .i64 0]) ?_ 3 _ rfl; refine pk_ ?_; refine blk_put (cs := #[.int .i64 ((rd_T33 l1_1 x64_4).f0), .int .i64 ((rd_T33 l1_1 x64_4).f1), .int .i64 0, .int .i64 0]) ?_ 2 _ rfl; refine pk_ ?_; refine blk_put (cs := #[.int .i64 ((rd_T33 l1_1 x64_4).f0), .int .i64 0, .int .i64 0, .int .i64 0]) ?_ 1 _ rfl; refine pk_ ?_; refine blk_put (cs := #[.int .i64 0, .int .i64 0, .int .i64 0, .int .i64 0]) ?_ 0 _ rfl; exact pk_ BK168.out) hg (Kd.R_away HO_156001.out (fun _ hk => hk.2))); have n5_ := A_ (hb); have n6_ := A_ (ho); clear BK150 BK151 BK152 BK155 BK168 HB HO_156001; have BK150 := n0_; have BK151 := n1_; have BK152 := n2_; have BK155 := n3_; have BK168 := n4_; have HB := n5_; have HO180 := n6_; clear n0_ n1_ n2_ n3_ n4_ n5_ n6_ ho hb hg hat; obtain ⟨Ao143, co143, eo143⟩ := Kd.R_slice HO180.out; subst eo143; have hcz144_0 : w142.cell? ⟨gb155, 0, none⟩ = some (.int .i64 ji25) := (blk_cell BK155.out 0).trans rfl; have hcz144_1 : w142.cell? ⟨gb155, 1, none⟩ = some (u156001) := (blk_cell BK155.out 1).trans rfl; have hfz144_0 := blk_frozen BK155.out 0; have hfz144_1 := blk_frozen BK155.out 1))
                 go_roundg k4
                 case measure => have := HJ2.out; have := HK2.out; have := HJ68.out; have := HK4.out; omega
                 case rel => exact ⟨(wrap64 (x64_4 + 1)), (y178), (.slice Ao143 y178.length co143), jr_, H', ⟨by have := HJ2.out; have := HK2.out; have := HJ68.out; have := HK4.out; omega⟩, ⟨by (with_reducible repeat (first | apply Kd.R_alloc | apply Kd.R_drewN | apply Kd.R_drew)); exact Kd.R_mono (Kd.R_far (p := ⟨gb155, 1, none⟩) (Kd.R_types HO180.out BK155.out (by decide)) (fun _ hk => hk.2) (.slice Ao143 y178.length co143)) (fun _ hk => trivial)⟩, ⟨by refine pk_ ?_; refine blk_far ?_ NB150_155.out _; exact pk_ BK150.out⟩, ⟨by refine pk_ ?_; refine blk_far ?_ NB151_155.out _; exact pk_ BK151.out⟩, ⟨by refine pk_ ?_; refine blk_far ?_ NB152_155.out _; exact pk_ BK152.out⟩, ⟨by refine pk_ ?_; refine blk_put (cs := #[.int .i64 ji25, u156001]) ?_ 1 _ rfl; exact pk_ BK155.out⟩, ⟨bk_ HB.out⟩⟩
                ·rw [if_neg c131] at H
                 exact absurd H (by simp)
             ·rw [if_neg c85] at H
              exact absurd H (by simp)
            ·rw [if_neg c84] at H
             exact absurd H (by simp)
           ·rw [if_neg c83] at H
            have c83b0 : decide (x64_4 < (l1_1.length : Int)) = false := decide_eq_false c83
            clear c83
            by_cases c145 : (x156001_4.length : Int) > 2000
            ·rw [if_pos c145] at H
             have c145b0 : decide (2000 < (x156001_4.length : Int)) = true := decide_eq_true c145
             have c145b1 : decide (2000 < x156001_4.length) = true := decide_eq_true (by omega)
             clear c145
             simp only [Option.some.injEq, Prod.mk.injEq] at H
             obtain ⟨rfl, rfl, rfl⟩ := H
             have hnb146 := NB155_150.out
             have hnc146 := NB150_155.out
             have hnb147 := NB155_151.out
             have hnc147 := NB151_155.out
             have hnb148 := NB155_152.out
             have hnc148 := NB152_155.out
             have hcz149_0 : wr.cell? ⟨gb155, 0, none⟩ = some (.int .i64 ji25) := (blk_cell BK155.out 0).trans rfl
             have hcz149_1 : wr.cell? ⟨gb155, 1, none⟩ = some (u156001) := (blk_cell BK155.out 1).trans rfl
             have hfz149_0 := blk_frozen BK155.out 0
             have hfz149_1 := blk_frozen BK155.out 1
             obtain ⟨Ao150, co150, eo150⟩ := Kd.R_slice HO_156001.out
             subst eo150
             have hnb151 := NB152_150.out
             have hnc151 := NB150_152.out
             have hnb152 := NB152_151.out
             have hnc152 := NB151_152.out
             have hcz153_0 : wr.cell? ⟨gb152, 0, none⟩ = some (.int .i64 0) := (blk_cell BK152.out 0).trans rfl
             have hcz153_1 : wr.cell? ⟨gb152, 1, none⟩ = some (.slice none 0 0) := (blk_cell BK152.out 1).trans rfl
             have hfz153_0 := blk_frozen BK152.out 0
             have hfz153_1 := blk_frozen BK152.out 1
             go_wp2
             refine bodyPost_ret (results_ct rfl _ _ gb152 24 #[.int .i64 0, .slice none 0 0] (0, 0) _ rfl (by refine pk_ ?_; refine blk_put (cs := #[.int .i64 0, .slice none 0 0]) ?_ 1 _ rfl; refine pk_ ?_; refine blk_put (cs := #[.int .i64 0, .slice none 0 0]) ?_ 0 _ rfl; exact pk_ BK152.out) Try.underlying24 rfl (by kernel_rfl)) rfl ?_
             exact ⟨_, by first | rfl | (simp [errW_none, errW_some] <;> rfl) | (simp only [← hji25]; first | rfl | (simp [errW_none, errW_some] <;> rfl)) | (simp [*, errW_none, errW_some] <;> rfl), by first | exact Kd.R_nil _ _ _ _ _ | exact Kd.N_nil _ _ _ _ _ | exact Kd.V_nil _ _ _ _ _ | exact Kd.Q_nil _ _ _ _ _ | exact Kd.S_nil _ _ _ _ _, bk_ HB.out⟩
            ·rw [if_neg c145] at H
             have c145b0 : decide (2000 < (x156001_4.length : Int)) = false := decide_eq_false c145
             have c145b1 : decide (2000 < x156001_4.length) = false := decide_eq_false (by omega)
             clear c145
             simp only [Option.some.injEq, Prod.mk.injEq] at H
             obtain ⟨rfl, rfl, rfl⟩ := H
             have hnb154 := NB155_150.out
             have hnc154 := NB150_155.out
             have hnb155 := NB155_151.out
             have hnc155 := NB151_155.out
             have hnb156 := NB155_152.out
             have hnc156 := NB152_155.out
             have hcz157_0 : wr.cell? ⟨gb155, 0, none⟩ = some (.int .i64 ji25) := (blk_cell BK155.out 0).trans rfl
             have hcz157_1 : wr.cell? ⟨gb155, 1, none⟩ = some (u156001) := (blk_cell BK155.out 1).trans rfl
             have hfz157_0 := blk_frozen BK155.out 0
             have hfz157_1 := blk_frozen BK155.out 1
             obtain ⟨Ao158, co158, eo158⟩ := Kd.R_slice HO_156001.out
             subst eo158
             have hnb159 := NB152_150.out
             have hnc159 := NB150_152.out
             have hnb160 := NB152_151.out
             have hnc160 := NB151_152.out
             have hcz161_0 : wr.cell? ⟨gb152, 0, none⟩ = some (.int .i64 0) := (blk_cell BK152.out 0).trans rfl
             have hcz161_1 : wr.cell? ⟨gb152, 1, none⟩ = some (.slice none 0 0) := (blk_cell BK152.out 1).trans rfl
             have hfz161_0 := blk_frozen BK152.out 0
             have hfz161_1 := blk_frozen BK152.out 1
             go_wp2
             refine bodyPost_ret (results_ct rfl _ _ gb152 24 #[.int .i64 ji25, .slice Ao158 x156001_4.length co158] (0, 0) _ rfl (by refine pk_ ?_; refine blk_put (cs := #[.int .i64 ji25, .slice none 0 0]) ?_ 1 _ rfl; refine pk_ ?_; refine blk_put (cs := #[.int .i64 0, .slice none 0 0]) ?_ 0 _ rfl; exact pk_ BK152.out) Try.underlying24 rfl (by kernel_rfl)) rfl ?_
             exact ⟨_, by first | rfl | (simp [errW_none, errW_some] <;> rfl) | (simp only [← hji25]; first | rfl | (simp [errW_none, errW_some] <;> rfl)) | (simp [*, errW_none, errW_some] <;> rfl), by (with_reducible repeat (first | apply Kd.R_alloc | apply Kd.R_drewN | apply Kd.R_drew)); exact Kd.R_mono (Kd.R_far (p := ⟨gb152, 1, none⟩) (Kd.R_far (p := ⟨gb152, 0, none⟩) (Kd.R_types HO_156001.out BK152.out (by decide)) (fun _ hk => hk.2) (.int .i64 ji25)) (fun _ hk => hk.2) (.slice Ao158 x156001_4.length co158)) (fun _ hk => trivial), bk_ HB.out⟩

end Go.Proofs.Ytkekehpfkfadfaa.PCounterJoined
