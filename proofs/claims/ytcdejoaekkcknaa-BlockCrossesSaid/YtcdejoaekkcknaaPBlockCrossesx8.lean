-- out of a turned copy of the print, by a program of this session; Lean checks it
import Derived.Test.YtcdejoaekkcknaaPBlockCrossesx0
import Derived.Test.YtcdejoaekkcknaaPBlockCrossesx7
namespace Go.Proofs.Ytcdejoaekkcknaa.PBlockCrosses
open Go.RowKit Go.Proofs.YtcdejoaekkcknaaW.PrintWords Go.Proofs.YtcdejoaekkcknaaW.PrintLast Go.Proofs.YtcdejoaekkcknaaW.PrintMore
attribute [local go_sem] max2_int min2_int max_two min_two max_three min_three max_four min_four   -- for this text's walks alone
set_option linter.unusedVariables false
set_option linter.unusedSimpArgs false

attribute [local go_sem] isSome_put_
/-! ### standstillref05_Cross: function 13 -/
mutual
def standstillref05_Cross.l0 : Nat → Int → Int → List Int → List Int → Int → Int → Int → Int → List (List (S57)) → Option (Int × Int × Int × Int × List Int)
 | 0, _, _, _, _, _, _, _, _, _ => none
 | k + 1, x1, x2, x3, x9, x10, x11, x218000, x218001, x218002 => if x11 < (x3.length : Int) then (standstillref05_Cross.l0 k x1 x2 x3 x9 (wrap64 (x10 * x218001)) (wrap64 (x11 + 1)) x218000 x218001 x218002) else (if 0 ≤ x10 then (if (x10 : Int).toNat ≤ 281474976710656 then (standstillref05_Cross.l1 k x1 x2 x3 x9 (List.replicate (x10 : Int).toNat false) 0 x218000 x218001 x218002) else (none)) else (none))
def standstillref05_Cross.l1 : Nat → Int → Int → List Int → List Int → List Bool → Int → Int → Int → List (List (S57)) → Option (Int × Int × Int × Int × List Int)
 | 0, _, _, _, _, _, _, _, _, _ => none
 | k + 1, x1, x2, x3, x9, x12, x13, x218000, x218001, x218002 => if x1 = (-1) then (some (2, x1, x13, x2, x9)) else (if x2 < 0 then (some (0, x1, x13, x2, x9)) else (if x2 ≥ (x9.length : Int) then (some (1, x1, x13, x2, x9)) else ((standstillref05_Number.f k x9 x218001).bind fun t228 => (if 0 ≤ (wrap64 ((wrap64 ((wrap64 ((wrap64 (t228 * (x3.length : Int))) + x2)) * x218000)) + x1)) then (if (wrap64 ((wrap64 ((wrap64 ((wrap64 (t228 * (x3.length : Int))) + x2)) * x218000)) + x1)) < (x12.length : Int) then (if rdOf false x12 (wrap64 ((wrap64 ((wrap64 ((wrap64 (t228 * (x3.length : Int))) + x2)) * x218000)) + x1)) = true then (some (3, 0, 0, 0, ([] : List Int))) else (if 0 ≤ x1 then (if x1 < (x218002.length : Int) then (if 0 ≤ x2 then (if x2 < (x9.length : Int) then (if 0 ≤ (rd x9 x2) then (if (rd x9 x2) < ((rd_L2 x218002 x1).length : Int) then (standstillref05_Cross.l1 k ((rd_T57 (rd_L2 x218002 x1) (rd x9 x2)).f2) (wrap64 (x2 + ((rd_T57 (rd_L2 x218002 x1) (rd x9 x2)).f1))) x3 (x9.set (x2 : Int).toNat ((rd_T57 (rd_L2 x218002 x1) (rd x9 x2)).f0)) (x12.set ((wrap64 ((wrap64 ((wrap64 ((wrap64 (t228 * (x3.length : Int))) + x2)) * x218000)) + x1)) : Int).toNat true) (wrap64 (x13 + 1)) x218000 x218001 x218002) else (none)) else (none)) else (none)) else (none)) else (none)) else (none))) else (none)) else (none)))))
end
def standstillref05_Cross.f (k : Nat) (a0_0 : Int) (a0_1 : Int) (l0_2 : List (List (S57))) (a1 : Int) (a2 : Int) (l3 : List Int) : Option (Int × Int × Int × Int × List Int) := (some (([] : List Int) : List Int)).bind fun y219 => (if y219.length + l3.length < 17592186044416 then (standstillref05_Cross.l0 k a1 a2 l3 (y219 ++ l3) (wrap64 (a0_0 * (l3.length : Int))) 0 a0_0 a0_1 l0_2) else (none))
theorem standstillref05_Cross.mono_l : ∀ k, (∀ y0 y1 y2 y3 y4 y5 y6 y7 y8, LeO (standstillref05_Cross.l0 k y0 y1 y2 y3 y4 y5 y6 y7 y8) (standstillref05_Cross.l0 (k + 1) y0 y1 y2 y3 y4 y5 y6 y7 y8)) ∧ (∀ y0 y1 y2 y3 y4 y5 y6 y7 y8, LeO (standstillref05_Cross.l1 k y0 y1 y2 y3 y4 y5 y6 y7 y8) (standstillref05_Cross.l1 (k + 1) y0 y1 y2 y3 y4 y5 y6 y7 y8))
 | 0 => ⟨fun _ _ _ _ _ _ _ _ _ r h => by simp [standstillref05_Cross.l0] at h, fun _ _ _ _ _ _ _ _ _ r h => by simp [standstillref05_Cross.l1] at h⟩
 | k + 1 => by
  obtain ⟨ih0, ih1⟩ := standstillref05_Cross.mono_l k
  refine ⟨?_, ?_⟩
  ·intro y0 y1 y2 y3 y4 y5 y6 y7 y8
   unfold standstillref05_Cross.l0
   repeat' first
   | (with_reducible exact ih0 _ _ _ _ _ _ _ _ _)
   | (with_reducible exact ih1 _ _ _ _ _ _ _ _ _)
   | (with_reducible exact standstillref05_Number.mono _ _ _)
   | (with_reducible exact LeO.refl _)
   | (with_reducible exact LeO.none _)
   | (with_reducible refine LeO.ite ?_ ?_)
   | (with_reducible refine LeO.bind ?_ (fun _ => ?_))
   | exact ih0 _ _ _ _ _ _ _ _ _
   | exact ih1 _ _ _ _ _ _ _ _ _
   | exact standstillref05_Number.mono _ _ _
   | exact LeO.none _
   | refine LeO.ite ?_ ?_
   | refine LeO.bind ?_ (fun _ => ?_)
  ·intro y0 y1 y2 y3 y4 y5 y6 y7 y8
   unfold standstillref05_Cross.l1
   repeat' first
   | (with_reducible exact ih0 _ _ _ _ _ _ _ _ _)
   | (with_reducible exact ih1 _ _ _ _ _ _ _ _ _)
   | (with_reducible exact standstillref05_Number.mono _ _ _)
   | (with_reducible exact LeO.refl _)
   | (with_reducible exact LeO.none _)
   | (with_reducible refine LeO.ite ?_ ?_)
   | (with_reducible refine LeO.bind ?_ (fun _ => ?_))
   | exact ih0 _ _ _ _ _ _ _ _ _
   | exact ih1 _ _ _ _ _ _ _ _ _
   | exact standstillref05_Number.mono _ _ _
   | exact LeO.none _
   | refine LeO.ite ?_ ?_
   | refine LeO.bind ?_ (fun _ => ?_)
theorem standstillref05_Cross.mono : ∀ a0 a1 a2 a3 a4 a5 k, LeO (standstillref05_Cross.f k a0 a1 a2 a3 a4 a5) (standstillref05_Cross.f (k + 1) a0 a1 a2 a3 a4 a5) := by
 intro a0 a1 a2 a3 a4 a5 k
 obtain ⟨ih0, ih1⟩ := standstillref05_Cross.mono_l k
 unfold standstillref05_Cross.f
 repeat' first
   | (with_reducible exact ih0 _ _ _ _ _ _ _ _ _)
   | (with_reducible exact ih1 _ _ _ _ _ _ _ _ _)
   | (with_reducible exact standstillref05_Number.mono _ _ _)
   | (with_reducible exact LeO.refl _)
   | (with_reducible exact LeO.none _)
   | (with_reducible refine LeO.ite ?_ ?_)
   | (with_reducible refine LeO.bind ?_ (fun _ => ?_))
   | exact ih0 _ _ _ _ _ _ _ _ _
   | exact ih1 _ _ _ _ _ _ _ _ _
   | exact standstillref05_Number.mono _ _ _
   | exact LeO.none _
   | refine LeO.ite ?_ ?_
   | refine LeO.bind ?_ (fun _ => ?_)
def standstillref05_Cross.T16 : Bool × List (List Nat × List Nat) := (true, [([], []), ([], []), ([1], [1]), ([0, 2], [0, 2]), ([], []), ([4], [4]), ([3, 5], [3, 5]), ([], []), ([6, 7], [6, 7]), ([], []), ([9], [9]), ([8, 10], [8, 10]), ([], []), ([11, 12], [11, 12]), ([13, 3, 0, 1, 2, 3, 4, 5, 6, 7, 8, 9, 10, 11, 12, 13], [13])])
def standstillref05_Cross.B16 : List Nat := [0, 0, 2, 7, 0, 16, 63, 0, 255, 0, 512, 2047, 0, 8191, 16383]
theorem standstillref05_Cross.tab16 : rtab .any (opsOf Try.f13 16) = standstillref05_Cross.T16 := by kernel_rfl
theorem standstillref05_Cross.bits16 : waitsOk standstillref05_Cross.T16.2 standstillref05_Cross.B16 = true := by kernel_rfl
def standstillref05_Cross.T20 : Bool × List (List Nat × List Nat) := (true, [([], []), ([0], [0]), ([], []), ([1, 2], [1, 2]), ([3], [3]), ([], []), ([], []), ([5, 6], [5, 6]), ([7], [7]), ([4, 8], [4, 8]), ([9], [9]), ([], []), ([11, 10, 0, 1, 2, 3, 4, 5, 6, 7, 8, 9, 10, 11], [10, 11])])
def standstillref05_Cross.B20 : List Nat := [0, 1, 0, 7, 15, 0, 0, 96, 224, 511, 1023, 0, 4095]
theorem standstillref05_Cross.tab20 : rtab .any (opsOf Try.f13 20) = standstillref05_Cross.T20 := by kernel_rfl
theorem standstillref05_Cross.bits20 : waitsOk standstillref05_Cross.T20.2 standstillref05_Cross.B20 = true := by kernel_rfl
def standstillref05_Cross.T22 : Bool × List (List Nat × List Nat) := (true, [([], []), ([], []), ([1], [1]), ([0, 2], [0, 2]), ([], []), ([4], [4]), ([3, 0, 1, 2, 3], [0, 3]), ([5, 6, 0, 1, 2, 3, 4, 5, 6], [5])])
def standstillref05_Cross.B22 : List Nat := [0, 0, 2, 7, 0, 16, 15, 127]
theorem standstillref05_Cross.tab22 : rtab .any (opsOf Try.f13 22) = standstillref05_Cross.T22 := by kernel_rfl
theorem standstillref05_Cross.bits22 : waitsOk standstillref05_Cross.T22.2 standstillref05_Cross.B22 = true := by kernel_rfl
set_option maxHeartbeats 8000000 in
set_option maxRecDepth 100000 in
theorem standstillref05_Cross.calls (k : Nat) (a0_0 : Int) (a0_1 : Int) (A0_2 : Option Addr) (c0_2 : Nat) (l0_2 : List (List (S57))) (a1 : Int) (a2 : Int) (A3 : Option Addr) (c3 : Nat) (l3 : List Int) (r1 : Int) (r2 : Int) (r3 : Int) (r4 : Int) (r5 : List Int) (w : World) (hr0_2 : Kd.C (Kd.slice 57 k57) w A0_2 l0_2.length l0_2) (hc0_2 : l0_2.length ≤ c0_2) (hr3 : Kd.C (Kd.int .i64) w A3 l3.length l3) (hc3 : l3.length ≤ c3) (h : standstillref05_Cross.f k a0_0 a0_1 l0_2 a1 a2 l3 = some (r1, r2, r3, r4, r5)) :
  Calls Try.prog 13 #[.agg #[.int .i64 a0_0, .int .i64 a0_1, .slice A0_2 l0_2.length c0_2], .int .i64 a1, .int .i64 a2, .slice A3 l3.length c3] w fun e w' => ∃ v4_ : Value, e = .returned (.agg #[.int .i64 r1, .int .i64 r2, .int .i64 r3, .int .i64 r4, v4_]) ∧ Kd.R (Kd.int .i64) 3 w' w.heap.size (fun _ => True) v4_ r5 ∧ Below w.heap.size w w' := by
 have hu24 := Try.underlying24
 have hu29 := Try.underlying29
 have hu57 := Try.underlying57
 have HR0_2 := Aside0.mk hr0_2
 have HC0_2 := Aside0.mk hc0_2
 clear hr0_2 hc0_2
 have HR3 := Aside0.mk hr3
 have HC3 := Aside0.mk hc3
 clear hr3 hc3
 have HB := A_ (Below.refl w.heap.size w)
 have H : ((some (([] : List Int) : List Int)).bind fun y219 => (if y219.length + l3.length < 17592186044416 then (standstillref05_Cross.l0 k a1 a2 l3 (y219 ++ l3) (wrap64 (a0_0 * (l3.length : Int))) 0 a0_0 a0_1 l0_2) else (none))) = some (r1, r2, r3, r4, r5) := h
 clear h
 obtain ⟨y219, hy219⟩ : ∃ y_ : List Int, y_ = (([] : List Int)) := ⟨_, rfl⟩
 replace H : (if y219.length + l3.length < 17592186044416 then (standstillref05_Cross.l0 k a1 a2 l3 (y219 ++ l3) (wrap64 (a0_0 * (l3.length : Int))) 0 a0_0 a0_1 l0_2) else (none)) = some (r1, r2, r3, r4, r5) := by first | (rw [hy219]; with_reducible exact H) | (have H2_ := (Option.bind_some _ _).symm.trans H; rw [hy219]; with_reducible exact H2_) | (have H2_ := (Option.bind_some _ _).symm.trans H; with_reducible exact H2_) | with_reducible exact H | (rw [hy219]; exact H) | exact H
 have Ny219 := Aside0.mk hy219
 clear hy219
 by_cases c5 : y219.length + l3.length < 17592186044416
 ·rw [if_pos c5] at H
  have LMc5 := Aside0.mk c5
  clear c5
  obtain ⟨y222, hy222⟩ : ∃ y_ : List Int, y_ = (y219 ++ l3) := ⟨_, rfl⟩
  replace H : (standstillref05_Cross.l0 k a1 a2 l3 y222 (wrap64 (a0_0 * (l3.length : Int))) 0 a0_0 a0_1 l0_2) = some (r1, r2, r3, r4, r5) := by first | (rw [hy222]; with_reducible exact H) | (have H2_ := (Option.bind_some _ _).symm.trans H; rw [hy222]; with_reducible exact H2_) | (have H2_ := (Option.bind_some _ _).symm.trans H; with_reducible exact H2_) | with_reducible exact H | (rw [hy222]; exact H) | exact H
  have Ny222 := Aside0.mk hy222
  clear hy222
  have H' := Aside0.mk H
  clear H
  go_enter Try.func13, Try.ntmps13
  go_wp2_with (first | ((with_reducible refine gate_dst (N := 4) rfl ?_); refine box_event ?hg (N := 4) ?hd (cs := #[.int .i64 a0_0, .int .i64 a0_1, .slice A0_2 l0_2.length c0_2]) (t := 24) ?hr ?_; (case hd => rfl); (case hg => rfl); (case hr => first | (go_simp; done) | (go_simp; rfl)); intro gb217 hg w6 hbox hb; have n0_ := A_ (below_step (bk_ HB.out) hb); have n1_ := A_ (hbox); have n2_ := A_ ((by rw [hg]; exact (below_size (bk_ HB.out)) : w.heap.size ≤ gb217)); have n3_ := A_ ((by rw [hg]; exact (below_size (bk_ HB.out)) : w.heap.size ≤ gb217)); clear HB; have HB := n0_; have BK217 := n1_; have GW217 := n2_; have GE217 := n3_; clear n0_ n1_ n2_ n3_ hb hbox hg) | ((with_reducible refine gate_dst (N := 8) rfl ?_); refine box_event ?hg (N := 8) ?hd (cs := #[.int .i64 0, .int .i64 0, .int .i64 0, .int .i64 0, .slice none 0 0]) (t := 29) ?hr ?_; (case hd => rfl); (case hg => rfl); (case hr => first | (go_simp; done) | (go_simp; rfl)); intro gb218 hg w7 hbox hb; have n0_ := A_ (blk_below (pk_ BK217.out) hb); have n1_ := A_ (below_step (bk_ HB.out) hb); have n2_ := A_ (hbox); have n3_ := A_ ((by rw [hg]; exact (below_size (bk_ HB.out)) : w.heap.size ≤ gb218)); have n4_ := A_ ((by rw [hg]; exact (below_size (bk_ HB.out)) : w.heap.size ≤ gb218)); have n5_ := A_ ((by rw [hg]; exact Nat.ne_of_lt (blk_lt (pk_ BK217.out)) : gb217 ≠ gb218)); have n6_ := A_ ((by rw [hg]; exact Nat.ne_of_gt (blk_lt (pk_ BK217.out)) : gb218 ≠ gb217)); clear BK217 HB; have BK217 := n0_; have HB := n1_; have BK218 := n2_; have GW218 := n3_; have GE218 := n4_; have NB217_218 := n5_; have NB218_217 := n6_; clear n0_ n1_ n2_ n3_ n4_ n5_ n6_ hb hbox hg) | ((with_reducible refine gate_dst (N := 16) rfl ?_); refine Kd.R_lit (Kd.int .i64) _ 3 ?hg (N := 16) ?hd (xs := ([] : List Int)) (inner := []) (ok := fun _ => True) (okp := fun _ => True) ?hr ?hp (fun _ hk => hk) trivial (Below.refl _ _) (Nat.le_refl _) (by simp) ?_; (case hd => rfl); (case hg => rfl); (case hr => first | (go_simp; done) | (go_simp; rfl)); (case hp => exact (Reps.none _ _)); intro v220 w8 ho9 hb hg_ hnew_; clear hg_ hnew_; (first | rw [← Ny219.out] at ho9 | (simp only [Int.reduceToNat] at ho9; rw [← Ny219.out] at ho9)); have n0_ := A_ (Kd.R_lower ho9 (below_size (bk_ HB.out))); have n1_ := A_ (blk_below (pk_ BK217.out) hb); have n2_ := A_ (blk_below (pk_ BK218.out) hb); have n3_ := A_ (below_step (bk_ HB.out) hb); clear BK217 BK218 HB; have HO221 := n0_; have BK217 := n1_; have BK218 := n2_; have HB := n3_; clear n0_ n1_ n2_ n3_ hb ho9) | ((with_reducible refine gate_builtin (b := .append) (xs := #[.tmp 16, .tmp 17]) rfl ?_); at_builtin; refine Kd.R_append_rows (Kd.int .i64) (w0 := w) w.heap.size rfl (.tmp 16) (.tmp 17) 25 3 (.int .i64 0) 8 rfl Try.underlying25 info3 rfl (by decide) (by omega) v220 y219 l3 _ _ _ (fun _ => True) (fun _ => False) rfl rfl ?aO ?aR (fun _ _ h => h) (fun _ h => h.elim) ?aF ?aB ?aS ?aL ?_; (case aR => repeat (first | exact (Kd.C_below HR3.out HB.out) | (with_reducible refine Kd.C_alloc ?_ _) | (with_reducible refine Kd.C_drewN ?_ _) | (with_reducible refine Kd.C_drew ?_))); (case aB => exact (bk_ HB.out)); (case aF => exact (fun _ _ => trivial)); (case aO => exact (rk_ HO221.out)); (case aS => exact (below_size (bk_ HB.out))); (case aL => have := LMc5.out; omega); intro v223 w10 ho hb hg hat; rw [← Ny222.out] at ho; have n0_ := A_ (blk_grown (pk_ BK217.out) hg (Kd.R_ne HO221.out BK217.out (by decide))); have n1_ := A_ (blk_grown (pk_ BK218.out) hg (Kd.R_ne HO221.out BK218.out (by decide))); have n2_ := A_ (hb); have n3_ := A_ (ho); clear BK217 BK218 HB HO221; have BK217 := n0_; have BK218 := n1_; have HB := n2_; have HO224 := n3_; clear n0_ n1_ n2_ n3_ ho hb hg hat; have hnb11 := NB217_218.out; have hnc11 := NB218_217.out; have hcz12_0 : w10.cell? ⟨gb217, 0, none⟩ = some (.int .i64 a0_0) := (blk_cell BK217.out 0).trans rfl; have hcz12_1 : w10.cell? ⟨gb217, 1, none⟩ = some (.int .i64 a0_1) := (blk_cell BK217.out 1).trans rfl; have hcz12_2 : w10.cell? ⟨gb217, 2, none⟩ = some (.slice A0_2 l0_2.length c0_2) := (blk_cell BK217.out 2).trans rfl; have hfz12_0 := blk_frozen BK217.out 0; have hfz12_1 := blk_frozen BK217.out 1; have hfz12_2 := blk_frozen BK217.out 2))
  go_loopg [10, 11] k (fun kq v10 v11 w' => ∃ (x10_1 : Int) (x11_1 : Int), v10 = .int .i64 x10_1 ∧ v11 = .int .i64 x11_1 ∧ Aside0 (standstillref05_Cross.l0 kq a1 a2 l3 y222 x10_1 x11_1 a0_0 a0_1 l0_2 = some (r1, r2, r3, r4, r5)) ∧ Aside0 (kq ≤ k) ∧ Aside0 (Kd.R (Kd.int .i64) 3 w' w.heap.size (fun _ => True) v223 y222) ∧ Aside0 (w'.heap[gb217]? = some (.cells #[.int .i64 a0_0, .int .i64 a0_1, (.slice A0_2 l0_2.length c0_2)] 24 (0, 0))) ∧ Aside0 (w'.heap[gb218]? = some (.cells #[.int .i64 0, .int .i64 0, .int .i64 0, .int .i64 0, (.slice none 0 0)] 29 (0, 0))) ∧ Aside0 (Below w.heap.size w w'))
  case atStart => exact ⟨(wrap64 (a0_0 * (l3.length : Int))), (0), jr_, jr_, H', ⟨Nat.le_refl _⟩, ⟨rk_ HO224.out⟩, ⟨pk_ BK217.out⟩, ⟨pk_ BK218.out⟩, ⟨bk_ HB.out⟩⟩
  case round =>
   clear H'
   (try clear c3); (try clear c5); (try clear hcz12_0); (try clear hcz12_1); (try clear hcz12_2); (try clear hfz12_0); (try clear hfz12_1); (try clear hfz12_2)
   obtain ⟨x10_1, x11_1, rfl, rfl, HA, HK1, HO_9, BK217, BK218, HB⟩ := hrel
   cases gk with
   | zero => exact absurd HA.out (by simp [standstillref05_Cross.l0])
   | succ k1 =>
    have H := HA.out
    clear HA
    simp only [standstillref05_Cross.l0] at H
    by_cases c13 : x11_1 < (l3.length : Int)
    ·rw [if_pos c13] at H
     have c13b0 : decide (x11_1 < (l3.length : Int)) = true := decide_eq_true c13
     clear c13
     have H' := Aside0.mk H
     clear H
     have hnb14 := NB217_218.out
     have hnc14 := NB218_217.out
     have hcz15_0 : wr.cell? ⟨gb217, 0, none⟩ = some (.int .i64 a0_0) := (blk_cell BK217.out 0).trans rfl
     have hcz15_1 : wr.cell? ⟨gb217, 1, none⟩ = some (.int .i64 a0_1) := (blk_cell BK217.out 1).trans rfl
     have hcz15_2 : wr.cell? ⟨gb217, 2, none⟩ = some (.slice A0_2 l0_2.length c0_2) := (blk_cell BK217.out 2).trans rfl
     have hfz15_0 := blk_frozen BK217.out 0
     have hfz15_1 := blk_frozen BK217.out 1
     have hfz15_2 := blk_frozen BK217.out 2
     go_wp2
     go_roundg k1
     case measure => have := HK1.out; omega
     case rel => exact ⟨(wrap64 (x10_1 * a0_1)), (wrap64 (x11_1 + 1)), jr_, jr_, H', ⟨by have := HK1.out; omega⟩, ⟨rk_ HO_9.out⟩, ⟨pk_ BK217.out⟩, ⟨pk_ BK218.out⟩, ⟨bk_ HB.out⟩⟩
    ·rw [if_neg c13] at H
     have c13b0 : decide (x11_1 < (l3.length : Int)) = false := decide_eq_false c13
     clear c13
     by_cases c16 : 0 ≤ x10_1
     ·rw [if_pos c16] at H
      have c16b0 := eq_true c16
      have c16b1 : decide (0 ≤ x10_1) = true := decide_eq_true c16
      clear c16
      by_cases c17 : (x10_1 : Int).toNat ≤ 281474976710656
      ·rw [if_pos c17] at H
       have c17b0 := eq_true c17
       have c17b1 : decide ((x10_1 : Int).toNat ≤ 281474976710656) = true := decide_eq_true c17
       clear c17
       obtain ⟨y225, hy225⟩ : ∃ y_ : List Bool, y_ = (List.replicate (x10_1 : Int).toNat false) := ⟨_, rfl⟩
       replace H : (standstillref05_Cross.l1 k1 a1 a2 l3 y222 y225 0 a0_0 a0_1 l0_2) = some (r1, r2, r3, r4, r5) := by first | (rw [hy225]; with_reducible exact H) | (have H2_ := (Option.bind_some _ _).symm.trans H; rw [hy225]; with_reducible exact H2_) | (have H2_ := (Option.bind_some _ _).symm.trans H; with_reducible exact H2_) | with_reducible exact H | (rw [hy225]; exact H) | exact H
       have Ny225 := Aside0.mk hy225
       clear hy225
       have H' := Aside0.mk H
       clear H
       go_wp2_with (first | ((with_reducible refine gate_dst (N := 35) rfl ?_); refine Kd.R_make Kd.bool _ 4 rfl (N := 35) rfl 58 _ _ rfl x10_1 rfl rfl Try.underlying58 (.bool false) 1 info4 rfl (by decide) (by omega) false (ok := fun _ => True) (okp := fun _ => True) rfl (fun _ hk => hk) trivial (od_) (Nat.le_trans (Nat.mul_le_mul_right _ (od_ : x10_1.toNat ≤ 281474976710656)) (by omega)) (Below.refl _ _) (Nat.le_refl _) ?_; intro v226 w18 ho19 hb hg_ hnew_; clear hg_ hnew_; (first | rw [← Ny225.out] at ho19 | (simp only [Int.reduceToNat] at ho19; rw [← Ny225.out] at ho19)); have n0_ := A_ (Kd.R_below (rk_ HO_9.out) hb); have n1_ := A_ (Kd.R_lower ho19 (below_size (bk_ HB.out))); have n2_ := A_ (blk_below (pk_ BK217.out) hb); have n3_ := A_ (blk_below (pk_ BK218.out) hb); have n4_ := A_ (below_step (bk_ HB.out) hb); clear HO_9 BK217 BK218 HB; have HO_9 := n0_; have HO227 := n1_; have BK217 := n2_; have BK218 := n3_; have HB := n4_; clear n0_ n1_ n2_ n3_ n4_ hb ho19))
       go_loopg [1, 2, 13] k1 (fun kq v1 v2 v13 w' => ∃ (x1_2 : Int) (x2_2 : Int) (x9_2 : List Int) (x12_2 : List Bool) (x13_2 : Int) (x219000_2 : Int) (x219001_2 : Int) (x219002_2 : Int) (x219003_2 : Int), v1 = .int .i64 x1_2 ∧ v2 = .int .i64 x2_2 ∧ v13 = .int .i64 x13_2 ∧ Aside0 (standstillref05_Cross.l1 kq x1_2 x2_2 l3 x9_2 x12_2 x13_2 a0_0 a0_1 l0_2 = some (r1, r2, r3, r4, r5)) ∧ Aside0 (kq ≤ k1) ∧ Aside0 (Kd.R (Kd.int .i64) 3 w' w.heap.size (fun _ => True) v223 x9_2) ∧ Aside0 (Kd.R Kd.bool 4 w' w.heap.size (fun _ => True) v226 x12_2) ∧ Aside0 (w'.heap[gb217]? = some (.cells #[.int .i64 a0_0, .int .i64 a0_1, (.slice A0_2 l0_2.length c0_2)] 24 (0, 0))) ∧ Aside0 (w'.heap[gb218]? = some (.cells #[.int .i64 x219000_2, .int .i64 x219001_2, .int .i64 x219002_2, .int .i64 x219003_2, (.slice none 0 0)] 29 (0, 0))) ∧ Aside0 (Below w.heap.size w w'))
       case atStart => exact ⟨(a1), (a2), (y222), (y225), (0), (0), (0), (0), (0), jr_, jr_, jr_, H', ⟨Nat.le_refl _⟩, ⟨rk_ HO_9.out⟩, ⟨rk_ HO227.out⟩, ⟨pk_ BK217.out⟩, ⟨pk_ BK218.out⟩, ⟨bk_ HB.out⟩⟩
       case round =>
        clear H'
        (try clear c3); (try clear c5); (try clear c13); (try clear c13b0); (try clear c16); (try clear c16b0); (try clear c16b1); (try clear c17); (try clear c17b0); (try clear c17b1); (try clear hcz12_0); (try clear hcz12_1); (try clear hcz12_2); (try clear hfz12_0); (try clear hfz12_1); (try clear hfz12_2)
        obtain ⟨x1_2, x2_2, x9_2, x12_2, x13_2, x219000_2, x219001_2, x219002_2, x219003_2, rfl, rfl, rfl, HA, HK2, HO_9, HO_12, BK217, BK218, HB⟩ := hrel
        cases gk with
        | zero => exact absurd HA.out (by simp [standstillref05_Cross.l1])
        | succ k2 =>
         have H := HA.out
         clear HA
         simp only [standstillref05_Cross.l1] at H
         by_cases c20 : x1_2 = (-1)
         ·rw [if_pos c20] at H
          have c20b0 : (x1_2 == (-1)) = true := beq_iff_eq.mpr c20
          have c20b1 : (x1_2 != (-1)) = false := bne_eq_false_iff_eq.mpr c20
          clear c20
          simp only [Option.some.injEq, Prod.mk.injEq] at H
          obtain ⟨rfl, rfl, rfl, rfl, rfl⟩ := H
          obtain ⟨Ao21, co21, eo21⟩ := Kd.R_slice HO_9.out
          subst eo21
          have hnb22 := NB218_217.out
          have hnc22 := NB217_218.out
          have hcz23_0 : wr.cell? ⟨gb218, 0, none⟩ = some (.int .i64 x219000_2) := (blk_cell BK218.out 0).trans rfl
          have hcz23_1 : wr.cell? ⟨gb218, 1, none⟩ = some (.int .i64 x219001_2) := (blk_cell BK218.out 1).trans rfl
          have hcz23_2 : wr.cell? ⟨gb218, 2, none⟩ = some (.int .i64 x219002_2) := (blk_cell BK218.out 2).trans rfl
          have hcz23_3 : wr.cell? ⟨gb218, 3, none⟩ = some (.int .i64 x219003_2) := (blk_cell BK218.out 3).trans rfl
          have hcz23_4 : wr.cell? ⟨gb218, 4, none⟩ = some (.slice none 0 0) := (blk_cell BK218.out 4).trans rfl
          have hfz23_0 := blk_frozen BK218.out 0
          have hfz23_1 := blk_frozen BK218.out 1
          have hfz23_2 := blk_frozen BK218.out 2
          have hfz23_3 := blk_frozen BK218.out 3
          have hfz23_4 := blk_frozen BK218.out 4
          go_wp2
          refine bodyPost_ret (results_cell_row rfl _ _ gb218 29 #[.int .i64 2, .int .i64 x1_2, .int .i64 x13_2, .int .i64 x2_2, .slice Ao21 x9_2.length co21] (0, 0) _ rfl (by refine pk_ ?_; refine blk_put (cs := #[.int .i64 2, .int .i64 x1_2, .int .i64 x13_2, .int .i64 x2_2, .slice none 0 0]) ?_ 4 _ rfl; refine pk_ ?_; refine blk_put (cs := #[.int .i64 2, .int .i64 x1_2, .int .i64 x13_2, .int .i64 x219003_2, .slice none 0 0]) ?_ 3 _ rfl; refine pk_ ?_; refine blk_put (cs := #[.int .i64 2, .int .i64 x1_2, .int .i64 x219002_2, .int .i64 x219003_2, .slice none 0 0]) ?_ 2 _ rfl; refine pk_ ?_; refine blk_put (cs := #[.int .i64 2, .int .i64 x219001_2, .int .i64 x219002_2, .int .i64 x219003_2, .slice none 0 0]) ?_ 1 _ rfl; refine pk_ ?_; refine blk_put (cs := #[.int .i64 x219000_2, .int .i64 x219001_2, .int .i64 x219002_2, .int .i64 x219003_2, .slice none 0 0]) ?_ 0 _ rfl; exact pk_ BK218.out) Try.underlying29 rfl (by kernel_rfl)) rfl ?_
          exact ⟨_, er_, by (with_reducible repeat (first | apply Kd.R_alloc | apply Kd.R_drewN | apply Kd.R_drew)); exact Kd.R_mono (Kd.R_far (p := ⟨gb218, 4, none⟩) (Kd.R_far (p := ⟨gb218, 3, none⟩) (Kd.R_far (p := ⟨gb218, 2, none⟩) (Kd.R_far (p := ⟨gb218, 1, none⟩) (Kd.R_far (p := ⟨gb218, 0, none⟩) (Kd.R_types HO_9.out BK218.out (by decide)) (fun _ hk => hk.2) (.int .i64 2)) (fun _ hk => hk.2) (.int .i64 x1_2)) (fun _ hk => hk.2) (.int .i64 x13_2)) (fun _ hk => hk.2) (.int .i64 x2_2)) (fun _ hk => hk.2) (.slice Ao21 x9_2.length co21)) (fun _ hk => trivial), bk_ HB.out⟩
         ·rw [if_neg c20] at H
          have c20b0 : (x1_2 == (-1)) = false := beq_eq_false_iff_ne.mpr c20
          have c20b1 : (x1_2 != (-1)) = true := bne_iff_ne.mpr c20
          by_cases c24 : x2_2 < 0
          ·rw [if_pos c24] at H
           have c24b0 : decide (x2_2 < 0) = true := decide_eq_true c24
           clear c24
           simp only [Option.some.injEq, Prod.mk.injEq] at H
           obtain ⟨rfl, rfl, rfl, rfl, rfl⟩ := H
           obtain ⟨Ao25, co25, eo25⟩ := Kd.R_slice HO_9.out
           subst eo25
           have hnb26 := NB218_217.out
           have hnc26 := NB217_218.out
           have hcz27_0 : wr.cell? ⟨gb218, 0, none⟩ = some (.int .i64 x219000_2) := (blk_cell BK218.out 0).trans rfl
           have hcz27_1 : wr.cell? ⟨gb218, 1, none⟩ = some (.int .i64 x219001_2) := (blk_cell BK218.out 1).trans rfl
           have hcz27_2 : wr.cell? ⟨gb218, 2, none⟩ = some (.int .i64 x219002_2) := (blk_cell BK218.out 2).trans rfl
           have hcz27_3 : wr.cell? ⟨gb218, 3, none⟩ = some (.int .i64 x219003_2) := (blk_cell BK218.out 3).trans rfl
           have hcz27_4 : wr.cell? ⟨gb218, 4, none⟩ = some (.slice none 0 0) := (blk_cell BK218.out 4).trans rfl
           have hfz27_0 := blk_frozen BK218.out 0
           have hfz27_1 := blk_frozen BK218.out 1
           have hfz27_2 := blk_frozen BK218.out 2
           have hfz27_3 := blk_frozen BK218.out 3
           have hfz27_4 := blk_frozen BK218.out 4
           go_wp2
           refine bodyPost_ret (results_cell_row rfl _ _ gb218 29 #[.int .i64 0, .int .i64 x1_2, .int .i64 x13_2, .int .i64 x2_2, .slice Ao25 x9_2.length co25] (0, 0) _ rfl (by refine pk_ ?_; refine blk_put (cs := #[.int .i64 0, .int .i64 x1_2, .int .i64 x13_2, .int .i64 x2_2, .slice none 0 0]) ?_ 4 _ rfl; refine pk_ ?_; refine blk_put (cs := #[.int .i64 0, .int .i64 x1_2, .int .i64 x13_2, .int .i64 x219003_2, .slice none 0 0]) ?_ 3 _ rfl; refine pk_ ?_; refine blk_put (cs := #[.int .i64 0, .int .i64 x1_2, .int .i64 x219002_2, .int .i64 x219003_2, .slice none 0 0]) ?_ 2 _ rfl; refine pk_ ?_; refine blk_put (cs := #[.int .i64 0, .int .i64 x219001_2, .int .i64 x219002_2, .int .i64 x219003_2, .slice none 0 0]) ?_ 1 _ rfl; refine pk_ ?_; refine blk_put (cs := #[.int .i64 x219000_2, .int .i64 x219001_2, .int .i64 x219002_2, .int .i64 x219003_2, .slice none 0 0]) ?_ 0 _ rfl; exact pk_ BK218.out) Try.underlying29 rfl (by kernel_rfl)) rfl ?_
           exact ⟨_, er_, by (with_reducible repeat (first | apply Kd.R_alloc | apply Kd.R_drewN | apply Kd.R_drew)); exact Kd.R_mono (Kd.R_far (p := ⟨gb218, 4, none⟩) (Kd.R_far (p := ⟨gb218, 3, none⟩) (Kd.R_far (p := ⟨gb218, 2, none⟩) (Kd.R_far (p := ⟨gb218, 1, none⟩) (Kd.R_far (p := ⟨gb218, 0, none⟩) (Kd.R_types HO_9.out BK218.out (by decide)) (fun _ hk => hk.2) (.int .i64 0)) (fun _ hk => hk.2) (.int .i64 x1_2)) (fun _ hk => hk.2) (.int .i64 x13_2)) (fun _ hk => hk.2) (.int .i64 x2_2)) (fun _ hk => hk.2) (.slice Ao25 x9_2.length co25)) (fun _ hk => trivial), bk_ HB.out⟩
          ·rw [if_neg c24] at H
           have c24b0 : decide (x2_2 < 0) = false := decide_eq_false c24
           clear c24
           by_cases c28 : x2_2 ≥ (x9_2.length : Int)
           ·rw [if_pos c28] at H
            have c28b0 : decide ((x9_2.length : Int) ≤ x2_2) = true := decide_eq_true c28
            clear c28
            simp only [Option.some.injEq, Prod.mk.injEq] at H
            obtain ⟨rfl, rfl, rfl, rfl, rfl⟩ := H
            obtain ⟨Ao29, co29, eo29⟩ := Kd.R_slice HO_9.out
            subst eo29
            have hnb30 := NB218_217.out
            have hnc30 := NB217_218.out
            have hcz31_0 : wr.cell? ⟨gb218, 0, none⟩ = some (.int .i64 x219000_2) := (blk_cell BK218.out 0).trans rfl
            have hcz31_1 : wr.cell? ⟨gb218, 1, none⟩ = some (.int .i64 x219001_2) := (blk_cell BK218.out 1).trans rfl
            have hcz31_2 : wr.cell? ⟨gb218, 2, none⟩ = some (.int .i64 x219002_2) := (blk_cell BK218.out 2).trans rfl
            have hcz31_3 : wr.cell? ⟨gb218, 3, none⟩ = some (.int .i64 x219003_2) := (blk_cell BK218.out 3).trans rfl
            have hcz31_4 : wr.cell? ⟨gb218, 4, none⟩ = some (.slice none 0 0) := (blk_cell BK218.out 4).trans rfl
            have hfz31_0 := blk_frozen BK218.out 0
            have hfz31_1 := blk_frozen BK218.out 1
            have hfz31_2 := blk_frozen BK218.out 2
            have hfz31_3 := blk_frozen BK218.out 3
            have hfz31_4 := blk_frozen BK218.out 4
            go_wp2
            refine bodyPost_ret (results_cell_row rfl _ _ gb218 29 #[.int .i64 1, .int .i64 x1_2, .int .i64 x13_2, .int .i64 x2_2, .slice Ao29 x9_2.length co29] (0, 0) _ rfl (by refine pk_ ?_; refine blk_put (cs := #[.int .i64 1, .int .i64 x1_2, .int .i64 x13_2, .int .i64 x2_2, .slice none 0 0]) ?_ 4 _ rfl; refine pk_ ?_; refine blk_put (cs := #[.int .i64 1, .int .i64 x1_2, .int .i64 x13_2, .int .i64 x219003_2, .slice none 0 0]) ?_ 3 _ rfl; refine pk_ ?_; refine blk_put (cs := #[.int .i64 1, .int .i64 x1_2, .int .i64 x219002_2, .int .i64 x219003_2, .slice none 0 0]) ?_ 2 _ rfl; refine pk_ ?_; refine blk_put (cs := #[.int .i64 1, .int .i64 x219001_2, .int .i64 x219002_2, .int .i64 x219003_2, .slice none 0 0]) ?_ 1 _ rfl; refine pk_ ?_; refine blk_put (cs := #[.int .i64 x219000_2, .int .i64 x219001_2, .int .i64 x219002_2, .int .i64 x219003_2, .slice none 0 0]) ?_ 0 _ rfl; exact pk_ BK218.out) Try.underlying29 rfl (by kernel_rfl)) rfl ?_
            exact ⟨_, er_, by (with_reducible repeat (first | apply Kd.R_alloc | apply Kd.R_drewN | apply Kd.R_drew)); exact Kd.R_mono (Kd.R_far (p := ⟨gb218, 4, none⟩) (Kd.R_far (p := ⟨gb218, 3, none⟩) (Kd.R_far (p := ⟨gb218, 2, none⟩) (Kd.R_far (p := ⟨gb218, 1, none⟩) (Kd.R_far (p := ⟨gb218, 0, none⟩) (Kd.R_types HO_9.out BK218.out (by decide)) (fun _ hk => hk.2) (.int .i64 1)) (fun _ hk => hk.2) (.int .i64 x1_2)) (fun _ hk => hk.2) (.int .i64 x13_2)) (fun _ hk => hk.2) (.int .i64 x2_2)) (fun _ hk => hk.2) (.slice Ao29 x9_2.length co29)) (fun _ hk => trivial), bk_ HB.out⟩
           ·rw [if_neg c28] at H
            have c28b0 : decide ((x9_2.length : Int) ≤ x2_2) = false := decide_eq_false c28
            clear c28
            replace H := Option.bind_eq_some_iff.mp H
            obtain ⟨t228, A320, H⟩ := H
            replace H : (if 0 ≤ (wrap64 ((wrap64 ((wrap64 ((wrap64 (t228 * (l3.length : Int))) + x2_2)) * a0_0)) + x1_2)) then (if (wrap64 ((wrap64 ((wrap64 ((wrap64 (t228 * (l3.length : Int))) + x2_2)) * a0_0)) + x1_2)) < (x12_2.length : Int) then (if rdOf false x12_2 (wrap64 ((wrap64 ((wrap64 ((wrap64 (t228 * (l3.length : Int))) + x2_2)) * a0_0)) + x1_2)) = true then (some (3, 0, 0, 0, ([] : List Int))) else (if 0 ≤ x1_2 then (if x1_2 < (l0_2.length : Int) then (if 0 ≤ x2_2 then (if x2_2 < (x9_2.length : Int) then (if 0 ≤ (rd x9_2 x2_2) then (if (rd x9_2 x2_2) < ((rd_L2 l0_2 x1_2).length : Int) then (standstillref05_Cross.l1 k2 ((rd_T57 (rd_L2 l0_2 x1_2) (rd x9_2 x2_2)).f2) (wrap64 (x2_2 + ((rd_T57 (rd_L2 l0_2 x1_2) (rd x9_2 x2_2)).f1))) l3 (x9_2.set (x2_2 : Int).toNat ((rd_T57 (rd_L2 l0_2 x1_2) (rd x9_2 x2_2)).f0)) (x12_2.set ((wrap64 ((wrap64 ((wrap64 ((wrap64 (t228 * (l3.length : Int))) + x2_2)) * a0_0)) + x1_2)) : Int).toNat true) (wrap64 (x13_2 + 1)) a0_0 a0_1 l0_2) else (none)) else (none)) else (none)) else (none)) else (none)) else (none))) else (none)) else (none)) = some (r1, r2, r3, r4, r5) := H
            have A32 := Aside0.mk A320
            clear A320
            obtain ⟨ji33, hji33⟩ : ∃ j_ : Int, (wrap64 ((wrap64 ((wrap64 ((wrap64 (t228 * (l3.length : Int))) + x2_2)) * a0_0)) + x1_2)) = j_ := ⟨_, rfl⟩
            replace H : (if 0 ≤ (ji33) then (if (ji33) < (x12_2.length : Int) then (if rdOf false x12_2 (ji33) = true then (some (3, 0, 0, 0, ([] : List Int))) else (if 0 ≤ x1_2 then (if x1_2 < (l0_2.length : Int) then (if 0 ≤ x2_2 then (if x2_2 < (x9_2.length : Int) then (if 0 ≤ (rd x9_2 x2_2) then (if (rd x9_2 x2_2) < ((rd_L2 l0_2 x1_2).length : Int) then (standstillref05_Cross.l1 k2 ((rd_T57 (rd_L2 l0_2 x1_2) (rd x9_2 x2_2)).f2) (wrap64 (x2_2 + ((rd_T57 (rd_L2 l0_2 x1_2) (rd x9_2 x2_2)).f1))) l3 (x9_2.set (x2_2 : Int).toNat ((rd_T57 (rd_L2 l0_2 x1_2) (rd x9_2 x2_2)).f0)) (x12_2.set ((ji33) : Int).toNat true) (wrap64 (x13_2 + 1)) a0_0 a0_1 l0_2) else (none)) else (none)) else (none)) else (none)) else (none)) else (none))) else (none)) else (none)) = some (r1, r2, r3, r4, r5) := by first | (rw [hji33] at H; exact H) | (simp only [hji33] at H ⊢; exact H)
            (try rw [hji33] at A32)
            have hji33w : (IntKind.i64.wrap ((wrap64 ((wrap64 ((wrap64 (t228 * (l3.length : Int))) + x2_2)) * a0_0)) + x1_2)) = ji33 := (i64_w _).trans hji33
            by_cases c34 : 0 ≤ (ji33)
            ·rw [if_pos c34] at H
             have c34b0 : decide (0 ≤ (ji33)) = true := decide_eq_true c34
             clear c34
             by_cases c35 : (ji33) < (x12_2.length : Int)
             ·rw [if_pos c35] at H
              have c35b0 : decide ((ji33) < (x12_2.length : Int)) = true := decide_eq_true c35
              clear c35
              obtain ⟨bq36, hbq36⟩ : ∃ b_ : Bool, b_ = (rdOf false x12_2 (ji33)) := ⟨_, rfl⟩
              replace H : (if bq36 = true then (some (3, 0, 0, 0, ([] : List Int))) else (if 0 ≤ x1_2 then (if x1_2 < (l0_2.length : Int) then (if 0 ≤ x2_2 then (if x2_2 < (x9_2.length : Int) then (if 0 ≤ (rd x9_2 x2_2) then (if (rd x9_2 x2_2) < ((rd_L2 l0_2 x1_2).length : Int) then (standstillref05_Cross.l1 k2 ((rd_T57 (rd_L2 l0_2 x1_2) (rd x9_2 x2_2)).f2) (wrap64 (x2_2 + ((rd_T57 (rd_L2 l0_2 x1_2) (rd x9_2 x2_2)).f1))) l3 (x9_2.set (x2_2 : Int).toNat ((rd_T57 (rd_L2 l0_2 x1_2) (rd x9_2 x2_2)).f0)) (x12_2.set ((ji33) : Int).toNat true) (wrap64 (x13_2 + 1)) a0_0 a0_1 l0_2) else (none)) else (none)) else (none)) else (none)) else (none)) else (none))) = some (r1, r2, r3, r4, r5) := by rw [← hbq36] at H; exact H
              have Nbq36 := Aside0.mk hbq36
              clear hbq36
              by_cases c37 : bq36 = true
              ·subst c37
               have H1 : (some (3, 0, 0, 0, ([] : List Int))) = some (r1, r2, r3, r4, r5) := by rw [if_pos rfl] at H; exact H
               clear H
               have H := H1
               clear H1
               simp only [Option.some.injEq, Prod.mk.injEq] at H
               obtain ⟨rfl, rfl, rfl, rfl, rfl⟩ := H
               obtain ⟨Ao38, co38, eo38⟩ := Kd.R_slice HO_9.out
               subst eo38
               try go_wp2
               have n0_ := A_ (Kd.R_drew HO_9.out)
               have n1_ := A_ (Kd.R_drew HO_12.out)
               have n2_ := A_ (blk_drew BK217.out)
               have n3_ := A_ (blk_drew BK218.out)
               have n4_ := A_ (below_drew1 HB.out)
               clear HO_9 HO_12 BK217 BK218 HB
               have HO_9 := n0_
               have HO_12 := n1_
               have BK217 := n2_
               have BK218 := n3_
               have HB := n4_
               clear n0_ n1_ n2_ n3_ n4_
               refine start_ (n := 15) (S := fun w' => w'.cell? ⟨gb217, 0, none⟩ = some (.int .i64 a0_0) ∧ w'.cell? ⟨gb217, 1, none⟩ = some (.int .i64 a0_1) ∧ w'.cell? ⟨gb217, 2, none⟩ = some (.slice A0_2 l0_2.length c0_2)) (ds := []) #[false, false, false, false, false, false, false, false, false, false, false, false, false, false, false] (by kernel_rfl) rfl rfl ⟨(blk_cell BK217.out 0).trans rfl, (blk_cell BK217.out 1).trans rfl, (blk_cell BK217.out 2).trans rfl⟩ (fun hHeld => ?_); refine with_tabW standstillref05_Cross.tab16 standstillref05_Cross.bits16 (fun HT_ HW_ => ?_)
               generalize wr.drew = w39 at HO_9 HO_12 BK217 BK218 HB hHeld ⊢
               refine pure_ (i := 0) (N := some 61) (v := ?_) (a' := ?_) #[true, false, false, false, false, false, false, false, false, false, false, false, false, false, false] rfl rfl (any_of HT_.out (by kernel_rfl)) (fun _ _ _ h => h) (Or.inl ⟨by rfl, ?_⟩) ?_ ?_
               rotate_left
               ·intro w'
                go_simp
                with_reducible rfl
               rotate_left
               ·simp only [Act.put, sa_, sz_, ss_, i64_w, i32_w]
                rfl
               refine pure_ (i := 1) (N := some 62) (v := ?_) (a' := ?_) #[true, true, false, false, false, false, false, false, false, false, false, false, false, false, false] rfl rfl (any_of HT_.out (by kernel_rfl)) (fun _ _ _ h => h) (Or.inl ⟨by rfl, ?_⟩) ?_ ?_
               rotate_left
               ·intro w'
                go_simp
                with_reducible rfl
               rotate_left
               ·simp only [Act.put, sa_, sz_, ss_, i64_w, i32_w]
                rfl
               refine pure_ (i := 4) (N := some 65) (v := ?_) (a' := ?_) #[true, true, false, false, true, false, false, false, false, false, false, false, false, false, false] rfl rfl (any_of HT_.out (by kernel_rfl)) (fun _ _ _ h => h) (Or.inl ⟨by rfl, ?_⟩) ?_ ?_
               rotate_left
               ·intro w'
                go_simp
                with_reducible rfl
               rotate_left
               ·simp only [Act.put, sa_, sz_, ss_, i64_w, i32_w]
                rfl
               refine pure_ (i := 5) (N := some 66) (v := ?_) (a' := ?_) #[true, true, false, false, true, true, false, false, false, false, false, false, false, false, false] rfl rfl (any_of HT_.out (by kernel_rfl)) (fun _ _ _ h => h) (Or.inl ⟨by rfl, ?_⟩) ?_ ?_
               rotate_left
               ·intro w'
                go_simp
                with_reducible rfl
               rotate_left
               ·simp only [Act.put, sa_, sz_, ss_, i64_w, i32_w]
                rfl
               refine pure_ (i := 7) (N := some 68) (v := ?_) (a' := ?_) #[true, true, false, false, true, true, false, true, false, false, false, false, false, false, false] rfl rfl (any_of HT_.out (by kernel_rfl)) (fun _ _ _ h => h) (Or.inl ⟨by rfl, ?_⟩) ?_ ?_
               rotate_left
               ·intro w'
                go_simp
                with_reducible rfl
               rotate_left
               ·simp only [Act.put, sa_, sz_, ss_, i64_w, i32_w]
                rfl
               refine pure_ (i := 9) (N := some 70) (v := ?_) (a' := ?_) #[true, true, false, false, true, true, false, true, false, true, false, false, false, false, false] rfl rfl (any_of HT_.out (by kernel_rfl)) (fun _ _ _ h => h) (Or.inl ⟨by rfl, ?_⟩) ?_ ?_
               rotate_left
               ·intro w'
                go_simp
                with_reducible rfl
               rotate_left
               ·simp only [Act.put, sa_, sz_, ss_, i64_w, i32_w]
                rfl
               refine pure_ (i := 12) (N := some 73) (v := ?_) (a' := ?_) #[true, true, false, false, true, true, false, true, false, true, false, false, true, false, false] rfl rfl (any_of HT_.out (by kernel_rfl)) (fun _ _ _ h => h) (Or.inl ⟨by rfl, ?_⟩) ?_ ?_
               rotate_left
               ·intro w'
                go_simp
                with_reducible rfl
               rotate_left
               ·simp only [Act.put, sa_, sz_, ss_, i64_w, i32_w]
                rfl
               refine take_ (i := 2) (N := some 63) (v := ?_) (a' := ?_) #[true, true, true, false, true, true, false, true, false, true, false, false, true, false, false] rfl rfl (take_ofW HT_.out HW_.out (by kernel_rfl)) (fun _ _ _ h => h) (Or.inl ⟨by rfl, ?_⟩) hHeld ?_ ?_
               rotate_left
               ·rintro w' ⟨s0, s1, s2⟩
                go_simp
                with_reducible rfl
               rotate_left
               ·simp only [Act.put, sa_, sz_, ss_, i64_w, i32_w]
                rfl
               refine take_ (i := 10) (N := some 71) (v := ?_) (a' := ?_) #[true, true, true, false, true, true, false, true, false, true, true, false, true, false, false] rfl rfl (take_ofW HT_.out HW_.out (by kernel_rfl)) (fun _ _ _ h => h) (Or.inl ⟨by rfl, ?_⟩) hHeld ?_ ?_
               rotate_left
               ·rintro w' ⟨s0, s1, s2⟩
                go_simp
                with_reducible rfl
               rotate_left
               ·simp only [Act.put, sa_, sz_, ss_, i64_w, i32_w]
                rfl
               refine one_ (i := 3) (N := some 64) #[true, true, true, true, true, true, false, true, false, true, true, false, true, false, false] rfl rfl (one_of HT_.out (by kernel_rfl)) (by decide) (fun K hK => ?_)
               refine goes_ Try.func25 (by kernel_rfl) rfl #[.slice Ao38 x9_2.length co38, .int .i64 a0_1] (by rfl) rfl rfl gl_ ?_
               with_reducible refine (standstillref05_Number.calls k2 _ _ x9_2 a0_1 t228 _ ?side1 ?side2 A32.out).mono ?_
               (case side1 => repeat (first | exact (Kd.R_reads' HO_9.out).2.2 | (with_reducible refine Kd.C_alloc ?_ _) | (with_reducible refine Kd.C_drewN ?_ _) | (with_reducible refine Kd.C_drew ?_)))
               (case side2 => exact (Kd.R_reads' HO_9.out).2.1)
               rintro e w' ⟨rfl, ⟨nd, rfl⟩⟩
               refine ⟨_, rfl, ?_⟩
               refine hK.out _ _ ⟨(blk_cell BK217.out 0).trans rfl, (blk_cell BK217.out 1).trans rfl, (blk_cell BK217.out 2).trans rfl⟩ (fun hHeld => ?_)
               clear hK K
               refine norm_ (a' := ?_) ?_ ?_
               rotate_left
               ·show Act.put _ (some 64) _ = _
                simp only [Act.put, sa_, sz_, ss_, i64_w, i32_w]
                rfl
               refine pure_ (i := 6) (N := some 67) (v := ?_) (a' := ?_) #[true, true, true, true, true, true, true, true, false, true, true, false, true, false, false] rfl rfl (any_of HT_.out (by kernel_rfl)) (fun _ _ _ h => h) (Or.inl ⟨by rfl, ?_⟩) ?_ ?_
               rotate_left
               ·intro w'
                go_simp
                with_reducible rfl
               rotate_left
               ·simp only [Act.put, sa_, sz_, ss_, i64_w, i32_w]
                rfl
               refine pure_ (i := 8) (N := some 69) (v := ?_) (a' := ?_) #[true, true, true, true, true, true, true, true, true, true, true, false, true, false, false] rfl rfl (any_of HT_.out (by kernel_rfl)) (fun _ _ _ h => h) (Or.inl ⟨by rfl, ?_⟩) ?_ ?_
               rotate_left
               ·intro w'
                go_simp
                with_reducible rfl
               rotate_left
               ·simp only [Act.put, sa_, sz_, ss_, i64_w, i32_w]
                rfl
               refine pure_ (i := 11) (N := some 72) (v := ?_) (a' := ?_) #[true, true, true, true, true, true, true, true, true, true, true, true, true, false, false] rfl rfl (any_of HT_.out (by kernel_rfl)) (fun _ _ _ h => h) (Or.inl ⟨by rfl, ?_⟩) ?_ ?_
               rotate_left
               ·intro w'
                go_simp
                with_reducible rfl
               rotate_left
               ·simp only [Act.put, sa_, sz_, ss_, i64_w, i32_w]
                rfl
               refine pure_ (i := 13) (N := some 74) (v := ?_) (a' := ?_) #[true, true, true, true, true, true, true, true, true, true, true, true, true, true, false] rfl rfl (any_of HT_.out (by kernel_rfl)) (fun _ _ _ h => h) (Or.inl ⟨by rfl, ?_⟩) ?_ ?_
               rotate_left
               ·intro w'
                go_simp
                with_reducible rfl
               rotate_left
               ·simp only [Act.put, sa_, sz_, ss_, i64_w, i32_w]
                rfl
               refine pure_ (i := 14) (N := some 14) (v := ?_) (a' := ?_) #[true, true, true, true, true, true, true, true, true, true, true, true, true, true, true] rfl rfl (any_of HT_.out (by kernel_rfl)) (fun _ _ _ h => h) (Or.inl ⟨by rfl, ?_⟩) ?_ ?_
               rotate_left
               ·intro w'
                go_simp
                with_reducible rfl
               rotate_left
               ·simp only [Act.put, sa_, sz_, ss_, i64_w, i32_w]
                rfl
               refine done_ (done_of HT_.out (by kernel_rfl)) ?_
               obtain ⟨Ao40, co40, eo40⟩ := Kd.R_slice HO_12.out
               subst eo40
               have p229 : 0 ≤ ((ji33) : Int) := od_
               have q229 : (ji33) < (x12_2.length : Int) := od_
               obtain ⟨ad229, e229, hx229_0⟩ := Kd.at_bool (Kd.R_reads' HO_12.out).2.2 (ji33) p229 q229
               (try rw [← Nbq36.out] at hx229_0)
               cases e229
               replace p229 := eq_true p229
               replace q229 := eq_true q229
               have hnb41 := NB218_217.out
               have hnc41 := NB217_218.out
               have hcz42_0 : w39.cell? ⟨gb218, 0, none⟩ = some (.int .i64 x219000_2) := (blk_cell BK218.out 0).trans rfl
               have hcz42_1 : w39.cell? ⟨gb218, 1, none⟩ = some (.int .i64 x219001_2) := (blk_cell BK218.out 1).trans rfl
               have hcz42_2 : w39.cell? ⟨gb218, 2, none⟩ = some (.int .i64 x219002_2) := (blk_cell BK218.out 2).trans rfl
               have hcz42_3 : w39.cell? ⟨gb218, 3, none⟩ = some (.int .i64 x219003_2) := (blk_cell BK218.out 3).trans rfl
               have hcz42_4 : w39.cell? ⟨gb218, 4, none⟩ = some (.slice none 0 0) := (blk_cell BK218.out 4).trans rfl
               have hfz42_0 := blk_frozen BK218.out 0
               have hfz42_1 := blk_frozen BK218.out 1
               have hfz42_2 := blk_frozen BK218.out 2
               have hfz42_3 := blk_frozen BK218.out 3
               have hfz42_4 := blk_frozen BK218.out 4
               try go_wp2
               refine bodyPost_ret (results_cell_row rfl _ _ gb218 29 #[.int .i64 3, .int .i64 0, .int .i64 0, .int .i64 0, .slice none 0 0] (0, 0) _ rfl (by refine pk_ ?_; refine blk_put (cs := #[.int .i64 3, .int .i64 0, .int .i64 0, .int .i64 0, .slice none 0 0]) ?_ 4 _ rfl; refine pk_ ?_; refine blk_put (cs := #[.int .i64 3, .int .i64 0, .int .i64 0, .int .i64 x219003_2, .slice none 0 0]) ?_ 3 _ rfl; refine pk_ ?_; refine blk_put (cs := #[.int .i64 3, .int .i64 0, .int .i64 x219002_2, .int .i64 x219003_2, .slice none 0 0]) ?_ 2 _ rfl; refine pk_ ?_; refine blk_put (cs := #[.int .i64 3, .int .i64 x219001_2, .int .i64 x219002_2, .int .i64 x219003_2, .slice none 0 0]) ?_ 1 _ rfl; refine pk_ ?_; refine blk_put (cs := #[.int .i64 x219000_2, .int .i64 x219001_2, .int .i64 x219002_2, .int .i64 x219003_2, .slice none 0 0]) ?_ 0 _ rfl; exact pk_ BK218.out) Try.underlying29 rfl (by kernel_rfl)) rfl ?_
               exact ⟨_, by first | rfl | (simp [errW_none, errW_some] <;> rfl) | (simp only [← hji33]; first | rfl | (simp [errW_none, errW_some] <;> rfl)) | (simp [*, errW_none, errW_some] <;> rfl), by first | exact Kd.R_nil _ _ _ _ _ | exact Kd.N_nil _ _ _ _ _ | exact Kd.V_nil _ _ _ _ _ | exact Kd.Q_nil _ _ _ _ _ | exact Kd.S_nil _ _ _ _ _, bk_ HB.out⟩
              ·replace c37 := Bool.eq_false_iff.mpr c37
               subst c37
               have H1 : (if 0 ≤ x1_2 then (if x1_2 < (l0_2.length : Int) then (if 0 ≤ x2_2 then (if x2_2 < (x9_2.length : Int) then (if 0 ≤ (rd x9_2 x2_2) then (if (rd x9_2 x2_2) < ((rd_L2 l0_2 x1_2).length : Int) then (standstillref05_Cross.l1 k2 ((rd_T57 (rd_L2 l0_2 x1_2) (rd x9_2 x2_2)).f2) (wrap64 (x2_2 + ((rd_T57 (rd_L2 l0_2 x1_2) (rd x9_2 x2_2)).f1))) l3 (x9_2.set (x2_2 : Int).toNat ((rd_T57 (rd_L2 l0_2 x1_2) (rd x9_2 x2_2)).f0)) (x12_2.set ((ji33) : Int).toNat true) (wrap64 (x13_2 + 1)) a0_0 a0_1 l0_2) else (none)) else (none)) else (none)) else (none)) else (none)) else (none)) = some (r1, r2, r3, r4, r5) := by rw [if_neg (show ¬ (false = true) by decide)] at H; exact H
               clear H
               have H := H1
               clear H1
               obtain ⟨y230, hy230⟩ : ∃ y_ : List Bool, y_ = (x12_2.set ((ji33) : Int).toNat true) := ⟨_, rfl⟩
               replace H : (if 0 ≤ x1_2 then (if x1_2 < (l0_2.length : Int) then (if 0 ≤ x2_2 then (if x2_2 < (x9_2.length : Int) then (if 0 ≤ (rd x9_2 x2_2) then (if (rd x9_2 x2_2) < ((rd_L2 l0_2 x1_2).length : Int) then (standstillref05_Cross.l1 k2 ((rd_T57 (rd_L2 l0_2 x1_2) (rd x9_2 x2_2)).f2) (wrap64 (x2_2 + ((rd_T57 (rd_L2 l0_2 x1_2) (rd x9_2 x2_2)).f1))) l3 (x9_2.set (x2_2 : Int).toNat ((rd_T57 (rd_L2 l0_2 x1_2) (rd x9_2 x2_2)).f0)) y230 (wrap64 (x13_2 + 1)) a0_0 a0_1 l0_2) else (none)) else (none)) else (none)) else (none)) else (none)) else (none)) = some (r1, r2, r3, r4, r5) := by first | (rw [hy230]; with_reducible exact H) | (have H2_ := (Option.bind_some _ _).symm.trans H; rw [hy230]; with_reducible exact H2_) | (have H2_ := (Option.bind_some _ _).symm.trans H; with_reducible exact H2_) | with_reducible exact H | (rw [hy230]; exact H) | exact H
               have Ny230 := Aside0.mk hy230
               clear hy230
               by_cases c44 : 0 ≤ x1_2
               ·rw [if_pos c44] at H
                have c44b0 : decide (0 ≤ x1_2) = true := decide_eq_true c44
                clear c44
                by_cases c45 : x1_2 < (l0_2.length : Int)
                ·rw [if_pos c45] at H
                 have c45b0 : decide (x1_2 < (l0_2.length : Int)) = true := decide_eq_true c45
                 clear c45
                 by_cases c46 : 0 ≤ x2_2
                 ·rw [if_pos c46] at H
                  have c46b0 : decide (0 ≤ x2_2) = true := decide_eq_true c46
                  clear c46
                  by_cases c47 : x2_2 < (x9_2.length : Int)
                  ·rw [if_pos c47] at H
                   have c47b0 : decide (x2_2 < (x9_2.length : Int)) = true := decide_eq_true c47
                   clear c47
                   by_cases c48 : 0 ≤ (rd x9_2 x2_2)
                   ·rw [if_pos c48] at H
                    have c48b0 : decide (0 ≤ (rd x9_2 x2_2)) = true := decide_eq_true c48
                    clear c48
                    by_cases c49 : (rd x9_2 x2_2) < ((rd_L2 l0_2 x1_2).length : Int)
                    ·rw [if_pos c49] at H
                     have c49b0 : decide ((rd x9_2 x2_2) < ((rd_L2 l0_2 x1_2).length : Int)) = true := decide_eq_true c49
                     clear c49
                     obtain ⟨y235, hy235⟩ : ∃ y_ : List Int, y_ = (x9_2.set (x2_2 : Int).toNat ((rd_T57 (rd_L2 l0_2 x1_2) (rd x9_2 x2_2)).f0)) := ⟨_, rfl⟩
                     replace H : (standstillref05_Cross.l1 k2 ((rd_T57 (rd_L2 l0_2 x1_2) (rd x9_2 x2_2)).f2) (wrap64 (x2_2 + ((rd_T57 (rd_L2 l0_2 x1_2) (rd x9_2 x2_2)).f1))) l3 y235 y230 (wrap64 (x13_2 + 1)) a0_0 a0_1 l0_2) = some (r1, r2, r3, r4, r5) := by first | (rw [hy235]; with_reducible exact H) | (have H2_ := (Option.bind_some _ _).symm.trans H; rw [hy235]; with_reducible exact H2_) | (have H2_ := (Option.bind_some _ _).symm.trans H; with_reducible exact H2_) | with_reducible exact H | (rw [hy235]; exact H) | exact H
                     have Ny235 := Aside0.mk hy235
                     clear hy235
                     have H' := Aside0.mk H
                     clear H
                     obtain ⟨Ao51, co51, eo51⟩ := Kd.R_slice HO_9.out
                     subst eo51
                     try go_wp2
                     have n0_ := A_ (Kd.R_drew HO_9.out)
                     have n1_ := A_ (Kd.R_drew HO_12.out)
                     have n2_ := A_ (blk_drew BK217.out)
                     have n3_ := A_ (blk_drew BK218.out)
                     have n4_ := A_ (below_drew1 HB.out)
                     clear HO_9 HO_12 BK217 BK218 HB
                     have HO_9 := n0_
                     have HO_12 := n1_
                     have BK217 := n2_
                     have BK218 := n3_
                     have HB := n4_
                     clear n0_ n1_ n2_ n3_ n4_
                     refine start_ (n := 15) (S := fun w' => w'.cell? ⟨gb217, 0, none⟩ = some (.int .i64 a0_0) ∧ w'.cell? ⟨gb217, 1, none⟩ = some (.int .i64 a0_1) ∧ w'.cell? ⟨gb217, 2, none⟩ = some (.slice A0_2 l0_2.length c0_2)) (ds := []) #[false, false, false, false, false, false, false, false, false, false, false, false, false, false, false] (by kernel_rfl) rfl rfl ⟨(blk_cell BK217.out 0).trans rfl, (blk_cell BK217.out 1).trans rfl, (blk_cell BK217.out 2).trans rfl⟩ (fun hHeld => ?_); refine with_tabW standstillref05_Cross.tab16 standstillref05_Cross.bits16 (fun HT_ HW_ => ?_)
                     generalize wr.drew = w52 at HO_9 HO_12 BK217 BK218 HB hHeld ⊢
                     refine pure_ (i := 0) (N := some 61) (v := ?_) (a' := ?_) #[true, false, false, false, false, false, false, false, false, false, false, false, false, false, false] rfl rfl (any_of HT_.out (by kernel_rfl)) (fun _ _ _ h => h) (Or.inl ⟨by rfl, ?_⟩) ?_ ?_
                     rotate_left
                     ·intro w'
                      go_simp
                      with_reducible rfl
                     rotate_left
                     ·simp only [Act.put, sa_, sz_, ss_, i64_w, i32_w]
                      rfl
                     refine pure_ (i := 1) (N := some 62) (v := ?_) (a' := ?_) #[true, true, false, false, false, false, false, false, false, false, false, false, false, false, false] rfl rfl (any_of HT_.out (by kernel_rfl)) (fun _ _ _ h => h) (Or.inl ⟨by rfl, ?_⟩) ?_ ?_
                     rotate_left
                     ·intro w'
                      go_simp
                      with_reducible rfl
                     rotate_left
                     ·simp only [Act.put, sa_, sz_, ss_, i64_w, i32_w]
                      rfl
                     refine pure_ (i := 4) (N := some 65) (v := ?_) (a' := ?_) #[true, true, false, false, true, false, false, false, false, false, false, false, false, false, false] rfl rfl (any_of HT_.out (by kernel_rfl)) (fun _ _ _ h => h) (Or.inl ⟨by rfl, ?_⟩) ?_ ?_
                     rotate_left
                     ·intro w'
                      go_simp
                      with_reducible rfl
                     rotate_left
                     ·simp only [Act.put, sa_, sz_, ss_, i64_w, i32_w]
                      rfl
                     refine pure_ (i := 5) (N := some 66) (v := ?_) (a' := ?_) #[true, true, false, false, true, true, false, false, false, false, false, false, false, false, false] rfl rfl (any_of HT_.out (by kernel_rfl)) (fun _ _ _ h => h) (Or.inl ⟨by rfl, ?_⟩) ?_ ?_
                     rotate_left
                     ·intro w'
                      go_simp
                      with_reducible rfl
                     rotate_left
                     ·simp only [Act.put, sa_, sz_, ss_, i64_w, i32_w]
                      rfl
                     refine pure_ (i := 7) (N := some 68) (v := ?_) (a' := ?_) #[true, true, false, false, true, true, false, true, false, false, false, false, false, false, false] rfl rfl (any_of HT_.out (by kernel_rfl)) (fun _ _ _ h => h) (Or.inl ⟨by rfl, ?_⟩) ?_ ?_
                     rotate_left
                     ·intro w'
                      go_simp
                      with_reducible rfl
                     rotate_left
                     ·simp only [Act.put, sa_, sz_, ss_, i64_w, i32_w]
                      rfl
                     refine pure_ (i := 9) (N := some 70) (v := ?_) (a' := ?_) #[true, true, false, false, true, true, false, true, false, true, false, false, false, false, false] rfl rfl (any_of HT_.out (by kernel_rfl)) (fun _ _ _ h => h) (Or.inl ⟨by rfl, ?_⟩) ?_ ?_
                     rotate_left
                     ·intro w'
                      go_simp
                      with_reducible rfl
                     rotate_left
                     ·simp only [Act.put, sa_, sz_, ss_, i64_w, i32_w]
                      rfl
                     refine pure_ (i := 12) (N := some 73) (v := ?_) (a' := ?_) #[true, true, false, false, true, true, false, true, false, true, false, false, true, false, false] rfl rfl (any_of HT_.out (by kernel_rfl)) (fun _ _ _ h => h) (Or.inl ⟨by rfl, ?_⟩) ?_ ?_
                     rotate_left
                     ·intro w'
                      go_simp
                      with_reducible rfl
                     rotate_left
                     ·simp only [Act.put, sa_, sz_, ss_, i64_w, i32_w]
                      rfl
                     refine take_ (i := 2) (N := some 63) (v := ?_) (a' := ?_) #[true, true, true, false, true, true, false, true, false, true, false, false, true, false, false] rfl rfl (take_ofW HT_.out HW_.out (by kernel_rfl)) (fun _ _ _ h => h) (Or.inl ⟨by rfl, ?_⟩) hHeld ?_ ?_
                     rotate_left
                     ·rintro w' ⟨s0, s1, s2⟩
                      go_simp
                      with_reducible rfl
                     rotate_left
                     ·simp only [Act.put, sa_, sz_, ss_, i64_w, i32_w]
                      rfl
                     refine take_ (i := 10) (N := some 71) (v := ?_) (a' := ?_) #[true, true, true, false, true, true, false, true, false, true, true, false, true, false, false] rfl rfl (take_ofW HT_.out HW_.out (by kernel_rfl)) (fun _ _ _ h => h) (Or.inl ⟨by rfl, ?_⟩) hHeld ?_ ?_
                     rotate_left
                     ·rintro w' ⟨s0, s1, s2⟩
                      go_simp
                      with_reducible rfl
                     rotate_left
                     ·simp only [Act.put, sa_, sz_, ss_, i64_w, i32_w]
                      rfl
                     refine one_ (i := 3) (N := some 64) #[true, true, true, true, true, true, false, true, false, true, true, false, true, false, false] rfl rfl (one_of HT_.out (by kernel_rfl)) (by decide) (fun K hK => ?_)
                     refine goes_ Try.func25 (by kernel_rfl) rfl #[.slice Ao51 x9_2.length co51, .int .i64 a0_1] (by rfl) rfl rfl gl_ ?_
                     with_reducible refine (standstillref05_Number.calls k2 _ _ x9_2 a0_1 t228 _ ?side1 ?side2 A32.out).mono ?_
                     (case side1 => repeat (first | exact (Kd.R_reads' HO_9.out).2.2 | (with_reducible refine Kd.C_alloc ?_ _) | (with_reducible refine Kd.C_drewN ?_ _) | (with_reducible refine Kd.C_drew ?_)))
                     (case side2 => exact (Kd.R_reads' HO_9.out).2.1)
                     rintro e w' ⟨rfl, ⟨nd, rfl⟩⟩
                     refine ⟨_, rfl, ?_⟩
                     refine hK.out _ _ ⟨(blk_cell BK217.out 0).trans rfl, (blk_cell BK217.out 1).trans rfl, (blk_cell BK217.out 2).trans rfl⟩ (fun hHeld => ?_)
                     clear hK K
                     refine norm_ (a' := ?_) ?_ ?_
                     rotate_left
                     ·show Act.put _ (some 64) _ = _
                      simp only [Act.put, sa_, sz_, ss_, i64_w, i32_w]
                      rfl
                     refine pure_ (i := 6) (N := some 67) (v := ?_) (a' := ?_) #[true, true, true, true, true, true, true, true, false, true, true, false, true, false, false] rfl rfl (any_of HT_.out (by kernel_rfl)) (fun _ _ _ h => h) (Or.inl ⟨by rfl, ?_⟩) ?_ ?_
                     rotate_left
                     ·intro w'
                      go_simp
                      with_reducible rfl
                     rotate_left
                     ·simp only [Act.put, sa_, sz_, ss_, i64_w, i32_w]
                      rfl
                     refine pure_ (i := 8) (N := some 69) (v := ?_) (a' := ?_) #[true, true, true, true, true, true, true, true, true, true, true, false, true, false, false] rfl rfl (any_of HT_.out (by kernel_rfl)) (fun _ _ _ h => h) (Or.inl ⟨by rfl, ?_⟩) ?_ ?_
                     rotate_left
                     ·intro w'
                      go_simp
                      with_reducible rfl
                     rotate_left
                     ·simp only [Act.put, sa_, sz_, ss_, i64_w, i32_w]
                      rfl
                     refine pure_ (i := 11) (N := some 72) (v := ?_) (a' := ?_) #[true, true, true, true, true, true, true, true, true, true, true, true, true, false, false] rfl rfl (any_of HT_.out (by kernel_rfl)) (fun _ _ _ h => h) (Or.inl ⟨by rfl, ?_⟩) ?_ ?_
                     rotate_left
                     ·intro w'
                      go_simp
                      with_reducible rfl
                     rotate_left
                     ·simp only [Act.put, sa_, sz_, ss_, i64_w, i32_w]
                      rfl
                     refine pure_ (i := 13) (N := some 74) (v := ?_) (a' := ?_) #[true, true, true, true, true, true, true, true, true, true, true, true, true, true, false] rfl rfl (any_of HT_.out (by kernel_rfl)) (fun _ _ _ h => h) (Or.inl ⟨by rfl, ?_⟩) ?_ ?_
                     rotate_left
                     ·intro w'
                      go_simp
                      with_reducible rfl
                     rotate_left
                     ·simp only [Act.put, sa_, sz_, ss_, i64_w, i32_w]
                      rfl
                     refine pure_ (i := 14) (N := some 14) (v := ?_) (a' := ?_) #[true, true, true, true, true, true, true, true, true, true, true, true, true, true, true] rfl rfl (any_of HT_.out (by kernel_rfl)) (fun _ _ _ h => h) (Or.inl ⟨by rfl, ?_⟩) ?_ ?_
                     rotate_left
                     ·intro w'
                      go_simp
                      with_reducible rfl
                     rotate_left
                     ·simp only [Act.put, sa_, sz_, ss_, i64_w, i32_w]
                      rfl
                     refine done_ (done_of HT_.out (by kernel_rfl)) ?_
                     have n0_ := A_ (Kd.R_drewN HO_9.out nd)
                     have n1_ := A_ (Kd.R_drewN HO_12.out nd)
                     have n2_ := A_ (blk_drewN BK217.out nd)
                     have n3_ := A_ (blk_drewN BK218.out nd)
                     have n4_ := A_ (pw_below_drewN HB.out nd)
                     clear HO_9 HO_12 BK217 BK218 HB
                     have HO_9 := n0_
                     have HO_12 := n1_
                     have BK217 := n2_
                     have BK218 := n3_
                     have HB := n4_
                     clear n0_ n1_ n2_ n3_ n4_
                     generalize w52.drewN nd = w52 at HO_9 HO_12 BK217 BK218 HB hHeld ⊢
                     obtain ⟨Ao53, co53, eo53⟩ := Kd.R_slice HO_12.out
                     subst eo53
                     have p229 : 0 ≤ ((ji33) : Int) := od_
                     have q229 : (ji33) < (x12_2.length : Int) := od_
                     obtain ⟨ad229, e229, hx229_0⟩ := Kd.at_bool (Kd.R_reads' HO_12.out).2.2 (ji33) p229 q229
                     (try rw [← Nbq36.out] at hx229_0)
                     cases e229
                     replace p229 := eq_true p229
                     replace q229 := eq_true q229
                     have p43 : 0 ≤ ((ji33) : Int) := od_
                     have q43 : ((ji33) : Int) < ((x12_2.length : Int) : Int) := od_
                     obtain ⟨go43, co43, eo43, gb43, gl43, cl43, HG43⟩ := Kd.R_form HO_12.out (by omega)
                     (first | cases eo43 | (injection eo43 with ea_ en_ ec_; (first | subst ea_ | (injection ea_ with ea_; subst ea_)); subst ec_; clear en_))
                     have GB43 := Aside0.mk gb43
                     have GG43 := Aside0.mk HG43
                     clear gb43 gl43 HG43
                     (first | simp only [add_plain] at hx229_0 | skip)
                     obtain ⟨hx43_0, hf43_0⟩ := Kd.R_celln false HO_12.out ((ji33) : Int) p43 q43
                     replace p43 := eq_true p43
                     replace q43 := eq_true q43
                     obtain ⟨hy54_, hz54_⟩ := Kd.R_celln false HO_12.out ((ji33) : Int) (od_) (od_)
                     have HP54 := Kd.R_putg HO_12.out ((ji33) : Int) true
                     try go_wp2_with (first | ((with_reducible refine gate_store (t := 4) (p := 82) rfl ?_); refine store_event (t := 4) (p := 82) (v := ?vo_w55) (w1 := (w52.setCell ⟨go43, ((ji33) : Int).toNat, none⟩ (.bool true))) ?hg ?ho ?hn ?hr ?_; (case ho => rfl); (case hg => rfl); (case hn => rfl); (case hr => first | (go_simp; done) | (go_simp; rfl)); intro w55 hw; have hg : w52.grownBy w55 (some go43) := (by rw [hw]; exact HP54.2); have hp_ : Kd.R Kd.bool 4 w55 w.heap.size (fun _ => True) (.slice (some ⟨go43, 0, none⟩) x12_2.length co53) y230 := (by rw [hw, Ny230.out]; exact HP54.1); clear HP54; have n0_ := A_ (Kd.R_over' (v := (.slice (some ⟨go43, 0, none⟩) x12_2.length co53)) (rk_ HO_9.out) (Kd.R_typed HO_12.out) (by decide) hg); have n1_ := A_ (hp_); have n2_ := A_ (blk_grown (pk_ BK217.out) hg (Kd.R_ne HO_12.out BK217.out (by decide))); have n3_ := A_ (blk_grown (pk_ BK218.out) hg (Kd.R_ne HO_12.out BK218.out (by decide))); have n4_ := A_ ((by rw [hw]; exact below_set (HB.out) GB43.out : Below w.heap.size w w55)); clear HO_9 HO_12 BK217 BK218 HB; have HO_9 := n0_; have HO_12 := n1_; have BK217 := n2_; have BK218 := n3_; have HB := n4_; clear n0_ n1_ n2_ n3_ n4_ hg hw hp_))
                     have n0_ := A_ (Kd.R_drew HO_9.out)
                     have n1_ := A_ (Kd.R_drew HO_12.out)
                     have n2_ := A_ (blk_drew BK217.out)
                     have n3_ := A_ (blk_drew BK218.out)
                     have n4_ := A_ (below_drew1 HB.out)
                     clear HO_9 HO_12 BK217 BK218 HB
                     have HO_9 := n0_
                     have HO_12 := n1_
                     have BK217 := n2_
                     have BK218 := n3_
                     have HB := n4_
                     clear n0_ n1_ n2_ n3_ n4_
                     have p231 : 0 ≤ (x1_2 : Int) := od_
                     have q231 : x1_2 < (l0_2.length : Int) := od_
                     obtain ⟨ad231, A231_0, c231_0, e231, hx231_0, hl231_0, hi231_0⟩ := at_L2 HR0_2.out x1_2 p231 q231
                     have hw231_0 := hx231_0
                     cases e231
                     replace hx231_0 := lf_ HB.out hx231_0
                     have HR231_0 := Aside0.mk hi231_0
                     have HC231_0 := Aside0.mk hl231_0
                     clear hi231_0 hl231_0
                     replace p231 := eq_true p231
                     replace q231 := eq_true q231
                     have p232 : 0 ≤ (x2_2 : Int) := od_
                     have q232 : x2_2 < (x9_2.length : Int) := od_
                     obtain ⟨ad232, e232, hx232_0⟩ := Kd.at_int (Kd.R_reads' HO_9.out).2.2 x2_2 p232 q232
                     cases e232
                     replace p232 := eq_true p232
                     replace q232 := eq_true q232
                     have p233 : 0 ≤ ((rd x9_2 x2_2) : Int) := od_
                     have q233 : (rd x9_2 x2_2) < ((rd_L2 l0_2 x1_2).length : Int) := od_
                     obtain ⟨ad233, e233, hx233_0, hx233_1, hx233_2⟩ := at_T57 HR231_0.out (rd x9_2 x2_2) p233 q233
                     have hw233_2 := hx233_2
                     have hw233_1 := hx233_1
                     have hw233_0 := hx233_0
                     cases e233
                     replace hx233_0 := lf_ HB.out hx233_0
                     replace hx233_1 := lf_ HB.out hx233_1
                     replace hx233_2 := lf_ HB.out hx233_2
                     replace p233 := eq_true p233
                     replace q233 := eq_true q233
                     refine start_ (n := 13) (S := fun w' => w'.cell? ⟨gb217, 0, none⟩ = some (.int .i64 a0_0) ∧ w'.cell? ⟨gb217, 1, none⟩ = some (.int .i64 a0_1) ∧ w'.cell? ⟨gb217, 2, none⟩ = some (.slice (some ad231) l0_2.length c0_2) ∧ w'.cell? (ad231.add (x1_2).toNat) = some (.slice (some ad233) (rd_L2 l0_2 x1_2).length c231_0) ∧ w'.cell? (ad232.add (x2_2).toNat) = some (.int .i64 (rd x9_2 x2_2)) ∧ w'.cell? (ad233.add (((rd x9_2 x2_2)).toNat * 3)) = some (.int .i64 ((rd_T57 (rd_L2 l0_2 x1_2) (rd x9_2 x2_2)).f0)) ∧ w'.cell? ⟨(ad233.add (((rd x9_2 x2_2)).toNat * 3)).block, (ad233.add (((rd x9_2 x2_2)).toNat * 3)).off + 1, none⟩ = some (.int .i64 ((rd_T57 (rd_L2 l0_2 x1_2) (rd x9_2 x2_2)).f1)) ∧ w'.cell? ⟨(ad233.add (((rd x9_2 x2_2)).toNat * 3)).block, (ad233.add (((rd x9_2 x2_2)).toNat * 3)).off + 2, none⟩ = some (.int .i64 ((rd_T57 (rd_L2 l0_2 x1_2) (rd x9_2 x2_2)).f2))) (ds := []) #[false, false, false, false, false, false, false, false, false, false, false, false, false] (by kernel_rfl) rfl rfl ⟨(blk_cell BK217.out 0).trans rfl, (blk_cell BK217.out 1).trans rfl, (blk_cell BK217.out 2).trans rfl, ((HB.out.cell (World.block_lt_of_cell? w _ hw231_0)).trans hw231_0), hx232_0, ((HB.out.cell (World.block_lt_of_cell? w _ hw233_0)).trans hw233_0), ((HB.out.cell (World.block_lt_of_cell? w _ hw233_1)).trans hw233_1), ((HB.out.cell (World.block_lt_of_cell? w _ hw233_2)).trans hw233_2)⟩ (fun hHeld => ?_); refine with_tabW standstillref05_Cross.tab20 standstillref05_Cross.bits20 (fun HT_ HW_ => ?_)
                     generalize w55.drew = w56 at HO_9 HO_12 BK217 BK218 HB HR231_0 hx231_0 hx232_0 hx233_0 hx233_1 hx233_2 hHeld ⊢
                     refine pure_ (i := 0) (N := some 83) (v := ?_) (a' := ?_) #[true, false, false, false, false, false, false, false, false, false, false, false, false] rfl rfl (any_of HT_.out (by kernel_rfl)) (fun _ _ _ h => h) (Or.inl ⟨by rfl, ?_⟩) ?_ ?_
                     rotate_left
                     ·intro w'
                      go_simp
                      with_reducible rfl
                     rotate_left
                     ·simp only [Act.put, sa_, sz_, ss_, i64_w, i32_w]
                      rfl
                     refine pure_ (i := 2) (N := some 85) (v := ?_) (a' := ?_) #[true, false, true, false, false, false, false, false, false, false, false, false, false] rfl rfl (any_of HT_.out (by kernel_rfl)) (fun _ _ _ h => h) (Or.inl ⟨by rfl, ?_⟩) ?_ ?_
                     rotate_left
                     ·intro w'
                      go_simp
                      with_reducible rfl
                     rotate_left
                     ·simp only [Act.put, sa_, sz_, ss_, i64_w, i32_w]
                      rfl
                     refine pure_ (i := 5) (N := some 88) (v := ?_) (a' := ?_) #[true, false, true, false, false, true, false, false, false, false, false, false, false] rfl rfl (any_of HT_.out (by kernel_rfl)) (fun _ _ _ h => h) (Or.inl ⟨by rfl, ?_⟩) ?_ ?_
                     rotate_left
                     ·intro w'
                      go_simp
                      with_reducible rfl
                     rotate_left
                     ·simp only [Act.put, sa_, sz_, ss_, i64_w, i32_w]
                      rfl
                     refine pure_ (i := 6) (N := some 89) (v := ?_) (a' := ?_) #[true, false, true, false, false, true, true, false, false, false, false, false, false] rfl rfl (any_of HT_.out (by kernel_rfl)) (fun _ _ _ h => h) (Or.inl ⟨by rfl, ?_⟩) ?_ ?_
                     rotate_left
                     ·intro w'
                      go_simp
                      with_reducible rfl
                     rotate_left
                     ·simp only [Act.put, sa_, sz_, ss_, i64_w, i32_w]
                      rfl
                     refine pure_ (i := 7) (N := some 90) (v := ?_) (a' := ?_) #[true, false, true, false, false, true, true, true, false, false, false, false, false] rfl rfl (any_of HT_.out (by kernel_rfl)) (fun _ _ _ h => h) (Or.inl ⟨by rfl, ?_⟩) ?_ ?_
                     rotate_left
                     ·intro w'
                      go_simp
                      with_reducible rfl
                     rotate_left
                     ·simp only [Act.put, sa_, sz_, ss_, i64_w, i32_w]
                      rfl
                     refine take_ (i := 1) (N := some 84) (v := ?_) (a' := ?_) #[true, true, true, false, false, true, true, true, false, false, false, false, false] rfl rfl (take_ofW HT_.out HW_.out (by kernel_rfl)) (fun _ _ _ h => h) (Or.inl ⟨by rfl, ?_⟩) hHeld ?_ ?_
                     rotate_left
                     ·rintro w' ⟨s0, s1, s2, s3, s4, s5, s6, s7⟩
                      go_simp
                      with_reducible rfl
                     rotate_left
                     ·simp only [Act.put, sa_, sz_, ss_, i64_w, i32_w]
                      rfl
                     refine pure_ (i := 3) (N := some 86) (v := ?_) (a' := ?_) #[true, true, true, true, false, true, true, true, false, false, false, false, false] rfl rfl (any_of HT_.out (by kernel_rfl)) (fun _ _ _ h => h) (Or.inl ⟨by rfl, ?_⟩) ?_ ?_
                     rotate_left
                     ·intro w'
                      go_simp
                      with_reducible rfl
                     rotate_left
                     ·simp only [Act.put, sa_, sz_, ss_, i64_w, i32_w]
                      rfl
                     refine take_ (i := 4) (N := some 87) (v := ?_) (a' := ?_) #[true, true, true, true, true, true, true, true, false, false, false, false, false] rfl rfl (take_ofW HT_.out HW_.out (by kernel_rfl)) (fun _ _ _ h => h) (Or.inl ⟨by rfl, ?_⟩) hHeld ?_ ?_
                     rotate_left
                     ·rintro w' ⟨s0, s1, s2, s3, s4, s5, s6, s7⟩
                      go_simp
                      with_reducible rfl
                     rotate_left
                     ·simp only [Act.put, sa_, sz_, ss_, i64_w, i32_w]
                      rfl
                     refine take_ (i := 8) (N := some 91) (v := ?_) (a' := ?_) #[true, true, true, true, true, true, true, true, true, false, false, false, false] rfl rfl (take_ofW HT_.out HW_.out (by kernel_rfl)) (fun _ _ _ h => h) (Or.inl ⟨by rfl, ?_⟩) hHeld ?_ ?_
                     rotate_left
                     ·rintro w' ⟨s0, s1, s2, s3, s4, s5, s6, s7⟩
                      go_simp
                      with_reducible rfl
                     rotate_left
                     ·simp only [Act.put, sa_, sz_, ss_, i64_w, i32_w]
                      rfl
                     refine pure_ (i := 9) (N := some 92) (v := ?_) (a' := ?_) #[true, true, true, true, true, true, true, true, true, true, false, false, false] rfl rfl (any_of HT_.out (by kernel_rfl)) (fun _ _ _ h => h) (Or.inl ⟨by rfl, ?_⟩) ?_ ?_
                     rotate_left
                     ·intro w'
                      go_simp
                      with_reducible rfl
                     rotate_left
                     ·simp only [Act.put, sa_, sz_, ss_, i64_w, i32_w]
                      rfl
                     refine take_ (i := 10) (N := some 93) (v := ?_) (a' := ?_) #[true, true, true, true, true, true, true, true, true, true, true, false, false] rfl rfl (take_ofW HT_.out HW_.out (by kernel_rfl)) (fun _ _ _ h => h) (Or.inl ⟨by rfl, ?_⟩) hHeld ?_ ?_
                     rotate_left
                     ·rintro w' ⟨s0, s1, s2, s3, s4, s5, s6, s7⟩
                      go_simp
                      with_reducible rfl
                     rotate_left
                     ·simp only [Act.put, sa_, sz_, ss_, i64_w, i32_w]
                      rfl
                     refine one_ (i := 11) (N := some 15) #[true, true, true, true, true, true, true, true, true, true, true, true, false] rfl rfl (one_of HT_.out (by kernel_rfl)) (by decide) (fun K hK => ?_)
                     refine box_step ?hg (N := 15) ?hd (cs := #[.int .i64 0, .int .i64 0, .int .i64 0]) (t := 57) ?hr ?_; (case hd => rfl); (case hg => rfl); (case hr => first | (go_simp; done) | (go_simp; rfl))
                     intro gb234 hg w57 hbox hb
                     have HS4_ := (hb.cell (World.block_lt_of_cell? _ _ (hHeld.2.2.2.2.1))).trans (hHeld.2.2.2.2.1)
                     have n0_ := A_ (Kd.R_below (rk_ HO_9.out) hb)
                     have n1_ := A_ (Kd.R_below (rk_ HO_12.out) hb)
                     have n2_ := A_ (blk_below (pk_ BK217.out) hb)
                     have n3_ := A_ (blk_below (pk_ BK218.out) hb)
                     have n4_ := A_ (below_step (bk_ HB.out) hb)
                     have n5_ := A_ (hbox)
                     have n6_ := A_ ((by rw [hg]; exact (below_size (bk_ HB.out)) : w.heap.size ≤ gb234))
                     have n7_ := A_ ((by rw [hg]; exact (below_size (bk_ HB.out)) : w.heap.size ≤ gb234))
                     have n8_ := A_ ((by rw [hg]; exact Nat.ne_of_lt (blk_lt (pk_ BK217.out)) : gb217 ≠ gb234))
                     have n9_ := A_ ((by rw [hg]; exact Nat.ne_of_gt (blk_lt (pk_ BK217.out)) : gb234 ≠ gb217))
                     have n10_ := A_ ((by rw [hg]; exact Nat.ne_of_lt (blk_lt (pk_ BK218.out)) : gb218 ≠ gb234))
                     have n11_ := A_ ((by rw [hg]; exact Nat.ne_of_gt (blk_lt (pk_ BK218.out)) : gb234 ≠ gb218))
                     clear HO_9 HO_12 BK217 BK218 HB
                     have HO_9 := n0_
                     have HO_12 := n1_
                     have BK217 := n2_
                     have BK218 := n3_
                     have HB := n4_
                     have BK234 := n5_
                     have GW234 := n6_
                     have GE234 := n7_
                     have NB217_234 := n8_
                     have NB234_217 := n9_
                     have NB218_234 := n10_
                     have NB234_218 := n11_
                     clear n0_ n1_ n2_ n3_ n4_ n5_ n6_ n7_ n8_ n9_ n10_ n11_ hb hbox hg
                     refine hK.out _ _ ⟨(blk_cell BK217.out 0).trans rfl, (blk_cell BK217.out 1).trans rfl, (blk_cell BK217.out 2).trans rfl, ((HB.out.cell (World.block_lt_of_cell? w _ hw231_0)).trans hw231_0), HS4_, ((HB.out.cell (World.block_lt_of_cell? w _ hw233_0)).trans hw233_0), ((HB.out.cell (World.block_lt_of_cell? w _ hw233_1)).trans hw233_1), ((HB.out.cell (World.block_lt_of_cell? w _ hw233_2)).trans hw233_2)⟩ (fun hHeld => ?_)
                     clear hK K
                     refine norm_ (a' := ?_) ?_ ?_
                     rotate_left
                     ·show Act.put _ (some 15) _ = _
                      simp only [Act.put, sa_, sz_, ss_, i64_w, i32_w]
                      rfl
                     refine one_ (i := 12) (N := none) #[true, true, true, true, true, true, true, true, true, true, true, true, true] rfl rfl (one_of HT_.out (by kernel_rfl)) (by decide) (fun K hK => ?_)
                     have hs58 : w57.cell? ⟨gb234, 0, none⟩ = some (.int .i64 0) := (blk_cell BK234.out 0).trans rfl
                     have hfs58 := blk_frozen BK234.out 0
                     have hns58_0 := NB217_234.out
                     have hns58_1 := NB218_234.out
                     have hms58_0 := NB234_217.out
                     have hms58_1 := NB234_218.out
                     have hs59 : w57.cell? ⟨gb234, 1, none⟩ = some (.int .i64 0) := (blk_cell BK234.out 1).trans rfl
                     have hfs59 := blk_frozen BK234.out 1
                     have hns59_0 := NB217_234.out
                     have hns59_1 := NB218_234.out
                     have hms59_0 := NB234_217.out
                     have hms59_1 := NB234_218.out
                     have hs60 : w57.cell? ⟨gb234, 2, none⟩ = some (.int .i64 0) := (blk_cell BK234.out 2).trans rfl
                     have hfs60 := blk_frozen BK234.out 2
                     have hns60_0 := NB217_234.out
                     have hns60_1 := NB218_234.out
                     have hms60_0 := NB234_217.out
                     have hms60_1 := NB234_218.out
                     refine skip_ (w1 := ?_) (by rfl) rfl ?_ ?_
                     rotate_left
                     ·go_simp
                      rfl
                     refine hK.out _ _ ⟨((cell_far (p := ⟨gb234, _, none⟩) NB217_234.out _).trans (((cell_far (p := ⟨gb234, _, none⟩) NB217_234.out _).trans (((cell_far (p := ⟨gb234, _, none⟩) NB217_234.out _).trans (hHeld.1)))))), ((cell_far (p := ⟨gb234, _, none⟩) NB217_234.out _).trans (((cell_far (p := ⟨gb234, _, none⟩) NB217_234.out _).trans (((cell_far (p := ⟨gb234, _, none⟩) NB217_234.out _).trans (hHeld.2.1)))))), ((cell_far (p := ⟨gb234, _, none⟩) NB217_234.out _).trans (((cell_far (p := ⟨gb234, _, none⟩) NB217_234.out _).trans (((cell_far (p := ⟨gb234, _, none⟩) NB217_234.out _).trans (hHeld.2.2.1)))))), ((cell_far (p := ⟨gb234, _, none⟩) (by first | exact Nat.ne_of_lt (Nat.lt_of_lt_of_le (by have := World.block_lt_of_cell? _ _ hw231_0; first | rwa [add_block] at this | exact this) GW234.out) | (rw [add_block]; exact Nat.ne_of_lt (Nat.lt_of_lt_of_le (by have := World.block_lt_of_cell? _ _ hw231_0; first | rwa [add_block] at this | exact this) GW234.out)) | (show (Addr.add _ _).block ≠ _; rw [add_block]; exact Nat.ne_of_lt (Nat.lt_of_lt_of_le (by have := World.block_lt_of_cell? _ _ hw231_0; first | rwa [add_block] at this | exact this) GW234.out)) | (dsimp only; exact Nat.ne_of_lt (Nat.lt_of_lt_of_le (by have := World.block_lt_of_cell? _ _ hw231_0; first | rwa [add_block] at this | exact this) GW234.out))) _).trans (((cell_far (p := ⟨gb234, _, none⟩) (by first | exact Nat.ne_of_lt (Nat.lt_of_lt_of_le (by have := World.block_lt_of_cell? _ _ hw231_0; first | rwa [add_block] at this | exact this) GW234.out) | (rw [add_block]; exact Nat.ne_of_lt (Nat.lt_of_lt_of_le (by have := World.block_lt_of_cell? _ _ hw231_0; first | rwa [add_block] at this | exact this) GW234.out)) | (show (Addr.add _ _).block ≠ _; rw [add_block]; exact Nat.ne_of_lt (Nat.lt_of_lt_of_le (by have := World.block_lt_of_cell? _ _ hw231_0; first | rwa [add_block] at this | exact this) GW234.out)) | (dsimp only; exact Nat.ne_of_lt (Nat.lt_of_lt_of_le (by have := World.block_lt_of_cell? _ _ hw231_0; first | rwa [add_block] at this | exact this) GW234.out))) _).trans (((cell_far (p := ⟨gb234, _, none⟩) (by first | exact Nat.ne_of_lt (Nat.lt_of_lt_of_le (by have := World.block_lt_of_cell? _ _ hw231_0; first | rwa [add_block] at this | exact this) GW234.out) | (rw [add_block]; exact Nat.ne_of_lt (Nat.lt_of_lt_of_le (by have := World.block_lt_of_cell? _ _ hw231_0; first | rwa [add_block] at this | exact this) GW234.out)) | (show (Addr.add _ _).block ≠ _; rw [add_block]; exact Nat.ne_of_lt (Nat.lt_of_lt_of_le (by have := World.block_lt_of_cell? _ _ hw231_0; first | rwa [add_block] at this | exact this) GW234.out)) | (dsimp only; exact Nat.ne_of_lt (Nat.lt_of_lt_of_le (by have := World.block_lt_of_cell? _ _ hw231_0; first | rwa [add_block] at this | exact this) GW234.out))) _).trans (hHeld.2.2.2.1)))))), ((cell_far (p := ⟨gb234, _, none⟩) (by first | exact Kd.own_blk (Kd.R_ne HO_9.out BK234.out (by decide)) | (rw [add_block]; exact Kd.own_blk (Kd.R_ne HO_9.out BK234.out (by decide))) | (show (Addr.add _ _).block ≠ _; rw [add_block]; exact Kd.own_blk (Kd.R_ne HO_9.out BK234.out (by decide))) | (dsimp only; exact Kd.own_blk (Kd.R_ne HO_9.out BK234.out (by decide)))) _).trans (((cell_far (p := ⟨gb234, _, none⟩) (by first | exact Kd.own_blk (Kd.R_ne HO_9.out BK234.out (by decide)) | (rw [add_block]; exact Kd.own_blk (Kd.R_ne HO_9.out BK234.out (by decide))) | (show (Addr.add _ _).block ≠ _; rw [add_block]; exact Kd.own_blk (Kd.R_ne HO_9.out BK234.out (by decide))) | (dsimp only; exact Kd.own_blk (Kd.R_ne HO_9.out BK234.out (by decide)))) _).trans (((cell_far (p := ⟨gb234, _, none⟩) (by first | exact Kd.own_blk (Kd.R_ne HO_9.out BK234.out (by decide)) | (rw [add_block]; exact Kd.own_blk (Kd.R_ne HO_9.out BK234.out (by decide))) | (show (Addr.add _ _).block ≠ _; rw [add_block]; exact Kd.own_blk (Kd.R_ne HO_9.out BK234.out (by decide))) | (dsimp only; exact Kd.own_blk (Kd.R_ne HO_9.out BK234.out (by decide)))) _).trans (hHeld.2.2.2.2.1)))))), ((cell_far (p := ⟨gb234, _, none⟩) (by first | exact Nat.ne_of_lt (Nat.lt_of_lt_of_le (by have := World.block_lt_of_cell? _ _ hw233_0; first | rwa [add_block] at this | exact this) GW234.out) | (rw [add_block]; exact Nat.ne_of_lt (Nat.lt_of_lt_of_le (by have := World.block_lt_of_cell? _ _ hw233_0; first | rwa [add_block] at this | exact this) GW234.out)) | (show (Addr.add _ _).block ≠ _; rw [add_block]; exact Nat.ne_of_lt (Nat.lt_of_lt_of_le (by have := World.block_lt_of_cell? _ _ hw233_0; first | rwa [add_block] at this | exact this) GW234.out)) | (dsimp only; exact Nat.ne_of_lt (Nat.lt_of_lt_of_le (by have := World.block_lt_of_cell? _ _ hw233_0; first | rwa [add_block] at this | exact this) GW234.out))) _).trans (((cell_far (p := ⟨gb234, _, none⟩) (by first | exact Nat.ne_of_lt (Nat.lt_of_lt_of_le (by have := World.block_lt_of_cell? _ _ hw233_0; first | rwa [add_block] at this | exact this) GW234.out) | (rw [add_block]; exact Nat.ne_of_lt (Nat.lt_of_lt_of_le (by have := World.block_lt_of_cell? _ _ hw233_0; first | rwa [add_block] at this | exact this) GW234.out)) | (show (Addr.add _ _).block ≠ _; rw [add_block]; exact Nat.ne_of_lt (Nat.lt_of_lt_of_le (by have := World.block_lt_of_cell? _ _ hw233_0; first | rwa [add_block] at this | exact this) GW234.out)) | (dsimp only; exact Nat.ne_of_lt (Nat.lt_of_lt_of_le (by have := World.block_lt_of_cell? _ _ hw233_0; first | rwa [add_block] at this | exact this) GW234.out))) _).trans (((cell_far (p := ⟨gb234, _, none⟩) (by first | exact Nat.ne_of_lt (Nat.lt_of_lt_of_le (by have := World.block_lt_of_cell? _ _ hw233_0; first | rwa [add_block] at this | exact this) GW234.out) | (rw [add_block]; exact Nat.ne_of_lt (Nat.lt_of_lt_of_le (by have := World.block_lt_of_cell? _ _ hw233_0; first | rwa [add_block] at this | exact this) GW234.out)) | (show (Addr.add _ _).block ≠ _; rw [add_block]; exact Nat.ne_of_lt (Nat.lt_of_lt_of_le (by have := World.block_lt_of_cell? _ _ hw233_0; first | rwa [add_block] at this | exact this) GW234.out)) | (dsimp only; exact Nat.ne_of_lt (Nat.lt_of_lt_of_le (by have := World.block_lt_of_cell? _ _ hw233_0; first | rwa [add_block] at this | exact this) GW234.out))) _).trans (hHeld.2.2.2.2.2.1)))))), ((cell_far (p := ⟨gb234, _, none⟩) (by first | exact Nat.ne_of_lt (Nat.lt_of_lt_of_le (by have := World.block_lt_of_cell? _ _ hw233_1; first | rwa [add_block] at this | exact this) GW234.out) | (rw [add_block]; exact Nat.ne_of_lt (Nat.lt_of_lt_of_le (by have := World.block_lt_of_cell? _ _ hw233_1; first | rwa [add_block] at this | exact this) GW234.out)) | (show (Addr.add _ _).block ≠ _; rw [add_block]; exact Nat.ne_of_lt (Nat.lt_of_lt_of_le (by have := World.block_lt_of_cell? _ _ hw233_1; first | rwa [add_block] at this | exact this) GW234.out)) | (dsimp only; exact Nat.ne_of_lt (Nat.lt_of_lt_of_le (by have := World.block_lt_of_cell? _ _ hw233_1; first | rwa [add_block] at this | exact this) GW234.out))) _).trans (((cell_far (p := ⟨gb234, _, none⟩) (by first | exact Nat.ne_of_lt (Nat.lt_of_lt_of_le (by have := World.block_lt_of_cell? _ _ hw233_1; first | rwa [add_block] at this | exact this) GW234.out) | (rw [add_block]; exact Nat.ne_of_lt (Nat.lt_of_lt_of_le (by have := World.block_lt_of_cell? _ _ hw233_1; first | rwa [add_block] at this | exact this) GW234.out)) | (show (Addr.add _ _).block ≠ _; rw [add_block]; exact Nat.ne_of_lt (Nat.lt_of_lt_of_le (by have := World.block_lt_of_cell? _ _ hw233_1; first | rwa [add_block] at this | exact this) GW234.out)) | (dsimp only; exact Nat.ne_of_lt (Nat.lt_of_lt_of_le (by have := World.block_lt_of_cell? _ _ hw233_1; first | rwa [add_block] at this | exact this) GW234.out))) _).trans (((cell_far (p := ⟨gb234, _, none⟩) (by first | exact Nat.ne_of_lt (Nat.lt_of_lt_of_le (by have := World.block_lt_of_cell? _ _ hw233_1; first | rwa [add_block] at this | exact this) GW234.out) | (rw [add_block]; exact Nat.ne_of_lt (Nat.lt_of_lt_of_le (by have := World.block_lt_of_cell? _ _ hw233_1; first | rwa [add_block] at this | exact this) GW234.out)) | (show (Addr.add _ _).block ≠ _; rw [add_block]; exact Nat.ne_of_lt (Nat.lt_of_lt_of_le (by have := World.block_lt_of_cell? _ _ hw233_1; first | rwa [add_block] at this | exact this) GW234.out)) | (dsimp only; exact Nat.ne_of_lt (Nat.lt_of_lt_of_le (by have := World.block_lt_of_cell? _ _ hw233_1; first | rwa [add_block] at this | exact this) GW234.out))) _).trans (hHeld.2.2.2.2.2.2.1)))))), ((cell_far (p := ⟨gb234, _, none⟩) (by first | exact Nat.ne_of_lt (Nat.lt_of_lt_of_le (by have := World.block_lt_of_cell? _ _ hw233_2; first | rwa [add_block] at this | exact this) GW234.out) | (rw [add_block]; exact Nat.ne_of_lt (Nat.lt_of_lt_of_le (by have := World.block_lt_of_cell? _ _ hw233_2; first | rwa [add_block] at this | exact this) GW234.out)) | (show (Addr.add _ _).block ≠ _; rw [add_block]; exact Nat.ne_of_lt (Nat.lt_of_lt_of_le (by have := World.block_lt_of_cell? _ _ hw233_2; first | rwa [add_block] at this | exact this) GW234.out)) | (dsimp only; exact Nat.ne_of_lt (Nat.lt_of_lt_of_le (by have := World.block_lt_of_cell? _ _ hw233_2; first | rwa [add_block] at this | exact this) GW234.out))) _).trans (((cell_far (p := ⟨gb234, _, none⟩) (by first | exact Nat.ne_of_lt (Nat.lt_of_lt_of_le (by have := World.block_lt_of_cell? _ _ hw233_2; first | rwa [add_block] at this | exact this) GW234.out) | (rw [add_block]; exact Nat.ne_of_lt (Nat.lt_of_lt_of_le (by have := World.block_lt_of_cell? _ _ hw233_2; first | rwa [add_block] at this | exact this) GW234.out)) | (show (Addr.add _ _).block ≠ _; rw [add_block]; exact Nat.ne_of_lt (Nat.lt_of_lt_of_le (by have := World.block_lt_of_cell? _ _ hw233_2; first | rwa [add_block] at this | exact this) GW234.out)) | (dsimp only; exact Nat.ne_of_lt (Nat.lt_of_lt_of_le (by have := World.block_lt_of_cell? _ _ hw233_2; first | rwa [add_block] at this | exact this) GW234.out))) _).trans (((cell_far (p := ⟨gb234, _, none⟩) (by first | exact Nat.ne_of_lt (Nat.lt_of_lt_of_le (by have := World.block_lt_of_cell? _ _ hw233_2; first | rwa [add_block] at this | exact this) GW234.out) | (rw [add_block]; exact Nat.ne_of_lt (Nat.lt_of_lt_of_le (by have := World.block_lt_of_cell? _ _ hw233_2; first | rwa [add_block] at this | exact this) GW234.out)) | (show (Addr.add _ _).block ≠ _; rw [add_block]; exact Nat.ne_of_lt (Nat.lt_of_lt_of_le (by have := World.block_lt_of_cell? _ _ hw233_2; first | rwa [add_block] at this | exact this) GW234.out)) | (dsimp only; exact Nat.ne_of_lt (Nat.lt_of_lt_of_le (by have := World.block_lt_of_cell? _ _ hw233_2; first | rwa [add_block] at this | exact this) GW234.out))) _).trans (hHeld.2.2.2.2.2.2.2))))))⟩ (fun hHeld => ?_)
                     clear hK K
                     refine done_ (done_of HT_.out (by kernel_rfl)) ?_
                     have n0_ : Aside0 (Kd.R (Kd.int .i64) 3 (((w57.setCell ⟨gb234, 0, none⟩ (.int .i64 ((rd_T57 (rd_L2 l0_2 x1_2) (rd x9_2 x2_2)).f0))).setCell ⟨gb234, 1, none⟩ (.int .i64 ((rd_T57 (rd_L2 l0_2 x1_2) (rd x9_2 x2_2)).f1))).setCell ⟨gb234, 2, none⟩ (.int .i64 ((rd_T57 (rd_L2 l0_2 x1_2) (rd x9_2 x2_2)).f2))) w.heap.size (fun _ => True) (.slice (some ad232) x9_2.length co51) x9_2) := ⟨by (with_reducible repeat (first | apply Kd.R_alloc | apply Kd.R_drewN | apply Kd.R_drew)); exact Kd.R_mono (Kd.R_far (p := ⟨gb234, 2, none⟩) (Kd.R_far (p := ⟨gb234, 1, none⟩) (Kd.R_far (p := ⟨gb234, 0, none⟩) (Kd.R_types HO_9.out BK234.out (by decide)) (fun _ hk => hk.2) (.int .i64 ((rd_T57 (rd_L2 l0_2 x1_2) (rd x9_2 x2_2)).f0))) (fun _ hk => hk.2) (.int .i64 ((rd_T57 (rd_L2 l0_2 x1_2) (rd x9_2 x2_2)).f1))) (fun _ hk => hk.2) (.int .i64 ((rd_T57 (rd_L2 l0_2 x1_2) (rd x9_2 x2_2)).f2))) (fun _ hk => trivial)⟩
                     have n1_ : Aside0 (Kd.R Kd.bool 4 (((w57.setCell ⟨gb234, 0, none⟩ (.int .i64 ((rd_T57 (rd_L2 l0_2 x1_2) (rd x9_2 x2_2)).f0))).setCell ⟨gb234, 1, none⟩ (.int .i64 ((rd_T57 (rd_L2 l0_2 x1_2) (rd x9_2 x2_2)).f1))).setCell ⟨gb234, 2, none⟩ (.int .i64 ((rd_T57 (rd_L2 l0_2 x1_2) (rd x9_2 x2_2)).f2))) w.heap.size (fun _ => True) (.slice (some ⟨go43, 0, none⟩) x12_2.length co53) y230) := ⟨by (with_reducible repeat (first | apply Kd.R_alloc | apply Kd.R_drewN | apply Kd.R_drew)); exact Kd.R_mono (Kd.R_far (p := ⟨gb234, 2, none⟩) (Kd.R_far (p := ⟨gb234, 1, none⟩) (Kd.R_far (p := ⟨gb234, 0, none⟩) (Kd.R_types HO_12.out BK234.out (by decide)) (fun _ hk => hk.2) (.int .i64 ((rd_T57 (rd_L2 l0_2 x1_2) (rd x9_2 x2_2)).f0))) (fun _ hk => hk.2) (.int .i64 ((rd_T57 (rd_L2 l0_2 x1_2) (rd x9_2 x2_2)).f1))) (fun _ hk => hk.2) (.int .i64 ((rd_T57 (rd_L2 l0_2 x1_2) (rd x9_2 x2_2)).f2))) (fun _ hk => trivial)⟩
                     have n2_ : Aside0 ((((w57.setCell ⟨gb234, 0, none⟩ (.int .i64 ((rd_T57 (rd_L2 l0_2 x1_2) (rd x9_2 x2_2)).f0))).setCell ⟨gb234, 1, none⟩ (.int .i64 ((rd_T57 (rd_L2 l0_2 x1_2) (rd x9_2 x2_2)).f1))).setCell ⟨gb234, 2, none⟩ (.int .i64 ((rd_T57 (rd_L2 l0_2 x1_2) (rd x9_2 x2_2)).f2))).heap[gb217]? = some (.cells #[.int .i64 a0_0, .int .i64 a0_1, .slice (some ad231) l0_2.length c0_2] 24 (0, 0))) := ⟨by refine pk_ ?_; refine blk_far ?_ NB217_234.out _; refine pk_ ?_; refine blk_far ?_ NB217_234.out _; refine pk_ ?_; refine blk_far ?_ NB217_234.out _; exact pk_ BK217.out⟩
                     have n3_ : Aside0 ((((w57.setCell ⟨gb234, 0, none⟩ (.int .i64 ((rd_T57 (rd_L2 l0_2 x1_2) (rd x9_2 x2_2)).f0))).setCell ⟨gb234, 1, none⟩ (.int .i64 ((rd_T57 (rd_L2 l0_2 x1_2) (rd x9_2 x2_2)).f1))).setCell ⟨gb234, 2, none⟩ (.int .i64 ((rd_T57 (rd_L2 l0_2 x1_2) (rd x9_2 x2_2)).f2))).heap[gb218]? = some (.cells #[.int .i64 x219000_2, .int .i64 x219001_2, .int .i64 x219002_2, .int .i64 x219003_2, .slice none 0 0] 29 (0, 0))) := ⟨by refine pk_ ?_; refine blk_far ?_ NB218_234.out _; refine pk_ ?_; refine blk_far ?_ NB218_234.out _; refine pk_ ?_; refine blk_far ?_ NB218_234.out _; exact pk_ BK218.out⟩
                     have n4_ : Aside0 ((((w57.setCell ⟨gb234, 0, none⟩ (.int .i64 ((rd_T57 (rd_L2 l0_2 x1_2) (rd x9_2 x2_2)).f0))).setCell ⟨gb234, 1, none⟩ (.int .i64 ((rd_T57 (rd_L2 l0_2 x1_2) (rd x9_2 x2_2)).f1))).setCell ⟨gb234, 2, none⟩ (.int .i64 ((rd_T57 (rd_L2 l0_2 x1_2) (rd x9_2 x2_2)).f2))).heap[gb234]? = some (.cells #[.int .i64 ((rd_T57 (rd_L2 l0_2 x1_2) (rd x9_2 x2_2)).f0), .int .i64 ((rd_T57 (rd_L2 l0_2 x1_2) (rd x9_2 x2_2)).f1), .int .i64 ((rd_T57 (rd_L2 l0_2 x1_2) (rd x9_2 x2_2)).f2)] 57 (0, 0))) := ⟨by refine pk_ ?_; refine blk_put (cs := #[.int .i64 ((rd_T57 (rd_L2 l0_2 x1_2) (rd x9_2 x2_2)).f0), .int .i64 ((rd_T57 (rd_L2 l0_2 x1_2) (rd x9_2 x2_2)).f1), .int .i64 0]) ?_ 2 _ rfl; refine pk_ ?_; refine blk_put (cs := #[.int .i64 ((rd_T57 (rd_L2 l0_2 x1_2) (rd x9_2 x2_2)).f0), .int .i64 0, .int .i64 0]) ?_ 1 _ rfl; refine pk_ ?_; refine blk_put (cs := #[.int .i64 0, .int .i64 0, .int .i64 0]) ?_ 0 _ rfl; exact pk_ BK234.out⟩
                     have n5_ : Aside0 (Below w.heap.size w (((w57.setCell ⟨gb234, 0, none⟩ (.int .i64 ((rd_T57 (rd_L2 l0_2 x1_2) (rd x9_2 x2_2)).f0))).setCell ⟨gb234, 1, none⟩ (.int .i64 ((rd_T57 (rd_L2 l0_2 x1_2) (rd x9_2 x2_2)).f1))).setCell ⟨gb234, 2, none⟩ (.int .i64 ((rd_T57 (rd_L2 l0_2 x1_2) (rd x9_2 x2_2)).f2)))) := ⟨bk_ HB.out⟩
                     (try clear HO_9)
                     (try clear HO_12)
                     (try clear BK217)
                     (try clear BK218)
                     (try clear BK234)
                     (try clear HB)
                     generalize (((w57.setCell ⟨gb234, 0, none⟩ (.int .i64 ((rd_T57 (rd_L2 l0_2 x1_2) (rd x9_2 x2_2)).f0))).setCell ⟨gb234, 1, none⟩ (.int .i64 ((rd_T57 (rd_L2 l0_2 x1_2) (rd x9_2 x2_2)).f1))).setCell ⟨gb234, 2, none⟩ (.int .i64 ((rd_T57 (rd_L2 l0_2 x1_2) (rd x9_2 x2_2)).f2))) = w61 at n0_ n1_ n2_ n3_ n4_ n5_ ⊢
                     have HO_9 := n0_
                     have HO_12 := n1_
                     have BK217 := n2_
                     have BK218 := n3_
                     have BK234 := n4_
                     have HB := n5_
                     clear n0_ n1_ n2_ n3_ n4_ n5_
                     have hnb62 := NB234_217.out
                     have hnc62 := NB217_234.out
                     have hnb63 := NB234_218.out
                     have hnc63 := NB218_234.out
                     have hcz64_0 : w61.cell? ⟨gb234, 0, none⟩ = some (.int .i64 ((rd_T57 (rd_L2 l0_2 x1_2) (rd x9_2 x2_2)).f0)) := (blk_cell BK234.out 0).trans rfl
                     have hcz64_1 : w61.cell? ⟨gb234, 1, none⟩ = some (.int .i64 ((rd_T57 (rd_L2 l0_2 x1_2) (rd x9_2 x2_2)).f1)) := (blk_cell BK234.out 1).trans rfl
                     have hcz64_2 : w61.cell? ⟨gb234, 2, none⟩ = some (.int .i64 ((rd_T57 (rd_L2 l0_2 x1_2) (rd x9_2 x2_2)).f2)) := (blk_cell BK234.out 2).trans rfl
                     have hfz64_0 := blk_frozen BK234.out 0
                     have hfz64_1 := blk_frozen BK234.out 1
                     have hfz64_2 := blk_frozen BK234.out 2
                     have p50 : 0 ≤ (x2_2 : Int) := od_
                     have q50 : (x2_2 : Int) < ((x9_2.length : Int) : Int) := od_
                     obtain ⟨go50, co50, eo50, gb50, gl50, cl50, HG50⟩ := Kd.R_form HO_9.out (by omega)
                     (first | cases eo50 | (injection eo50 with ea_ en_ ec_; (first | subst ea_ | (injection ea_ with ea_; subst ea_)); subst ec_; clear en_))
                     have GB50 := Aside0.mk gb50
                     have GG50 := Aside0.mk HG50
                     clear gb50 gl50 HG50
                     (first | simp only [add_plain] at hx232_0 | skip)
                     obtain ⟨hx50_0, hf50_0⟩ := Kd.R_celln 0 HO_9.out (x2_2 : Int) p50 q50
                     replace p50 := eq_true p50
                     replace q50 := eq_true q50
                     obtain ⟨hy65_, hz65_⟩ := Kd.R_celln 0 HO_9.out (x2_2 : Int) (od_) (od_)
                     have HP65 := Kd.R_putg HO_9.out (x2_2 : Int) ((rd_T57 (rd_L2 l0_2 x1_2) (rd x9_2 x2_2)).f0)
                     try go_wp2_with (first | ((with_reducible refine gate_store (t := 3) (p := 98) rfl ?_); refine store_event (t := 3) (p := 98) (v := ?vo_w66) (w1 := (w61.setCell ⟨go50, (x2_2 : Int).toNat, none⟩ (.int .i64 ((rd_T57 (rd_L2 l0_2 x1_2) (rd x9_2 x2_2)).f0)))) ?hg ?ho ?hn ?hr ?_; (case ho => rfl); (case hg => rfl); (case hn => rfl); (case hr => first | (go_simp; done) | (go_simp; rfl)); intro w66 hw; have hg : w61.grownBy w66 (some go50) := (by rw [hw]; exact HP65.2); have hp_ : Kd.R (Kd.int .i64) 3 w66 w.heap.size (fun _ => True) (.slice (some ⟨go50, 0, none⟩) x9_2.length co51) y235 := (by rw [hw, Ny235.out]; exact HP65.1); clear HP65; have n0_ := A_ (hp_); have n1_ := A_ (Kd.R_over' (v := (.slice (some ⟨go50, 0, none⟩) x9_2.length co51)) (rk_ HO_12.out) (Kd.R_typed HO_9.out) (by decide) hg); have n2_ := A_ (blk_grown (pk_ BK217.out) hg (Kd.R_ne HO_9.out BK217.out (by decide))); have n3_ := A_ (blk_grown (pk_ BK218.out) hg (Kd.R_ne HO_9.out BK218.out (by decide))); have n4_ := A_ (blk_grown (pk_ BK234.out) hg (Kd.R_ne HO_9.out BK234.out (by decide))); have n5_ := A_ ((by rw [hw]; exact below_set (HB.out) GB50.out : Below w.heap.size w w66)); clear HO_9 HO_12 BK217 BK218 BK234 HB; have HO_9 := n0_; have HO_12 := n1_; have BK217 := n2_; have BK218 := n3_; have BK234 := n4_; have HB := n5_; clear n0_ n1_ n2_ n3_ n4_ n5_ hg hw hp_))
                     have n0_ := A_ (Kd.R_drew HO_9.out)
                     have n1_ := A_ (Kd.R_drew HO_12.out)
                     have n2_ := A_ (blk_drew BK217.out)
                     have n3_ := A_ (blk_drew BK218.out)
                     have n4_ := A_ (blk_drew BK234.out)
                     have n5_ := A_ (below_drew1 HB.out)
                     clear HO_9 HO_12 BK217 BK218 BK234 HB
                     have HO_9 := n0_
                     have HO_12 := n1_
                     have BK217 := n2_
                     have BK218 := n3_
                     have BK234 := n4_
                     have HB := n5_
                     clear n0_ n1_ n2_ n3_ n4_ n5_
                     refine start_ (n := 8) (S := fun w' => w'.cell? ⟨gb234, 0, none⟩ = some (.int .i64 ((rd_T57 (rd_L2 l0_2 x1_2) (rd x9_2 x2_2)).f0)) ∧ w'.cell? ⟨gb234, 1, none⟩ = some (.int .i64 ((rd_T57 (rd_L2 l0_2 x1_2) (rd x9_2 x2_2)).f1)) ∧ w'.cell? ⟨gb234, 2, none⟩ = some (.int .i64 ((rd_T57 (rd_L2 l0_2 x1_2) (rd x9_2 x2_2)).f2))) (ds := []) #[false, false, false, false, false, false, false, false] (by kernel_rfl) rfl rfl ⟨(blk_cell BK234.out 0).trans rfl, (blk_cell BK234.out 1).trans rfl, (blk_cell BK234.out 2).trans rfl⟩ (fun hHeld => ?_); refine with_tabW standstillref05_Cross.tab22 standstillref05_Cross.bits22 (fun HT_ HW_ => ?_)
                     generalize w66.drew = w67 at HO_9 HO_12 BK217 BK218 BK234 HB hHeld ⊢
                     refine pure_ (i := 0) (N := some 99) (v := ?_) (a' := ?_) #[true, false, false, false, false, false, false, false] rfl rfl (any_of HT_.out (by kernel_rfl)) (fun _ _ _ h => h) (Or.inl ⟨by rfl, ?_⟩) ?_ ?_
                     rotate_left
                     ·intro w'
                      go_simp
                      with_reducible rfl
                     rotate_left
                     ·simp only [Act.put, sa_, sz_, ss_, i64_w, i32_w]
                      rfl
                     refine pure_ (i := 1) (N := some 100) (v := ?_) (a' := ?_) #[true, true, false, false, false, false, false, false] rfl rfl (any_of HT_.out (by kernel_rfl)) (fun _ _ _ h => h) (Or.inl ⟨by rfl, ?_⟩) ?_ ?_
                     rotate_left
                     ·intro w'
                      go_simp
                      with_reducible rfl
                     rotate_left
                     ·simp only [Act.put, sa_, sz_, ss_, i64_w, i32_w]
                      rfl
                     refine pure_ (i := 4) (N := some 103) (v := ?_) (a' := ?_) #[true, true, false, false, true, false, false, false] rfl rfl (any_of HT_.out (by kernel_rfl)) (fun _ _ _ h => h) (Or.inl ⟨by rfl, ?_⟩) ?_ ?_
                     rotate_left
                     ·intro w'
                      go_simp
                      with_reducible rfl
                     rotate_left
                     ·simp only [Act.put, sa_, sz_, ss_, i64_w, i32_w]
                      rfl
                     refine take_ (i := 2) (N := some 101) (v := ?_) (a' := ?_) #[true, true, true, false, true, false, false, false] rfl rfl (take_ofW HT_.out HW_.out (by kernel_rfl)) (fun _ _ _ h => h) (Or.inl ⟨by rfl, ?_⟩) hHeld ?_ ?_
                     rotate_left
                     ·rintro w' ⟨s0, s1, s2⟩
                      go_simp
                      with_reducible rfl
                     rotate_left
                     ·simp only [Act.put, sa_, sz_, ss_, i64_w, i32_w]
                      rfl
                     refine pure_ (i := 3) (N := some 102) (v := ?_) (a' := ?_) #[true, true, true, true, true, false, false, false] rfl rfl (any_of HT_.out (by kernel_rfl)) (fun _ _ _ h => h) (Or.inl ⟨by rfl, ?_⟩) ?_ ?_
                     rotate_left
                     ·intro w'
                      go_simp
                      with_reducible rfl
                     rotate_left
                     ·simp only [Act.put, sa_, sz_, ss_, i64_w, i32_w]
                      rfl
                     refine pure_ (i := 6) (N := some 2) (v := ?_) (a' := ?_) #[true, true, true, true, true, false, true, false] rfl rfl (any_of HT_.out (by kernel_rfl)) (fun _ _ _ h => h) (Or.inl ⟨by rfl, ?_⟩) ?_ ?_
                     rotate_left
                     ·intro w'
                      go_simp
                      with_reducible rfl
                     rotate_left
                     ·simp only [Act.put, sa_, sz_, ss_, i64_w, i32_w]
                      rfl
                     refine take_ (i := 5) (N := some 104) (v := ?_) (a' := ?_) #[true, true, true, true, true, true, true, false] rfl rfl (take_ofW HT_.out HW_.out (by kernel_rfl)) (fun _ _ _ h => h) (Or.inl ⟨by rfl, ?_⟩) hHeld ?_ ?_
                     rotate_left
                     ·rintro w' ⟨s0, s1, s2⟩
                      go_simp
                      with_reducible rfl
                     rotate_left
                     ·simp only [Act.put, sa_, sz_, ss_, i64_w, i32_w]
                      rfl
                     refine pure_ (i := 7) (N := some 1) (v := ?_) (a' := ?_) #[true, true, true, true, true, true, true, true] rfl rfl (any_of HT_.out (by kernel_rfl)) (fun _ _ _ h => h) (Or.inl ⟨by rfl, ?_⟩) ?_ ?_
                     rotate_left
                     ·intro w'
                      go_simp
                      with_reducible rfl
                     rotate_left
                     ·simp only [Act.put, sa_, sz_, ss_, i64_w, i32_w]
                      rfl
                     refine done_ (done_of HT_.out (by kernel_rfl)) ?_
                     try go_wp2
                     go_roundg k2
                     case measure => have := HK1.out; have := HK2.out; omega
                     case rel => exact ⟨((rd_T57 (rd_L2 l0_2 x1_2) (rd x9_2 x2_2)).f2), (wrap64 (x2_2 + ((rd_T57 (rd_L2 l0_2 x1_2) (rd x9_2 x2_2)).f1))), (y235), (y230), (wrap64 (x13_2 + 1)), (x219000_2), (x219001_2), (x219002_2), (x219003_2), jr_, jr_, jr_, H', ⟨by have := HK1.out; have := HK2.out; omega⟩, ⟨rk_ HO_9.out⟩, ⟨rk_ HO_12.out⟩, ⟨pk_ BK217.out⟩, ⟨pk_ BK218.out⟩, ⟨bk_ HB.out⟩⟩
                    ·rw [if_neg c49] at H
                     exact absurd H (by simp)
                   ·rw [if_neg c48] at H
                    exact absurd H (by simp)
                  ·rw [if_neg c47] at H
                   exact absurd H (by simp)
                 ·rw [if_neg c46] at H
                  exact absurd H (by simp)
                ·rw [if_neg c45] at H
                 exact absurd H (by simp)
               ·rw [if_neg c44] at H
                exact absurd H (by simp)
             ·rw [if_neg c35] at H
              exact absurd H (by simp)
            ·rw [if_neg c34] at H
             exact absurd H (by simp)
      ·rw [if_neg c17] at H
       exact absurd H (by simp)
     ·rw [if_neg c16] at H
      exact absurd H (by simp)
 ·rw [if_neg c5] at H
  exact absurd H (by simp)

end Go.Proofs.Ytcdejoaekkcknaa.PBlockCrosses
