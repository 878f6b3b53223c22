-- out of a turned copy of the print, by a program of this session; Lean checks it
import Derived.Test.YtkbekdjoaibhbaaPPairRunsx0
import Derived.Test.YtkbekdjoaibhbaaPPairRunsx9
import Derived.Test.YtkbekdjoaibhbaaPPairRunsx11
import Derived.Test.YtkbekdjoaibhbaaPPairRunsx12
import Derived.Test.YtkbekdjoaibhbaaPPairRunsx13
namespace Go.Proofs.Ytkbekdjoaibhbaa.PPairRuns
open Go.RowKit Go.Proofs.YtkbekdjoaibhbaaW.PrintWords Go.Proofs.YtkbekdjoaibhbaaW.PrintLast Go.Proofs.YtkbekdjoaibhbaaW.PrintMore
attribute [local go_sem] max2_int min2_int max_two min_two max_three min_three max_four min_four   -- for this text's walks alone
set_option linter.unusedVariables false
set_option linter.unusedSimpArgs false

attribute [local go_sem] isSome_put_
/-! ### standstilllaw08_next: function 19 -/
mutual
def standstilllaw08_next.j0 : Nat → List Int → Int → Bool → Int → List (S45) → Int → List Int → Int → List Int → Option (Int × List Int × Bool × Bool)
 | 0, _, _, _, _, _, _, _, _, _ => none
 | k + 1, x2, x4, x46, x231000, x231001, x232000, x232001, x239000, x239001 => if x46 = true then (none) else ((standstillref08_Encode.f k x232001).bind fun bt241 => ((standstillref08_Encode.f k x239001).bind fun bt243 => (if bt241.2 = true then (if bt243.2 = true then (if bt241.1 > x4 then (standstilllaw08_next.j1 k x2 bt241.1 bt243.1 true x231000 x231001 x232000 x232001 x239000 x239001) else (standstilllaw08_next.j1 k x2 bt241.1 bt243.1 (decide (bt243.1 > x4)) x231000 x231001 x232000 x232001 x239000 x239001)) else (standstilllaw08_next.j1 k x2 bt241.1 bt243.1 true x231000 x231001 x232000 x232001 x239000 x239001)) else (standstilllaw08_next.j1 k x2 bt241.1 bt243.1 true x231000 x231001 x232000 x232001 x239000 x239001))))
def standstilllaw08_next.j1 : Nat → List Int → Int → Int → Bool → Int → List (S45) → Int → List Int → Int → List Int → Option (Int × List Int × Bool × Bool)
 | 0, _, _, _, _, _, _, _, _, _, _ => none
 | k + 1, x2, x15, x17, x75, x231000, x231001, x232000, x232001, x239000, x239001 => if x75 = true then (some (x232000, x232001, true, true)) else (if x232000 < 0 then (standstilllaw08_next.j2 k x2 x15 x17 true x231000 x231001 x232000 x232001 x239000 x239001) else (if x232000 ≥ (x2.length : Int) then (standstilllaw08_next.j2 k x2 x15 x17 true x231000 x231001 x232000 x232001 x239000 x239001) else (if x239000 < 0 then (standstilllaw08_next.j2 k x2 x15 x17 true x231000 x231001 x232000 x232001 x239000 x239001) else (standstilllaw08_next.j2 k x2 x15 x17 (decide (x239000 ≥ (x2.length : Int))) x231000 x231001 x232000 x232001 x239000 x239001))))
def standstilllaw08_next.j2 : Nat → List Int → Int → Int → Bool → Int → List (S45) → Int → List Int → Int → List Int → Option (Int × List Int × Bool × Bool)
 | 0, _, _, _, _, _, _, _, _, _, _ => none
 | k + 1, x2, x15, x17, x98, x231000, x231001, x232000, x232001, x239000, x239001 => if x98 = true then (none) else (if 0 ≤ x232000 then (if x232000 < (x2.length : Int) then ((counter_Until.f k x231000 x231001 (rd x2 x232000) (([x15, 0] : List Int)) x2 (wrap64 (100 + (wrap64 (100 * (mx x15 x17)))))).bind fun bt249 => (if bt249.2.2.2 = 0 then (if bt249.2.2.1 ≤ (wrap64 (100 + (wrap64 (100 * (mx x15 x17))))) then (if 0 ≤ x239000 then (if x239000 < (x2.length : Int) then ((standstillref06_SameCount.f k bt249.1 bt249.2.1 (rd x2 x239000) (([x17, 0] : List Int))).bind fun t260 => (some (x239000, x239001, false, t260))) else (none)) else (none)) else (none)) else (none))) else (none)) else (none))
end
def standstilllaw08_next.f (k : Nat) (a0_0 : Int) (l0_1 : List (S45)) (a1_0 : Int) (l1_1 : List (S45)) (l2 : List Int) (a3_0 : Int) (l3_1 : List Int) (a4 : Int) : Option (Int × List Int × Bool × Bool) := (counter_Step.f k a0_0 l0_1 a3_0 l3_1).bind fun bt233 => (if bt233.2.2 = 0 then ((standstillref08_Contents.f k l3_1).bind fun t239 => (if t239 = true then ((standstillref08_Contents.f k bt233.2.1).bind fun t240 => (standstilllaw08_next.j0 k l2 a4 (!t240) a1_0 l1_1 a3_0 l3_1 bt233.1 bt233.2.1)) else (standstilllaw08_next.j0 k l2 a4 true a1_0 l1_1 a3_0 l3_1 bt233.1 bt233.2.1))) else (if bt233.2.2 = 5 then (some (a3_0, l3_1, true, true)) else (some (a3_0, l3_1, true, (bt233.2.2 == 4)))))
theorem standstilllaw08_next.mono_l : ∀ k, (∀ y0 y1 y2 y3 y4 y5 y6 y7 y8, LeO (standstilllaw08_next.j0 k y0 y1 y2 y3 y4 y5 y6 y7 y8) (standstilllaw08_next.j0 (k + 1) y0 y1 y2 y3 y4 y5 y6 y7 y8)) ∧ (∀ y0 y1 y2 y3 y4 y5 y6 y7 y8 y9, LeO (standstilllaw08_next.j1 k y0 y1 y2 y3 y4 y5 y6 y7 y8 y9) (standstilllaw08_next.j1 (k + 1) y0 y1 y2 y3 y4 y5 y6 y7 y8 y9)) ∧ (∀ y0 y1 y2 y3 y4 y5 y6 y7 y8 y9, LeO (standstilllaw08_next.j2 k y0 y1 y2 y3 y4 y5 y6 y7 y8 y9) (standstilllaw08_next.j2 (k + 1) y0 y1 y2 y3 y4 y5 y6 y7 y8 y9))
 | 0 => ⟨fun _ _ _ _ _ _ _ _ _ r h => by simp [standstilllaw08_next.j0] at h, fun _ _ _ _ _ _ _ _ _ _ r h => by simp [standstilllaw08_next.j1] at h, fun _ _ _ _ _ _ _ _ _ _ r h => by simp [standstilllaw08_next.j2] at h⟩
 | k + 1 => by
  obtain ⟨ih0, ih1, ih2⟩ := standstilllaw08_next.mono_l k
  refine ⟨?_, ?_, ?_⟩
  ·intro y0 y1 y2 y3 y4 y5 y6 y7 y8
   unfold standstilllaw08_next.j0
   repeat' first
   | (with_reducible exact ih0 _ _ _ _ _ _ _ _ _)
   | (with_reducible exact ih1 _ _ _ _ _ _ _ _ _ _)
   | (with_reducible exact ih2 _ _ _ _ _ _ _ _ _ _)
   | (with_reducible exact counter_Step.mono _ _ _ _ _)
   | (with_reducible exact counter_Until.mono _ _ _ _ _ _ _)
   | (with_reducible exact standstillref06_SameCount.mono _ _ _ _ _)
   | (with_reducible exact standstillref08_Contents.mono _ _)
   | (with_reducible exact standstillref08_Encode.mono _ _)
   | (with_reducible exact LeO.refl _)
   | (with_reducible exact LeO.none _)
   | (with_reducible refine LeO.ite ?_ ?_)
   | (with_reducible refine LeO.bind ?_ (fun _ => ?_))
   | exact ih0 _ _ _ _ _ _ _ _ _
   | exact ih1 _ _ _ _ _ _ _ _ _ _
   | exact ih2 _ _ _ _ _ _ _ _ _ _
   | exact counter_Step.mono _ _ _ _ _
   | exact counter_Until.mono _ _ _ _ _ _ _
   | exact standstillref06_SameCount.mono _ _ _ _ _
   | exact standstillref08_Contents.mono _ _
   | exact standstillref08_Encode.mono _ _
   | exact LeO.none _
   | refine LeO.ite ?_ ?_
   | refine LeO.bind ?_ (fun _ => ?_)
  ·intro y0 y1 y2 y3 y4 y5 y6 y7 y8 y9
   unfold standstilllaw08_next.j1
   repeat' first
   | (with_reducible exact ih0 _ _ _ _ _ _ _ _ _)
   | (with_reducible exact ih1 _ _ _ _ _ _ _ _ _ _)
   | (with_reducible exact ih2 _ _ _ _ _ _ _ _ _ _)
   | (with_reducible exact counter_Step.mono _ _ _ _ _)
   | (with_reducible exact counter_Until.mono _ _ _ _ _ _ _)
   | (with_reducible exact standstillref06_SameCount.mono _ _ _ _ _)
   | (with_reducible exact standstillref08_Contents.mono _ _)
   | (with_reducible exact standstillref08_Encode.mono _ _)
   | (with_reducible exact LeO.refl _)
   | (with_reducible exact LeO.none _)
   | (with_reducible refine LeO.ite ?_ ?_)
   | (with_reducible refine LeO.bind ?_ (fun _ => ?_))
   | exact ih0 _ _ _ _ _ _ _ _ _
   | exact ih1 _ _ _ _ _ _ _ _ _ _
   | exact ih2 _ _ _ _ _ _ _ _ _ _
   | exact counter_Step.mono _ _ _ _ _
   | exact counter_Until.mono _ _ _ _ _ _ _
   | exact standstillref06_SameCount.mono _ _ _ _ _
   | exact standstillref08_Contents.mono _ _
   | exact standstillref08_Encode.mono _ _
   | exact LeO.none _
   | refine LeO.ite ?_ ?_
   | refine LeO.bind ?_ (fun _ => ?_)
  ·intro y0 y1 y2 y3 y4 y5 y6 y7 y8 y9
   unfold standstilllaw08_next.j2
   repeat' first
   | (with_reducible exact ih0 _ _ _ _ _ _ _ _ _)
   | (with_reducible exact ih1 _ _ _ _ _ _ _ _ _ _)
   | (with_reducible exact ih2 _ _ _ _ _ _ _ _ _ _)
   | (with_reducible exact counter_Step.mono _ _ _ _ _)
   | (with_reducible exact counter_Until.mono _ _ _ _ _ _ _)
   | (with_reducible exact standstillref06_SameCount.mono _ _ _ _ _)
   | (with_reducible exact standstillref08_Contents.mono _ _)
   | (with_reducible exact standstillref08_Encode.mono _ _)
   | (with_reducible exact LeO.refl _)
   | (with_reducible exact LeO.none _)
   | (with_reducible refine LeO.ite ?_ ?_)
   | (with_reducible refine LeO.bind ?_ (fun _ => ?_))
   | exact ih0 _ _ _ _ _ _ _ _ _
   | exact ih1 _ _ _ _ _ _ _ _ _ _
   | exact ih2 _ _ _ _ _ _ _ _ _ _
   | exact counter_Step.mono _ _ _ _ _
   | exact counter_Until.mono _ _ _ _ _ _ _
   | exact standstillref06_SameCount.mono _ _ _ _ _
   | exact standstillref08_Contents.mono _ _
   | exact standstillref08_Encode.mono _ _
   | exact LeO.none _
   | refine LeO.ite ?_ ?_
   | refine LeO.bind ?_ (fun _ => ?_)
theorem standstilllaw08_next.mono : ∀ a0 a1 a2 a3 a4 a5 a6 a7 k, LeO (standstilllaw08_next.f k a0 a1 a2 a3 a4 a5 a6 a7) (standstilllaw08_next.f (k + 1) a0 a1 a2 a3 a4 a5 a6 a7) := by
 intro a0 a1 a2 a3 a4 a5 a6 a7 k
 obtain ⟨ih0, ih1, ih2⟩ := standstilllaw08_next.mono_l k
 unfold standstilllaw08_next.f
 repeat' first
   | (with_reducible exact ih0 _ _ _ _ _ _ _ _ _)
   | (with_reducible exact ih1 _ _ _ _ _ _ _ _ _ _)
   | (with_reducible exact ih2 _ _ _ _ _ _ _ _ _ _)
   | (with_reducible exact counter_Step.mono _ _ _ _ _)
   | (with_reducible exact counter_Until.mono _ _ _ _ _ _ _)
   | (with_reducible exact standstillref06_SameCount.mono _ _ _ _ _)
   | (with_reducible exact standstillref08_Contents.mono _ _)
   | (with_reducible exact standstillref08_Encode.mono _ _)
   | (with_reducible exact LeO.refl _)
   | (with_reducible exact LeO.none _)
   | (with_reducible refine LeO.ite ?_ ?_)
   | (with_reducible refine LeO.bind ?_ (fun _ => ?_))
   | exact ih0 _ _ _ _ _ _ _ _ _
   | exact ih1 _ _ _ _ _ _ _ _ _ _
   | exact ih2 _ _ _ _ _ _ _ _ _ _
   | exact counter_Step.mono _ _ _ _ _
   | exact counter_Until.mono _ _ _ _ _ _ _
   | exact standstillref06_SameCount.mono _ _ _ _ _
   | exact standstillref08_Contents.mono _ _
   | exact standstillref08_Encode.mono _ _
   | exact LeO.none _
   | refine LeO.ite ?_ ?_
   | refine LeO.bind ?_ (fun _ => ?_)
def standstilllaw08_next.T12 : Bool × List (List Nat × List Nat) := (true, [([], []), ([], []), ([], []), ([2], [2]), ([1, 3], [1, 3]), ([4], [4]), ([], []), ([6], [6]), ([5, 7], [5, 7]), ([], []), ([], []), ([], []), ([10, 11], [10, 11]), ([12], [12]), ([13], [13]), ([0, 8, 9, 14], [0, 8, 9, 14]), ([15], [15]), ([16], [16]), ([16], [16]), ([16], [16]), ([], []), ([20, 17, 15, 0, 1, 2, 3, 4, 5, 6, 7, 8, 9, 10, 11, 12, 13, 14, 15, 16, 17, 20], [17, 20]), ([18, 21, 0, 1, 2, 3, 4, 5, 6, 7, 8, 9, 10, 11, 12, 13, 14, 15, 16, 17, 18, 20, 21], [18]), ([19, 22, 0, 1, 2, 3, 4, 5, 6, 7, 8, 9, 10, 11, 12, 13, 14, 15, 16, 17, 18, 19, 20, 21, 22], [19])])
def standstilllaw08_next.B12 : List Nat := [0, 0, 0, 4, 14, 30, 0, 64, 254, 0, 0, 0, 3072, 7168, 15360, 32767, 65535, 131071, 131071, 131071, 0, 1310719, 3670015, 8388607]
theorem standstilllaw08_next.tab12 : rtab .any (opsOf Try.f19 12) = standstilllaw08_next.T12 := by kernel_rfl
theorem standstilllaw08_next.bits12 : waitsOk standstilllaw08_next.T12.2 standstilllaw08_next.B12 = true := by kernel_rfl
def standstilllaw08_next.T13 : Bool × List (List Nat × List Nat) := (true, [([], []), ([], []), ([1], [1]), ([2], [2]), ([3], [3]), ([3], [3]), ([3], [3]), ([5, 6, 3], [3, 5, 6]), ([7, 3], [3, 7]), ([8, 3], [3, 8]), ([4, 9, 3], [3, 4, 9]), ([3, 10], [3, 10]), ([11, 3], [11]), ([12], [12]), ([12], [12]), ([12], [12]), ([15, 12], [12, 15]), ([14, 16, 12], [12, 14, 16]), ([17, 12], [12, 17]), ([12], [12]), ([19, 12], [12, 19]), ([18, 20, 12], [12, 18, 20]), ([13, 21, 12, 12], [12, 13, 21]), ([12, 22], [12, 22]), ([0, 22, 0], [0]), ([24, 0, 24], []), ([23, 25, 0, 1, 2, 3, 4, 5, 6, 7, 8, 9, 10, 11, 12, 13, 14, 15, 16, 17, 18, 19, 20, 21, 22, 23, 24, 25], [23])])
def standstilllaw08_next.B13 : List Nat := [0, 0, 2, 6, 14, 14, 14, 110, 238, 494, 1022, 2046, 4094, 8190, 8190, 8190, 40958, 122878, 253950, 8190, 532478, 2088958, 4194302, 8388606, 8388607, 25165823, 67108863]
theorem standstilllaw08_next.tab13 : rtab .any (opsOf Try.f19 13) = standstilllaw08_next.T13 := by kernel_rfl
theorem standstilllaw08_next.bits13 : waitsOk standstilllaw08_next.T13.2 standstilllaw08_next.B13 = true := by kernel_rfl
set_option maxHeartbeats 8000000 in
set_option maxRecDepth 100000 in
theorem standstilllaw08_next.calls (k : Nat) (a0_0 : Int) (A0_1 : Option Addr) (c0_1 : Nat) (l0_1 : List (S45)) (a1_0 : Int) (A1_1 : Option Addr) (c1_1 : Nat) (l1_1 : List (S45)) (A2 : Option Addr) (c2 : Nat) (l2 : List Int) (a3_0 : Int) (P3_1_ : Nat → Prop) (u9000_ : Value) (l3_1 : List Int) (a4 : Int) (r1 : Int) (r2 : List Int) (r3 : Bool) (r4 : Bool) (w0 w : World) (hB : Below w0.heap.size w0 w) (hr0_1 : ∀ W_, Kept w W_ (fun k_ => P3_1_ k_) → Kd.C k45 W_ A0_1 l0_1.length l0_1) (hc0_1 : l0_1.length ≤ c0_1) (hr1_1 : ∀ W_, Kept w W_ (fun k_ => P3_1_ k_) → Kd.C k45 W_ A1_1 l1_1.length l1_1) (hc1_1 : l1_1.length ≤ c1_1) (hr2 : ∀ W_, Kept w W_ (fun k_ => P3_1_ k_) → Kd.C (Kd.int .i64) W_ A2 l2.length l2) (hc2 : l2.length ≤ c2) (ho3_1 : Kd.R (Kd.int .i64) 3 w w0.heap.size P3_1_ u9000_ l3_1) (h : standstilllaw08_next.f k a0_0 l0_1 a1_0 l1_1 l2 a3_0 l3_1 a4 = some (r1, r2, r3, r4)) :
  Calls Try.prog 19 #[.agg #[.int .i64 a0_0, .slice A0_1 l0_1.length c0_1], .agg #[.int .i64 a1_0, .slice A1_1 l1_1.length c1_1], .slice A2 l2.length c2, .agg #[.int .i64 a3_0, u9000_], .int .i64 a4] w fun e w' => ∃ v1_ : Value, e = .returned (.tuple #[.agg #[.int .i64 r1, v1_], .bool r3, .bool r4]) ∧ Kd.R (Kd.int .i64) 3 w' w0.heap.size (fun k_ => (P3_1_ k_ ∨ w.heap.size ≤ k_)) v1_ r2 ∧ Below w0.heap.size w0 w' ∧ Kept w w' (fun k_ => P3_1_ k_) := by
 have hu38 := Try.underlying38
 have hu47 := Try.underlying47
 have HR0_1 := Aside0.mk hr0_1
 have HC0_1 := Aside0.mk hc0_1
 clear hr0_1 hc0_1
 have HR1_1 := Aside0.mk hr1_1
 have HC1_1 := Aside0.mk hc1_1
 clear hr1_1 hc1_1
 have HR2 := Aside0.mk hr2
 have HC2 := Aside0.mk hc2
 clear hr2 hc2
 have HO3_1 := A_ (show Kd.R (Kd.int .i64) 3 w w0.heap.size (fun k_ => (P3_1_ k_ ∨ w.heap.size ≤ k_)) u9000_ l3_1 from Kd.R_mono ho3_1 (fun k_ hk => (.inl hk)))
 have HK := A_ (Kept.refl w (fun k_ => P3_1_ k_))
 have HW0 := Aside0.mk hB.size
 have HB := Aside0.mk hB
 clear hB
 have H : ((counter_Step.f k a0_0 l0_1 a3_0 l3_1).bind fun bt233 => (if bt233.2.2 = 0 then ((standstillref08_Contents.f k l3_1).bind fun t239 => (if t239 = true then ((standstillref08_Contents.f k bt233.2.1).bind fun t240 => (standstilllaw08_next.j0 k l2 a4 (!t240) a1_0 l1_1 a3_0 l3_1 bt233.1 bt233.2.1)) else (standstilllaw08_next.j0 k l2 a4 true a1_0 l1_1 a3_0 l3_1 bt233.1 bt233.2.1))) else (if bt233.2.2 = 5 then (some (a3_0, l3_1, true, true)) else (some (a3_0, l3_1, true, (bt233.2.2 == 4)))))) = some (r1, r2, r3, r4) := h
 clear h
 replace H := Option.bind_eq_some_iff.mp H
 obtain ⟨⟨t233, t234, t237⟩, A60, H⟩ := H
 replace H : (if t237 = 0 then ((standstillref08_Contents.f k l3_1).bind fun t239 => (if t239 = true then ((standstillref08_Contents.f k t234).bind fun t240 => (standstilllaw08_next.j0 k l2 a4 (!t240) a1_0 l1_1 a3_0 l3_1 t233 t234)) else (standstilllaw08_next.j0 k l2 a4 true a1_0 l1_1 a3_0 l3_1 t233 t234))) else (if t237 = 5 then (some (a3_0, l3_1, true, true)) else (some (a3_0, l3_1, true, (t237 == 4))))) = some (r1, r2, r3, r4) := H
 have A6 := Aside0.mk A60
 clear A60
 by_cases c7 : t237 = 0
 ·rw [if_pos c7] at H
  have c7b0 : (t237 == 0) = true := beq_iff_eq.mpr c7
  have c7b1 : (t237 != 0) = false := bne_eq_false_iff_eq.mpr c7
  clear c7
  have HC8 := Aside0.mk H
  clear H
  go_enter Try.func19, Try.ntmps19
  go_upto_region 4 with (first | ((with_reducible refine gate_dst (N := 5) rfl ?_); (try (refine gate_guard (by rfl) ?_; dsimp only)); refine box_event ?hg (N := 5) ?hd (cs := #[.int .i64 a0_0, .slice A0_1 l0_1.length c0_1]) (t := 38) ?hr ?_; (case hd => rfl); (case hg => rfl); (case hr => first | (go_simp; done) | (go_simp; rfl)); intro gb229 hg w9 hbox hb; have n0_ := A_ (Kd.R_below (rk_ HO3_1.out) hb); have n1_ := A_ (Kept.below (S := (fun k_ => P3_1_ k_)) (by repeat (first | (with_reducible first | exact HK.out | apply Kept.alloc | apply Kept.drewN | apply Kept.drew) | exact HK.out)) hb); have n2_ := A_ (below_step (bk_ HB.out) hb); have n3_ := A_ (hbox); have n4_ := A_ ((by rw [hg]; exact (by first | exact HK.out.1 | exact (show Kept w _ (fun k_ => P3_1_ k_) from by repeat (first | (with_reducible first | exact HK.out | apply Kept.alloc | apply Kept.drewN | apply Kept.drew) | exact HK.out)).1) : w.heap.size ≤ gb229)); have n5_ := A_ ((by rw [hg]; exact (below_size (bk_ HB.out)) : w0.heap.size ≤ gb229)); clear HO3_1 HK HB; have HO3_1 := n0_; have HK := n1_; have HB := n2_; have BK229 := n3_; have GW229 := n4_; have GE229 := n5_; clear n0_ n1_ n2_ n3_ n4_ n5_ hb hbox hg) | ((with_reducible refine gate_dst (N := 6) rfl ?_); (try (refine gate_guard (by rfl) ?_; dsimp only)); refine box_event ?hg (N := 6) ?hd (cs := #[.int .i64 a1_0, .slice A1_1 l1_1.length c1_1]) (t := 38) ?hr ?_; (case hd => rfl); (case hg => rfl); (case hr => first | (go_simp; done) | (go_simp; rfl)); intro gb230 hg w10 hbox hb; have n0_ := A_ (Kd.R_below (rk_ HO3_1.out) hb); have n1_ := A_ (blk_below (pk_ BK229.out) hb); have n2_ := A_ (Kept.below (S := (fun k_ => P3_1_ k_)) (by repeat (first | (with_reducible first | exact HK.out | apply Kept.alloc | apply Kept.drewN | apply Kept.drew | refine Kept.setCell ?_ (.inr GW229.out) _) | exact HK.out)) hb); have n3_ := A_ (below_step (bk_ HB.out) hb); have n4_ := A_ (hbox); have n5_ := A_ ((by rw [hg]; exact (by first | exact HK.out.1 | exact (show Kept w _ (fun k_ => P3_1_ k_) from by repeat (first | (with_reducible first | exact HK.out | apply Kept.alloc | apply Kept.drewN | apply Kept.drew | refine Kept.setCell ?_ (.inr GW229.out) _) | exact HK.out)).1) : w.heap.size ≤ gb230)); have n6_ := A_ ((by rw [hg]; exact (below_size (bk_ HB.out)) : w0.heap.size ≤ gb230)); have n7_ := A_ (nl_ hg (pk_ BK229.out)); have n8_ := A_ (ng_ hg (pk_ BK229.out)); clear HO3_1 BK229 HK HB; have HO3_1 := n0_; have BK229 := n1_; have HK := n2_; have HB := n3_; have BK230 := n4_; have GW230 := n5_; have GE230 := n6_; have NB229_230 := n7_; have NB230_229 := n8_; clear n0_ n1_ n2_ n3_ n4_ n5_ n6_ n7_ n8_ hb hbox hg; obtain ⟨Ao11, co11, eo11⟩ := Kd.R_slice HO3_1.out; subst eo11) | ((with_reducible refine gate_dst (N := 8) rfl ?_); (try (refine gate_guard (by rfl) ?_; dsimp only)); refine box_event ?hg (N := 8) ?hd (cs := #[.int .i64 a3_0, .slice Ao11 l3_1.length co11]) (t := 47) ?hr ?_; (case hd => rfl); (case hg => rfl); (case hr => first | (go_simp; done) | (go_simp; rfl)); intro gb231 hg w12 hbox hb; have n0_ := A_ (Kd.R_below (rk_ HO3_1.out) hb); have n1_ := A_ (blk_below (pk_ BK229.out) hb); have n2_ := A_ (blk_below (pk_ BK230.out) hb); have n3_ := A_ (Kept.below (S := (fun k_ => P3_1_ k_)) (by repeat (first | (with_reducible first | exact HK.out | apply Kept.alloc | apply Kept.drewN | apply Kept.drew | refine Kept.setCell ?_ (.inr GW229.out) _ | refine Kept.setCell ?_ (.inr GW230.out) _) | exact HK.out)) hb); have n4_ := A_ (below_step (bk_ HB.out) hb); have n5_ := A_ (hbox); have n6_ := A_ ((by rw [hg]; exact (by first | exact HK.out.1 | exact (show Kept w _ (fun k_ => P3_1_ k_) from by repeat (first | (with_reducible first | exact HK.out | apply Kept.alloc | apply Kept.drewN | apply Kept.drew | refine Kept.setCell ?_ (.inr GW229.out) _ | refine Kept.setCell ?_ (.inr GW230.out) _) | exact HK.out)).1) : w.heap.size ≤ gb231)); have n7_ := A_ ((by rw [hg]; exact (below_size (bk_ HB.out)) : w0.heap.size ≤ gb231)); have n8_ := A_ (nl_ hg (pk_ BK229.out)); have n9_ := A_ (ng_ hg (pk_ BK229.out)); have n10_ := A_ (nl_ hg (pk_ BK230.out)); have n11_ := A_ (ng_ hg (pk_ BK230.out)); clear HO3_1 BK229 BK230 HK HB; have HO3_1 := n0_; have BK229 := n1_; have BK230 := n2_; have HK := n3_; have HB := n4_; have BK231 := n5_; have GW231 := n6_; have GE231 := n7_; have NB229_231 := n8_; have NB231_229 := n9_; have NB230_231 := n10_; have NB231_230 := n11_; clear n0_ n1_ n2_ n3_ n4_ n5_ n6_ n7_ n8_ n9_ n10_ n11_ hb hbox hg) | ((with_reducible refine gate_dst (N := 10) rfl ?_); (try (refine gate_guard (by rfl) ?_; dsimp only)); refine box_event ?hg (N := 10) ?hd (cs := #[.int .i64 0, .slice none 0 0]) (t := 47) ?hr ?_; (case hd => rfl); (case hg => rfl); (case hr => first | (go_simp; done) | (go_simp; rfl)); intro gb232 hg w13 hbox hb; have n0_ := A_ (Kd.R_below (rk_ HO3_1.out) hb); have n1_ := A_ (blk_below (pk_ BK229.out) hb); have n2_ := A_ (blk_below (pk_ BK230.out) hb); have n3_ := A_ (blk_below (pk_ BK231.out) hb); have n4_ := A_ (Kept.below (S := (fun k_ => P3_1_ k_)) (by repeat (first | (with_reducible first | exact HK.out | apply Kept.alloc | apply Kept.drewN | apply Kept.drew | refine Kept.setCell ?_ (.inr GW229.out) _ | refine Kept.setCell ?_ (.inr GW230.out) _ | refine Kept.setCell ?_ (.inr GW231.out) _) | exact HK.out)) hb); have n5_ := A_ (below_step (bk_ HB.out) hb); have n6_ := A_ (hbox); have n7_ := A_ ((by rw [hg]; exact (by first | exact HK.out.1 | exact (show Kept w _ (fun k_ => P3_1_ k_) from by repeat (first | (with_reducible first | exact HK.out | apply Kept.alloc | apply Kept.drewN | apply Kept.drew | refine Kept.setCell ?_ (.inr GW229.out) _ | refine Kept.setCell ?_ (.inr GW230.out) _ | refine Kept.setCell ?_ (.inr GW231.out) _) | exact HK.out)).1) : w.heap.size ≤ gb232)); have n8_ := A_ ((by rw [hg]; exact (below_size (bk_ HB.out)) : w0.heap.size ≤ gb232)); have n9_ := A_ (nl_ hg (pk_ BK229.out)); have n10_ := A_ (ng_ hg (pk_ BK229.out)); have n11_ := A_ (nl_ hg (pk_ BK230.out)); have n12_ := A_ (ng_ hg (pk_ BK230.out)); have n13_ := A_ (nl_ hg (pk_ BK231.out)); have n14_ := A_ (ng_ hg (pk_ BK231.out)); clear HO3_1 BK229 BK230 BK231 HK HB; have HO3_1 := n0_; have BK229 := n1_; have BK230 := n2_; have BK231 := n3_; have HK := n4_; have HB := n5_; have BK232 := n6_; have GW232 := n7_; have GE232 := n8_; have NB229_232 := n9_; have NB232_229 := n10_; have NB230_232 := n11_; have NB232_230 := n12_; have NB231_232 := n13_; have NB232_231 := n14_; clear n0_ n1_ n2_ n3_ n4_ n5_ n6_ n7_ n8_ n9_ n10_ n11_ n12_ n13_ n14_ hb hbox hg; have hnb14 := NB229_230.out; have hnc14 := NB230_229.out; have hnb15 := NB229_231.out; have hnc15 := NB231_229.out; have hnb16 := NB229_232.out; have hnc16 := NB232_229.out; obtain ⟨hcz17_0, hcz17_1⟩ := bc2_ BK229.out; have hfz17_0 := blk_frozen BK229.out 0; have hfz17_1 := blk_frozen BK229.out 1; have hnb18 := NB231_230.out; have hnc18 := NB230_231.out; have hnb19 := NB231_232.out; have hnc19 := NB232_231.out; obtain ⟨hcz20_0, hcz20_1⟩ := bc2_ BK231.out; have hfz20_0 := blk_frozen BK231.out 0; have hfz20_1 := blk_frozen BK231.out 1) | ((with_reducible refine gate_callee (f := 31) rfl ?_); refine goesL_ (some 25) rfl rfl Try.func31 (by kernel_rfl) rfl #[.agg #[.int .i64 a0_0, .slice A0_1 l0_1.length c0_1], .agg #[.int .i64 a3_0, .slice Ao11 l3_1.length co11]] rfl gl_ ?_; (with_reducible refine (counter_Step.calls k a0_0 _ _ l0_1 a3_0 _ _ l3_1 t233 t234 t237 _ ?side1 ?side2 ?side3 ?side4 A6.out).mono ?_); (case side1 => exact Kd.C_kept_now HR0_1.out (by repeat (first | (with_reducible first | exact HK.out | apply Kept.alloc | apply Kept.drewN | apply Kept.drew | refine Kept.setCell ?_ (.inr GW229.out) _ | refine Kept.setCell ?_ (.inr GW230.out) _ | refine Kept.setCell ?_ (.inr GW231.out) _ | refine Kept.setCell ?_ (.inr GW232.out) _) | exact HK.out))); (case side2 => exact HC0_1.out); (case side3 => repeat (first | exact (Kd.R_reads' HO3_1.out).2.2 | (with_reducible refine Kd.C_alloc ?_ _) | (with_reducible refine Kd.C_drewN ?_ _) | (with_reducible refine Kd.C_drew ?_))); (case side4 => exact (Kd.R_reads' HO3_1.out).2.1); rintro e w21 ⟨v235, rfl, ho0, hb⟩; refine ⟨_, rfl, ?_⟩; have n0_ := A_ (Kd.R_elder' (rk_ HO3_1.out) (Kd.R_base ho0) hb); have n1_ := A_ (Kd.R_lower (Kd.R_new' (Kd.R_newM (M := fun k_ => (P3_1_ k_ ∨ w.heap.size ≤ k_)) ho0 (by first | exact HK.out.1 | exact (show Kept w _ (fun k_ => P3_1_ k_) from by repeat (first | (with_reducible first | exact HK.out | apply Kept.alloc | apply Kept.drewN | apply Kept.drew | refine Kept.setCell ?_ (.inr GW229.out) _ | refine Kept.setCell ?_ (.inr GW230.out) _ | refine Kept.setCell ?_ (.inr GW231.out) _ | refine Kept.setCell ?_ (.inr GW232.out) _) | exact HK.out)).1) (fun k_ h_ => .inr h_)) (Kd.R_lt (rk_ HO3_1.out))) (below_size (bk_ HB.out))); have n2_ := A_ (blk_below (pk_ BK229.out) hb); have n3_ := A_ (blk_below (pk_ BK230.out) hb); have n4_ := A_ (blk_below (pk_ BK231.out) hb); have n5_ := A_ (blk_below (pk_ BK232.out) hb); have n6_ := A_ (Kept.below (S := (fun k_ => P3_1_ k_)) (by repeat (first | (with_reducible first | exact HK.out | apply Kept.alloc | apply Kept.drewN | apply Kept.drew | refine Kept.setCell ?_ (.inr GW229.out) _ | refine Kept.setCell ?_ (.inr GW230.out) _ | refine Kept.setCell ?_ (.inr GW231.out) _ | refine Kept.setCell ?_ (.inr GW232.out) _) | exact HK.out)) hb); have n7_ := A_ (below_step (bk_ HB.out) hb); clear HO3_1 BK229 BK230 BK231 BK232 HK HB; have HO3_1 := n0_; have HO236 := n1_; have BK229 := n2_; have BK230 := n3_; have BK231 := n4_; have BK232 := n5_; have HK := n6_; have HB := n7_; clear n0_ n1_ n2_ n3_ n4_ n5_ n6_ n7_; (try clear hb); (try clear hb2); (try clear hk); (try clear hi); (try clear ho0)) | ((with_reducible refine gate_dst (N := 13) rfl ?_); (try (refine gate_guard (by rfl) ?_; dsimp only)); refine box_event ?hg (N := 13) ?hd (cs := #[.int .i64 0, .slice none 0 0]) (t := 47) ?hr ?_; (case hd => rfl); (case hg => rfl); (case hr => first | (go_simp; done) | (go_simp; rfl)); intro gb238 hg w22 hbox hb; have n0_ := A_ (Kd.R_below (rk_ HO3_1.out) hb); have n1_ := A_ (Kd.R_below (rk_ HO236.out) hb); have n2_ := A_ (blk_below (pk_ BK229.out) hb); have n3_ := A_ (blk_below (pk_ BK230.out) hb); have n4_ := A_ (blk_below (pk_ BK231.out) hb); have n5_ := A_ (blk_below (pk_ BK232.out) hb); have n6_ := A_ (Kept.below (S := (fun k_ => P3_1_ k_)) (by repeat (first | (with_reducible first | exact HK.out | apply Kept.alloc | apply Kept.drewN | apply Kept.drew | refine Kept.setCell ?_ (.inr GW229.out) _ | refine Kept.setCell ?_ (.inr GW230.out) _ | refine Kept.setCell ?_ (.inr GW231.out) _ | refine Kept.setCell ?_ (.inr GW232.out) _) | exact HK.out)) hb); have n7_ := A_ (below_step (bk_ HB.out) hb); have n8_ := A_ (hbox); have n9_ := A_ ((by rw [hg]; exact (by first | exact HK.out.1 | exact (show Kept w _ (fun k_ => P3_1_ k_) from by repeat (first | (with_reducible first | exact HK.out | apply Kept.alloc | apply Kept.drewN | apply Kept.drew | refine Kept.setCell ?_ (.inr GW229.out) _ | refine Kept.setCell ?_ (.inr GW230.out) _ | refine Kept.setCell ?_ (.inr GW231.out) _ | refine Kept.setCell ?_ (.inr GW232.out) _) | exact HK.out)).1) : w.heap.size ≤ gb238)); have n10_ := A_ ((by rw [hg]; exact (below_size (bk_ HB.out)) : w0.heap.size ≤ gb238)); have n11_ := A_ (nl_ hg (pk_ BK229.out)); have n12_ := A_ (ng_ hg (pk_ BK229.out)); have n13_ := A_ (nl_ hg (pk_ BK230.out)); have n14_ := A_ (ng_ hg (pk_ BK230.out)); have n15_ := A_ (nl_ hg (pk_ BK231.out)); have n16_ := A_ (ng_ hg (pk_ BK231.out)); have n17_ := A_ (nl_ hg (pk_ BK232.out)); have n18_ := A_ (ng_ hg (pk_ BK232.out)); clear HO3_1 HO236 BK229 BK230 BK231 BK232 HK HB; have HO3_1 := n0_; have HO236 := n1_; have BK229 := n2_; have BK230 := n3_; have BK231 := n4_; have BK232 := n5_; have HK := n6_; have HB := n7_; have BK238 := n8_; have GW238 := n9_; have GE238 := n10_; have NB229_238 := n11_; have NB238_229 := n12_; have NB230_238 := n13_; have NB238_230 := n14_; have NB231_238 := n15_; have NB238_231 := n16_; have NB232_238 := n17_; have NB238_232 := n18_; clear n0_ n1_ n2_ n3_ n4_ n5_ n6_ n7_ n8_ n9_ n10_ n11_ n12_ n13_ n14_ n15_ n16_ n17_ n18_ hb hbox hg; have hnb23 := NB238_229.out; have hnc23 := NB229_238.out; have hnb24 := NB238_230.out; have hnc24 := NB230_238.out; have hnb25 := NB238_231.out; have hnc25 := NB231_238.out; have hnb26 := NB238_232.out; have hnc26 := NB232_238.out; obtain ⟨hcz27_0, hcz27_1⟩ := bc2_ BK238.out; have hfz27_0 := blk_frozen BK238.out 0; have hfz27_1 := blk_frozen BK238.out 1; obtain ⟨Ao28, co28, eo28⟩ := Kd.R_slice HO236.out; subst eo28))
  (try simp only [Act.put, List.setIfInBounds_toArray, List.set_cons_zero, List.set_cons_succ])
  go_cut [46] (fun v46 wc => ∃ (kq : Nat) (x46_7 : Bool), v46 = .bool x46_7 ∧ Aside0 (standstilllaw08_next.j0 kq l2 a4 x46_7 a1_0 l1_1 a3_0 l3_1 t233 t234 = some (r1, r2, r3, r4)) ∧ Aside0 (kq ≤ k) ∧ Aside0 (Kd.R (Kd.int .i64) 3 wc w0.heap.size (fun k_ => (P3_1_ k_ ∨ w.heap.size ≤ k_) ∧ some k_ ≠ ((.slice Ao28 t234.length co28) : Value).ownBlock) (.slice Ao11 l3_1.length co11) l3_1) ∧ Aside0 (Kd.R (Kd.int .i64) 3 wc w0.heap.size (fun k_ => (P3_1_ k_ ∨ w.heap.size ≤ k_) ∧ some k_ ≠ ((.slice Ao11 l3_1.length co11) : Value).ownBlock) (.slice Ao28 t234.length co28) t234) ∧ Aside0 (wc.heap[gb229]? = some (.cells #[.int .i64 a0_0, (.slice A0_1 l0_1.length c0_1)] 38 (0, 0))) ∧ Aside0 (wc.heap[gb230]? = some (.cells #[.int .i64 a1_0, (.slice A1_1 l1_1.length c1_1)] 38 (0, 0))) ∧ Aside0 (wc.heap[gb231]? = some (.cells #[.int .i64 a3_0, (.slice Ao11 l3_1.length co11)] 47 (0, 0))) ∧ Aside0 (wc.heap[gb232]? = some (.cells #[.int .i64 0, (.slice none 0 0)] 47 (0, 0))) ∧ Aside0 (wc.heap[gb238]? = some (.cells #[.int .i64 t233, (.slice Ao28 t234.length co28)] 47 (0, 0))) ∧ Aside0 (Kept w wc (fun k_ => P3_1_ k_)) ∧ Aside0 (Below w0.heap.size w0 wc))
  case first => as_aux_lemma =>
   have H := HC8.out
   clear HC8
   replace H := Option.bind_eq_some_iff.mp H
   obtain ⟨t239, A290, H⟩ := H
   replace H : (if t239 = true then ((standstillref08_Contents.f k t234).bind fun t240 => (standstilllaw08_next.j0 k l2 a4 (!t240) a1_0 l1_1 a3_0 l3_1 t233 t234)) else (standstilllaw08_next.j0 k l2 a4 true a1_0 l1_1 a3_0 l3_1 t233 t234)) = some (r1, r2, r3, r4) := H
   have A29 := Aside0.mk A290
   clear A290
   by_cases c30 : t239 = true
   ·subst c30
    have H1 : ((standstillref08_Contents.f k t234).bind fun t240 => (standstilllaw08_next.j0 k l2 a4 (!t240) a1_0 l1_1 a3_0 l3_1 t233 t234)) = some (r1, r2, r3, r4) := by rw [if_pos rfl] at H; exact H
    clear H
    have H := H1
    clear H1
    replace H := Option.bind_eq_some_iff.mp H
    obtain ⟨t240, A310, H⟩ := H
    replace H : (standstilllaw08_next.j0 k l2 a4 (!t240) a1_0 l1_1 a3_0 l3_1 t233 t234) = some (r1, r2, r3, r4) := H
    have A31 := Aside0.mk A310
    clear A310
    have H' := Aside0.mk H
    clear H
    have hnb32 := NB231_229.out
    have hnc32 := NB229_231.out
    have hnb33 := NB231_230.out
    have hnc33 := NB230_231.out
    have hnb34 := NB231_232.out
    have hnc34 := NB232_231.out
    have hnb35 := NB231_238.out
    have hnc35 := NB238_231.out
    obtain ⟨hcz36_0, hcz36_1⟩ := bc2_ BK231.out
    have hfz36_0 := blk_frozen BK231.out 0
    have hfz36_1 := blk_frozen BK231.out 1
    go_wp2_with (first | ((with_reducible refine gate_callee (f := 12) rfl ?_); refine goesL_ (some 39) rfl rfl Try.func12 (by kernel_rfl) rfl #[.slice Ao11 l3_1.length co11] rfl gl_ ?_; (with_reducible refine (standstillref08_Contents.calls k _ _ l3_1 true _ ?side1 ?side2 A29.out).mono ?_); (case side1 => refine (Kd.R_reads' (e := 3) (base := w0.heap.size) (ok := fun k_ => ((P3_1_ k_ ∨ w.heap.size ≤ k_) ∧ some k_ ≠ (.slice Ao28 t234.length co28 : Value).ownBlock)) (n := l3_1.length) (c := co11) ?_).2.2; exact (rz_ HO3_1.out BK238.out)); (case side2 => exact (Kd.R_reads' HO3_1.out).2.1); rintro e w' ⟨rfl, ⟨nd, rfl⟩⟩; refine ⟨_, rfl, ?_⟩; have hnb37 := NB238_229.out; have hnc37 := NB229_238.out; have hnb38 := NB238_230.out; have hnc38 := NB230_238.out; have hnb39 := NB238_232.out; have hnc39 := NB232_238.out; obtain ⟨hcz40_0, hcz40_1⟩ := bc2_ BK238.out; have hfz40_0 := blk_frozen BK238.out 0; have hfz40_1 := blk_frozen BK238.out 1) | (go_at_call 12; (with_reducible refine (standstillref08_Contents.calls k _ _ t234 t240 _ ?side1 ?side2 A31.out).mono ?_); (case side1 => refine (Kd.R_reads' (e := 3) (base := w0.heap.size) (ok := fun k_ => (((P3_1_ k_ ∨ w.heap.size ≤ k_) ∧ True) ∧ some k_ ≠ (.slice Ao11 l3_1.length co11 : Value).ownBlock)) (n := t234.length) (c := co28) ?_).2.2; exact (rz_ HO236.out BK238.out)); (case side2 => exact (Kd.R_reads' HO236.out).2.1); rintro e w' ⟨rfl, ⟨nd, rfl⟩⟩))
    go_meet
    case rel => exact ⟨_, (!t240), jr_, H', ⟨by first | omega | exact Nat.le_refl _⟩, ⟨by (with_reducible repeat (first | apply Kd.R_alloc | apply Kd.R_drewN | apply Kd.R_drew)); exact Kd.R_mono (rf2_ (Kd.R_types HO3_1.out BK238.out (by decide))) (fun _ hk => ⟨hk.1.1, hk.1.2⟩)⟩, ⟨by (with_reducible repeat (first | apply Kd.R_alloc | apply Kd.R_drewN | apply Kd.R_drew)); exact Kd.R_mono (rf2_ (Kd.R_types HO236.out BK238.out (by decide))) (fun _ hk => ⟨hk.1.1.1, hk.1.2⟩)⟩, ⟨by (iterate 2 (refine pk_ ?_; refine blk_far ?_ NB229_238.out _)); exact pk_ BK229.out⟩, ⟨by (iterate 2 (refine pk_ ?_; refine blk_far ?_ NB230_238.out _)); exact pk_ BK230.out⟩, ⟨by (iterate 2 (refine pk_ ?_; refine blk_far ?_ NB231_238.out _)); exact pk_ BK231.out⟩, ⟨by (iterate 2 (refine pk_ ?_; refine blk_far ?_ NB232_238.out _)); exact pk_ BK232.out⟩, ⟨by refine pk_ ?_; refine blk_put (cs := #[.int .i64 t233, .slice none 0 0]) ?_ 1 _ rfl; refine pk_ ?_; refine blk_put (cs := #[.int .i64 0, .slice none 0 0]) ?_ 0 _ rfl; exact pk_ BK238.out⟩, ⟨by repeat (first | (with_reducible first | exact HK.out | apply Kept.alloc | apply Kept.drewN | apply Kept.drew | refine Kept.setCell ?_ (.inr GW229.out) _ | refine Kept.setCell ?_ (.inr GW230.out) _ | refine Kept.setCell ?_ (.inr GW231.out) _ | refine Kept.setCell ?_ (.inr GW232.out) _ | refine Kept.setCell ?_ (.inr GW238.out) _) | exact HK.out)⟩, ⟨bk_ HB.out⟩⟩
   ·replace c30 := Bool.eq_false_iff.mpr c30
    subst c30
    have H1 : (standstilllaw08_next.j0 k l2 a4 true a1_0 l1_1 a3_0 l3_1 t233 t234) = some (r1, r2, r3, r4) := by rw [if_neg (show ¬ (false = true) by decide)] at H; exact H
    clear H
    have H := H1
    clear H1
    have H' := Aside0.mk H
    clear H
    have hnb41 := NB231_229.out
    have hnc41 := NB229_231.out
    have hnb42 := NB231_230.out
    have hnc42 := NB230_231.out
    have hnb43 := NB231_232.out
    have hnc43 := NB232_231.out
    have hnb44 := NB231_238.out
    have hnc44 := NB238_231.out
    obtain ⟨hcz45_0, hcz45_1⟩ := bc2_ BK231.out
    have hfz45_0 := blk_frozen BK231.out 0
    have hfz45_1 := blk_frozen BK231.out 1
    go_wp2_with (first | ((with_reducible refine gate_callee (f := 12) rfl ?_); refine goesL_ (some 39) rfl rfl Try.func12 (by kernel_rfl) rfl #[.slice Ao11 l3_1.length co11] rfl gl_ ?_; (with_reducible refine (standstillref08_Contents.calls k _ _ l3_1 false _ ?side1 ?side2 A29.out).mono ?_); (case side1 => refine (Kd.R_reads' (e := 3) (base := w0.heap.size) (ok := fun k_ => ((P3_1_ k_ ∨ w.heap.size ≤ k_) ∧ some k_ ≠ (.slice Ao28 t234.length co28 : Value).ownBlock)) (n := l3_1.length) (c := co11) ?_).2.2; exact (rz_ HO3_1.out BK238.out)); (case side2 => exact (Kd.R_reads' HO3_1.out).2.1); rintro e w' ⟨rfl, ⟨nd, rfl⟩⟩; refine ⟨_, rfl, ?_⟩))
    go_meet
    case rel => exact ⟨_, (true), jr_, H', ⟨by first | omega | exact Nat.le_refl _⟩, ⟨by (with_reducible repeat (first | apply Kd.R_alloc | apply Kd.R_drewN | apply Kd.R_drew)); exact Kd.R_mono (rf2_ (Kd.R_types HO3_1.out BK238.out (by decide))) (fun _ hk => ⟨hk.1.1, hk.1.2⟩)⟩, ⟨by (with_reducible repeat (first | apply Kd.R_alloc | apply Kd.R_drewN | apply Kd.R_drew)); exact Kd.R_mono (rf2_ (Kd.R_types HO236.out BK238.out (by decide))) (fun _ hk => ⟨hk.1.1.1, hk.1.2⟩)⟩, ⟨by (iterate 2 (refine pk_ ?_; refine blk_far ?_ NB229_238.out _)); exact pk_ BK229.out⟩, ⟨by (iterate 2 (refine pk_ ?_; refine blk_far ?_ NB230_238.out _)); exact pk_ BK230.out⟩, ⟨by (iterate 2 (refine pk_ ?_; refine blk_far ?_ NB231_238.out _)); exact pk_ BK231.out⟩, ⟨by (iterate 2 (refine pk_ ?_; refine blk_far ?_ NB232_238.out _)); exact pk_ BK232.out⟩, ⟨by refine pk_ ?_; refine blk_put (cs := #[.int .i64 t233, .slice none 0 0]) ?_ 1 _ rfl; refine pk_ ?_; refine blk_put (cs := #[.int .i64 0, .slice none 0 0]) ?_ 0 _ rfl; exact pk_ BK238.out⟩, ⟨by repeat (first | (with_reducible first | exact HK.out | apply Kept.alloc | apply Kept.drewN | apply Kept.drew | refine Kept.setCell ?_ (.inr GW229.out) _ | refine Kept.setCell ?_ (.inr GW230.out) _ | refine Kept.setCell ?_ (.inr GW231.out) _ | refine Kept.setCell ?_ (.inr GW232.out) _ | refine Kept.setCell ?_ (.inr GW238.out) _) | exact HK.out)⟩, ⟨bk_ HB.out⟩⟩
  case rest => as_aux_lemma =>
   clear HC8
   (try clear c2); (try clear c7); (try clear c7b0); (try clear c7b1); (try clear hcz17_0); (try clear hcz17_1); (try clear hcz20_0); (try clear hcz20_1); (try clear hcz27_0); (try clear hcz27_1); (try clear hfz17_0); (try clear hfz17_1); (try clear hfz20_0); (try clear hfz20_1); (try clear hfz27_0); (try clear hfz27_1)
   obtain ⟨kq, x46_7, rfl, HA, HJ7, HO_232001, HO_239001, BK229, BK230, BK231, BK232, BK238, HK, HB⟩ := hcut
   cases kq with
   | zero => exact absurd HA.out (by simp [standstilllaw08_next.j0])
   | succ kj7 =>
    have H := HA.out
    clear HA
    simp only [standstilllaw08_next.j0] at H
    by_cases c46 : x46_7 = true
    ·subst c46
     have H1 : (none) = some (r1, r2, r3, r4) := by rw [if_pos rfl] at H; exact H
     clear H
     have H := H1
     clear H1
     exact absurd H (by simp)
    ·replace c46 := Bool.eq_false_iff.mpr c46
     subst c46
     have H1 : ((standstillref08_Encode.f kj7 l3_1).bind fun bt241 => ((standstillref08_Encode.f kj7 t234).bind fun bt243 => (if bt241.2 = true then (if bt243.2 = true then (if bt241.1 > a4 then (standstilllaw08_next.j1 kj7 l2 bt241.1 bt243.1 true a1_0 l1_1 a3_0 l3_1 t233 t234) else (standstilllaw08_next.j1 kj7 l2 bt241.1 bt243.1 (decide (bt243.1 > a4)) a1_0 l1_1 a3_0 l3_1 t233 t234)) else (standstilllaw08_next.j1 kj7 l2 bt241.1 bt243.1 true a1_0 l1_1 a3_0 l3_1 t233 t234)) else (standstilllaw08_next.j1 kj7 l2 bt241.1 bt243.1 true a1_0 l1_1 a3_0 l3_1 t233 t234)))) = some (r1, r2, r3, r4) := by rw [if_neg (show ¬ (false = true) by decide)] at H; exact H
     clear H
     have H := H1
     clear H1
     replace H := Option.bind_eq_some_iff.mp H
     obtain ⟨⟨t241, t242⟩, A470, H⟩ := H
     replace H : ((standstillref08_Encode.f kj7 t234).bind fun bt243 => (if t242 = true then (if bt243.2 = true then (if t241 > a4 then (standstilllaw08_next.j1 kj7 l2 t241 bt243.1 true a1_0 l1_1 a3_0 l3_1 t233 t234) else (standstilllaw08_next.j1 kj7 l2 t241 bt243.1 (decide (bt243.1 > a4)) a1_0 l1_1 a3_0 l3_1 t233 t234)) else (standstilllaw08_next.j1 kj7 l2 t241 bt243.1 true a1_0 l1_1 a3_0 l3_1 t233 t234)) else (standstilllaw08_next.j1 kj7 l2 t241 bt243.1 true a1_0 l1_1 a3_0 l3_1 t233 t234))) = some (r1, r2, r3, r4) := H
     have A47 := Aside0.mk A470
     clear A470
     replace H := Option.bind_eq_some_iff.mp H
     obtain ⟨⟨t243, t244⟩, A480, H⟩ := H
     replace H : (if t242 = true then (if t244 = true then (if t241 > a4 then (standstilllaw08_next.j1 kj7 l2 t241 t243 true a1_0 l1_1 a3_0 l3_1 t233 t234) else (standstilllaw08_next.j1 kj7 l2 t241 t243 (decide (t243 > a4)) a1_0 l1_1 a3_0 l3_1 t233 t234)) else (standstilllaw08_next.j1 kj7 l2 t241 t243 true a1_0 l1_1 a3_0 l3_1 t233 t234)) else (standstilllaw08_next.j1 kj7 l2 t241 t243 true a1_0 l1_1 a3_0 l3_1 t233 t234)) = some (r1, r2, r3, r4) := H
     have A48 := Aside0.mk A480
     clear A480
     have HC49 := Aside0.mk H
     clear H
     have hnb50 := NB231_229.out
     have hnc50 := NB229_231.out
     have hnb51 := NB231_230.out
     have hnc51 := NB230_231.out
     have hnb52 := NB231_232.out
     have hnc52 := NB232_231.out
     have hnb53 := NB231_238.out
     have hnc53 := NB238_231.out
     obtain ⟨hcz54_0, hcz54_1⟩ := bc2_ BK231.out
     have hfz54_0 := blk_frozen BK231.out 0
     have hfz54_1 := blk_frozen BK231.out 1
     go_upto_region 8 with (first | ((with_reducible refine gate_callee (f := 13) rfl ?_); refine goesL_ (some 51) rfl rfl Try.func13 (by kernel_rfl) rfl #[.slice Ao11 l3_1.length co11] rfl gl_ ?_; (with_reducible refine (standstillref08_Encode.calls kj7 _ _ l3_1 t241 t242 _ ?side1 ?side2 A47.out).mono ?_); (case side1 => repeat (first | exact (Kd.R_reads' HO_232001.out).2.2 | (with_reducible refine Kd.C_alloc ?_ _) | (with_reducible refine Kd.C_drewN ?_ _) | (with_reducible refine Kd.C_drew ?_))); (case side2 => exact (Kd.R_reads' HO_232001.out).2.1); rintro e w55 ⟨rfl, hb⟩; refine ⟨_, rfl, ?_⟩; have n0_ := A_ (Kd.R_below (rk_ HO_232001.out) hb); have n1_ := A_ (Kd.R_below (rk_ HO_239001.out) hb); have n2_ := A_ (blk_below (pk_ BK229.out) hb); have n3_ := A_ (blk_below (pk_ BK230.out) hb); have n4_ := A_ (blk_below (pk_ BK231.out) hb); have n5_ := A_ (blk_below (pk_ BK232.out) hb); have n6_ := A_ (blk_below (pk_ BK238.out) hb); have n7_ := A_ (Kept.below (S := (fun k_ => P3_1_ k_)) (by repeat (first | (with_reducible first | exact HK.out | apply Kept.alloc | apply Kept.drewN | apply Kept.drew | refine Kept.setCell ?_ (.inr GW229.out) _ | refine Kept.setCell ?_ (.inr GW230.out) _ | refine Kept.setCell ?_ (.inr GW231.out) _ | refine Kept.setCell ?_ (.inr GW232.out) _ | refine Kept.setCell ?_ (.inr GW238.out) _) | exact HK.out)) hb); have n8_ := A_ (below_step (bk_ HB.out) hb); clear HO_232001 HO_239001 BK229 BK230 BK231 BK232 BK238 HK HB; have HO_232001 := n0_; have HO_239001 := n1_; have BK229 := n2_; have BK230 := n3_; have BK231 := n4_; have BK232 := n5_; have BK238 := n6_; have HK := n7_; have HB := n8_; clear n0_ n1_ n2_ n3_ n4_ n5_ n6_ n7_ n8_; (try clear hb); (try clear hb2); (try clear hk); (try clear hi); have hnb56 := NB238_229.out; have hnc56 := NB229_238.out; have hnb57 := NB238_230.out; have hnc57 := NB230_238.out; have hnb58 := NB238_232.out; have hnc58 := NB232_238.out; obtain ⟨hcz59_0, hcz59_1⟩ := bc2_ BK238.out; have hfz59_0 := blk_frozen BK238.out 0; have hfz59_1 := blk_frozen BK238.out 1) | ((with_reducible refine gate_callee (f := 13) rfl ?_); refine goesL_ (some 57) rfl rfl Try.func13 (by kernel_rfl) rfl #[.slice Ao28 t234.length co28] rfl gl_ ?_; (with_reducible refine (standstillref08_Encode.calls kj7 _ _ t234 t243 t244 _ ?side1 ?side2 A48.out).mono ?_); (case side1 => repeat (first | exact (Kd.R_reads' HO_239001.out).2.2 | (with_reducible refine Kd.C_alloc ?_ _) | (with_reducible refine Kd.C_drewN ?_ _) | (with_reducible refine Kd.C_drew ?_))); (case side2 => exact (Kd.R_reads' HO_239001.out).2.1); rintro e w60 ⟨rfl, hb⟩; refine ⟨_, rfl, ?_⟩; have n0_ := A_ (Kd.R_below (rk_ HO_232001.out) hb); have n1_ := A_ (Kd.R_below (rk_ HO_239001.out) hb); have n2_ := A_ (blk_below (pk_ BK229.out) hb); have n3_ := A_ (blk_below (pk_ BK230.out) hb); have n4_ := A_ (blk_below (pk_ BK231.out) hb); have n5_ := A_ (blk_below (pk_ BK232.out) hb); have n6_ := A_ (blk_below (pk_ BK238.out) hb); have n7_ := A_ (Kept.below (S := (fun k_ => P3_1_ k_)) (by repeat (first | (with_reducible first | exact HK.out | apply Kept.alloc | apply Kept.drewN | apply Kept.drew | refine Kept.setCell ?_ (.inr GW229.out) _ | refine Kept.setCell ?_ (.inr GW230.out) _ | refine Kept.setCell ?_ (.inr GW231.out) _ | refine Kept.setCell ?_ (.inr GW232.out) _ | refine Kept.setCell ?_ (.inr GW238.out) _) | exact HK.out)) hb); have n8_ := A_ (below_step (bk_ HB.out) hb); clear HO_232001 HO_239001 BK229 BK230 BK231 BK232 BK238 HK HB; have HO_232001 := n0_; have HO_239001 := n1_; have BK229 := n2_; have BK230 := n3_; have BK231 := n4_; have BK232 := n5_; have BK238 := n6_; have HK := n7_; have HB := n8_; clear n0_ n1_ n2_ n3_ n4_ n5_ n6_ n7_ n8_; (try clear hb); (try clear hb2); (try clear hk); (try clear hi)))
     (try simp only [Act.put, List.setIfInBounds_toArray, List.set_cons_zero, List.set_cons_succ])
     go_cut [75] (fun v75 wc => ∃ (kq : Nat) (x75_48 : Bool), v75 = .bool x75_48 ∧ Aside0 (standstilllaw08_next.j1 kq l2 t241 t243 x75_48 a1_0 l1_1 a3_0 l3_1 t233 t234 = some (r1, r2, r3, r4)) ∧ Aside0 (kq ≤ kj7) ∧ Aside0 (Kd.R (Kd.int .i64) 3 wc w0.heap.size (fun k_ => (P3_1_ k_ ∨ w.heap.size ≤ k_) ∧ some k_ ≠ ((.slice Ao28 t234.length co28) : Value).ownBlock) (.slice Ao11 l3_1.length co11) l3_1) ∧ Aside0 (Kd.R (Kd.int .i64) 3 wc w0.heap.size (fun k_ => (P3_1_ k_ ∨ w.heap.size ≤ k_) ∧ some k_ ≠ ((.slice Ao11 l3_1.length co11) : Value).ownBlock) (.slice Ao28 t234.length co28) t234) ∧ Aside0 (wc.heap[gb229]? = some (.cells #[.int .i64 a0_0, (.slice A0_1 l0_1.length c0_1)] 38 (0, 0))) ∧ Aside0 (wc.heap[gb230]? = some (.cells #[.int .i64 a1_0, (.slice A1_1 l1_1.length c1_1)] 38 (0, 0))) ∧ Aside0 (wc.heap[gb231]? = some (.cells #[.int .i64 a3_0, (.slice Ao11 l3_1.length co11)] 47 (0, 0))) ∧ Aside0 (wc.heap[gb232]? = some (.cells #[.int .i64 0, (.slice none 0 0)] 47 (0, 0))) ∧ Aside0 (wc.heap[gb238]? = some (.cells #[.int .i64 t233, (.slice Ao28 t234.length co28)] 47 (0, 0))) ∧ Aside0 (Kept w wc (fun k_ => P3_1_ k_)) ∧ Aside0 (Below w0.heap.size w0 wc))
     case first => as_aux_lemma =>
      have H := HC49.out
      clear HC49
      by_cases c61 : t242 = true
      ·subst c61
       have H1 : (if t244 = true then (if t241 > a4 then (standstilllaw08_next.j1 kj7 l2 t241 t243 true a1_0 l1_1 a3_0 l3_1 t233 t234) else (standstilllaw08_next.j1 kj7 l2 t241 t243 (decide (t243 > a4)) a1_0 l1_1 a3_0 l3_1 t233 t234)) else (standstilllaw08_next.j1 kj7 l2 t241 t243 true a1_0 l1_1 a3_0 l3_1 t233 t234)) = some (r1, r2, r3, r4) := by rw [if_pos rfl] at H; exact H
       clear H
       have H := H1
       clear H1
       by_cases c62 : t244 = true
       ·subst c62
        have H1 : (if t241 > a4 then (standstilllaw08_next.j1 kj7 l2 t241 t243 true a1_0 l1_1 a3_0 l3_1 t233 t234) else (standstilllaw08_next.j1 kj7 l2 t241 t243 (decide (t243 > a4)) a1_0 l1_1 a3_0 l3_1 t233 t234)) = some (r1, r2, r3, r4) := by rw [if_pos rfl] at H; exact H
        clear H
        have H := H1
        clear H1
        by_cases c63 : t241 > a4
        ·rw [if_pos c63] at H
         have c63b0 : decide (a4 < t241) = true := decide_eq_true c63
         clear c63
         (first | rw [c63b0] | (simp only [i64_w, i32_w]; rw [c63b0]) | skip)
         have H' := Aside0.mk H
         clear H
         go_wp2
         go_meet
         case rel => exact ⟨_, (true), jr_, H', ⟨by have := HJ7.out; first | omega | exact Nat.le_refl _⟩, ⟨rk_ HO_232001.out⟩, ⟨rk_ HO_239001.out⟩, ⟨pk_ BK229.out⟩, ⟨pk_ BK230.out⟩, ⟨pk_ BK231.out⟩, ⟨pk_ BK232.out⟩, ⟨pk_ BK238.out⟩, ⟨by repeat (first | (with_reducible first | exact HK.out | apply Kept.alloc | apply Kept.drewN | apply Kept.drew | refine Kept.setCell ?_ (.inr GW229.out) _ | refine Kept.setCell ?_ (.inr GW230.out) _ | refine Kept.setCell ?_ (.inr GW231.out) _ | refine Kept.setCell ?_ (.inr GW232.out) _ | refine Kept.setCell ?_ (.inr GW238.out) _) | exact HK.out)⟩, ⟨bk_ HB.out⟩⟩
        ·rw [if_neg c63] at H
         have c63b0 : decide (a4 < t241) = false := decide_eq_false c63
         clear c63
         (first | rw [c63b0] | (simp only [i64_w, i32_w]; rw [c63b0]) | skip)
         have H' := Aside0.mk H
         clear H
         go_wp2
         go_meet
         case rel => exact ⟨_, (decide (t243 > a4)), jr_, H', ⟨by have := HJ7.out; first | omega | exact Nat.le_refl _⟩, ⟨rk_ HO_232001.out⟩, ⟨rk_ HO_239001.out⟩, ⟨pk_ BK229.out⟩, ⟨pk_ BK230.out⟩, ⟨pk_ BK231.out⟩, ⟨pk_ BK232.out⟩, ⟨pk_ BK238.out⟩, ⟨by repeat (first | (with_reducible first | exact HK.out | apply Kept.alloc | apply Kept.drewN | apply Kept.drew | refine Kept.setCell ?_ (.inr GW229.out) _ | refine Kept.setCell ?_ (.inr GW230.out) _ | refine Kept.setCell ?_ (.inr GW231.out) _ | refine Kept.setCell ?_ (.inr GW232.out) _ | refine Kept.setCell ?_ (.inr GW238.out) _) | exact HK.out)⟩, ⟨bk_ HB.out⟩⟩
       ·replace c62 := Bool.eq_false_iff.mpr c62
        subst c62
        have H1 : (standstilllaw08_next.j1 kj7 l2 t241 t243 true a1_0 l1_1 a3_0 l3_1 t233 t234) = some (r1, r2, r3, r4) := by rw [if_neg (show ¬ (false = true) by decide)] at H; exact H
        clear H
        have H := H1
        clear H1
        have H' := Aside0.mk H
        clear H
        go_wp2
        go_meet
        case rel => exact ⟨_, (true), jr_, H', ⟨by have := HJ7.out; first | omega | exact Nat.le_refl _⟩, ⟨rk_ HO_232001.out⟩, ⟨rk_ HO_239001.out⟩, ⟨pk_ BK229.out⟩, ⟨pk_ BK230.out⟩, ⟨pk_ BK231.out⟩, ⟨pk_ BK232.out⟩, ⟨pk_ BK238.out⟩, ⟨by repeat (first | (with_reducible first | exact HK.out | apply Kept.alloc | apply Kept.drewN | apply Kept.drew | refine Kept.setCell ?_ (.inr GW229.out) _ | refine Kept.setCell ?_ (.inr GW230.out) _ | refine Kept.setCell ?_ (.inr GW231.out) _ | refine Kept.setCell ?_ (.inr GW232.out) _ | refine Kept.setCell ?_ (.inr GW238.out) _) | exact HK.out)⟩, ⟨bk_ HB.out⟩⟩
      ·replace c61 := Bool.eq_false_iff.mpr c61
       subst c61
       have H1 : (standstilllaw08_next.j1 kj7 l2 t241 t243 true a1_0 l1_1 a3_0 l3_1 t233 t234) = some (r1, r2, r3, r4) := by rw [if_neg (show ¬ (false = true) by decide)] at H; exact H
       clear H
       have H := H1
       clear H1
       have H' := Aside0.mk H
       clear H
       go_wp2
       go_meet
       case rel => exact ⟨_, (true), jr_, H', ⟨by have := HJ7.out; first | omega | exact Nat.le_refl _⟩, ⟨rk_ HO_232001.out⟩, ⟨rk_ HO_239001.out⟩, ⟨pk_ BK229.out⟩, ⟨pk_ BK230.out⟩, ⟨pk_ BK231.out⟩, ⟨pk_ BK232.out⟩, ⟨pk_ BK238.out⟩, ⟨by repeat (first | (with_reducible first | exact HK.out | apply Kept.alloc | apply Kept.drewN | apply Kept.drew | refine Kept.setCell ?_ (.inr GW229.out) _ | refine Kept.setCell ?_ (.inr GW230.out) _ | refine Kept.setCell ?_ (.inr GW231.out) _ | refine Kept.setCell ?_ (.inr GW232.out) _ | refine Kept.setCell ?_ (.inr GW238.out) _) | exact HK.out)⟩, ⟨bk_ HB.out⟩⟩
     case rest => as_aux_lemma =>
      clear HC49
      (try clear c2); (try clear c7); (try clear c7b0); (try clear c7b1); (try clear c46); (try clear hcz17_0); (try clear hcz17_1); (try clear hcz20_0); (try clear hcz20_1); (try clear hcz27_0); (try clear hcz27_1); (try clear hcz54_0); (try clear hcz54_1); (try clear hcz59_0); (try clear hcz59_1); (try clear hfz17_0); (try clear hfz17_1); (try clear hfz20_0); (try clear hfz20_1); (try clear hfz27_0); (try clear hfz27_1); (try clear hfz54_0); (try clear hfz54_1); (try clear hfz59_0); (try clear hfz59_1)
      obtain ⟨kq, x75_48, rfl, HA, HJ48, HO_232001, HO_239001, BK229, BK230, BK231, BK232, BK238, HK, HB⟩ := hcut
      cases kq with
      | zero => exact absurd HA.out (by simp [standstilllaw08_next.j1])
      | succ kj48 =>
       have H := HA.out
       clear HA
       simp only [standstilllaw08_next.j1] at H
       by_cases c64 : x75_48 = true
       ·subst c64
        have H1 : (some (a3_0, l3_1, true, true)) = some (r1, r2, r3, r4) := by rw [if_pos rfl] at H; exact H
        clear H
        have H := H1
        clear H1
        simp only [Option.some.injEq, Prod.mk.injEq] at H
        obtain ⟨rfl, rfl, rfl, rfl⟩ := H
        have hnb65 := NB231_229.out
        have hnc65 := NB229_231.out
        have hnb66 := NB231_230.out
        have hnc66 := NB230_231.out
        have hnb67 := NB231_232.out
        have hnc67 := NB232_231.out
        have hnb68 := NB231_238.out
        have hnc68 := NB238_231.out
        obtain ⟨hcz69_0, hcz69_1⟩ := bc2_ BK231.out
        have hfz69_0 := blk_frozen BK231.out 0
        have hfz69_1 := blk_frozen BK231.out 1
        have hnb70 := NB232_229.out
        have hnc70 := NB229_232.out
        have hnb71 := NB232_230.out
        have hnc71 := NB230_232.out
        have hnb72 := NB232_238.out
        have hnc72 := NB238_232.out
        obtain ⟨hcz73_0, hcz73_1⟩ := bc2_ BK232.out
        have hfz73_0 := blk_frozen BK232.out 0
        have hfz73_1 := blk_frozen BK232.out 1
        go_wp2
        refine bodyPost_ret (results_ctt rfl _ _ gb232 47 #[.int .i64 a3_0, .slice Ao11 l3_1.length co11] (0, 0) _ rfl (by refine pk_ ?_; refine blk_put (cs := #[.int .i64 a3_0, .slice none 0 0]) ?_ 1 _ rfl; refine pk_ ?_; refine blk_put (cs := #[.int .i64 0, .slice none 0 0]) ?_ 0 _ rfl; exact pk_ BK232.out) Try.underlying47 rfl (by kernel_rfl)) rfl ?_
        exact ⟨_, er_, by (with_reducible repeat (first | apply Kd.R_alloc | apply Kd.R_drewN | apply Kd.R_drew)); exact Kd.R_mono (rf2_ (Kd.R_types HO_232001.out BK232.out (by decide))) (fun _ hk => hk.1.1), bk_ HB.out, by repeat (first | (with_reducible first | exact HK.out | apply Kept.alloc | apply Kept.drewN | apply Kept.drew | refine Kept.setCell ?_ (.inr GW229.out) _ | refine Kept.setCell ?_ (.inr GW230.out) _ | refine Kept.setCell ?_ (.inr GW231.out) _ | refine Kept.setCell ?_ (.inr GW232.out) _ | refine Kept.setCell ?_ (.inr GW238.out) _) | exact HK.out)⟩
       ·replace c64 := Bool.eq_false_iff.mpr c64
        subst c64
        have H1 : (if a3_0 < 0 then (standstilllaw08_next.j2 kj48 l2 t241 t243 true a1_0 l1_1 a3_0 l3_1 t233 t234) else (if a3_0 ≥ (l2.length : Int) then (standstilllaw08_next.j2 kj48 l2 t241 t243 true a1_0 l1_1 a3_0 l3_1 t233 t234) else (if t233 < 0 then (standstilllaw08_next.j2 kj48 l2 t241 t243 true a1_0 l1_1 a3_0 l3_1 t233 t234) else (standstilllaw08_next.j2 kj48 l2 t241 t243 (decide (t233 ≥ (l2.length : Int))) a1_0 l1_1 a3_0 l3_1 t233 t234)))) = some (r1, r2, r3, r4) := by rw [if_neg (show ¬ (false = true) by decide)] at H; exact H
        clear H
        have H := H1
        clear H1
        have HC74 := Aside0.mk H
        clear H
        go_upto_region 10 with (fail)
        go_cut [98] (fun v98 wc => ∃ (kq : Nat) (x98_73 : Bool), v98 = .bool x98_73 ∧ Aside0 (standstilllaw08_next.j2 kq l2 t241 t243 x98_73 a1_0 l1_1 a3_0 l3_1 t233 t234 = some (r1, r2, r3, r4)) ∧ Aside0 (kq ≤ kj48) ∧ Aside0 (Kd.R (Kd.int .i64) 3 wc w0.heap.size (fun k_ => (P3_1_ k_ ∨ w.heap.size ≤ k_) ∧ some k_ ≠ ((.slice Ao28 t234.length co28) : Value).ownBlock) (.slice Ao11 l3_1.length co11) l3_1) ∧ Aside0 (Kd.R (Kd.int .i64) 3 wc w0.heap.size (fun k_ => (P3_1_ k_ ∨ w.heap.size ≤ k_) ∧ some k_ ≠ ((.slice Ao11 l3_1.length co11) : Value).ownBlock) (.slice Ao28 t234.length co28) t234) ∧ Aside0 (wc.heap[gb229]? = some (.cells #[.int .i64 a0_0, (.slice A0_1 l0_1.length c0_1)] 38 (0, 0))) ∧ Aside0 (wc.heap[gb230]? = some (.cells #[.int .i64 a1_0, (.slice A1_1 l1_1.length c1_1)] 38 (0, 0))) ∧ Aside0 (wc.heap[gb231]? = some (.cells #[.int .i64 a3_0, (.slice Ao11 l3_1.length co11)] 47 (0, 0))) ∧ Aside0 (wc.heap[gb232]? = some (.cells #[.int .i64 0, (.slice none 0 0)] 47 (0, 0))) ∧ Aside0 (wc.heap[gb238]? = some (.cells #[.int .i64 t233, (.slice Ao28 t234.length co28)] 47 (0, 0))) ∧ Aside0 (Kept w wc (fun k_ => P3_1_ k_)) ∧ Aside0 (Below w0.heap.size w0 wc))
        case first => as_aux_lemma =>
         have H := HC74.out
         clear HC74
         by_cases c75 : a3_0 < 0
         ·rw [if_pos c75] at H
          have c75b0 : decide (a3_0 < 0) = true := decide_eq_true c75
          clear c75
          (first | rw [c75b0] | (simp only [i64_w, i32_w]; rw [c75b0]) | skip)
          have H' := Aside0.mk H
          clear H
          have hnb76 := NB231_229.out
          have hnc76 := NB229_231.out
          have hnb77 := NB231_230.out
          have hnc77 := NB230_231.out
          have hnb78 := NB231_232.out
          have hnc78 := NB232_231.out
          have hnb79 := NB231_238.out
          have hnc79 := NB238_231.out
          obtain ⟨hcz80_0, hcz80_1⟩ := bc2_ BK231.out
          have hfz80_0 := blk_frozen BK231.out 0
          have hfz80_1 := blk_frozen BK231.out 1
          go_wp2
          go_meet
          case rel => exact ⟨_, (true), jr_, H', ⟨by have := HJ7.out; have := HJ48.out; first | omega | exact Nat.le_refl _⟩, ⟨rk_ HO_232001.out⟩, ⟨rk_ HO_239001.out⟩, ⟨pk_ BK229.out⟩, ⟨pk_ BK230.out⟩, ⟨pk_ BK231.out⟩, ⟨pk_ BK232.out⟩, ⟨pk_ BK238.out⟩, ⟨by repeat (first | (with_reducible first | exact HK.out | apply Kept.alloc | apply Kept.drewN | apply Kept.drew | refine Kept.setCell ?_ (.inr GW229.out) _ | refine Kept.setCell ?_ (.inr GW230.out) _ | refine Kept.setCell ?_ (.inr GW231.out) _ | refine Kept.setCell ?_ (.inr GW232.out) _ | refine Kept.setCell ?_ (.inr GW238.out) _) | exact HK.out)⟩, ⟨bk_ HB.out⟩⟩
         ·rw [if_neg c75] at H
          have c75b0 : decide (a3_0 < 0) = false := decide_eq_false c75
          clear c75
          (first | rw [c75b0] | (simp only [i64_w, i32_w]; rw [c75b0]) | skip)
          by_cases c81 : a3_0 ≥ (l2.length : Int)
          ·rw [if_pos c81] at H
           have c81b0 : decide ((l2.length : Int) ≤ a3_0) = true := decide_eq_true c81
           clear c81
           have H' := Aside0.mk H
           clear H
           have hnb82 := NB231_229.out
           have hnc82 := NB229_231.out
           have hnb83 := NB231_230.out
           have hnc83 := NB230_231.out
           have hnb84 := NB231_232.out
           have hnc84 := NB232_231.out
           have hnb85 := NB231_238.out
           have hnc85 := NB238_231.out
           obtain ⟨hcz86_0, hcz86_1⟩ := bc2_ BK231.out
           have hfz86_0 := blk_frozen BK231.out 0
           have hfz86_1 := blk_frozen BK231.out 1
           go_wp2
           go_meet
           case rel => exact ⟨_, (true), jr_, H', ⟨by have := HJ7.out; have := HJ48.out; first | omega | exact Nat.le_refl _⟩, ⟨rk_ HO_232001.out⟩, ⟨rk_ HO_239001.out⟩, ⟨pk_ BK229.out⟩, ⟨pk_ BK230.out⟩, ⟨pk_ BK231.out⟩, ⟨pk_ BK232.out⟩, ⟨pk_ BK238.out⟩, ⟨by repeat (first | (with_reducible first | exact HK.out | apply Kept.alloc | apply Kept.drewN | apply Kept.drew | refine Kept.setCell ?_ (.inr GW229.out) _ | refine Kept.setCell ?_ (.inr GW230.out) _ | refine Kept.setCell ?_ (.inr GW231.out) _ | refine Kept.setCell ?_ (.inr GW232.out) _ | refine Kept.setCell ?_ (.inr GW238.out) _) | exact HK.out)⟩, ⟨bk_ HB.out⟩⟩
          ·rw [if_neg c81] at H
           have c81b0 : decide ((l2.length : Int) ≤ a3_0) = false := decide_eq_false c81
           clear c81
           by_cases c87 : t233 < 0
           ·rw [if_pos c87] at H
            have c87b0 : decide (t233 < 0) = true := decide_eq_true c87
            clear c87
            have H' := Aside0.mk H
            clear H
            have hnb88 := NB231_229.out
            have hnc88 := NB229_231.out
            have hnb89 := NB231_230.out
            have hnc89 := NB230_231.out
            have hnb90 := NB231_232.out
            have hnc90 := NB232_231.out
            have hnb91 := NB231_238.out
            have hnc91 := NB238_231.out
            obtain ⟨hcz92_0, hcz92_1⟩ := bc2_ BK231.out
            have hfz92_0 := blk_frozen BK231.out 0
            have hfz92_1 := blk_frozen BK231.out 1
            have hnb93 := NB238_229.out
            have hnc93 := NB229_238.out
            have hnb94 := NB238_230.out
            have hnc94 := NB230_238.out
            have hnb95 := NB238_232.out
            have hnc95 := NB232_238.out
            obtain ⟨hcz96_0, hcz96_1⟩ := bc2_ BK238.out
            have hfz96_0 := blk_frozen BK238.out 0
            have hfz96_1 := blk_frozen BK238.out 1
            go_wp2
            go_meet
            case rel => exact ⟨_, (true), jr_, H', ⟨by have := HJ7.out; have := HJ48.out; first | omega | exact Nat.le_refl _⟩, ⟨rk_ HO_232001.out⟩, ⟨rk_ HO_239001.out⟩, ⟨pk_ BK229.out⟩, ⟨pk_ BK230.out⟩, ⟨pk_ BK231.out⟩, ⟨pk_ BK232.out⟩, ⟨pk_ BK238.out⟩, ⟨by repeat (first | (with_reducible first | exact HK.out | apply Kept.alloc | apply Kept.drewN | apply Kept.drew | refine Kept.setCell ?_ (.inr GW229.out) _ | refine Kept.setCell ?_ (.inr GW230.out) _ | refine Kept.setCell ?_ (.inr GW231.out) _ | refine Kept.setCell ?_ (.inr GW232.out) _ | refine Kept.setCell ?_ (.inr GW238.out) _) | exact HK.out)⟩, ⟨bk_ HB.out⟩⟩
           ·rw [if_neg c87] at H
            have c87b0 : decide (t233 < 0) = false := decide_eq_false c87
            clear c87
            have H' := Aside0.mk H
            clear H
            have hnb97 := NB231_229.out
            have hnc97 := NB229_231.out
            have hnb98 := NB231_230.out
            have hnc98 := NB230_231.out
            have hnb99 := NB231_232.out
            have hnc99 := NB232_231.out
            have hnb100 := NB231_238.out
            have hnc100 := NB238_231.out
            obtain ⟨hcz101_0, hcz101_1⟩ := bc2_ BK231.out
            have hfz101_0 := blk_frozen BK231.out 0
            have hfz101_1 := blk_frozen BK231.out 1
            have hnb102 := NB238_229.out
            have hnc102 := NB229_238.out
            have hnb103 := NB238_230.out
            have hnc103 := NB230_238.out
            have hnb104 := NB238_232.out
            have hnc104 := NB232_238.out
            obtain ⟨hcz105_0, hcz105_1⟩ := bc2_ BK238.out
            have hfz105_0 := blk_frozen BK238.out 0
            have hfz105_1 := blk_frozen BK238.out 1
            go_wp2
            go_meet
            case rel => exact ⟨_, (decide (t233 ≥ (l2.length : Int))), jr_, H', ⟨by have := HJ7.out; have := HJ48.out; first | omega | exact Nat.le_refl _⟩, ⟨rk_ HO_232001.out⟩, ⟨rk_ HO_239001.out⟩, ⟨pk_ BK229.out⟩, ⟨pk_ BK230.out⟩, ⟨pk_ BK231.out⟩, ⟨pk_ BK232.out⟩, ⟨pk_ BK238.out⟩, ⟨by repeat (first | (with_reducible first | exact HK.out | apply Kept.alloc | apply Kept.drewN | apply Kept.drew | refine Kept.setCell ?_ (.inr GW229.out) _ | refine Kept.setCell ?_ (.inr GW230.out) _ | refine Kept.setCell ?_ (.inr GW231.out) _ | refine Kept.setCell ?_ (.inr GW232.out) _ | refine Kept.setCell ?_ (.inr GW238.out) _) | exact HK.out)⟩, ⟨bk_ HB.out⟩⟩
        case rest => as_aux_lemma =>
         clear HC74
         (try clear c2); (try clear c7); (try clear c7b0); (try clear c7b1); (try clear c46); (try clear c64); (try clear hcz17_0); (try clear hcz17_1); (try clear hcz20_0); (try clear hcz20_1); (try clear hcz27_0); (try clear hcz27_1); (try clear hcz54_0); (try clear hcz54_1); (try clear hcz59_0); (try clear hcz59_1); (try clear hfz17_0); (try clear hfz17_1); (try clear hfz20_0); (try clear hfz20_1); (try clear hfz27_0); (try clear hfz27_1); (try clear hfz54_0); (try clear hfz54_1); (try clear hfz59_0); (try clear hfz59_1)
         obtain ⟨kq, x98_73, rfl, HA, HJ73, HO_232001, HO_239001, BK229, BK230, BK231, BK232, BK238, HK, HB⟩ := hcut
         cases kq with
         | zero => exact absurd HA.out (by simp [standstilllaw08_next.j2])
         | succ kj73 =>
          have H := HA.out
          clear HA
          simp only [standstilllaw08_next.j2] at H
          by_cases c106 : x98_73 = true
          ·subst c106
           have H1 : (none) = some (r1, r2, r3, r4) := by rw [if_pos rfl] at H; exact H
           clear H
           have H := H1
           clear H1
           exact absurd H (by simp)
          ·replace c106 := Bool.eq_false_iff.mpr c106
           subst c106
           have H1 : (if 0 ≤ a3_0 then (if a3_0 < (l2.length : Int) then ((counter_Until.f kj73 a1_0 l1_1 (rd l2 a3_0) (([t241, 0] : List Int)) l2 (wrap64 (100 + (wrap64 (100 * (mx t241 t243)))))).bind fun bt249 => (if bt249.2.2.2 = 0 then (if bt249.2.2.1 ≤ (wrap64 (100 + (wrap64 (100 * (mx t241 t243))))) then (if 0 ≤ t233 then (if t233 < (l2.length : Int) then ((standstillref06_SameCount.f kj73 bt249.1 bt249.2.1 (rd l2 t233) (([t243, 0] : List Int))).bind fun t260 => (some (t233, t234, false, t260))) else (none)) else (none)) else (none)) else (none))) else (none)) else (none)) = some (r1, r2, r3, r4) := by rw [if_neg (show ¬ (false = true) by decide)] at H; exact H
           clear H
           have H := H1
           clear H1
           by_cases c107 : 0 ≤ a3_0
           ·rw [if_pos c107] at H
            have c107b0 : decide (0 ≤ a3_0) = true := decide_eq_true c107
            clear c107
            by_cases c108 : a3_0 < (l2.length : Int)
            ·rw [if_pos c108] at H
             have c108b0 : decide (a3_0 < (l2.length : Int)) = true := decide_eq_true c108
             clear c108
             obtain ⟨y246, hy246⟩ : ∃ y_ : List Int, y_ = (([t241, 0] : List Int)) := ⟨_, rfl⟩
             replace H : ((counter_Until.f kj73 a1_0 l1_1 (rd l2 a3_0) y246 l2 (wrap64 (100 + (wrap64 (100 * (mx t241 t243)))))).bind fun bt249 => (if bt249.2.2.2 = 0 then (if bt249.2.2.1 ≤ (wrap64 (100 + (wrap64 (100 * (mx t241 t243))))) then (if 0 ≤ t233 then (if t233 < (l2.length : Int) then ((standstillref06_SameCount.f kj73 bt249.1 bt249.2.1 (rd l2 t233) (([t243, 0] : List Int))).bind fun t260 => (some (t233, t234, false, t260))) else (none)) else (none)) else (none)) else (none))) = some (r1, r2, r3, r4) := by first | (rw [hy246]; with_reducible exact H) | (have H2_ := (Option.bind_some _ _).symm.trans H; rw [hy246]; with_reducible exact H2_) | (have H2_ := (Option.bind_some _ _).symm.trans H; with_reducible exact H2_) | with_reducible exact H | (rw [hy246]; exact H) | exact H
             have Ny246 := Aside0.mk hy246
             clear hy246
             obtain ⟨ji109, hji109⟩ : ∃ j_ : Int, (mx t241 t243) = j_ := ⟨_, rfl⟩
             replace H : ((counter_Until.f kj73 a1_0 l1_1 (rd l2 a3_0) y246 l2 (wrap64 (100 + (wrap64 (100 * (ji109)))))).bind fun bt249 => (if bt249.2.2.2 = 0 then (if bt249.2.2.1 ≤ (wrap64 (100 + (wrap64 (100 * (ji109))))) then (if 0 ≤ t233 then (if t233 < (l2.length : Int) then ((standstillref06_SameCount.f kj73 bt249.1 bt249.2.1 (rd l2 t233) (([t243, 0] : List Int))).bind fun t260 => (some (t233, t234, false, t260))) else (none)) else (none)) else (none)) else (none))) = some (r1, r2, r3, r4) := by first | (rw [hji109] at H; exact H) | (simp only [hji109] at H ⊢; exact H)
             have hji109_ : (if t241 < t243 then t243 else t241) = ji109 := hji109
             replace H := Option.bind_eq_some_iff.mp H
             obtain ⟨⟨t249, t250, t253, t254⟩, A1100, H⟩ := H
             replace H : (if t254 = 0 then (if t253 ≤ (wrap64 (100 + (wrap64 (100 * (ji109))))) then (if 0 ≤ t233 then (if t233 < (l2.length : Int) then ((standstillref06_SameCount.f kj73 t249 t250 (rd l2 t233) (([t243, 0] : List Int))).bind fun t260 => (some (t233, t234, false, t260))) else (none)) else (none)) else (none)) else (none)) = some (r1, r2, r3, r4) := H
             have A110 := Aside0.mk A1100
             clear A1100
             by_cases c111 : t254 = 0
             ·rw [if_pos c111] at H
              have c111b0 : (t254 == 0) = true := beq_iff_eq.mpr c111
              have c111b1 : (t254 != 0) = false := bne_eq_false_iff_eq.mpr c111
              clear c111
              by_cases c113 : t253 ≤ (wrap64 (100 + (wrap64 (100 * (ji109)))))
              ·rw [if_pos c113] at H
               have c113b0 : decide (t253 ≤ (wrap64 (100 + (wrap64 (100 * (ji109)))))) = true := decide_eq_true c113
               clear c113
               by_cases c114 : 0 ≤ t233
               ·rw [if_pos c114] at H
                have c114b0 : decide (0 ≤ t233) = true := decide_eq_true c114
                clear c114
                by_cases c115 : t233 < (l2.length : Int)
                ·rw [if_pos c115] at H
                 have c115b0 : decide (t233 < (l2.length : Int)) = true := decide_eq_true c115
                 clear c115
                 obtain ⟨y257, hy257⟩ : ∃ y_ : List Int, y_ = (([t243, 0] : List Int)) := ⟨_, rfl⟩
                 replace H : ((standstillref06_SameCount.f kj73 t249 t250 (rd l2 t233) y257).bind fun t260 => (some (t233, t234, false, t260))) = some (r1, r2, r3, r4) := by first | (rw [hy257]; with_reducible exact H) | (have H2_ := (Option.bind_some _ _).symm.trans H; rw [hy257]; with_reducible exact H2_) | (have H2_ := (Option.bind_some _ _).symm.trans H; with_reducible exact H2_) | with_reducible exact H | (rw [hy257]; exact H) | exact H
                 have Ny257 := Aside0.mk hy257
                 clear hy257
                 replace H := Option.bind_eq_some_iff.mp H
                 obtain ⟨t260, A1160, H⟩ := H
                 replace H : (some (t233, t234, false, t260)) = some (r1, r2, r3, r4) := H
                 have A116 := Aside0.mk A1160
                 clear A1160
                 simp only [Option.some.injEq, Prod.mk.injEq] at H
                 obtain ⟨rfl, rfl, rfl, rfl⟩ := H
                 try go_wp2
                 have n0_ := A_ (Kd.R_drew HO_232001.out)
                 have n1_ := A_ (Kd.R_drew HO_239001.out)
                 have n2_ := A_ (blk_drew BK229.out)
                 have n3_ := A_ (blk_drew BK230.out)
                 have n4_ := A_ (blk_drew BK231.out)
                 have n5_ := A_ (blk_drew BK232.out)
                 have n6_ := A_ (blk_drew BK238.out)
                 have n7_ := A_ (Kept.drew HK.out)
                 have n8_ := A_ (below_drew1 HB.out)
                 clear HO_232001 HO_239001 BK229 BK230 BK231 BK232 BK238 HK HB
                 have HO_232001 := n0_
                 have HO_239001 := n1_
                 have BK229 := n2_
                 have BK230 := n3_
                 have BK231 := n4_
                 have BK232 := n5_
                 have BK238 := n6_
                 have HK := n7_
                 have HB := n8_
                 clear n0_ n1_ n2_ n3_ n4_ n5_ n6_ n7_ n8_
                 have p245 : 0 ≤ (a3_0 : Int) := od_
                 have q245 : a3_0 < (l2.length : Int) := od_
                 obtain ⟨ad245, e245, hx245_0⟩ := Kd.at_int (Kd.C_kept_now HR2.out HK.out) a3_0 p245 q245
                 have hw245_0 := hx245_0
                 cases e245
                 replace p245 := eq_true p245
                 replace q245 := eq_true q245
                 refine start_ (n := 24) (S := fun w' => w'.cell? ⟨gb230, 0, none⟩ = some (.int .i64 a1_0) ∧ w'.cell? ⟨gb230, 1, none⟩ = some (.slice A1_1 l1_1.length c1_1) ∧ w'.cell? ⟨gb231, 0, none⟩ = some (.int .i64 a3_0) ∧ w'.cell? ⟨gb231, 1, none⟩ = some (.slice Ao11 l3_1.length co11) ∧ w'.cell? (ad245.add (a3_0).toNat) = some (.int .i64 (rd l2 a3_0))) (ds := []) #[false, false, false, false, false, false, false, false, false, false, false, false, false, false, false, false, false, false, false, false, false, false, false, false] (by kernel_rfl) rfl rfl ⟨(blk_cell BK230.out 0).trans rfl, (blk_cell BK230.out 1).trans rfl, (blk_cell BK231.out 0).trans rfl, (blk_cell BK231.out 1).trans rfl, (Kd.foot_int (HR2.out _ (by repeat (first | exact HK.out | apply Kept.alloc | apply Kept.drewN | apply Kept.drew | refine Kept.setCell ?_ (.inr GW255.out) _ | refine Kept.setCell ?_ (.inr GW255.out) _))) a3_0 (of_eq_true p245) (of_eq_true q245))⟩ (fun hHeld => ?_); refine with_tabW standstilllaw08_next.tab12 standstilllaw08_next.bits12 (fun HT_ HW_ => ?_)
                 generalize wc.drew = w117 at HO_232001 HO_239001 BK229 BK230 BK231 BK232 BK238 HK HB hx245_0 hHeld ⊢
                 refine pure_ (i := 1) (N := some 102) (v := ?_) (a' := ?_) #[false, true, false, false, false, false, false, false, false, false, false, false, false, false, false, false, false, false, false, false, false, false, false, false] rfl rfl (any_of HT_.out (by kernel_rfl)) (fun _ _ _ h => h) (Or.inl ⟨by rfl, ?_⟩) ?_ ?_
                 rotate_left
                 ·intro w'
                  go_simp
                  with_reducible rfl
                 rotate_left
                 ·simp only [Act.put, sa_, sz_, ss_, i64_w, i32_w]
                  rfl
                 refine pure_ (i := 2) (N := some 103) (v := ?_) (a' := ?_) #[false, true, true, false, false, false, false, false, false, false, false, false, false, false, false, false, false, false, false, false, false, false, false, false] rfl rfl (any_of HT_.out (by kernel_rfl)) (fun _ _ _ h => h) (Or.inl ⟨by rfl, ?_⟩) ?_ ?_
                 rotate_left
                 ·intro w'
                  go_simp
                  with_reducible rfl
                 rotate_left
                 ·simp only [Act.put, sa_, sz_, ss_, i64_w, i32_w]
                  rfl
                 refine pure_ (i := 6) (N := some 107) (v := ?_) (a' := ?_) #[false, true, true, false, false, false, true, false, false, false, false, false, false, false, false, false, false, false, false, false, false, false, false, false] rfl rfl (any_of HT_.out (by kernel_rfl)) (fun _ _ _ h => h) (Or.inl ⟨by rfl, ?_⟩) ?_ ?_
                 rotate_left
                 ·intro w'
                  go_simp
                  with_reducible rfl
                 rotate_left
                 ·simp only [Act.put, sa_, sz_, ss_, i64_w, i32_w]
                  rfl
                 refine pure_ (i := 9) (N := some 110) (v := ?_) (a' := ?_) #[false, true, true, false, false, false, true, false, false, true, false, false, false, false, false, false, false, false, false, false, false, false, false, false] rfl rfl (any_of HT_.out (by kernel_rfl)) (fun _ _ _ h => h) (Or.inl ⟨by rfl, ?_⟩) ?_ ?_
                 rotate_left
                 ·intro w'
                  go_simp
                  with_reducible rfl
                 rotate_left
                 ·simp only [Act.put, sa_, sz_, ss_, i64_w, i32_w]
                  rfl
                 refine pure_ (i := 10) (N := some 111) (v := ?_) (a' := ?_) #[false, true, true, false, false, false, true, false, false, true, true, false, false, false, false, false, false, false, false, false, false, false, false, false] rfl rfl (any_of HT_.out (by kernel_rfl)) (fun _ _ _ h => h) (Or.inl ⟨by rfl, ?_⟩) ?_ ?_
                 rotate_left
                 ·intro w'
                  go_simp
                  with_reducible rfl
                 rotate_left
                 ·simp only [Act.put, sa_, sz_, ss_, i64_w, i32_w]
                  rfl
                 refine pure_ (i := 11) (N := some 112) (v := ?_) (a' := ?_) #[false, true, true, false, false, false, true, false, false, true, true, true, false, false, false, false, false, false, false, false, false, false, false, false] rfl rfl (any_of HT_.out (by kernel_rfl)) (fun _ _ _ h => h) (Or.inl ⟨by rfl, ?_⟩) ?_ ?_
                 rotate_left
                 ·intro w'
                  go_simp
                  with_reducible rfl
                 rotate_left
                 ·simp only [Act.put, sa_, sz_, ss_, i64_w, i32_w]
                  rfl
                 refine pure_ (i := 12) (N := some 113) (v := ?_) (a' := ?_) #[false, true, true, false, false, false, true, false, false, true, true, true, true, false, false, false, false, false, false, false, false, false, false, false] rfl rfl (any_of HT_.out (by kernel_rfl)) (fun _ _ _ h => h) (Or.inl ⟨by rfl, ?_⟩) ?_ ?_
                 rotate_left
                 ·intro w'
                  go_simp
                  with_reducible rfl
                 rotate_left
                 ·simp only [Act.put, sa_, sz_, ss_, i64_w, i32_w]
                  rfl
                 refine pure_ (i := 13) (N := some 114) (v := ?_) (a' := ?_) #[false, true, true, false, false, false, true, false, false, true, true, true, true, true, false, false, false, false, false, false, false, false, false, false] rfl rfl (any_of HT_.out (by kernel_rfl)) (fun _ _ _ h => h) (Or.inl ⟨by rfl, ?_⟩) ?_ ?_
                 rotate_left
                 ·intro w'
                  go_simp
                  with_reducible rfl
                 rotate_left
                 ·simp only [Act.put, sa_, sz_, ss_, i64_w, i32_w]
                  rfl
                 refine pure_ (i := 14) (N := some 115) (v := ?_) (a' := ?_) #[false, true, true, false, false, false, true, false, false, true, true, true, true, true, true, false, false, false, false, false, false, false, false, false] rfl rfl (any_of HT_.out (by kernel_rfl)) (fun _ _ _ h => h) (Or.inl ⟨by rfl, ?_⟩) ?_ ?_
                 rotate_left
                 ·intro w'
                  go_simp
                  with_reducible rfl
                 rotate_left
                 ·simp only [Act.put, sa_, sz_, ss_, i64_w, i32_w]
                  rfl
                 refine take_ (i := 0) (N := some 101) (v := ?_) (a' := ?_) #[true, true, true, false, false, false, true, false, false, true, true, true, true, true, true, false, false, false, false, false, false, false, false, false] rfl rfl (take_ofW HT_.out HW_.out (by kernel_rfl)) (fun _ _ _ h => h) (Or.inl ⟨by rfl, ?_⟩) hHeld ?_ ?_
                 rotate_left
                 ·rintro w' ⟨s0, s1, s2, s3, s4⟩
                  go_simp
                  with_reducible rfl
                 rotate_left
                 ·simp only [Act.put, sa_, sz_, ss_, i64_w, i32_w]
                  rfl
                 refine take_ (i := 3) (N := some 104) (v := ?_) (a' := ?_) #[true, true, true, true, false, false, true, false, false, true, true, true, true, true, true, false, false, false, false, false, false, false, false, false] rfl rfl (take_ofW HT_.out HW_.out (by kernel_rfl)) (fun _ _ _ h => h) (Or.inl ⟨by rfl, ?_⟩) hHeld ?_ ?_
                 rotate_left
                 ·rintro w' ⟨s0, s1, s2, s3, s4⟩
                  go_simp
                  with_reducible rfl
                 rotate_left
                 ·simp only [Act.put, sa_, sz_, ss_, i64_w, i32_w]
                  rfl
                 refine pure_ (i := 4) (N := some 105) (v := ?_) (a' := ?_) #[true, true, true, true, true, false, true, false, false, true, true, true, true, true, true, false, false, false, false, false, false, false, false, false] rfl rfl (any_of HT_.out (by kernel_rfl)) (fun _ _ _ h => h) (Or.inl ⟨by rfl, ?_⟩) ?_ ?_
                 rotate_left
                 ·intro w'
                  go_simp
                  with_reducible rfl
                 rotate_left
                 ·simp only [Act.put, sa_, sz_, ss_, i64_w, i32_w]
                  rfl
                 refine take_ (i := 5) (N := some 106) (v := ?_) (a' := ?_) #[true, true, true, true, true, true, true, false, false, true, true, true, true, true, true, false, false, false, false, false, false, false, false, false] rfl rfl (take_ofW HT_.out HW_.out (by kernel_rfl)) (fun _ _ _ h => h) (Or.inl ⟨by rfl, ?_⟩) hHeld ?_ ?_
                 rotate_left
                 ·rintro w' ⟨s0, s1, s2, s3, s4⟩
                  go_simp
                  with_reducible rfl
                 rotate_left
                 ·simp only [Act.put, sa_, sz_, ss_, i64_w, i32_w]
                  rfl
                 refine join_ (σ := Value × Value × Nat) 3 #[true, true, true, true, true, true, true, true, true, true, true, true, true, true, true, true, true, true, true, true, true, false, false, false] (fun s_ => [(108, s_.1), (116, .tuple #[.agg #[.int .i64 t249, s_.2.1], .int .i64 t253, .int .i64 t254]), (19, .pointer (some ⟨s_.2.2, 0, none⟩)), (109, .agg #[.int .i64 (rd l2 a3_0), s_.1]), (100, .tuple #[.agg #[.int .i64 t249, s_.2.1], .int .i64 t253, .int .i64 t254]), (117, .agg #[.int .i64 t249, s_.2.1]), (118, .int .i64 t253), (119, .int .i64 t254)]) (fun s_ w' => (w'.cell? ⟨gb230, 0, none⟩ = some (.int .i64 a1_0) ∧ w'.cell? ⟨gb230, 1, none⟩ = some (.slice A1_1 l1_1.length c1_1) ∧ w'.cell? ⟨gb231, 0, none⟩ = some (.int .i64 a3_0) ∧ w'.cell? ⟨gb231, 1, none⟩ = some (.slice Ao11 l3_1.length co11) ∧ w'.cell? (ad245.add (a3_0).toNat) = some (.int .i64 (rd l2 a3_0))) ∧ (Kd.R (Kd.int .i64) 3 w' w0.heap.size (fun k_ => (P3_1_ k_ ∨ w.heap.size ≤ k_) ∧ some k_ ≠ (s_.2.1 : Value).ownBlock ∧ some k_ ≠ (.slice Ao11 l3_1.length co11 : Value).ownBlock ∧ some k_ ≠ (.slice Ao28 t234.length co28 : Value).ownBlock) s_.1 y246) ∧ (Kd.R (Kd.int .i64) 3 w' w0.heap.size (fun k_ => (P3_1_ k_ ∨ w.heap.size ≤ k_) ∧ some k_ ≠ (s_.1 : Value).ownBlock ∧ some k_ ≠ (.slice Ao11 l3_1.length co11 : Value).ownBlock ∧ some k_ ≠ (.slice Ao28 t234.length co28 : Value).ownBlock) s_.2.1 t250) ∧ (Kd.R (Kd.int .i64) 3 w' w0.heap.size (fun k_ => (P3_1_ k_ ∨ w.heap.size ≤ k_) ∧ some k_ ≠ (s_.1 : Value).ownBlock ∧ some k_ ≠ (s_.2.1 : Value).ownBlock ∧ some k_ ≠ (.slice Ao28 t234.length co28 : Value).ownBlock) (.slice Ao11 l3_1.length co11) l3_1) ∧ (Kd.R (Kd.int .i64) 3 w' w0.heap.size (fun k_ => (P3_1_ k_ ∨ w.heap.size ≤ k_) ∧ some k_ ≠ (s_.1 : Value).ownBlock ∧ some k_ ≠ (s_.2.1 : Value).ownBlock ∧ some k_ ≠ (.slice Ao11 l3_1.length co11 : Value).ownBlock) (.slice Ao28 t234.length co28) t234) ∧ (w'.heap[gb229]? = some (.cells #[.int .i64 a0_0, .slice A0_1 l0_1.length c0_1] 38 (0, 0))) ∧ (w'.heap[gb230]? = some (.cells #[.int .i64 a1_0, .slice A1_1 l1_1.length c1_1] 38 (0, 0))) ∧ (w'.heap[gb231]? = some (.cells #[.int .i64 a3_0, .slice Ao11 l3_1.length co11] 47 (0, 0))) ∧ (w'.heap[gb232]? = some (.cells #[.int .i64 0, .slice none 0 0] 47 (0, 0))) ∧ (w'.heap[gb238]? = some (.cells #[.int .i64 t233, .slice Ao28 t234.length co28] 47 (0, 0))) ∧ (w'.heap[s_.2.2]? = some (.cells #[.int .i64 0, .slice none 0 0] 47 (0, 0))) ∧ (w.heap.size ≤ s_.2.2) ∧ (w0.heap.size ≤ s_.2.2) ∧ (gb229 ≠ s_.2.2) ∧ (s_.2.2 ≠ gb229) ∧ (gb230 ≠ s_.2.2) ∧ (s_.2.2 ≠ gb230) ∧ (gb231 ≠ s_.2.2) ∧ (s_.2.2 ≠ gb231) ∧ (gb232 ≠ s_.2.2) ∧ (s_.2.2 ≠ gb232) ∧ (gb238 ≠ s_.2.2) ∧ (s_.2.2 ≠ gb238) ∧ (Kept w w' (fun k_ => P3_1_ k_)) ∧ (Below w0.heap.size w0 w')) ?_ ?_
                 rotate_left
                 ·intro hCont
                  refine two_ (i := 7) (j := 20) (Ni := some 108) (Nj := some 19) #[true, true, true, true, true, true, true, true, false, true, true, true, true, true, true, false, false, false, false, false, false, false, false, false] #[true, true, true, true, true, true, true, false, false, true, true, true, true, true, true, false, false, false, false, false, true, false, false, false] rfl rfl rfl rfl (two_of HT_.out (by kernel_rfl)) (by decide) (by decide) (fun K hK => ?_) (fun K hK => ?_)
                  ·skip
                   refine Kd.R_lit_step (Kd.int .i64) _ 3 ?hg (N := 108) ?hd (xs := ([t241, 0] : List Int)) (inner := [.int .i64 t241, .int .i64 0]) (ok := fun _ => True) (okp := fun _ => True) ?hr ?hp (fun _ hk => hk) trivial (Below.refl _ _) (Nat.le_refl _) (by simp) ?_; (case hd => rfl); (case hg => rfl); (case hr => first | (go_simp; done) | (go_simp; rfl)); (case hp => exact (Reps.one (show Kd.M (Kd.int .i64) _ _ _ t241 [.int .i64 t241] from rfl) (Reps.one (show Kd.M (Kd.int .i64) _ _ _ 0 [.int .i64 0] from rfl) (Reps.none _ _))))
                   intro v247 w118 ho119 hb hg_ hnew_
                   clear hg_ hnew_
                   (first | rw [← Ny246.out] at ho119 | (simp only [Int.reduceToNat] at ho119; rw [← Ny246.out] at ho119))
                   have n0_ := A_ (Kd.R_elder' (rk_ HO_232001.out) (Kd.R_base ho119) hb)
                   have n1_ := A_ (Kd.R_elder' (rk_ HO_239001.out) (Kd.R_base ho119) hb)
                   have n2_ := A_ (Kd.R_lower (Kd.R_new' (Kd.R_new' (Kd.R_newM (M := fun k_ => (P3_1_ k_ ∨ w.heap.size ≤ k_)) ho119 (by first | exact HK.out.1 | exact (show Kept w _ (fun k_ => P3_1_ k_) from by repeat (first | (with_reducible first | exact HK.out | apply Kept.alloc | apply Kept.drewN | apply Kept.drew | refine Kept.setCell ?_ (.inr GW229.out) _ | refine Kept.setCell ?_ (.inr GW230.out) _ | refine Kept.setCell ?_ (.inr GW231.out) _ | refine Kept.setCell ?_ (.inr GW232.out) _ | refine Kept.setCell ?_ (.inr GW238.out) _) | exact HK.out)).1) (fun k_ h_ => .inr h_)) (Kd.R_lt (rk_ HO_232001.out))) (Kd.R_lt (rk_ HO_239001.out))) (below_size (bk_ HB.out)))
                   have n3_ := A_ (blk_below (pk_ BK229.out) hb)
                   have n4_ := A_ (blk_below (pk_ BK230.out) hb)
                   have n5_ := A_ (blk_below (pk_ BK231.out) hb)
                   have n6_ := A_ (blk_below (pk_ BK232.out) hb)
                   have n7_ := A_ (blk_below (pk_ BK238.out) hb)
                   have n8_ := A_ (Kept.below (S := (fun k_ => P3_1_ k_)) (by repeat (first | (with_reducible first | exact HK.out | apply Kept.alloc | apply Kept.drewN | apply Kept.drew | refine Kept.setCell ?_ (.inr GW229.out) _ | refine Kept.setCell ?_ (.inr GW230.out) _ | refine Kept.setCell ?_ (.inr GW231.out) _ | refine Kept.setCell ?_ (.inr GW232.out) _ | refine Kept.setCell ?_ (.inr GW238.out) _) | exact HK.out)) hb)
                   have n9_ := A_ (below_step (bk_ HB.out) hb)
                   clear HO_232001 HO_239001 BK229 BK230 BK231 BK232 BK238 HK HB
                   have HO_232001 := n0_
                   have HO_239001 := n1_
                   have HO248 := n2_
                   have BK229 := n3_
                   have BK230 := n4_
                   have BK231 := n5_
                   have BK232 := n6_
                   have BK238 := n7_
                   have HK := n8_
                   have HB := n9_
                   clear n0_ n1_ n2_ n3_ n4_ n5_ n6_ n7_ n8_ n9_ hb ho119
                   obtain ⟨Ao120, co120, eo120⟩ := Kd.R_slice HO248.out
                   (first | subst eo120 | (injection eo120 with f1_ f2_ f3_; have f4_ := f1_.symm; have f5_ := f3_.symm; clear f1_ f2_ f3_; subst f4_; subst f5_))
                   refine hK.out _ _ ⟨(blk_cell BK230.out 0).trans rfl, (blk_cell BK230.out 1).trans rfl, (blk_cell BK231.out 0).trans rfl, (blk_cell BK231.out 1).trans rfl, (Kd.foot_int (HR2.out _ (by repeat (first | exact HK.out | apply Kept.alloc | apply Kept.drewN | apply Kept.drew | refine Kept.setCell ?_ (.inr GW255.out) _ | refine Kept.setCell ?_ (.inr GW255.out) _))) a3_0 (of_eq_true p245) (of_eq_true q245))⟩ (fun hHeld => ?_)
                   clear hK K
                   refine norm_ (a' := ?_) ?_ ?_
                   rotate_left
                   ·show Act.put _ (some 108) _ = _
                    simp only [Act.put, sa_, sz_, ss_, i64_w, i32_w]
                    rfl
                   refine pure_ (i := 8) (N := some 109) (v := ?_) (a' := ?_) #[true, true, true, true, true, true, true, true, true, true, true, true, true, true, true, false, false, false, false, false, false, false, false, false] rfl rfl (any_of HT_.out (by kernel_rfl)) (fun _ _ _ h => h) (Or.inl ⟨by rfl, ?_⟩) ?_ ?_
                   rotate_left
                   ·intro w'
                    go_simp
                    with_reducible rfl
                   rotate_left
                   ·simp only [Act.put, sa_, sz_, ss_, i64_w, i32_w]
                    rfl
                   refine two_ (i := 15) (j := 20) (Ni := some 116) (Nj := some 19) #[true, true, true, true, true, true, true, true, true, true, true, true, true, true, true, true, false, false, false, false, false, false, false, false] #[true, true, true, true, true, true, true, true, true, true, true, true, true, true, true, false, false, false, false, false, true, false, false, false] rfl rfl rfl rfl (two_of HT_.out (by kernel_rfl)) (by decide) (by decide) (fun K hK => ?_) (fun K hK => ?_)
                   ·skip
                    refine goes_ Try.func32 (by kernel_rfl) rfl #[.agg #[.int .i64 a1_0, .slice A1_1 l1_1.length c1_1], .agg #[.int .i64 (rd l2 a3_0), .slice Ao120 y246.length co120], .slice (some ad245) l2.length c2, .int .i64 (wrap64 (100 + (wrap64 (100 * (ji109)))))] (by rfl) rfl rfl (by (try simp only [List.map_toArray, List.map_cons, List.map_nil]); first | done | (simp only [hji109]; rfl) | rfl | (simp only [List.length_drop, List.length_take]; rfl)) ?_
                    with_reducible refine (counter_Until.calls kj73 a1_0 _ _ l1_1 (rd l2 a3_0) _ _ y246 _ _ l2 (wrap64 (100 + (wrap64 (100 * (ji109))))) t249 t250 t253 t254 _ ?side1 ?side2 ?side3 ?side4 ?side5 ?side6 A110.out).mono ?_
                    (case side1 => exact Kd.C_kept_now HR1_1.out (by repeat (first | (with_reducible first | exact HK.out | apply Kept.alloc | apply Kept.drewN | apply Kept.drew | refine Kept.setCell ?_ (.inr GW229.out) _ | refine Kept.setCell ?_ (.inr GW230.out) _ | refine Kept.setCell ?_ (.inr GW231.out) _ | refine Kept.setCell ?_ (.inr GW232.out) _ | refine Kept.setCell ?_ (.inr GW238.out) _) | exact HK.out)))
                    (case side2 => exact HC1_1.out)
                    (case side3 => repeat (first | exact (Kd.R_reads' HO248.out).2.2 | (with_reducible refine Kd.C_alloc ?_ _) | (with_reducible refine Kd.C_drewN ?_ _) | (with_reducible refine Kd.C_drew ?_)))
                    (case side4 => exact (Kd.R_reads' HO248.out).2.1)
                    (case side5 => exact Kd.C_kept_now HR2.out (by repeat (first | (with_reducible first | exact HK.out | apply Kept.alloc | apply Kept.drewN | apply Kept.drew | refine Kept.setCell ?_ (.inr GW229.out) _ | refine Kept.setCell ?_ (.inr GW230.out) _ | refine Kept.setCell ?_ (.inr GW231.out) _ | refine Kept.setCell ?_ (.inr GW232.out) _ | refine Kept.setCell ?_ (.inr GW238.out) _) | exact HK.out)))
                    (case side6 => exact HC2.out)
                    rintro e w121 ⟨v251, rfl, ho0, hb⟩
                    refine ⟨_, rfl, ?_⟩
                    have n0_ := A_ (Kd.R_elder' (rk_ HO_232001.out) (Kd.R_base ho0) hb)
                    have n1_ := A_ (Kd.R_elder' (rk_ HO_239001.out) (Kd.R_base ho0) hb)
                    have n2_ := A_ (Kd.R_elder' (rk_ HO248.out) (Kd.R_base ho0) hb)
                    have n3_ := A_ (Kd.R_lower (Kd.R_new' (Kd.R_new' (Kd.R_new' (Kd.R_newM (M := fun k_ => (P3_1_ k_ ∨ w.heap.size ≤ k_)) ho0 (by first | exact HK.out.1 | exact (show Kept w _ (fun k_ => P3_1_ k_) from by repeat (first | (with_reducible first | exact HK.out | apply Kept.alloc | apply Kept.drewN | apply Kept.drew | refine Kept.setCell ?_ (.inr GW229.out) _ | refine Kept.setCell ?_ (.inr GW230.out) _ | refine Kept.setCell ?_ (.inr GW231.out) _ | refine Kept.setCell ?_ (.inr GW232.out) _ | refine Kept.setCell ?_ (.inr GW238.out) _) | exact HK.out)).1) (fun k_ h_ => .inr h_)) (Kd.R_lt (rk_ HO_232001.out))) (Kd.R_lt (rk_ HO_239001.out))) (Kd.R_lt (rk_ HO248.out))) (below_size (bk_ HB.out)))
                    have n4_ := A_ (blk_below (pk_ BK229.out) hb)
                    have n5_ := A_ (blk_below (pk_ BK230.out) hb)
                    have n6_ := A_ (blk_below (pk_ BK231.out) hb)
                    have n7_ := A_ (blk_below (pk_ BK232.out) hb)
                    have n8_ := A_ (blk_below (pk_ BK238.out) hb)
                    have n9_ := A_ (Kept.below (S := (fun k_ => P3_1_ k_)) (by repeat (first | (with_reducible first | exact HK.out | apply Kept.alloc | apply Kept.drewN | apply Kept.drew | refine Kept.setCell ?_ (.inr GW229.out) _ | refine Kept.setCell ?_ (.inr GW230.out) _ | refine Kept.setCell ?_ (.inr GW231.out) _ | refine Kept.setCell ?_ (.inr GW232.out) _ | refine Kept.setCell ?_ (.inr GW238.out) _) | exact HK.out)) hb)
                    have n10_ := A_ (below_step (bk_ HB.out) hb)
                    clear HO_232001 HO_239001 HO248 BK229 BK230 BK231 BK232 BK238 HK HB
                    have HO_232001 := n0_
                    have HO_239001 := n1_
                    have HO248 := n2_
                    have HO252 := n3_
                    have BK229 := n4_
                    have BK230 := n5_
                    have BK231 := n6_
                    have BK232 := n7_
                    have BK238 := n8_
                    have HK := n9_
                    have HB := n10_
                    clear n0_ n1_ n2_ n3_ n4_ n5_ n6_ n7_ n8_ n9_ n10_
                    (try clear hb)
                    (try clear hb2)
                    (try clear hk)
                    (try clear hi)
                    (try clear ho0)
                    refine hK.out _ _ ⟨(blk_cell BK230.out 0).trans rfl, (blk_cell BK230.out 1).trans rfl, (blk_cell BK231.out 0).trans rfl, (blk_cell BK231.out 1).trans rfl, (Kd.foot_int (HR2.out _ (by repeat (first | exact HK.out | apply Kept.alloc | apply Kept.drewN | apply Kept.drew | refine Kept.setCell ?_ (.inr GW255.out) _ | refine Kept.setCell ?_ (.inr GW255.out) _))) a3_0 (of_eq_true p245) (of_eq_true q245))⟩ (fun hHeld => ?_)
                    clear hK K
                    refine norm_ (a' := ?_) ?_ ?_
                    rotate_left
                    ·show Act.put _ (some 116) _ = _
                     simp only [Act.put, sa_, sz_, ss_, i64_w, i32_w]
                     rfl
                    refine pure_ (i := 16) (N := some 100) (v := ?_) (a' := ?_) #[true, true, true, true, true, true, true, true, true, true, true, true, true, true, true, true, true, false, false, false, false, false, false, false] rfl rfl (any_of HT_.out (by kernel_rfl)) (fun _ _ _ h => h) (Or.inl ⟨by rfl, ?_⟩) ?_ ?_
                    rotate_left
                    ·intro w'
                     go_simp
                     with_reducible rfl
                    rotate_left
                    ·simp only [Act.put, sa_, sz_, ss_, i64_w, i32_w]
                     rfl
                    refine pure_ (i := 17) (N := some 117) (v := ?_) (a' := ?_) #[true, true, true, true, true, true, true, true, true, true, true, true, true, true, true, true, true, true, false, false, false, false, false, false] rfl rfl (any_of HT_.out (by kernel_rfl)) (fun _ _ _ h => h) (Or.inl ⟨by rfl, ?_⟩) ?_ ?_
                    rotate_left
                    ·intro w'
                     go_simp
                     with_reducible rfl
                    rotate_left
                    ·simp only [Act.put, sa_, sz_, ss_, i64_w, i32_w]
                     rfl
                    refine pure_ (i := 18) (N := some 118) (v := ?_) (a' := ?_) #[true, true, true, true, true, true, true, true, true, true, true, true, true, true, true, true, true, true, true, false, false, false, false, false] rfl rfl (any_of HT_.out (by kernel_rfl)) (fun _ _ _ h => h) (Or.inl ⟨by rfl, ?_⟩) ?_ ?_
                    rotate_left
                    ·intro w'
                     go_simp
                     with_reducible rfl
                    rotate_left
                    ·simp only [Act.put, sa_, sz_, ss_, i64_w, i32_w]
                     rfl
                    refine pure_ (i := 19) (N := some 119) (v := ?_) (a' := ?_) #[true, true, true, true, true, true, true, true, true, true, true, true, true, true, true, true, true, true, true, true, false, false, false, false] rfl rfl (any_of HT_.out (by kernel_rfl)) (fun _ _ _ h => h) (Or.inl ⟨by rfl, ?_⟩) ?_ ?_
                    rotate_left
                    ·intro w'
                     go_simp
                     with_reducible rfl
                    rotate_left
                    ·simp only [Act.put, sa_, sz_, ss_, i64_w, i32_w]
                     rfl
                    refine one_ (i := 20) (N := some 19) #[true, true, true, true, true, true, true, true, true, true, true, true, true, true, true, true, true, true, true, true, true, false, false, false] rfl rfl (one_of HT_.out (by kernel_rfl)) (by decide) (fun K hK => ?_)
                    refine box_step ?hg (N := 19) ?hd (cs := #[.int .i64 0, .slice none 0 0]) (t := 47) ?hr ?_; (case hd => rfl); (case hg => rfl); (case hr => first | (go_simp; done) | (go_simp; rfl))
                    intro gb255 hg w122 hbox hb
                    have n0_ := A_ (Kd.R_below (rk_ HO_232001.out) hb)
                    have n1_ := A_ (Kd.R_below (rk_ HO_239001.out) hb)
                    have n2_ := A_ (Kd.R_below (rk_ HO248.out) hb)
                    have n3_ := A_ (Kd.R_below (rk_ HO252.out) hb)
                    have n4_ := A_ (blk_below (pk_ BK229.out) hb)
                    have n5_ := A_ (blk_below (pk_ BK230.out) hb)
                    have n6_ := A_ (blk_below (pk_ BK231.out) hb)
                    have n7_ := A_ (blk_below (pk_ BK232.out) hb)
                    have n8_ := A_ (blk_below (pk_ BK238.out) hb)
                    have n9_ := A_ (Kept.below (S := (fun k_ => P3_1_ k_)) (by repeat (first | (with_reducible first | exact HK.out | apply Kept.alloc | apply Kept.drewN | apply Kept.drew | refine Kept.setCell ?_ (.inr GW229.out) _ | refine Kept.setCell ?_ (.inr GW230.out) _ | refine Kept.setCell ?_ (.inr GW231.out) _ | refine Kept.setCell ?_ (.inr GW232.out) _ | refine Kept.setCell ?_ (.inr GW238.out) _) | exact HK.out)) hb)
                    have n10_ := A_ (below_step (bk_ HB.out) hb)
                    have n11_ := A_ (hbox)
                    have n12_ := A_ ((by rw [hg]; exact (by first | exact HK.out.1 | exact (show Kept w _ (fun k_ => P3_1_ k_) from by repeat (first | (with_reducible first | exact HK.out | apply Kept.alloc | apply Kept.drewN | apply Kept.drew | refine Kept.setCell ?_ (.inr GW229.out) _ | refine Kept.setCell ?_ (.inr GW230.out) _ | refine Kept.setCell ?_ (.inr GW231.out) _ | refine Kept.setCell ?_ (.inr GW232.out) _ | refine Kept.setCell ?_ (.inr GW238.out) _) | exact HK.out)).1) : w.heap.size ≤ gb255))
                    have n13_ := A_ ((by rw [hg]; exact (below_size (bk_ HB.out)) : w0.heap.size ≤ gb255))
                    have n14_ := A_ (nl_ hg (pk_ BK229.out))
                    have n15_ := A_ (ng_ hg (pk_ BK229.out))
                    have n16_ := A_ (nl_ hg (pk_ BK230.out))
                    have n17_ := A_ (ng_ hg (pk_ BK230.out))
                    have n18_ := A_ (nl_ hg (pk_ BK231.out))
                    have n19_ := A_ (ng_ hg (pk_ BK231.out))
                    have n20_ := A_ (nl_ hg (pk_ BK232.out))
                    have n21_ := A_ (ng_ hg (pk_ BK232.out))
                    have n22_ := A_ (nl_ hg (pk_ BK238.out))
                    have n23_ := A_ (ng_ hg (pk_ BK238.out))
                    clear HO_232001 HO_239001 HO248 HO252 BK229 BK230 BK231 BK232 BK238 HK HB
                    have HO_232001 := n0_
                    have HO_239001 := n1_
                    have HO248 := n2_
                    have HO252 := n3_
                    have BK229 := n4_
                    have BK230 := n5_
                    have BK231 := n6_
                    have BK232 := n7_
                    have BK238 := n8_
                    have HK := n9_
                    have HB := n10_
                    have BK255 := n11_
                    have GW255 := n12_
                    have GE255 := n13_
                    have NB229_255 := n14_
                    have NB255_229 := n15_
                    have NB230_255 := n16_
                    have NB255_230 := n17_
                    have NB231_255 := n18_
                    have NB255_231 := n19_
                    have NB232_255 := n20_
                    have NB255_232 := n21_
                    have NB238_255 := n22_
                    have NB255_238 := n23_
                    clear n0_ n1_ n2_ n3_ n4_ n5_ n6_ n7_ n8_ n9_ n10_ n11_ n12_ n13_ n14_ n15_ n16_ n17_ n18_ n19_ n20_ n21_ n22_ n23_ hb hbox hg
                    refine hK.out _ _ ⟨(blk_cell BK230.out 0).trans rfl, (blk_cell BK230.out 1).trans rfl, (blk_cell BK231.out 0).trans rfl, (blk_cell BK231.out 1).trans rfl, (Kd.foot_int (HR2.out _ (by repeat (first | exact HK.out | apply Kept.alloc | apply Kept.drewN | apply Kept.drew | refine Kept.setCell ?_ (.inr GW255.out) _ | refine Kept.setCell ?_ (.inr GW255.out) _))) a3_0 (of_eq_true p245) (of_eq_true q245))⟩ (fun hHeld => ?_)
                    clear hK K
                    refine norm_ (a' := ?_) ?_ ?_
                    rotate_left
                    ·show Act.put _ (some 19) _ = _
                     simp only [Act.put, sa_, sz_, ss_, i64_w, i32_w]
                     rfl
                    exact norm_ (by simp only [putAll, Act.put, List.setIfInBounds_toArray, List.set_cons_zero, List.set_cons_succ]) (hCont (.slice Ao120 y246.length co120, v251, gb255) _ ⟨hHeld, (by (with_reducible repeat (first | apply Kd.R_alloc | apply Kd.R_drewN | apply Kd.R_drew)); exact Kd.R_mono HO248.out (fun _ hk => ⟨hk.1.1.1.1, ⟨hk.2, ⟨hk.1.1.2, hk.1.2⟩⟩⟩)), (by (with_reducible repeat (first | apply Kd.R_alloc | apply Kd.R_drewN | apply Kd.R_drew)); exact Kd.R_mono HO252.out (fun _ hk => ⟨hk.1.1.1.1, ⟨hk.2, ⟨hk.1.1.2, hk.1.2⟩⟩⟩)), (by (with_reducible repeat (first | apply Kd.R_alloc | apply Kd.R_drewN | apply Kd.R_drew)); exact Kd.R_mono HO_232001.out (fun _ hk => ⟨hk.1.1.1, ⟨hk.1.2, ⟨hk.2, hk.1.1.2⟩⟩⟩)), (by (with_reducible repeat (first | apply Kd.R_alloc | apply Kd.R_drewN | apply Kd.R_drew)); exact Kd.R_mono HO_239001.out (fun _ hk => ⟨hk.1.1.1, ⟨hk.1.2, ⟨hk.2, hk.1.1.2⟩⟩⟩)), (pk_ BK229.out), (pk_ BK230.out), (pk_ BK231.out), (pk_ BK232.out), (pk_ BK238.out), (pk_ BK255.out), GW255.out, GE255.out, NB229_255.out, NB255_229.out, NB230_255.out, NB255_230.out, NB231_255.out, NB255_231.out, NB232_255.out, NB255_232.out, NB238_255.out, NB255_238.out, (by repeat (first | (with_reducible first | exact HK.out | apply Kept.alloc | apply Kept.drewN | apply Kept.drew | refine Kept.setCell ?_ (.inr GW229.out) _ | refine Kept.setCell ?_ (.inr GW230.out) _ | refine Kept.setCell ?_ (.inr GW231.out) _ | refine Kept.setCell ?_ (.inr GW232.out) _ | refine Kept.setCell ?_ (.inr GW238.out) _ | refine Kept.setCell ?_ (.inr GW255.out) _) | exact HK.out)), (bk_ HB.out)⟩)
                   ·skip
                    refine box_step ?hg (N := 19) ?hd (cs := #[.int .i64 0, .slice none 0 0]) (t := 47) ?hr ?_; (case hd => rfl); (case hg => rfl); (case hr => first | (go_simp; done) | (go_simp; rfl))
                    intro gb255 hg w121 hbox hb
                    have n0_ := A_ (Kd.R_below (rk_ HO_232001.out) hb)
                    have n1_ := A_ (Kd.R_below (rk_ HO_239001.out) hb)
                    have n2_ := A_ (Kd.R_below (rk_ HO248.out) hb)
                    have n3_ := A_ (blk_below (pk_ BK229.out) hb)
                    have n4_ := A_ (blk_below (pk_ BK230.out) hb)
                    have n5_ := A_ (blk_below (pk_ BK231.out) hb)
                    have n6_ := A_ (blk_below (pk_ BK232.out) hb)
                    have n7_ := A_ (blk_below (pk_ BK238.out) hb)
                    have n8_ := A_ (Kept.below (S := (fun k_ => P3_1_ k_)) (by repeat (first | (with_reducible first | exact HK.out | apply Kept.alloc | apply Kept.drewN | apply Kept.drew | refine Kept.setCell ?_ (.inr GW229.out) _ | refine Kept.setCell ?_ (.inr GW230.out) _ | refine Kept.setCell ?_ (.inr GW231.out) _ | refine Kept.setCell ?_ (.inr GW232.out) _ | refine Kept.setCell ?_ (.inr GW238.out) _) | exact HK.out)) hb)
                    have n9_ := A_ (below_step (bk_ HB.out) hb)
                    have n10_ := A_ (hbox)
                    have n11_ := A_ ((by rw [hg]; exact (by first | exact HK.out.1 | exact (show Kept w _ (fun k_ => P3_1_ k_) from by repeat (first | (with_reducible first | exact HK.out | apply Kept.alloc | apply Kept.drewN | apply Kept.drew | refine Kept.setCell ?_ (.inr GW229.out) _ | refine Kept.setCell ?_ (.inr GW230.out) _ | refine Kept.setCell ?_ (.inr GW231.out) _ | refine Kept.setCell ?_ (.inr GW232.out) _ | refine Kept.setCell ?_ (.inr GW238.out) _) | exact HK.out)).1) : w.heap.size ≤ gb255))
                    have n12_ := A_ ((by rw [hg]; exact (below_size (bk_ HB.out)) : w0.heap.size ≤ gb255))
                    have n13_ := A_ (nl_ hg (pk_ BK229.out))
                    have n14_ := A_ (ng_ hg (pk_ BK229.out))
                    have n15_ := A_ (nl_ hg (pk_ BK230.out))
                    have n16_ := A_ (ng_ hg (pk_ BK230.out))
                    have n17_ := A_ (nl_ hg (pk_ BK231.out))
                    have n18_ := A_ (ng_ hg (pk_ BK231.out))
                    have n19_ := A_ (nl_ hg (pk_ BK232.out))
                    have n20_ := A_ (ng_ hg (pk_ BK232.out))
                    have n21_ := A_ (nl_ hg (pk_ BK238.out))
                    have n22_ := A_ (ng_ hg (pk_ BK238.out))
                    clear HO_232001 HO_239001 HO248 BK229 BK230 BK231 BK232 BK238 HK HB
                    have HO_232001 := n0_
                    have HO_239001 := n1_
                    have HO248 := n2_
                    have BK229 := n3_
                    have BK230 := n4_
                    have BK231 := n5_
                    have BK232 := n6_
                    have BK238 := n7_
                    have HK := n8_
                    have HB := n9_
                    have BK255 := n10_
                    have GW255 := n11_
                    have GE255 := n12_
                    have NB229_255 := n13_
                    have NB255_229 := n14_
                    have NB230_255 := n15_
                    have NB255_230 := n16_
                    have NB231_255 := n17_
                    have NB255_231 := n18_
                    have NB232_255 := n19_
                    have NB255_232 := n20_
                    have NB238_255 := n21_
                    have NB255_238 := n22_
                    clear n0_ n1_ n2_ n3_ n4_ n5_ n6_ n7_ n8_ n9_ n10_ n11_ n12_ n13_ n14_ n15_ n16_ n17_ n18_ n19_ n20_ n21_ n22_ hb hbox hg
                    refine hK.out _ _ ⟨(blk_cell BK230.out 0).trans rfl, (blk_cell BK230.out 1).trans rfl, (blk_cell BK231.out 0).trans rfl, (blk_cell BK231.out 1).trans rfl, (Kd.foot_int (HR2.out _ (by repeat (first | exact HK.out | apply Kept.alloc | apply Kept.drewN | apply Kept.drew | refine Kept.setCell ?_ (.inr GW255.out) _ | refine Kept.setCell ?_ (.inr GW255.out) _))) a3_0 (of_eq_true p245) (of_eq_true q245))⟩ (fun hHeld => ?_)
                    clear hK K
                    refine norm_ (a' := ?_) ?_ ?_
                    rotate_left
                    ·show Act.put _ (some 19) _ = _
                     simp only [Act.put, sa_, sz_, ss_, i64_w, i32_w]
                     rfl
                    refine one_ (i := 15) (N := some 116) #[true, true, true, true, true, true, true, true, true, true, true, true, true, true, true, true, false, false, false, false, true, false, false, false] rfl rfl (one_of HT_.out (by kernel_rfl)) (by decide) (fun K hK => ?_)
                    refine goes_ Try.func32 (by kernel_rfl) rfl #[.agg #[.int .i64 a1_0, .slice A1_1 l1_1.length c1_1], .agg #[.int .i64 (rd l2 a3_0), .slice Ao120 y246.length co120], .slice (some ad245) l2.length c2, .int .i64 (wrap64 (100 + (wrap64 (100 * (ji109)))))] (by rfl) rfl rfl (by (try simp only [List.map_toArray, List.map_cons, List.map_nil]); first | done | (simp only [hji109]; rfl) | rfl | (simp only [List.length_drop, List.length_take]; rfl)) ?_
                    with_reducible refine (counter_Until.calls kj73 a1_0 _ _ l1_1 (rd l2 a3_0) _ _ y246 _ _ l2 (wrap64 (100 + (wrap64 (100 * (ji109))))) t249 t250 t253 t254 _ ?side1 ?side2 ?side3 ?side4 ?side5 ?side6 A110.out).mono ?_
                    (case side1 => exact Kd.C_kept_now HR1_1.out (by repeat (first | (with_reducible first | exact HK.out | apply Kept.alloc | apply Kept.drewN | apply Kept.drew | refine Kept.setCell ?_ (.inr GW229.out) _ | refine Kept.setCell ?_ (.inr GW230.out) _ | refine Kept.setCell ?_ (.inr GW231.out) _ | refine Kept.setCell ?_ (.inr GW232.out) _ | refine Kept.setCell ?_ (.inr GW238.out) _ | refine Kept.setCell ?_ (.inr GW255.out) _) | exact HK.out)))
                    (case side2 => exact HC1_1.out)
                    (case side3 => repeat (first | exact (Kd.R_reads' HO248.out).2.2 | (with_reducible refine Kd.C_alloc ?_ _) | (with_reducible refine Kd.C_drewN ?_ _) | (with_reducible refine Kd.C_drew ?_)))
                    (case side4 => exact (Kd.R_reads' HO248.out).2.1)
                    (case side5 => exact Kd.C_kept_now HR2.out (by repeat (first | (with_reducible first | exact HK.out | apply Kept.alloc | apply Kept.drewN | apply Kept.drew | refine Kept.setCell ?_ (.inr GW229.out) _ | refine Kept.setCell ?_ (.inr GW230.out) _ | refine Kept.setCell ?_ (.inr GW231.out) _ | refine Kept.setCell ?_ (.inr GW232.out) _ | refine Kept.setCell ?_ (.inr GW238.out) _ | refine Kept.setCell ?_ (.inr GW255.out) _) | exact HK.out)))
                    (case side6 => exact HC2.out)
                    rintro e w122 ⟨v251, rfl, ho0, hb⟩
                    refine ⟨_, rfl, ?_⟩
                    have n0_ := A_ (Kd.R_elder' (rk_ HO_232001.out) (Kd.R_base ho0) hb)
                    have n1_ := A_ (Kd.R_elder' (rk_ HO_239001.out) (Kd.R_base ho0) hb)
                    have n2_ := A_ (Kd.R_elder' (rk_ HO248.out) (Kd.R_base ho0) hb)
                    have n3_ := A_ (Kd.R_lower (Kd.R_new' (Kd.R_new' (Kd.R_new' (Kd.R_newM (M := fun k_ => (P3_1_ k_ ∨ w.heap.size ≤ k_)) ho0 (by first | exact HK.out.1 | exact (show Kept w _ (fun k_ => P3_1_ k_) from by repeat (first | (with_reducible first | exact HK.out | apply Kept.alloc | apply Kept.drewN | apply Kept.drew | refine Kept.setCell ?_ (.inr GW229.out) _ | refine Kept.setCell ?_ (.inr GW230.out) _ | refine Kept.setCell ?_ (.inr GW231.out) _ | refine Kept.setCell ?_ (.inr GW232.out) _ | refine Kept.setCell ?_ (.inr GW238.out) _ | refine Kept.setCell ?_ (.inr GW255.out) _) | exact HK.out)).1) (fun k_ h_ => .inr h_)) (Kd.R_lt (rk_ HO_232001.out))) (Kd.R_lt (rk_ HO_239001.out))) (Kd.R_lt (rk_ HO248.out))) (below_size (bk_ HB.out)))
                    have n4_ := A_ (blk_below (pk_ BK229.out) hb)
                    have n5_ := A_ (blk_below (pk_ BK230.out) hb)
                    have n6_ := A_ (blk_below (pk_ BK231.out) hb)
                    have n7_ := A_ (blk_below (pk_ BK232.out) hb)
                    have n8_ := A_ (blk_below (pk_ BK238.out) hb)
                    have n9_ := A_ (blk_below (pk_ BK255.out) hb)
                    have n10_ := A_ (Kept.below (S := (fun k_ => P3_1_ k_)) (by repeat (first | (with_reducible first | exact HK.out | apply Kept.alloc | apply Kept.drewN | apply Kept.drew | refine Kept.setCell ?_ (.inr GW229.out) _ | refine Kept.setCell ?_ (.inr GW230.out) _ | refine Kept.setCell ?_ (.inr GW231.out) _ | refine Kept.setCell ?_ (.inr GW232.out) _ | refine Kept.setCell ?_ (.inr GW238.out) _ | refine Kept.setCell ?_ (.inr GW255.out) _) | exact HK.out)) hb)
                    have n11_ := A_ (below_step (bk_ HB.out) hb)
                    clear HO_232001 HO_239001 HO248 BK229 BK230 BK231 BK232 BK238 BK255 HK HB
                    have HO_232001 := n0_
                    have HO_239001 := n1_
                    have HO248 := n2_
                    have HO252 := n3_
                    have BK229 := n4_
                    have BK230 := n5_
                    have BK231 := n6_
                    have BK232 := n7_
                    have BK238 := n8_
                    have BK255 := n9_
                    have HK := n10_
                    have HB := n11_
                    clear n0_ n1_ n2_ n3_ n4_ n5_ n6_ n7_ n8_ n9_ n10_ n11_
                    (try clear hb)
                    (try clear hb2)
                    (try clear hk)
                    (try clear hi)
                    (try clear ho0)
                    refine hK.out _ _ ⟨(blk_cell BK230.out 0).trans rfl, (blk_cell BK230.out 1).trans rfl, (blk_cell BK231.out 0).trans rfl, (blk_cell BK231.out 1).trans rfl, (Kd.foot_int (HR2.out _ (by repeat (first | exact HK.out | apply Kept.alloc | apply Kept.drewN | apply Kept.drew | refine Kept.setCell ?_ (.inr GW255.out) _ | refine Kept.setCell ?_ (.inr GW255.out) _))) a3_0 (of_eq_true p245) (of_eq_true q245))⟩ (fun hHeld => ?_)
                    clear hK K
                    refine norm_ (a' := ?_) ?_ ?_
                    rotate_left
                    ·show Act.put _ (some 116) _ = _
                     simp only [Act.put, sa_, sz_, ss_, i64_w, i32_w]
                     rfl
                    refine pure_ (i := 16) (N := some 100) (v := ?_) (a' := ?_) #[true, true, true, true, true, true, true, true, true, true, true, true, true, true, true, true, true, false, false, false, true, false, false, false] rfl rfl (any_of HT_.out (by kernel_rfl)) (fun _ _ _ h => h) (Or.inl ⟨by rfl, ?_⟩) ?_ ?_
                    rotate_left
                    ·intro w'
                     go_simp
                     with_reducible rfl
                    rotate_left
                    ·simp only [Act.put, sa_, sz_, ss_, i64_w, i32_w]
                     rfl
                    refine pure_ (i := 17) (N := some 117) (v := ?_) (a' := ?_) #[true, true, true, true, true, true, true, true, true, true, true, true, true, true, true, true, true, true, false, false, true, false, false, false] rfl rfl (any_of HT_.out (by kernel_rfl)) (fun _ _ _ h => h) (Or.inl ⟨by rfl, ?_⟩) ?_ ?_
                    rotate_left
                    ·intro w'
                     go_simp
                     with_reducible rfl
                    rotate_left
                    ·simp only [Act.put, sa_, sz_, ss_, i64_w, i32_w]
                     rfl
                    refine pure_ (i := 18) (N := some 118) (v := ?_) (a' := ?_) #[true, true, true, true, true, true, true, true, true, true, true, true, true, true, true, true, true, true, true, false, true, false, false, false] rfl rfl (any_of HT_.out (by kernel_rfl)) (fun _ _ _ h => h) (Or.inl ⟨by rfl, ?_⟩) ?_ ?_
                    rotate_left
                    ·intro w'
                     go_simp
                     with_reducible rfl
                    rotate_left
                    ·simp only [Act.put, sa_, sz_, ss_, i64_w, i32_w]
                     rfl
                    refine pure_ (i := 19) (N := some 119) (v := ?_) (a' := ?_) #[true, true, true, true, true, true, true, true, true, true, true, true, true, true, true, true, true, true, true, true, true, false, false, false] rfl rfl (any_of HT_.out (by kernel_rfl)) (fun _ _ _ h => h) (Or.inl ⟨by rfl, ?_⟩) ?_ ?_
                    rotate_left
                    ·intro w'
                     go_simp
                     with_reducible rfl
                    rotate_left
                    ·simp only [Act.put, sa_, sz_, ss_, i64_w, i32_w]
                     rfl
                    exact norm_ (by simp only [putAll, Act.put, List.setIfInBounds_toArray, List.set_cons_zero, List.set_cons_succ]) (hCont (.slice Ao120 y246.length co120, v251, gb255) _ ⟨hHeld, (by (with_reducible repeat (first | apply Kd.R_alloc | apply Kd.R_drewN | apply Kd.R_drew)); exact Kd.R_mono HO248.out (fun _ hk => ⟨hk.1.1.1.1, ⟨hk.2, ⟨hk.1.1.2, hk.1.2⟩⟩⟩)), (by (with_reducible repeat (first | apply Kd.R_alloc | apply Kd.R_drewN | apply Kd.R_drew)); exact Kd.R_mono HO252.out (fun _ hk => ⟨hk.1.1.1.1, ⟨hk.2, ⟨hk.1.1.2, hk.1.2⟩⟩⟩)), (by (with_reducible repeat (first | apply Kd.R_alloc | apply Kd.R_drewN | apply Kd.R_drew)); exact Kd.R_mono HO_232001.out (fun _ hk => ⟨hk.1.1.1, ⟨hk.1.2, ⟨hk.2, hk.1.1.2⟩⟩⟩)), (by (with_reducible repeat (first | apply Kd.R_alloc | apply Kd.R_drewN | apply Kd.R_drew)); exact Kd.R_mono HO_239001.out (fun _ hk => ⟨hk.1.1.1, ⟨hk.1.2, ⟨hk.2, hk.1.1.2⟩⟩⟩)), (pk_ BK229.out), (pk_ BK230.out), (pk_ BK231.out), (pk_ BK232.out), (pk_ BK238.out), (pk_ BK255.out), GW255.out, GE255.out, NB229_255.out, NB255_229.out, NB230_255.out, NB255_230.out, NB231_255.out, NB255_231.out, NB232_255.out, NB255_232.out, NB238_255.out, NB255_238.out, (by repeat (first | (with_reducible first | exact HK.out | apply Kept.alloc | apply Kept.drewN | apply Kept.drew | refine Kept.setCell ?_ (.inr GW229.out) _ | refine Kept.setCell ?_ (.inr GW230.out) _ | refine Kept.setCell ?_ (.inr GW231.out) _ | refine Kept.setCell ?_ (.inr GW232.out) _ | refine Kept.setCell ?_ (.inr GW238.out) _ | refine Kept.setCell ?_ (.inr GW255.out) _) | exact HK.out)), (bk_ HB.out)⟩)
                  ·skip
                   refine box_step ?hg (N := 19) ?hd (cs := #[.int .i64 0, .slice none 0 0]) (t := 47) ?hr ?_; (case hd => rfl); (case hg => rfl); (case hr => first | (go_simp; done) | (go_simp; rfl))
                   intro gb255 hg w118 hbox hb
                   have n0_ := A_ (Kd.R_below (rk_ HO_232001.out) hb)
                   have n1_ := A_ (Kd.R_below (rk_ HO_239001.out) hb)
                   have n2_ := A_ (blk_below (pk_ BK229.out) hb)
                   have n3_ := A_ (blk_below (pk_ BK230.out) hb)
                   have n4_ := A_ (blk_below (pk_ BK231.out) hb)
                   have n5_ := A_ (blk_below (pk_ BK232.out) hb)
                   have n6_ := A_ (blk_below (pk_ BK238.out) hb)
                   have n7_ := A_ (Kept.below (S := (fun k_ => P3_1_ k_)) (by repeat (first | (with_reducible first | exact HK.out | apply Kept.alloc | apply Kept.drewN | apply Kept.drew | refine Kept.setCell ?_ (.inr GW229.out) _ | refine Kept.setCell ?_ (.inr GW230.out) _ | refine Kept.setCell ?_ (.inr GW231.out) _ | refine Kept.setCell ?_ (.inr GW232.out) _ | refine Kept.setCell ?_ (.inr GW238.out) _) | exact HK.out)) hb)
                   have n8_ := A_ (below_step (bk_ HB.out) hb)
                   have n9_ := A_ (hbox)
                   have n10_ := A_ ((by rw [hg]; exact (by first | exact HK.out.1 | exact (show Kept w _ (fun k_ => P3_1_ k_) from by repeat (first | (with_reducible first | exact HK.out | apply Kept.alloc | apply Kept.drewN | apply Kept.drew | refine Kept.setCell ?_ (.inr GW229.out) _ | refine Kept.setCell ?_ (.inr GW230.out) _ | refine Kept.setCell ?_ (.inr GW231.out) _ | refine Kept.setCell ?_ (.inr GW232.out) _ | refine Kept.setCell ?_ (.inr GW238.out) _) | exact HK.out)).1) : w.heap.size ≤ gb255))
                   have n11_ := A_ ((by rw [hg]; exact (below_size (bk_ HB.out)) : w0.heap.size ≤ gb255))
                   have n12_ := A_ (nl_ hg (pk_ BK229.out))
                   have n13_ := A_ (ng_ hg (pk_ BK229.out))
                   have n14_ := A_ (nl_ hg (pk_ BK230.out))
                   have n15_ := A_ (ng_ hg (pk_ BK230.out))
                   have n16_ := A_ (nl_ hg (pk_ BK231.out))
                   have n17_ := A_ (ng_ hg (pk_ BK231.out))
                   have n18_ := A_ (nl_ hg (pk_ BK232.out))
                   have n19_ := A_ (ng_ hg (pk_ BK232.out))
                   have n20_ := A_ (nl_ hg (pk_ BK238.out))
                   have n21_ := A_ (ng_ hg (pk_ BK238.out))
                   clear HO_232001 HO_239001 BK229 BK230 BK231 BK232 BK238 HK HB
                   have HO_232001 := n0_
                   have HO_239001 := n1_
                   have BK229 := n2_
                   have BK230 := n3_
                   have BK231 := n4_
                   have BK232 := n5_
                   have BK238 := n6_
                   have HK := n7_
                   have HB := n8_
                   have BK255 := n9_
                   have GW255 := n10_
                   have GE255 := n11_
                   have NB229_255 := n12_
                   have NB255_229 := n13_
                   have NB230_255 := n14_
                   have NB255_230 := n15_
                   have NB231_255 := n16_
                   have NB255_231 := n17_
                   have NB232_255 := n18_
                   have NB255_232 := n19_
                   have NB238_255 := n20_
                   have NB255_238 := n21_
                   clear n0_ n1_ n2_ n3_ n4_ n5_ n6_ n7_ n8_ n9_ n10_ n11_ n12_ n13_ n14_ n15_ n16_ n17_ n18_ n19_ n20_ n21_ hb hbox hg
                   refine hK.out _ _ ⟨(blk_cell BK230.out 0).trans rfl, (blk_cell BK230.out 1).trans rfl, (blk_cell BK231.out 0).trans rfl, (blk_cell BK231.out 1).trans rfl, (Kd.foot_int (HR2.out _ (by repeat (first | exact HK.out | apply Kept.alloc | apply Kept.drewN | apply Kept.drew | refine Kept.setCell ?_ (.inr GW255.out) _ | refine Kept.setCell ?_ (.inr GW255.out) _))) a3_0 (of_eq_true p245) (of_eq_true q245))⟩ (fun hHeld => ?_)
                   clear hK K
                   refine norm_ (a' := ?_) ?_ ?_
                   rotate_left
                   ·show Act.put _ (some 19) _ = _
                    simp only [Act.put, sa_, sz_, ss_, i64_w, i32_w]
                    rfl
                   refine one_ (i := 7) (N := some 108) #[true, true, true, true, true, true, true, true, false, true, true, true, true, true, true, false, false, false, false, false, true, false, false, false] rfl rfl (one_of HT_.out (by kernel_rfl)) (by decide) (fun K hK => ?_)
                   refine Kd.R_lit_step (Kd.int .i64) _ 3 ?hg (N := 108) ?hd (xs := ([t241, 0] : List Int)) (inner := [.int .i64 t241, .int .i64 0]) (ok := fun _ => True) (okp := fun _ => True) ?hr ?hp (fun _ hk => hk) trivial (Below.refl _ _) (Nat.le_refl _) (by simp) ?_; (case hd => rfl); (case hg => rfl); (case hr => first | (go_simp; done) | (go_simp; rfl)); (case hp => exact (Reps.one (show Kd.M (Kd.int .i64) _ _ _ t241 [.int .i64 t241] from rfl) (Reps.one (show Kd.M (Kd.int .i64) _ _ _ 0 [.int .i64 0] from rfl) (Reps.none _ _))))
                   intro v247 w119 ho120 hb hg_ hnew_
                   clear hg_ hnew_
                   (first | rw [← Ny246.out] at ho120 | (simp only [Int.reduceToNat] at ho120; rw [← Ny246.out] at ho120))
                   have n0_ := A_ (Kd.R_elder' (rk_ HO_232001.out) (Kd.R_base ho120) hb)
                   have n1_ := A_ (Kd.R_elder' (rk_ HO_239001.out) (Kd.R_base ho120) hb)
                   have n2_ := A_ (Kd.R_lower (Kd.R_new' (Kd.R_new' (Kd.R_newM (M := fun k_ => (P3_1_ k_ ∨ w.heap.size ≤ k_)) ho120 (by first | exact HK.out.1 | exact (show Kept w _ (fun k_ => P3_1_ k_) from by repeat (first | (with_reducible first | exact HK.out | apply Kept.alloc | apply Kept.drewN | apply Kept.drew | refine Kept.setCell ?_ (.inr GW229.out) _ | refine Kept.setCell ?_ (.inr GW230.out) _ | refine Kept.setCell ?_ (.inr GW231.out) _ | refine Kept.setCell ?_ (.inr GW232.out) _ | refine Kept.setCell ?_ (.inr GW238.out) _ | refine Kept.setCell ?_ (.inr GW255.out) _) | exact HK.out)).1) (fun k_ h_ => .inr h_)) (Kd.R_lt (rk_ HO_232001.out))) (Kd.R_lt (rk_ HO_239001.out))) (below_size (bk_ HB.out)))
                   have n3_ := A_ (blk_below (pk_ BK229.out) hb)
                   have n4_ := A_ (blk_below (pk_ BK230.out) hb)
                   have n5_ := A_ (blk_below (pk_ BK231.out) hb)
                   have n6_ := A_ (blk_below (pk_ BK232.out) hb)
                   have n7_ := A_ (blk_below (pk_ BK238.out) hb)
                   have n8_ := A_ (blk_below (pk_ BK255.out) hb)
                   have n9_ := A_ (Kept.below (S := (fun k_ => P3_1_ k_)) (by repeat (first | (with_reducible first | exact HK.out | apply Kept.alloc | apply Kept.drewN | apply Kept.drew | refine Kept.setCell ?_ (.inr GW229.out) _ | refine Kept.setCell ?_ (.inr GW230.out) _ | refine Kept.setCell ?_ (.inr GW231.out) _ | refine Kept.setCell ?_ (.inr GW232.out) _ | refine Kept.setCell ?_ (.inr GW238.out) _ | refine Kept.setCell ?_ (.inr GW255.out) _) | exact HK.out)) hb)
                   have n10_ := A_ (below_step (bk_ HB.out) hb)
                   clear HO_232001 HO_239001 BK229 BK230 BK231 BK232 BK238 BK255 HK HB
                   have HO_232001 := n0_
                   have HO_239001 := n1_
                   have HO248 := n2_
                   have BK229 := n3_
                   have BK230 := n4_
                   have BK231 := n5_
                   have BK232 := n6_
                   have BK238 := n7_
                   have BK255 := n8_
                   have HK := n9_
                   have HB := n10_
                   clear n0_ n1_ n2_ n3_ n4_ n5_ n6_ n7_ n8_ n9_ n10_ hb ho120
                   obtain ⟨Ao121, co121, eo121⟩ := Kd.R_slice HO248.out
                   (first | subst eo121 | (injection eo121 with f1_ f2_ f3_; have f4_ := f1_.symm; have f5_ := f3_.symm; clear f1_ f2_ f3_; subst f4_; subst f5_))
                   refine hK.out _ _ ⟨(blk_cell BK230.out 0).trans rfl, (blk_cell BK230.out 1).trans rfl, (blk_cell BK231.out 0).trans rfl, (blk_cell BK231.out 1).trans rfl, (Kd.foot_int (HR2.out _ (by repeat (first | exact HK.out | apply Kept.alloc | apply Kept.drewN | apply Kept.drew | refine Kept.setCell ?_ (.inr GW255.out) _ | refine Kept.setCell ?_ (.inr GW255.out) _))) a3_0 (of_eq_true p245) (of_eq_true q245))⟩ (fun hHeld => ?_)
                   clear hK K
                   refine norm_ (a' := ?_) ?_ ?_
                   rotate_left
                   ·show Act.put _ (some 108) _ = _
                    simp only [Act.put, sa_, sz_, ss_, i64_w, i32_w]
                    rfl
                   refine pure_ (i := 8) (N := some 109) (v := ?_) (a' := ?_) #[true, true, true, true, true, true, true, true, true, true, true, true, true, true, true, false, false, false, false, false, true, false, false, false] rfl rfl (any_of HT_.out (by kernel_rfl)) (fun _ _ _ h => h) (Or.inl ⟨by rfl, ?_⟩) ?_ ?_
                   rotate_left
                   ·intro w'
                    go_simp
                    with_reducible rfl
                   rotate_left
                   ·simp only [Act.put, sa_, sz_, ss_, i64_w, i32_w]
                    rfl
                   refine one_ (i := 15) (N := some 116) #[true, true, true, true, true, true, true, true, true, true, true, true, true, true, true, true, false, false, false, false, true, false, false, false] rfl rfl (one_of HT_.out (by kernel_rfl)) (by decide) (fun K hK => ?_)
                   refine goes_ Try.func32 (by kernel_rfl) rfl #[.agg #[.int .i64 a1_0, .slice A1_1 l1_1.length c1_1], .agg #[.int .i64 (rd l2 a3_0), .slice Ao121 y246.length co121], .slice (some ad245) l2.length c2, .int .i64 (wrap64 (100 + (wrap64 (100 * (ji109)))))] (by rfl) rfl rfl (by (try simp only [List.map_toArray, List.map_cons, List.map_nil]); first | done | (simp only [hji109]; rfl) | rfl | (simp only [List.length_drop, List.length_take]; rfl)) ?_
                   with_reducible refine (counter_Until.calls kj73 a1_0 _ _ l1_1 (rd l2 a3_0) _ _ y246 _ _ l2 (wrap64 (100 + (wrap64 (100 * (ji109))))) t249 t250 t253 t254 _ ?side1 ?side2 ?side3 ?side4 ?side5 ?side6 A110.out).mono ?_
                   (case side1 => exact Kd.C_kept_now HR1_1.out (by repeat (first | (with_reducible first | exact HK.out | apply Kept.alloc | apply Kept.drewN | apply Kept.drew | refine Kept.setCell ?_ (.inr GW229.out) _ | refine Kept.setCell ?_ (.inr GW230.out) _ | refine Kept.setCell ?_ (.inr GW231.out) _ | refine Kept.setCell ?_ (.inr GW232.out) _ | refine Kept.setCell ?_ (.inr GW238.out) _ | refine Kept.setCell ?_ (.inr GW255.out) _) | exact HK.out)))
                   (case side2 => exact HC1_1.out)
                   (case side3 => repeat (first | exact (Kd.R_reads' HO248.out).2.2 | (with_reducible refine Kd.C_alloc ?_ _) | (with_reducible refine Kd.C_drewN ?_ _) | (with_reducible refine Kd.C_drew ?_)))
                   (case side4 => exact (Kd.R_reads' HO248.out).2.1)
                   (case side5 => exact Kd.C_kept_now HR2.out (by repeat (first | (with_reducible first | exact HK.out | apply Kept.alloc | apply Kept.drewN | apply Kept.drew | refine Kept.setCell ?_ (.inr GW229.out) _ | refine Kept.setCell ?_ (.inr GW230.out) _ | refine Kept.setCell ?_ (.inr GW231.out) _ | refine Kept.setCell ?_ (.inr GW232.out) _ | refine Kept.setCell ?_ (.inr GW238.out) _ | refine Kept.setCell ?_ (.inr GW255.out) _) | exact HK.out)))
                   (case side6 => exact HC2.out)
                   rintro e w122 ⟨v251, rfl, ho0, hb⟩
                   refine ⟨_, rfl, ?_⟩
                   have n0_ := A_ (Kd.R_elder' (rk_ HO_232001.out) (Kd.R_base ho0) hb)
                   have n1_ := A_ (Kd.R_elder' (rk_ HO_239001.out) (Kd.R_base ho0) hb)
                   have n2_ := A_ (Kd.R_elder' (rk_ HO248.out) (Kd.R_base ho0) hb)
                   have n3_ := A_ (Kd.R_lower (Kd.R_new' (Kd.R_new' (Kd.R_new' (Kd.R_newM (M := fun k_ => (P3_1_ k_ ∨ w.heap.size ≤ k_)) ho0 (by first | exact HK.out.1 | exact (show Kept w _ (fun k_ => P3_1_ k_) from by repeat (first | (with_reducible first | exact HK.out | apply Kept.alloc | apply Kept.drewN | apply Kept.drew | refine Kept.setCell ?_ (.inr GW229.out) _ | refine Kept.setCell ?_ (.inr GW230.out) _ | refine Kept.setCell ?_ (.inr GW231.out) _ | refine Kept.setCell ?_ (.inr GW232.out) _ | refine Kept.setCell ?_ (.inr GW238.out) _ | refine Kept.setCell ?_ (.inr GW255.out) _) | exact HK.out)).1) (fun k_ h_ => .inr h_)) (Kd.R_lt (rk_ HO_232001.out))) (Kd.R_lt (rk_ HO_239001.out))) (Kd.R_lt (rk_ HO248.out))) (below_size (bk_ HB.out)))
                   have n4_ := A_ (blk_below (pk_ BK229.out) hb)
                   have n5_ := A_ (blk_below (pk_ BK230.out) hb)
                   have n6_ := A_ (blk_below (pk_ BK231.out) hb)
                   have n7_ := A_ (blk_below (pk_ BK232.out) hb)
                   have n8_ := A_ (blk_below (pk_ BK238.out) hb)
                   have n9_ := A_ (blk_below (pk_ BK255.out) hb)
                   have n10_ := A_ (Kept.below (S := (fun k_ => P3_1_ k_)) (by repeat (first | (with_reducible first | exact HK.out | apply Kept.alloc | apply Kept.drewN | apply Kept.drew | refine Kept.setCell ?_ (.inr GW229.out) _ | refine Kept.setCell ?_ (.inr GW230.out) _ | refine Kept.setCell ?_ (.inr GW231.out) _ | refine Kept.setCell ?_ (.inr GW232.out) _ | refine Kept.setCell ?_ (.inr GW238.out) _ | refine Kept.setCell ?_ (.inr GW255.out) _) | exact HK.out)) hb)
                   have n11_ := A_ (below_step (bk_ HB.out) hb)
                   clear HO_232001 HO_239001 HO248 BK229 BK230 BK231 BK232 BK238 BK255 HK HB
                   have HO_232001 := n0_
                   have HO_239001 := n1_
                   have HO248 := n2_
                   have HO252 := n3_
                   have BK229 := n4_
                   have BK230 := n5_
                   have BK231 := n6_
                   have BK232 := n7_
                   have BK238 := n8_
                   have BK255 := n9_
                   have HK := n10_
                   have HB := n11_
                   clear n0_ n1_ n2_ n3_ n4_ n5_ n6_ n7_ n8_ n9_ n10_ n11_
                   (try clear hb)
                   (try clear hb2)
                   (try clear hk)
                   (try clear hi)
                   (try clear ho0)
                   refine hK.out _ _ ⟨(blk_cell BK230.out 0).trans rfl, (blk_cell BK230.out 1).trans rfl, (blk_cell BK231.out 0).trans rfl, (blk_cell BK231.out 1).trans rfl, (Kd.foot_int (HR2.out _ (by repeat (first | exact HK.out | apply Kept.alloc | apply Kept.drewN | apply Kept.drew | refine Kept.setCell ?_ (.inr GW255.out) _ | refine Kept.setCell ?_ (.inr GW255.out) _))) a3_0 (of_eq_true p245) (of_eq_true q245))⟩ (fun hHeld => ?_)
                   clear hK K
                   refine norm_ (a' := ?_) ?_ ?_
                   rotate_left
                   ·show Act.put _ (some 116) _ = _
                    simp only [Act.put, sa_, sz_, ss_, i64_w, i32_w]
                    rfl
                   refine pure_ (i := 16) (N := some 100) (v := ?_) (a' := ?_) #[true, true, true, true, true, true, true, true, true, true, true, true, true, true, true, true, true, false, false, false, true, false, false, false] rfl rfl (any_of HT_.out (by kernel_rfl)) (fun _ _ _ h => h) (Or.inl ⟨by rfl, ?_⟩) ?_ ?_
                   rotate_left
                   ·intro w'
                    go_simp
                    with_reducible rfl
                   rotate_left
                   ·simp only [Act.put, sa_, sz_, ss_, i64_w, i32_w]
                    rfl
                   refine pure_ (i := 17) (N := some 117) (v := ?_) (a' := ?_) #[true, true, true, true, true, true, true, true, true, true, true, true, true, true, true, true, true, true, false, false, true, false, false, false] rfl rfl (any_of HT_.out (by kernel_rfl)) (fun _ _ _ h => h) (Or.inl ⟨by rfl, ?_⟩) ?_ ?_
                   rotate_left
                   ·intro w'
                    go_simp
                    with_reducible rfl
                   rotate_left
                   ·simp only [Act.put, sa_, sz_, ss_, i64_w, i32_w]
                    rfl
                   refine pure_ (i := 18) (N := some 118) (v := ?_) (a' := ?_) #[true, true, true, true, true, true, true, true, true, true, true, true, true, true, true, true, true, true, true, false, true, false, false, false] rfl rfl (any_of HT_.out (by kernel_rfl)) (fun _ _ _ h => h) (Or.inl ⟨by rfl, ?_⟩) ?_ ?_
                   rotate_left
                   ·intro w'
                    go_simp
                    with_reducible rfl
                   rotate_left
                   ·simp only [Act.put, sa_, sz_, ss_, i64_w, i32_w]
                    rfl
                   refine pure_ (i := 19) (N := some 119) (v := ?_) (a' := ?_) #[true, true, true, true, true, true, true, true, true, true, true, true, true, true, true, true, true, true, true, true, true, false, false, false] rfl rfl (any_of HT_.out (by kernel_rfl)) (fun _ _ _ h => h) (Or.inl ⟨by rfl, ?_⟩) ?_ ?_
                   rotate_left
                   ·intro w'
                    go_simp
                    with_reducible rfl
                   rotate_left
                   ·simp only [Act.put, sa_, sz_, ss_, i64_w, i32_w]
                    rfl
                   exact norm_ (by simp only [putAll, Act.put, List.setIfInBounds_toArray, List.set_cons_zero, List.set_cons_succ]) (hCont (.slice Ao121 y246.length co121, v251, gb255) _ ⟨hHeld, (by (with_reducible repeat (first | apply Kd.R_alloc | apply Kd.R_drewN | apply Kd.R_drew)); exact Kd.R_mono HO248.out (fun _ hk => ⟨hk.1.1.1.1, ⟨hk.2, ⟨hk.1.1.2, hk.1.2⟩⟩⟩)), (by (with_reducible repeat (first | apply Kd.R_alloc | apply Kd.R_drewN | apply Kd.R_drew)); exact Kd.R_mono HO252.out (fun _ hk => ⟨hk.1.1.1.1, ⟨hk.2, ⟨hk.1.1.2, hk.1.2⟩⟩⟩)), (by (with_reducible repeat (first | apply Kd.R_alloc | apply Kd.R_drewN | apply Kd.R_drew)); exact Kd.R_mono HO_232001.out (fun _ hk => ⟨hk.1.1.1, ⟨hk.1.2, ⟨hk.2, hk.1.1.2⟩⟩⟩)), (by (with_reducible repeat (first | apply Kd.R_alloc | apply Kd.R_drewN | apply Kd.R_drew)); exact Kd.R_mono HO_239001.out (fun _ hk => ⟨hk.1.1.1, ⟨hk.1.2, ⟨hk.2, hk.1.1.2⟩⟩⟩)), (pk_ BK229.out), (pk_ BK230.out), (pk_ BK231.out), (pk_ BK232.out), (pk_ BK238.out), (pk_ BK255.out), GW255.out, GE255.out, NB229_255.out, NB255_229.out, NB230_255.out, NB255_230.out, NB231_255.out, NB255_231.out, NB232_255.out, NB255_232.out, NB238_255.out, NB255_238.out, (by repeat (first | (with_reducible first | exact HK.out | apply Kept.alloc | apply Kept.drewN | apply Kept.drew | refine Kept.setCell ?_ (.inr GW229.out) _ | refine Kept.setCell ?_ (.inr GW230.out) _ | refine Kept.setCell ?_ (.inr GW231.out) _ | refine Kept.setCell ?_ (.inr GW232.out) _ | refine Kept.setCell ?_ (.inr GW238.out) _ | refine Kept.setCell ?_ (.inr GW255.out) _) | exact HK.out)), (bk_ HB.out)⟩)
                 rintro ⟨v247, v251, gb255⟩ w123 ⟨hS_, h0_, h1_, h2_, h3_, h4_, h5_, h6_, h7_, h8_, h9_, h10_, h11_, h12_, h13_, h14_, h15_, h16_, h17_, h18_, h19_, h20_, h21_, h22_, h23_⟩
                 have n0_ : Aside0 (Kd.R (Kd.int .i64) 3 w123 w0.heap.size (fun k_ => (P3_1_ k_ ∨ w.heap.size ≤ k_) ∧ some k_ ≠ (v251 : Value).ownBlock ∧ some k_ ≠ (.slice Ao11 l3_1.length co11 : Value).ownBlock ∧ some k_ ≠ (.slice Ao28 t234.length co28 : Value).ownBlock) v247 y246) := ⟨h0_⟩
                 have n1_ : Aside0 (Kd.R (Kd.int .i64) 3 w123 w0.heap.size (fun k_ => (P3_1_ k_ ∨ w.heap.size ≤ k_) ∧ some k_ ≠ (v247 : Value).ownBlock ∧ some k_ ≠ (.slice Ao11 l3_1.length co11 : Value).ownBlock ∧ some k_ ≠ (.slice Ao28 t234.length co28 : Value).ownBlock) v251 t250) := ⟨h1_⟩
                 have n2_ : Aside0 (Kd.R (Kd.int .i64) 3 w123 w0.heap.size (fun k_ => (P3_1_ k_ ∨ w.heap.size ≤ k_) ∧ some k_ ≠ (v247 : Value).ownBlock ∧ some k_ ≠ (v251 : Value).ownBlock ∧ some k_ ≠ (.slice Ao28 t234.length co28 : Value).ownBlock) (.slice Ao11 l3_1.length co11) l3_1) := ⟨h2_⟩
                 have n3_ : Aside0 (Kd.R (Kd.int .i64) 3 w123 w0.heap.size (fun k_ => (P3_1_ k_ ∨ w.heap.size ≤ k_) ∧ some k_ ≠ (v247 : Value).ownBlock ∧ some k_ ≠ (v251 : Value).ownBlock ∧ some k_ ≠ (.slice Ao11 l3_1.length co11 : Value).ownBlock) (.slice Ao28 t234.length co28) t234) := ⟨h3_⟩
                 have n4_ : Aside0 (w123.heap[gb229]? = some (.cells #[.int .i64 a0_0, .slice A0_1 l0_1.length c0_1] 38 (0, 0))) := ⟨h4_⟩
                 have n5_ : Aside0 (w123.heap[gb230]? = some (.cells #[.int .i64 a1_0, .slice A1_1 l1_1.length c1_1] 38 (0, 0))) := ⟨h5_⟩
                 have n6_ : Aside0 (w123.heap[gb231]? = some (.cells #[.int .i64 a3_0, .slice Ao11 l3_1.length co11] 47 (0, 0))) := ⟨h6_⟩
                 have n7_ : Aside0 (w123.heap[gb232]? = some (.cells #[.int .i64 0, .slice none 0 0] 47 (0, 0))) := ⟨h7_⟩
                 have n8_ : Aside0 (w123.heap[gb238]? = some (.cells #[.int .i64 t233, .slice Ao28 t234.length co28] 47 (0, 0))) := ⟨h8_⟩
                 have n9_ : Aside0 (w123.heap[gb255]? = some (.cells #[.int .i64 0, .slice none 0 0] 47 (0, 0))) := ⟨h9_⟩
                 have n10_ : Aside0 (w.heap.size ≤ gb255) := ⟨h10_⟩
                 have n11_ : Aside0 (w0.heap.size ≤ gb255) := ⟨h11_⟩
                 have n12_ : Aside0 (gb229 ≠ gb255) := ⟨h12_⟩
                 have n13_ : Aside0 (gb255 ≠ gb229) := ⟨h13_⟩
                 have n14_ : Aside0 (gb230 ≠ gb255) := ⟨h14_⟩
                 have n15_ : Aside0 (gb255 ≠ gb230) := ⟨h15_⟩
                 have n16_ : Aside0 (gb231 ≠ gb255) := ⟨h16_⟩
                 have n17_ : Aside0 (gb255 ≠ gb231) := ⟨h17_⟩
                 have n18_ : Aside0 (gb232 ≠ gb255) := ⟨h18_⟩
                 have n19_ : Aside0 (gb255 ≠ gb232) := ⟨h19_⟩
                 have n20_ : Aside0 (gb238 ≠ gb255) := ⟨h20_⟩
                 have n21_ : Aside0 (gb255 ≠ gb238) := ⟨h21_⟩
                 have n22_ : Aside0 (Kept w w123 (fun k_ => P3_1_ k_)) := ⟨h22_⟩
                 have n23_ : Aside0 (Below w0.heap.size w0 w123) := ⟨h23_⟩
                 clear HO_232001 HO_239001 BK229 BK230 BK231 BK232 BK238 HK HB h0_ h1_ h2_ h3_ h4_ h5_ h6_ h7_ h8_ h9_ h10_ h11_ h12_ h13_ h14_ h15_ h16_ h17_ h18_ h19_ h20_ h21_ h22_ h23_
                 have HO248 := n0_
                 have HO252 := n1_
                 have HO_232001 := n2_
                 have HO_239001 := n3_
                 have BK229 := n4_
                 have BK230 := n5_
                 have BK231 := n6_
                 have BK232 := n7_
                 have BK238 := n8_
                 have BK255 := n9_
                 have GW255 := n10_
                 have GE255 := n11_
                 have NB229_255 := n12_
                 have NB255_229 := n13_
                 have NB230_255 := n14_
                 have NB255_230 := n15_
                 have NB231_255 := n16_
                 have NB255_231 := n17_
                 have NB232_255 := n18_
                 have NB255_232 := n19_
                 have NB238_255 := n20_
                 have NB255_238 := n21_
                 have HK := n22_
                 have HB := n23_
                 clear n0_ n1_ n2_ n3_ n4_ n5_ n6_ n7_ n8_ n9_ n10_ n11_ n12_ n13_ n14_ n15_ n16_ n17_ n18_ n19_ n20_ n21_ n22_ n23_
                 have hHeld : w123.cell? ⟨gb230, 0, none⟩ = some (.int .i64 a1_0) ∧ w123.cell? ⟨gb230, 1, none⟩ = some (.slice A1_1 l1_1.length c1_1) ∧ w123.cell? ⟨gb231, 0, none⟩ = some (.int .i64 a3_0) ∧ w123.cell? ⟨gb231, 1, none⟩ = some (.slice Ao11 l3_1.length co11) ∧ w123.cell? (ad245.add (a3_0).toNat) = some (.int .i64 (rd l2 a3_0)) := hS_
                 obtain ⟨Ao124, co124, eo124⟩ := Kd.R_slice HO248.out
                 (first | subst eo124 | (injection eo124 with f1_ f2_ f3_; have f4_ := f1_.symm; have f5_ := f3_.symm; clear f1_ f2_ f3_; subst f4_; subst f5_))
                 obtain ⟨Ao126, co126, eo126⟩ := Kd.R_slice HO252.out
                 (first | subst eo126 | (injection eo126 with f1_ f2_ f3_; have f4_ := f1_.symm; have f5_ := f3_.symm; clear f1_ f2_ f3_; subst f4_; subst f5_))
                 refine norm_ (a' := ?_) ?_ ?_
                 rotate_left
                 ·simp only [putAll, Act.put, List.setIfInBounds_toArray, List.set_cons_zero, List.set_cons_succ]
                  rfl
                 refine one_ (i := 21) (N := none) #[true, true, true, true, true, true, true, true, true, true, true, true, true, true, true, true, true, true, true, true, true, true, false, false] rfl rfl (one_of HT_.out (by kernel_rfl)) (by decide) (fun K hK => ?_)
                 have hs125 : w123.cell? ⟨gb255, 0, none⟩ = some (.int .i64 0) := (blk_cell BK255.out 0).trans rfl
                 have hfs125 := blk_frozen BK255.out 0
                 have hns125_0 := NB229_255.out
                 have hns125_1 := NB230_255.out
                 have hns125_2 := NB231_255.out
                 have hns125_3 := NB232_255.out
                 have hns125_4 := NB238_255.out
                 have hms125_0 := NB255_229.out
                 have hms125_1 := NB255_230.out
                 have hms125_2 := NB255_231.out
                 have hms125_3 := NB255_232.out
                 have hms125_4 := NB255_238.out
                 have hs127 : w123.cell? ⟨gb255, 1, none⟩ = some (.slice none 0 0) := (blk_cell BK255.out 1).trans rfl
                 have hfs127 := blk_frozen BK255.out 1
                 have hns127_0 := NB229_255.out
                 have hns127_1 := NB230_255.out
                 have hns127_2 := NB231_255.out
                 have hns127_3 := NB232_255.out
                 have hns127_4 := NB238_255.out
                 have hms127_0 := NB255_229.out
                 have hms127_1 := NB255_230.out
                 have hms127_2 := NB255_231.out
                 have hms127_3 := NB255_232.out
                 have hms127_4 := NB255_238.out
                 refine skip_ (w1 := ?_) (by rfl) rfl ?_ ?_
                 rotate_left
                 ·go_simp
                  rfl
                 refine hK.out _ _ ⟨(cf2_ NB230_255.out hHeld.1), (cf2_ NB230_255.out hHeld.2.1), (cf2_ NB231_255.out hHeld.2.2.1), (cf2_ NB231_255.out hHeld.2.2.2.1), (Kd.foot_int (HR2.out _ (by repeat (first | exact HK.out | apply Kept.alloc | apply Kept.drewN | apply Kept.drew | refine Kept.setCell ?_ (.inr GW255.out) _ | refine Kept.setCell ?_ (.inr GW255.out) _))) a3_0 (of_eq_true p245) (of_eq_true q245))⟩ (fun hHeld => ?_)
                 clear hK K
                 refine pure_ (i := 22) (N := some 20) (v := ?_) (a' := ?_) #[true, true, true, true, true, true, true, true, true, true, true, true, true, true, true, true, true, true, true, true, true, true, true, false] rfl rfl (any_of HT_.out (by kernel_rfl)) (fun _ _ _ h => h) (Or.inl ⟨by rfl, ?_⟩) ?_ ?_
                 rotate_left
                 ·intro w'
                  go_simp
                  with_reducible rfl
                 rotate_left
                 ·simp only [Act.put, sa_, sz_, ss_, i64_w, i32_w]
                  rfl
                 refine pure_ (i := 23) (N := some 21) (v := ?_) (a' := ?_) #[true, true, true, true, true, true, true, true, true, true, true, true, true, true, true, true, true, true, true, true, true, true, true, true] rfl rfl (any_of HT_.out (by kernel_rfl)) (fun _ _ _ h => h) (Or.inl ⟨by rfl, ?_⟩) ?_ ?_
                 rotate_left
                 ·intro w'
                  go_simp
                  with_reducible rfl
                 rotate_left
                 ·simp only [Act.put, sa_, sz_, ss_, i64_w, i32_w]
                  rfl
                 refine done_ (done_of HT_.out (by kernel_rfl)) ?_
                 try go_wp2
                 have n0_ : Aside0 (Kd.R (Kd.int .i64) 3 ((w123.setCell ⟨gb255, 0, none⟩ (.int .i64 t249)).setCell ⟨gb255, 1, none⟩ (.slice Ao126 t250.length co126)) w0.heap.size (fun k_ => (P3_1_ k_ ∨ w.heap.size ≤ k_) ∧ some k_ ≠ (.slice Ao28 t234.length co28 : Value).ownBlock ∧ some k_ ≠ (.slice Ao124 y246.length co124 : Value).ownBlock ∧ some k_ ≠ (.slice Ao126 t250.length co126 : Value).ownBlock) (.slice Ao11 l3_1.length co11) l3_1) := ⟨by (with_reducible repeat (first | apply Kd.R_alloc | apply Kd.R_drewN | apply Kd.R_drew)); exact Kd.R_mono (rf2_ (Kd.R_types HO_232001.out BK255.out (by decide))) (fun _ hk => ⟨hk.1.1, ⟨hk.1.2.2.2, ⟨hk.1.2.1, hk.1.2.2.1⟩⟩⟩)⟩
                 have n1_ : Aside0 (Kd.R (Kd.int .i64) 3 ((w123.setCell ⟨gb255, 0, none⟩ (.int .i64 t249)).setCell ⟨gb255, 1, none⟩ (.slice Ao126 t250.length co126)) w0.heap.size (fun k_ => (P3_1_ k_ ∨ w.heap.size ≤ k_) ∧ some k_ ≠ (.slice Ao11 l3_1.length co11 : Value).ownBlock ∧ some k_ ≠ (.slice Ao124 y246.length co124 : Value).ownBlock ∧ some k_ ≠ (.slice Ao126 t250.length co126 : Value).ownBlock) (.slice Ao28 t234.length co28) t234) := ⟨by (with_reducible repeat (first | apply Kd.R_alloc | apply Kd.R_drewN | apply Kd.R_drew)); exact Kd.R_mono (rf2_ (Kd.R_types HO_239001.out BK255.out (by decide))) (fun _ hk => ⟨hk.1.1, ⟨hk.1.2.2.2, ⟨hk.1.2.1, hk.1.2.2.1⟩⟩⟩)⟩
                 have n2_ : Aside0 (Kd.R (Kd.int .i64) 3 ((w123.setCell ⟨gb255, 0, none⟩ (.int .i64 t249)).setCell ⟨gb255, 1, none⟩ (.slice Ao126 t250.length co126)) w0.heap.size (fun k_ => (P3_1_ k_ ∨ w.heap.size ≤ k_) ∧ some k_ ≠ (.slice Ao11 l3_1.length co11 : Value).ownBlock ∧ some k_ ≠ (.slice Ao28 t234.length co28 : Value).ownBlock ∧ some k_ ≠ (.slice Ao126 t250.length co126 : Value).ownBlock) (.slice Ao124 y246.length co124) y246) := ⟨by (with_reducible repeat (first | apply Kd.R_alloc | apply Kd.R_drewN | apply Kd.R_drew)); exact Kd.R_mono (rf2_ (Kd.R_types HO248.out BK255.out (by decide))) (fun _ hk => ⟨hk.1.1, ⟨hk.1.2.2.1, ⟨hk.1.2.2.2, hk.1.2.1⟩⟩⟩)⟩
                 have n3_ : Aside0 (Kd.R (Kd.int .i64) 3 ((w123.setCell ⟨gb255, 0, none⟩ (.int .i64 t249)).setCell ⟨gb255, 1, none⟩ (.slice Ao126 t250.length co126)) w0.heap.size (fun k_ => (P3_1_ k_ ∨ w.heap.size ≤ k_) ∧ some k_ ≠ (.slice Ao11 l3_1.length co11 : Value).ownBlock ∧ some k_ ≠ (.slice Ao28 t234.length co28 : Value).ownBlock ∧ some k_ ≠ (.slice Ao124 y246.length co124 : Value).ownBlock) (.slice Ao126 t250.length co126) t250) := ⟨by (with_reducible repeat (first | apply Kd.R_alloc | apply Kd.R_drewN | apply Kd.R_drew)); exact Kd.R_mono (rf2_ (Kd.R_types HO252.out BK255.out (by decide))) (fun _ hk => ⟨hk.1.1, ⟨hk.1.2.2.1, ⟨hk.1.2.2.2, hk.1.2.1⟩⟩⟩)⟩
                 have n4_ : Aside0 (((w123.setCell ⟨gb255, 0, none⟩ (.int .i64 t249)).setCell ⟨gb255, 1, none⟩ (.slice Ao126 t250.length co126)).heap[gb229]? = some (.cells #[.int .i64 a0_0, .slice A0_1 l0_1.length c0_1] 38 (0, 0))) := ⟨by (iterate 2 (refine pk_ ?_; refine blk_far ?_ NB229_255.out _)); exact pk_ BK229.out⟩
                 have n5_ : Aside0 (((w123.setCell ⟨gb255, 0, none⟩ (.int .i64 t249)).setCell ⟨gb255, 1, none⟩ (.slice Ao126 t250.length co126)).heap[gb230]? = some (.cells #[.int .i64 a1_0, .slice A1_1 l1_1.length c1_1] 38 (0, 0))) := ⟨by (iterate 2 (refine pk_ ?_; refine blk_far ?_ NB230_255.out _)); exact pk_ BK230.out⟩
                 have n6_ : Aside0 (((w123.setCell ⟨gb255, 0, none⟩ (.int .i64 t249)).setCell ⟨gb255, 1, none⟩ (.slice Ao126 t250.length co126)).heap[gb231]? = some (.cells #[.int .i64 a3_0, .slice Ao11 l3_1.length co11] 47 (0, 0))) := ⟨by (iterate 2 (refine pk_ ?_; refine blk_far ?_ NB231_255.out _)); exact pk_ BK231.out⟩
                 have n7_ : Aside0 (((w123.setCell ⟨gb255, 0, none⟩ (.int .i64 t249)).setCell ⟨gb255, 1, none⟩ (.slice Ao126 t250.length co126)).heap[gb232]? = some (.cells #[.int .i64 0, .slice none 0 0] 47 (0, 0))) := ⟨by (iterate 2 (refine pk_ ?_; refine blk_far ?_ NB232_255.out _)); exact pk_ BK232.out⟩
                 have n8_ : Aside0 (((w123.setCell ⟨gb255, 0, none⟩ (.int .i64 t249)).setCell ⟨gb255, 1, none⟩ (.slice Ao126 t250.length co126)).heap[gb238]? = some (.cells #[.int .i64 t233, .slice Ao28 t234.length co28] 47 (0, 0))) := ⟨by (iterate 2 (refine pk_ ?_; refine blk_far ?_ NB238_255.out _)); exact pk_ BK238.out⟩
                 have n9_ : Aside0 (((w123.setCell ⟨gb255, 0, none⟩ (.int .i64 t249)).setCell ⟨gb255, 1, none⟩ (.slice Ao126 t250.length co126)).heap[gb255]? = some (.cells #[.int .i64 t249, .slice Ao126 t250.length co126] 47 (0, 0))) := ⟨by refine pk_ ?_; refine blk_put (cs := #[.int .i64 t249, .slice none 0 0]) ?_ 1 _ rfl; refine pk_ ?_; refine blk_put (cs := #[.int .i64 0, .slice none 0 0]) ?_ 0 _ rfl; exact pk_ BK255.out⟩
                 have n10_ : Aside0 (Kept w ((w123.setCell ⟨gb255, 0, none⟩ (.int .i64 t249)).setCell ⟨gb255, 1, none⟩ (.slice Ao126 t250.length co126)) (fun k_ => P3_1_ k_)) := ⟨by repeat (first | (with_reducible first | exact HK.out | apply Kept.alloc | apply Kept.drewN | apply Kept.drew | refine Kept.setCell ?_ (.inr GW229.out) _ | refine Kept.setCell ?_ (.inr GW230.out) _ | refine Kept.setCell ?_ (.inr GW231.out) _ | refine Kept.setCell ?_ (.inr GW232.out) _ | refine Kept.setCell ?_ (.inr GW238.out) _ | refine Kept.setCell ?_ (.inr GW255.out) _) | exact HK.out)⟩
                 have n11_ : Aside0 (Below w0.heap.size w0 ((w123.setCell ⟨gb255, 0, none⟩ (.int .i64 t249)).setCell ⟨gb255, 1, none⟩ (.slice Ao126 t250.length co126))) := ⟨bk_ HB.out⟩
                 (try clear HO_232001)
                 (try clear HO_239001)
                 (try clear HO248)
                 (try clear HO252)
                 (try clear BK229)
                 (try clear BK230)
                 (try clear BK231)
                 (try clear BK232)
                 (try clear BK238)
                 (try clear BK255)
                 (try clear HK)
                 (try clear HB)
                 generalize ((w123.setCell ⟨gb255, 0, none⟩ (.int .i64 t249)).setCell ⟨gb255, 1, none⟩ (.slice Ao126 t250.length co126)) = w128 at n0_ n1_ n2_ n3_ n4_ n5_ n6_ n7_ n8_ n9_ n10_ n11_ ⊢
                 have HO_232001 := n0_
                 have HO_239001 := n1_
                 have HO248 := n2_
                 have HO252 := n3_
                 have BK229 := n4_
                 have BK230 := n5_
                 have BK231 := n6_
                 have BK232 := n7_
                 have BK238 := n8_
                 have BK255 := n9_
                 have HK := n10_
                 have HB := n11_
                 clear n0_ n1_ n2_ n3_ n4_ n5_ n6_ n7_ n8_ n9_ n10_ n11_
                 have n0_ := A_ (Kd.R_drew HO_232001.out)
                 have n1_ := A_ (Kd.R_drew HO_239001.out)
                 have n2_ := A_ (Kd.R_drew HO248.out)
                 have n3_ := A_ (Kd.R_drew HO252.out)
                 have n4_ := A_ (blk_drew BK229.out)
                 have n6_ := A_ (blk_drew BK231.out)
                 have n7_ := A_ (blk_drew BK232.out)
                 have n8_ := A_ (blk_drew BK238.out)
                 have n9_ := A_ (blk_drew BK255.out)
                 have n10_ := A_ (Kept.drew HK.out)
                 have n11_ := A_ (below_drew1 HB.out)
                 clear HO_232001 HO_239001 HO248 HO252 BK229 BK231 BK232 BK238 BK255 HK HB
                 have HO_232001 := n0_
                 have HO_239001 := n1_
                 have HO248 := n2_
                 have HO252 := n3_
                 have BK229 := n4_
                 have BK231 := n6_
                 have BK232 := n7_
                 have BK238 := n8_
                 have BK255 := n9_
                 have HK := n10_
                 have HB := n11_
                 clear n0_ n1_ n2_ n3_ n4_ n6_ n7_ n8_ n9_ n10_ n11_
                 have p256 : 0 ≤ (t233 : Int) := od_
                 have q256 : t233 < (l2.length : Int) := od_
                 obtain ⟨ad256, e256, hx256_0⟩ := Kd.at_int (Kd.C_kept_now HR2.out HK.out) t233 p256 q256
                 have hw256_0 := hx256_0
                 obtain rfl : ad245 = ad256 := (by injection e256)
                 replace p256 := eq_true p256
                 replace q256 := eq_true q256
                 refine start_ (n := 27) (S := fun w' => w'.cell? ⟨gb238, 0, none⟩ = some (.int .i64 t233) ∧ w'.cell? ⟨gb238, 1, none⟩ = some (.slice Ao28 t234.length co28) ∧ w'.cell? ⟨gb255, 0, none⟩ = some (.int .i64 t249) ∧ w'.cell? ⟨gb255, 1, none⟩ = some (.slice Ao126 t250.length co126) ∧ w'.cell? (ad245.add (t233).toNat) = some (.int .i64 (rd l2 t233))) (ds := []) #[false, false, false, false, false, false, false, false, false, false, false, false, false, false, false, false, false, false, false, false, false, false, false, false, false, false, false] (by kernel_rfl) rfl rfl ⟨(blk_cell BK238.out 0).trans rfl, (blk_cell BK238.out 1).trans rfl, (blk_cell BK255.out 0).trans rfl, (blk_cell BK255.out 1).trans rfl, (Kd.foot_int (HR2.out _ (by repeat (first | exact HK.out | apply Kept.alloc | apply Kept.drewN | apply Kept.drew | refine Kept.setCell ?_ (.inr GW232.out) _ | refine Kept.setCell ?_ (.inr GW232.out) _))) t233 (of_eq_true p256) (of_eq_true q256))⟩ (fun hHeld => ?_); refine with_tabW standstilllaw08_next.tab13 standstilllaw08_next.bits13 (fun HT_ HW_ => ?_)
                 generalize w128.drew = w129 at HO_232001 HO_239001 HO248 HO252 BK229 BK231 BK232 BK238 BK255 HK HB hx256_0 hHeld ⊢
                 refine pure_ (i := 1) (N := some 121) (v := ?_) (a' := ?_) #[false, true, false, false, false, false, false, false, false, false, false, false, false, false, false, false, false, false, false, false, false, false, false, false, false, false, false] rfl rfl (any_of HT_.out (by kernel_rfl)) (fun _ _ _ h => h) (Or.inl ⟨by rfl, ?_⟩) ?_ ?_
                 rotate_left
                 ·intro w'
                  go_simp
                  with_reducible rfl
                 rotate_left
                 ·simp only [Act.put, sa_, sz_, ss_, i64_w, i32_w]
                  rfl
                 refine pure_ (i := 2) (N := some 122) (v := ?_) (a' := ?_) #[false, true, true, false, false, false, false, false, false, false, false, false, false, false, false, false, false, false, false, false, false, false, false, false, false, false, false] rfl rfl (any_of HT_.out (by kernel_rfl)) (fun _ _ _ h => h) (Or.inl ⟨by rfl, ?_⟩) ?_ ?_
                 rotate_left
                 ·intro w'
                  go_simp
                  with_reducible rfl
                 rotate_left
                 ·simp only [Act.put, sa_, sz_, ss_, i64_w, i32_w]
                  rfl
                 refine pure_ (i := 3) (N := some 123) (v := ?_) (a' := ?_) #[false, true, true, true, false, false, false, false, false, false, false, false, false, false, false, false, false, false, false, false, false, false, false, false, false, false, false] rfl rfl (any_of HT_.out (by kernel_rfl)) (fun _ _ _ h => h) (Or.inl ⟨by rfl, ?_⟩) ?_ ?_
                 rotate_left
                 ·intro w'
                  go_simp
                  with_reducible rfl
                 rotate_left
                 ·simp only [Act.put, sa_, sz_, ss_, i64_w, i32_w]
                  rfl
                 refine pure_ (i := 4) (N := some 124) (v := ?_) (a' := ?_) #[false, true, true, true, true, false, false, false, false, false, false, false, false, false, false, false, false, false, false, false, false, false, false, false, false, false, false] rfl rfl (any_of HT_.out (by kernel_rfl)) (fun _ _ _ h => h) (Or.inl ⟨by rfl, ?_⟩) ?_ ?_
                 rotate_left
                 ·intro w'
                  go_simp
                  with_reducible rfl
                 rotate_left
                 ·simp only [Act.put, sa_, sz_, ss_, i64_w, i32_w]
                  rfl
                 refine pure_ (i := 5) (N := some 125) (v := ?_) (a' := ?_) #[false, true, true, true, true, true, false, false, false, false, false, false, false, false, false, false, false, false, false, false, false, false, false, false, false, false, false] rfl rfl (any_of HT_.out (by kernel_rfl)) (fun _ _ _ h => h) (Or.inl ⟨by rfl, ?_⟩) ?_ ?_
                 rotate_left
                 ·intro w'
                  go_simp
                  with_reducible rfl
                 rotate_left
                 ·simp only [Act.put, sa_, sz_, ss_, i64_w, i32_w]
                  rfl
                 refine pure_ (i := 6) (N := some 126) (v := ?_) (a' := ?_) #[false, true, true, true, true, true, true, false, false, false, false, false, false, false, false, false, false, false, false, false, false, false, false, false, false, false, false] rfl rfl (any_of HT_.out (by kernel_rfl)) (fun _ _ _ h => h) (Or.inl ⟨by rfl, ?_⟩) ?_ ?_
                 rotate_left
                 ·intro w'
                  go_simp
                  with_reducible rfl
                 rotate_left
                 ·simp only [Act.put, sa_, sz_, ss_, i64_w, i32_w]
                  rfl
                 refine pure_ (i := 7) (N := some 127) (v := ?_) (a' := ?_) #[false, true, true, true, true, true, true, true, false, false, false, false, false, false, false, false, false, false, false, false, false, false, false, false, false, false, false] rfl rfl (any_of HT_.out (by kernel_rfl)) (fun _ _ _ h => h) (Or.inl ⟨by rfl, ?_⟩) ?_ ?_
                 rotate_left
                 ·intro w'
                  go_simp
                  with_reducible rfl
                 rotate_left
                 ·simp only [Act.put, sa_, sz_, ss_, i64_w, i32_w]
                  rfl
                 refine pure_ (i := 8) (N := some 128) (v := ?_) (a' := ?_) #[false, true, true, true, true, true, true, true, true, false, false, false, false, false, false, false, false, false, false, false, false, false, false, false, false, false, false] rfl rfl (any_of HT_.out (by kernel_rfl)) (fun _ _ _ h => h) (Or.inl ⟨by rfl, ?_⟩) ?_ ?_
                 rotate_left
                 ·intro w'
                  go_simp
                  with_reducible rfl
                 rotate_left
                 ·simp only [Act.put, sa_, sz_, ss_, i64_w, i32_w]
                  rfl
                 refine pure_ (i := 9) (N := some 129) (v := ?_) (a' := ?_) #[false, true, true, true, true, true, true, true, true, true, false, false, false, false, false, false, false, false, false, false, false, false, false, false, false, false, false] rfl rfl (any_of HT_.out (by kernel_rfl)) (fun _ _ _ h => h) (Or.inl ⟨by rfl, ?_⟩) ?_ ?_
                 rotate_left
                 ·intro w'
                  go_simp
                  with_reducible rfl
                 rotate_left
                 ·simp only [Act.put, sa_, sz_, ss_, i64_w, i32_w]
                  rfl
                 refine pure_ (i := 10) (N := some 130) (v := ?_) (a' := ?_) #[false, true, true, true, true, true, true, true, true, true, true, false, false, false, false, false, false, false, false, false, false, false, false, false, false, false, false] rfl rfl (any_of HT_.out (by kernel_rfl)) (fun _ _ _ h => h) (Or.inl ⟨by rfl, ?_⟩) ?_ ?_
                 rotate_left
                 ·intro w'
                  go_simp
                  with_reducible rfl
                 rotate_left
                 ·simp only [Act.put, sa_, sz_, ss_, i64_w, i32_w]
                  rfl
                 refine pure_ (i := 11) (N := some 131) (v := ?_) (a' := ?_) #[false, true, true, true, true, true, true, true, true, true, true, true, false, false, false, false, false, false, false, false, false, false, false, false, false, false, false] rfl rfl (any_of HT_.out (by kernel_rfl)) (fun _ _ _ h => h) (Or.inl ⟨by rfl, ?_⟩) ?_ ?_
                 rotate_left
                 ·intro w'
                  go_simp
                  with_reducible rfl
                 rotate_left
                 ·simp only [Act.put, sa_, sz_, ss_, i64_w, i32_w]
                  rfl
                 refine pure_ (i := 12) (N := some 132) (v := ?_) (a' := ?_) #[false, true, true, true, true, true, true, true, true, true, true, true, true, false, false, false, false, false, false, false, false, false, false, false, false, false, false] rfl rfl (any_of HT_.out (by kernel_rfl)) (fun _ _ _ h => h) (Or.inl ⟨by rfl, ?_⟩) ?_ ?_
                 rotate_left
                 ·intro w'
                  go_simp
                  with_reducible rfl
                 rotate_left
                 ·simp only [Act.put, sa_, sz_, ss_, i64_w, i32_w]
                  rfl
                 refine pure_ (i := 14) (N := some 134) (v := ?_) (a' := ?_) #[false, true, true, true, true, true, true, true, true, true, true, true, true, false, true, false, false, false, false, false, false, false, false, false, false, false, false] rfl rfl (any_of HT_.out (by kernel_rfl)) (fun _ _ _ h => h) (Or.inl ⟨by rfl, ?_⟩) ?_ ?_
                 rotate_left
                 ·intro w'
                  go_simp
                  with_reducible rfl
                 rotate_left
                 ·simp only [Act.put, sa_, sz_, ss_, i64_w, i32_w]
                  rfl
                 refine pure_ (i := 15) (N := some 135) (v := ?_) (a' := ?_) #[false, true, true, true, true, true, true, true, true, true, true, true, true, false, true, true, false, false, false, false, false, false, false, false, false, false, false] rfl rfl (any_of HT_.out (by kernel_rfl)) (fun _ _ _ h => h) (Or.inl ⟨by rfl, ?_⟩) ?_ ?_
                 rotate_left
                 ·intro w'
                  go_simp
                  with_reducible rfl
                 rotate_left
                 ·simp only [Act.put, sa_, sz_, ss_, i64_w, i32_w]
                  rfl
                 refine pure_ (i := 19) (N := some 139) (v := ?_) (a' := ?_) #[false, true, true, true, true, true, true, true, true, true, true, true, true, false, true, true, false, false, false, true, false, false, false, false, false, false, false] rfl rfl (any_of HT_.out (by kernel_rfl)) (fun _ _ _ h => h) (Or.inl ⟨by rfl, ?_⟩) ?_ ?_
                 rotate_left
                 ·intro w'
                  go_simp
                  with_reducible rfl
                 rotate_left
                 ·simp only [Act.put, sa_, sz_, ss_, i64_w, i32_w]
                  rfl
                 refine take_ (i := 0) (N := some 120) (v := ?_) (a' := ?_) #[true, true, true, true, true, true, true, true, true, true, true, true, true, false, true, true, false, false, false, true, false, false, false, false, false, false, false] rfl rfl (take_ofW HT_.out HW_.out (by kernel_rfl)) (fun _ _ _ h => h) (Or.inl ⟨by rfl, ?_⟩) hHeld ?_ ?_
                 rotate_left
                 ·rintro w' ⟨s0, s1, s2, s3, s4⟩
                  go_simp
                  with_reducible rfl
                 rotate_left
                 ·simp only [Act.put, sa_, sz_, ss_, i64_w, i32_w]
                  rfl
                 refine take_ (i := 13) (N := some 133) (v := ?_) (a' := ?_) #[true, true, true, true, true, true, true, true, true, true, true, true, true, true, true, true, false, false, false, true, false, false, false, false, false, false, false] rfl rfl (take_ofW HT_.out HW_.out (by kernel_rfl)) (fun _ _ _ h => h) (Or.inl ⟨by rfl, ?_⟩) hHeld ?_ ?_
                 rotate_left
                 ·rintro w' ⟨s0, s1, s2, s3, s4⟩
                  go_simp
                  with_reducible rfl
                 rotate_left
                 ·simp only [Act.put, sa_, sz_, ss_, i64_w, i32_w]
                  rfl
                 refine take_ (i := 16) (N := some 136) (v := ?_) (a' := ?_) #[true, true, true, true, true, true, true, true, true, true, true, true, true, true, true, true, true, false, false, true, false, false, false, false, false, false, false] rfl rfl (take_ofW HT_.out HW_.out (by kernel_rfl)) (fun _ _ _ h => h) (Or.inl ⟨by rfl, ?_⟩) hHeld ?_ ?_
                 rotate_left
                 ·rintro w' ⟨s0, s1, s2, s3, s4⟩
                  go_simp
                  with_reducible rfl
                 rotate_left
                 ·simp only [Act.put, sa_, sz_, ss_, i64_w, i32_w]
                  rfl
                 refine pure_ (i := 17) (N := some 137) (v := ?_) (a' := ?_) #[true, true, true, true, true, true, true, true, true, true, true, true, true, true, true, true, true, true, false, true, false, false, false, false, false, false, false] rfl rfl (any_of HT_.out (by kernel_rfl)) (fun _ _ _ h => h) (Or.inl ⟨by rfl, ?_⟩) ?_ ?_
                 rotate_left
                 ·intro w'
                  go_simp
                  with_reducible rfl
                 rotate_left
                 ·simp only [Act.put, sa_, sz_, ss_, i64_w, i32_w]
                  rfl
                 refine take_ (i := 18) (N := some 138) (v := ?_) (a' := ?_) #[true, true, true, true, true, true, true, true, true, true, true, true, true, true, true, true, true, true, true, true, false, false, false, false, false, false, false] rfl rfl (take_ofW HT_.out HW_.out (by kernel_rfl)) (fun _ _ _ h => h) (Or.inl ⟨by rfl, ?_⟩) hHeld ?_ ?_
                 rotate_left
                 ·rintro w' ⟨s0, s1, s2, s3, s4⟩
                  go_simp
                  with_reducible rfl
                 rotate_left
                 ·simp only [Act.put, sa_, sz_, ss_, i64_w, i32_w]
                  rfl
                 refine one_ (i := 20) (N := some 140) #[true, true, true, true, true, true, true, true, true, true, true, true, true, true, true, true, true, true, true, true, true, false, false, false, false, false, false] rfl rfl (one_of HT_.out (by kernel_rfl)) (by decide) (fun K hK => ?_)
                 refine Kd.R_lit_step (Kd.int .i64) _ 3 ?hg (N := 140) ?hd (xs := ([t243, 0] : List Int)) (inner := [.int .i64 t243, .int .i64 0]) (ok := fun _ => True) (okp := fun _ => True) ?hr ?hp (fun _ hk => hk) trivial (Below.refl _ _) (Nat.le_refl _) (by simp) ?_; (case hd => rfl); (case hg => rfl); (case hr => first | (go_simp; done) | (go_simp; rfl)); (case hp => exact (Reps.one (show Kd.M (Kd.int .i64) _ _ _ t243 [.int .i64 t243] from rfl) (Reps.one (show Kd.M (Kd.int .i64) _ _ _ 0 [.int .i64 0] from rfl) (Reps.none _ _))))
                 intro v258 w130 ho131 hb hg_ hnew_
                 clear hg_ hnew_
                 (first | rw [← Ny257.out] at ho131 | (simp only [Int.reduceToNat] at ho131; rw [← Ny257.out] at ho131))
                 have n1_ := A_ (Kd.R_elder' (rk_ HO_239001.out) (Kd.R_base ho131) hb)
                 have n3_ := A_ (Kd.R_elder' (rk_ HO252.out) (Kd.R_base ho131) hb)
                 have n4_ := A_ (Kd.R_lower (Kd.R_new' (Kd.R_new' (Kd.R_new' (Kd.R_new' (Kd.R_newM (M := fun k_ => (P3_1_ k_ ∨ w.heap.size ≤ k_)) ho131 (by first | exact HK.out.1 | exact (show Kept w _ (fun k_ => P3_1_ k_) from by repeat (first | (with_reducible first | exact HK.out | apply Kept.alloc | apply Kept.drewN | apply Kept.drew | refine Kept.setCell ?_ (.inr GW229.out) _ | refine Kept.setCell ?_ (.inr GW230.out) _ | refine Kept.setCell ?_ (.inr GW231.out) _ | refine Kept.setCell ?_ (.inr GW232.out) _ | refine Kept.setCell ?_ (.inr GW238.out) _ | refine Kept.setCell ?_ (.inr GW255.out) _) | exact HK.out)).1) (fun k_ h_ => .inr h_)) (Kd.R_lt (rk_ HO_232001.out))) (Kd.R_lt (rk_ HO_239001.out))) (Kd.R_lt (rk_ HO248.out))) (Kd.R_lt (rk_ HO252.out))) (below_size (bk_ HB.out)))
                 have n5_ := A_ (blk_below (pk_ BK229.out) hb)
                 have n7_ := A_ (blk_below (pk_ BK231.out) hb)
                 have n8_ := A_ (blk_below (pk_ BK232.out) hb)
                 have n9_ := A_ (blk_below (pk_ BK238.out) hb)
                 have n10_ := A_ (blk_below (pk_ BK255.out) hb)
                 have n11_ := A_ (Kept.below (S := (fun k_ => P3_1_ k_)) (by repeat (first | (with_reducible first | exact HK.out | apply Kept.alloc | apply Kept.drewN | apply Kept.drew | refine Kept.setCell ?_ (.inr GW229.out) _ | refine Kept.setCell ?_ (.inr GW230.out) _ | refine Kept.setCell ?_ (.inr GW231.out) _ | refine Kept.setCell ?_ (.inr GW232.out) _ | refine Kept.setCell ?_ (.inr GW238.out) _ | refine Kept.setCell ?_ (.inr GW255.out) _) | exact HK.out)) hb)
                 have n12_ := A_ (below_step (bk_ HB.out) hb)
                 clear HO_239001 HO252 BK229 BK231 BK232 BK238 BK255 HK HB
                 have HO_239001 := n1_
                 have HO252 := n3_
                 have HO259 := n4_
                 have BK229 := n5_
                 have BK231 := n7_
                 have BK232 := n8_
                 have BK238 := n9_
                 have BK255 := n10_
                 have HK := n11_
                 have HB := n12_
                 clear n1_ n3_ n4_ n5_ n7_ n8_ n9_ n10_ n11_ n12_ hb ho131
                 obtain ⟨Ao132, co132, eo132⟩ := Kd.R_slice HO259.out
                 (first | subst eo132 | (injection eo132 with f1_ f2_ f3_; have f4_ := f1_.symm; have f5_ := f3_.symm; clear f1_ f2_ f3_; subst f4_; subst f5_))
                 refine hK.out _ _ ⟨(blk_cell BK238.out 0).trans rfl, (blk_cell BK238.out 1).trans rfl, (blk_cell BK255.out 0).trans rfl, (blk_cell BK255.out 1).trans rfl, (Kd.foot_int (HR2.out _ (by repeat (first | exact HK.out | apply Kept.alloc | apply Kept.drewN | apply Kept.drew | refine Kept.setCell ?_ (.inr GW232.out) _ | refine Kept.setCell ?_ (.inr GW232.out) _))) t233 (of_eq_true p256) (of_eq_true q256))⟩ (fun hHeld => ?_)
                 clear hK K
                 refine norm_ (a' := ?_) ?_ ?_
                 rotate_left
                 ·show Act.put _ (some 140) _ = _
                  simp only [Act.put, sa_, sz_, ss_, i64_w, i32_w]
                  rfl
                 refine pure_ (i := 21) (N := some 141) (v := ?_) (a' := ?_) #[true, true, true, true, true, true, true, true, true, true, true, true, true, true, true, true, true, true, true, true, true, true, false, false, false, false, false] rfl rfl (any_of HT_.out (by kernel_rfl)) (fun _ _ _ h => h) (Or.inl ⟨by rfl, ?_⟩) ?_ ?_
                 rotate_left
                 ·intro w'
                  go_simp
                  with_reducible rfl
                 rotate_left
                 ·simp only [Act.put, sa_, sz_, ss_, i64_w, i32_w]
                  rfl
                 refine one_ (i := 22) (N := some 142) #[true, true, true, true, true, true, true, true, true, true, true, true, true, true, true, true, true, true, true, true, true, true, true, false, false, false, false] rfl rfl (one_of HT_.out (by kernel_rfl)) (by decide) (fun K hK => ?_)
                 refine goes_ Try.func22 (by kernel_rfl) rfl #[.agg #[.int .i64 t249, .slice Ao126 t250.length co126], .agg #[.int .i64 (rd l2 t233), .slice Ao132 y257.length co132]] (by rfl) rfl rfl gl_ ?_
                 with_reducible refine (standstillref06_SameCount.calls kj73 t249 _ _ t250 (rd l2 t233) _ _ y257 t260 _ ?side1 ?side2 ?side3 ?side4 A116.out).mono ?_
                 (case side1 => repeat (first | exact (Kd.R_reads' HO252.out).2.2 | (with_reducible refine Kd.C_alloc ?_ _) | (with_reducible refine Kd.C_drewN ?_ _) | (with_reducible refine Kd.C_drew ?_)))
                 (case side2 => exact (Kd.R_reads' HO252.out).2.1)
                 (case side3 => repeat (first | exact (Kd.R_reads' HO259.out).2.2 | (with_reducible refine Kd.C_alloc ?_ _) | (with_reducible refine Kd.C_drewN ?_ _) | (with_reducible refine Kd.C_drew ?_)))
                 (case side4 => exact (Kd.R_reads' HO259.out).2.1)
                 rintro e w133 ⟨rfl, hb⟩
                 refine ⟨_, rfl, ?_⟩
                 have n1_ := A_ (Kd.R_below (rk_ HO_239001.out) hb)
                 have n5_ := A_ (blk_below (pk_ BK229.out) hb)
                 have n7_ := A_ (blk_below (pk_ BK231.out) hb)
                 have n8_ := A_ (blk_below (pk_ BK232.out) hb)
                 have n9_ := A_ (blk_below (pk_ BK238.out) hb)
                 have n10_ := A_ (blk_below (pk_ BK255.out) hb)
                 have n11_ := A_ (Kept.below (S := (fun k_ => P3_1_ k_)) (by repeat (first | (with_reducible first | exact HK.out | apply Kept.alloc | apply Kept.drewN | apply Kept.drew | refine Kept.setCell ?_ (.inr GW229.out) _ | refine Kept.setCell ?_ (.inr GW230.out) _ | refine Kept.setCell ?_ (.inr GW231.out) _ | refine Kept.setCell ?_ (.inr GW232.out) _ | refine Kept.setCell ?_ (.inr GW238.out) _ | refine Kept.setCell ?_ (.inr GW255.out) _) | exact HK.out)) hb)
                 have n12_ := A_ (below_step (bk_ HB.out) hb)
                 clear HO_239001 BK229 BK231 BK232 BK238 BK255 HK HB
                 have HO_239001 := n1_
                 have BK229 := n5_
                 have BK231 := n7_
                 have BK232 := n8_
                 have BK238 := n9_
                 have BK255 := n10_
                 have HK := n11_
                 have HB := n12_
                 clear n1_ n5_ n7_ n8_ n9_ n10_ n11_ n12_
                 (try clear hb)
                 (try clear hb2)
                 (try clear hk)
                 (try clear hi)
                 refine hK.out _ _ ⟨(blk_cell BK238.out 0).trans rfl, (blk_cell BK238.out 1).trans rfl, (blk_cell BK255.out 0).trans rfl, (blk_cell BK255.out 1).trans rfl, (Kd.foot_int (HR2.out _ (by repeat (first | exact HK.out | apply Kept.alloc | apply Kept.drewN | apply Kept.drew | refine Kept.setCell ?_ (.inr GW232.out) _ | refine Kept.setCell ?_ (.inr GW232.out) _))) t233 (of_eq_true p256) (of_eq_true q256))⟩ (fun hHeld => ?_)
                 clear hK K
                 refine norm_ (a' := ?_) ?_ ?_
                 rotate_left
                 ·show Act.put _ (some 142) _ = _
                  simp only [Act.put, sa_, sz_, ss_, i64_w, i32_w]
                  rfl
                 refine pure_ (i := 23) (N := some 143) (v := ?_) (a' := ?_) #[true, true, true, true, true, true, true, true, true, true, true, true, true, true, true, true, true, true, true, true, true, true, true, true, false, false, false] rfl rfl (any_of HT_.out (by kernel_rfl)) (fun _ _ _ h => h) (Or.inl ⟨by rfl, ?_⟩) ?_ ?_
                 rotate_left
                 ·intro w'
                  go_simp
                  with_reducible rfl
                 rotate_left
                 ·simp only [Act.put, sa_, sz_, ss_, i64_w, i32_w]
                  rfl
                 refine one_ (i := 24) (N := none) #[true, true, true, true, true, true, true, true, true, true, true, true, true, true, true, true, true, true, true, true, true, true, true, true, true, false, false] rfl rfl (one_of HT_.out (by kernel_rfl)) (by decide) (fun K hK => ?_)
                 have hs134 : w133.cell? ⟨gb232, 0, none⟩ = some (.int .i64 0) := (blk_cell BK232.out 0).trans rfl
                 have hfs134 := blk_frozen BK232.out 0
                 have hns134_0 := NB229_232.out
                 have hns134_1 := NB230_232.out
                 have hns134_2 := NB231_232.out
                 have hns134_4 := NB238_232.out
                 have hns134_5 := NB255_232.out
                 have hms134_0 := NB232_229.out
                 have hms134_1 := NB232_230.out
                 have hms134_2 := NB232_231.out
                 have hms134_4 := NB232_238.out
                 have hms134_5 := NB232_255.out
                 have hs135 : w133.cell? ⟨gb232, 1, none⟩ = some (.slice none 0 0) := (blk_cell BK232.out 1).trans rfl
                 have hfs135 := blk_frozen BK232.out 1
                 have hns135_0 := NB229_232.out
                 have hns135_1 := NB230_232.out
                 have hns135_2 := NB231_232.out
                 have hns135_4 := NB238_232.out
                 have hns135_5 := NB255_232.out
                 have hms135_0 := NB232_229.out
                 have hms135_1 := NB232_230.out
                 have hms135_2 := NB232_231.out
                 have hms135_4 := NB232_238.out
                 have hms135_5 := NB232_255.out
                 refine skip_ (w1 := ?_) (by rfl) rfl ?_ ?_
                 rotate_left
                 ·go_simp
                  rfl
                 refine hK.out _ _ ⟨(cf2_ NB238_232.out hHeld.1), (cf2_ NB238_232.out hHeld.2.1), (cf2_ NB255_232.out hHeld.2.2.1), (cf2_ NB255_232.out hHeld.2.2.2.1), (Kd.foot_int (HR2.out _ (by repeat (first | exact HK.out | apply Kept.alloc | apply Kept.drewN | apply Kept.drew | refine Kept.setCell ?_ (.inr GW232.out) _ | refine Kept.setCell ?_ (.inr GW232.out) _))) t233 (of_eq_true p256) (of_eq_true q256))⟩ (fun hHeld => ?_)
                 clear hK K
                 refine pure_ (i := 25) (N := some 11) (v := ?_) (a' := ?_) #[true, true, true, true, true, true, true, true, true, true, true, true, true, true, true, true, true, true, true, true, true, true, true, true, true, true, false] rfl rfl (any_of HT_.out (by kernel_rfl)) (fun _ _ _ h => h) (Or.inl ⟨by rfl, ?_⟩) ?_ ?_
                 rotate_left
                 ·intro w'
                  go_simp
                  with_reducible rfl
                 rotate_left
                 ·simp only [Act.put, sa_, sz_, ss_, i64_w, i32_w]
                  rfl
                 refine pure_ (i := 26) (N := some 12) (v := ?_) (a' := ?_) #[true, true, true, true, true, true, true, true, true, true, true, true, true, true, true, true, true, true, true, true, true, true, true, true, true, true, true] rfl rfl (any_of HT_.out (by kernel_rfl)) (fun _ _ _ h => h) (Or.inl ⟨by rfl, ?_⟩) ?_ ?_
                 rotate_left
                 ·intro w'
                  go_simp
                  with_reducible rfl
                 rotate_left
                 ·simp only [Act.put, sa_, sz_, ss_, i64_w, i32_w]
                  rfl
                 refine done_ (done_of HT_.out (by kernel_rfl)) ?_
                 try go_wp2
                 refine bodyPost_ret (results_ctt rfl _ _ gb232 47 #[.int .i64 t233, .slice Ao28 t234.length co28] (0, 0) _ rfl (by refine pk_ ?_; refine blk_put (cs := #[.int .i64 t233, .slice none 0 0]) ?_ 1 _ rfl; refine pk_ ?_; refine blk_put (cs := #[.int .i64 0, .slice none 0 0]) ?_ 0 _ rfl; exact pk_ BK232.out) Try.underlying47 rfl (by kernel_rfl)) rfl ?_
                 exact ⟨_, by first | rfl | (simp [errW_none, errW_some] <;> rfl) | (simp only [← hji109]; first | rfl | (simp [errW_none, errW_some] <;> rfl)) | (simp [*, errW_none, errW_some] <;> rfl), by (with_reducible repeat (first | apply Kd.R_alloc | apply Kd.R_drewN | apply Kd.R_drew)); exact Kd.R_mono (rf2_ (Kd.R_types HO_239001.out BK232.out (by decide))) (fun _ hk => hk.1.1.1), bk_ HB.out, by repeat (first | (with_reducible first | exact HK.out | apply Kept.alloc | apply Kept.drewN | apply Kept.drew | refine Kept.setCell ?_ (.inr GW229.out) _ | refine Kept.setCell ?_ (.inr GW230.out) _ | refine Kept.setCell ?_ (.inr GW231.out) _ | refine Kept.setCell ?_ (.inr GW232.out) _ | refine Kept.setCell ?_ (.inr GW238.out) _ | refine Kept.setCell ?_ (.inr GW255.out) _) | exact HK.out)⟩
                ·rw [if_neg c115] at H
                 exact absurd H (by simp)
               ·rw [if_neg c114] at H
                exact absurd H (by simp)
              ·rw [if_neg c113] at H
               have c113b0 : decide (t253 ≤ (wrap64 (100 + (wrap64 (100 * (ji109)))))) = false := decide_eq_false c113
               clear c113
               exact absurd H (by simp)
             ·rw [if_neg c111] at H
              have c111b0 : (t254 == 0) = false := beq_eq_false_iff_ne.mpr c111
              have c111b1 : (t254 != 0) = true := bne_iff_ne.mpr c111
              exact absurd H (by simp)
            ·rw [if_neg c108] at H
             exact absurd H (by simp)
           ·rw [if_neg c107] at H
            exact absurd H (by simp)
 ·rw [if_neg c7] at H
  have c7b0 : (t237 == 0) = false := beq_eq_false_iff_ne.mpr c7
  have c7b1 : (t237 != 0) = true := bne_iff_ne.mpr c7
  by_cases c136 : t237 = 5
  ·rw [if_pos c136] at H
   have c136b0 : (t237 == 5) = true := beq_iff_eq.mpr c136
   have c136b1 : (t237 != 5) = false := bne_eq_false_iff_eq.mpr c136
   clear c136
   simp only [Option.some.injEq, Prod.mk.injEq] at H
   obtain ⟨rfl, rfl, rfl, rfl⟩ := H
   go_enter Try.func19, Try.ntmps19
   go_wp2_with (first | ((with_reducible refine gate_dst (N := 5) rfl ?_); (try (refine gate_guard (by rfl) ?_; dsimp only)); refine box_event ?hg (N := 5) ?hd (cs := #[.int .i64 a0_0, .slice A0_1 l0_1.length c0_1]) (t := 38) ?hr ?_; (case hd => rfl); (case hg => rfl); (case hr => first | (go_simp; done) | (go_simp; rfl)); intro gb229 hg w137 hbox hb; have n0_ := A_ (Kd.R_below (rk_ HO3_1.out) hb); have n1_ := A_ (Kept.below (S := (fun k_ => P3_1_ k_)) (by repeat (first | (with_reducible first | exact HK.out | apply Kept.alloc | apply Kept.drewN | apply Kept.drew) | exact HK.out)) hb); have n2_ := A_ (below_step (bk_ HB.out) hb); have n3_ := A_ (hbox); have n4_ := A_ ((by rw [hg]; exact (by first | exact HK.out.1 | exact (show Kept w _ (fun k_ => P3_1_ k_) from by repeat (first | (with_reducible first | exact HK.out | apply Kept.alloc | apply Kept.drewN | apply Kept.drew) | exact HK.out)).1) : w.heap.size ≤ gb229)); have n5_ := A_ ((by rw [hg]; exact (below_size (bk_ HB.out)) : w0.heap.size ≤ gb229)); clear HO3_1 HK HB; have HO3_1 := n0_; have HK := n1_; have HB := n2_; have BK229 := n3_; have GW229 := n4_; have GE229 := n5_; clear n0_ n1_ n2_ n3_ n4_ n5_ hb hbox hg) | ((with_reducible refine gate_dst (N := 6) rfl ?_); (try (refine gate_guard (by rfl) ?_; dsimp only)); refine box_event ?hg (N := 6) ?hd (cs := #[.int .i64 a1_0, .slice A1_1 l1_1.length c1_1]) (t := 38) ?hr ?_; (case hd => rfl); (case hg => rfl); (case hr => first | (go_simp; done) | (go_simp; rfl)); intro gb230 hg w138 hbox hb; have n0_ := A_ (Kd.R_below (rk_ HO3_1.out) hb); have n1_ := A_ (blk_below (pk_ BK229.out) hb); have n2_ := A_ (Kept.below (S := (fun k_ => P3_1_ k_)) (by repeat (first | (with_reducible first | exact HK.out | apply Kept.alloc | apply Kept.drewN | apply Kept.drew | refine Kept.setCell ?_ (.inr GW229.out) _) | exact HK.out)) hb); have n3_ := A_ (below_step (bk_ HB.out) hb); have n5_ := A_ ((by rw [hg]; exact (by first | exact HK.out.1 | exact (show Kept w _ (fun k_ => P3_1_ k_) from by repeat (first | (with_reducible first | exact HK.out | apply Kept.alloc | apply Kept.drewN | apply Kept.drew | refine Kept.setCell ?_ (.inr GW229.out) _) | exact HK.out)).1) : w.heap.size ≤ gb230)); have n6_ := A_ ((by rw [hg]; exact (below_size (bk_ HB.out)) : w0.heap.size ≤ gb230)); clear HO3_1 BK229 HK HB; have HO3_1 := n0_; have BK229 := n1_; have HK := n2_; have HB := n3_; have GW230 := n5_; have GE230 := n6_; clear n0_ n1_ n2_ n3_ n5_ n6_ hb hbox hg; obtain ⟨Ao139, co139, eo139⟩ := Kd.R_slice HO3_1.out; subst eo139) | ((with_reducible refine gate_dst (N := 8) rfl ?_); (try (refine gate_guard (by rfl) ?_; dsimp only)); refine box_event ?hg (N := 8) ?hd (cs := #[.int .i64 a3_0, .slice Ao139 l3_1.length co139]) (t := 47) ?hr ?_; (case hd => rfl); (case hg => rfl); (case hr => first | (go_simp; done) | (go_simp; rfl)); intro gb231 hg w140 hbox hb; have n0_ := A_ (Kd.R_below (rk_ HO3_1.out) hb); have n1_ := A_ (blk_below (pk_ BK229.out) hb); have n3_ := A_ (Kept.below (S := (fun k_ => P3_1_ k_)) (by repeat (first | (with_reducible first | exact HK.out | apply Kept.alloc | apply Kept.drewN | apply Kept.drew | refine Kept.setCell ?_ (.inr GW229.out) _ | refine Kept.setCell ?_ (.inr GW230.out) _) | exact HK.out)) hb); have n4_ := A_ (below_step (bk_ HB.out) hb); have n5_ := A_ (hbox); have n6_ := A_ ((by rw [hg]; exact (by first | exact HK.out.1 | exact (show Kept w _ (fun k_ => P3_1_ k_) from by repeat (first | (with_reducible first | exact HK.out | apply Kept.alloc | apply Kept.drewN | apply Kept.drew | refine Kept.setCell ?_ (.inr GW229.out) _ | refine Kept.setCell ?_ (.inr GW230.out) _) | exact HK.out)).1) : w.heap.size ≤ gb231)); have n7_ := A_ ((by rw [hg]; exact (below_size (bk_ HB.out)) : w0.heap.size ≤ gb231)); have n8_ := A_ (nl_ hg (pk_ BK229.out)); have n9_ := A_ (ng_ hg (pk_ BK229.out)); clear HO3_1 BK229 HK HB; have HO3_1 := n0_; have BK229 := n1_; have HK := n3_; have HB := n4_; have BK231 := n5_; have GW231 := n6_; have GE231 := n7_; have NB229_231 := n8_; have NB231_229 := n9_; clear n0_ n1_ n3_ n4_ n5_ n6_ n7_ n8_ n9_ hb hbox hg) | ((with_reducible refine gate_dst (N := 10) rfl ?_); (try (refine gate_guard (by rfl) ?_; dsimp only)); refine box_event ?hg (N := 10) ?hd (cs := #[.int .i64 0, .slice none 0 0]) (t := 47) ?hr ?_; (case hd => rfl); (case hg => rfl); (case hr => first | (go_simp; done) | (go_simp; rfl)); intro gb232 hg w141 hbox hb; have n0_ := A_ (Kd.R_below (rk_ HO3_1.out) hb); have n1_ := A_ (blk_below (pk_ BK229.out) hb); have n3_ := A_ (blk_below (pk_ BK231.out) hb); have n4_ := A_ (Kept.below (S := (fun k_ => P3_1_ k_)) (by repeat (first | (with_reducible first | exact HK.out | apply Kept.alloc | apply Kept.drewN | apply Kept.drew | refine Kept.setCell ?_ (.inr GW229.out) _ | refine Kept.setCell ?_ (.inr GW230.out) _ | refine Kept.setCell ?_ (.inr GW231.out) _) | exact HK.out)) hb); have n5_ := A_ (below_step (bk_ HB.out) hb); have n6_ := A_ (hbox); have n7_ := A_ ((by rw [hg]; exact (by first | exact HK.out.1 | exact (show Kept w _ (fun k_ => P3_1_ k_) from by repeat (first | (with_reducible first | exact HK.out | apply Kept.alloc | apply Kept.drewN | apply Kept.drew | refine Kept.setCell ?_ (.inr GW229.out) _ | refine Kept.setCell ?_ (.inr GW230.out) _ | refine Kept.setCell ?_ (.inr GW231.out) _) | exact HK.out)).1) : w.heap.size ≤ gb232)); have n8_ := A_ ((by rw [hg]; exact (below_size (bk_ HB.out)) : w0.heap.size ≤ gb232)); have n9_ := A_ (nl_ hg (pk_ BK229.out)); have n10_ := A_ (ng_ hg (pk_ BK229.out)); have n13_ := A_ (nl_ hg (pk_ BK231.out)); have n14_ := A_ (ng_ hg (pk_ BK231.out)); clear HO3_1 BK229 BK231 HK HB; have HO3_1 := n0_; have BK229 := n1_; have BK231 := n3_; have HK := n4_; have HB := n5_; have BK232 := n6_; have GW232 := n7_; have GE232 := n8_; have NB229_232 := n9_; have NB232_229 := n10_; have NB231_232 := n13_; have NB232_231 := n14_; clear n0_ n1_ n3_ n4_ n5_ n6_ n7_ n8_ n9_ n10_ n13_ n14_ hb hbox hg; have hnb143 := NB229_231.out; have hnc143 := NB231_229.out; have hnb144 := NB229_232.out; have hnc144 := NB232_229.out; obtain ⟨hcz145_0, hcz145_1⟩ := bc2_ BK229.out; have hfz145_0 := blk_frozen BK229.out 0; have hfz145_1 := blk_frozen BK229.out 1; have hnb147 := NB231_232.out; have hnc147 := NB232_231.out; obtain ⟨hcz148_0, hcz148_1⟩ := bc2_ BK231.out; have hfz148_0 := blk_frozen BK231.out 0; have hfz148_1 := blk_frozen BK231.out 1) | ((with_reducible refine gate_callee (f := 31) rfl ?_); refine goesL_ (some 25) rfl rfl Try.func31 (by kernel_rfl) rfl #[.agg #[.int .i64 a0_0, .slice A0_1 l0_1.length c0_1], .agg #[.int .i64 a3_0, .slice Ao139 l3_1.length co139]] rfl gl_ ?_; (with_reducible refine (counter_Step.calls k a0_0 _ _ l0_1 a3_0 _ _ l3_1 t233 t234 t237 _ ?side1 ?side2 ?side3 ?side4 A6.out).mono ?_); (case side1 => exact Kd.C_kept_now HR0_1.out (by repeat (first | (with_reducible first | exact HK.out | apply Kept.alloc | apply Kept.drewN | apply Kept.drew | refine Kept.setCell ?_ (.inr GW229.out) _ | refine Kept.setCell ?_ (.inr GW230.out) _ | refine Kept.setCell ?_ (.inr GW231.out) _ | refine Kept.setCell ?_ (.inr GW232.out) _) | exact HK.out))); (case side2 => exact HC0_1.out); (case side3 => repeat (first | exact (Kd.R_reads' HO3_1.out).2.2 | (with_reducible refine Kd.C_alloc ?_ _) | (with_reducible refine Kd.C_drewN ?_ _) | (with_reducible refine Kd.C_drew ?_))); (case side4 => exact (Kd.R_reads' HO3_1.out).2.1); rintro e w149 ⟨v235, rfl, ho0, hb⟩; refine ⟨_, rfl, ?_⟩; have n0_ := A_ (Kd.R_elder' (rk_ HO3_1.out) (Kd.R_base ho0) hb); have n1_ := A_ (Kd.R_lower (Kd.R_new' (Kd.R_newM (M := fun k_ => (P3_1_ k_ ∨ w.heap.size ≤ k_)) ho0 (by first | exact HK.out.1 | exact (show Kept w _ (fun k_ => P3_1_ k_) from by repeat (first | (with_reducible first | exact HK.out | apply Kept.alloc | apply Kept.drewN | apply Kept.drew | refine Kept.setCell ?_ (.inr GW229.out) _ | refine Kept.setCell ?_ (.inr GW230.out) _ | refine Kept.setCell ?_ (.inr GW231.out) _ | refine Kept.setCell ?_ (.inr GW232.out) _) | exact HK.out)).1) (fun k_ h_ => .inr h_)) (Kd.R_lt (rk_ HO3_1.out))) (below_size (bk_ HB.out))); have n2_ := A_ (blk_below (pk_ BK229.out) hb); have n4_ := A_ (blk_below (pk_ BK231.out) hb); have n5_ := A_ (blk_below (pk_ BK232.out) hb); have n6_ := A_ (Kept.below (S := (fun k_ => P3_1_ k_)) (by repeat (first | (with_reducible first | exact HK.out | apply Kept.alloc | apply Kept.drewN | apply Kept.drew | refine Kept.setCell ?_ (.inr GW229.out) _ | refine Kept.setCell ?_ (.inr GW230.out) _ | refine Kept.setCell ?_ (.inr GW231.out) _ | refine Kept.setCell ?_ (.inr GW232.out) _) | exact HK.out)) hb); have n7_ := A_ (below_step (bk_ HB.out) hb); clear HO3_1 BK229 BK231 BK232 HK HB; have HO3_1 := n0_; have HO236 := n1_; have BK229 := n2_; have BK231 := n4_; have BK232 := n5_; have HK := n6_; have HB := n7_; clear n0_ n1_ n2_ n4_ n5_ n6_ n7_; (try clear hb); (try clear hb2); (try clear hk); (try clear hi); (try clear ho0)) | ((with_reducible refine gate_dst (N := 13) rfl ?_); (try (refine gate_guard (by rfl) ?_; dsimp only)); refine box_event ?hg (N := 13) ?hd (cs := #[.int .i64 0, .slice none 0 0]) (t := 47) ?hr ?_; (case hd => rfl); (case hg => rfl); (case hr => first | (go_simp; done) | (go_simp; rfl)); intro gb238 hg w150 hbox hb; have n0_ := A_ (Kd.R_below (rk_ HO3_1.out) hb); have n1_ := A_ (Kd.R_below (rk_ HO236.out) hb); have n2_ := A_ (blk_below (pk_ BK229.out) hb); have n4_ := A_ (blk_below (pk_ BK231.out) hb); have n5_ := A_ (blk_below (pk_ BK232.out) hb); have n6_ := A_ (Kept.below (S := (fun k_ => P3_1_ k_)) (by repeat (first | (with_reducible first | exact HK.out | apply Kept.alloc | apply Kept.drewN | apply Kept.drew | refine Kept.setCell ?_ (.inr GW229.out) _ | refine Kept.setCell ?_ (.inr GW230.out) _ | refine Kept.setCell ?_ (.inr GW231.out) _ | refine Kept.setCell ?_ (.inr GW232.out) _) | exact HK.out)) hb); have n7_ := A_ (below_step (bk_ HB.out) hb); have n8_ := A_ (hbox); have n9_ := A_ ((by rw [hg]; exact (by first | exact HK.out.1 | exact (show Kept w _ (fun k_ => P3_1_ k_) from by repeat (first | (with_reducible first | exact HK.out | apply Kept.alloc | apply Kept.drewN | apply Kept.drew | refine Kept.setCell ?_ (.inr GW229.out) _ | refine Kept.setCell ?_ (.inr GW230.out) _ | refine Kept.setCell ?_ (.inr GW231.out) _ | refine Kept.setCell ?_ (.inr GW232.out) _) | exact HK.out)).1) : w.heap.size ≤ gb238)); have n10_ := A_ ((by rw [hg]; exact (below_size (bk_ HB.out)) : w0.heap.size ≤ gb238)); have n11_ := A_ (nl_ hg (pk_ BK229.out)); have n12_ := A_ (ng_ hg (pk_ BK229.out)); have n15_ := A_ (nl_ hg (pk_ BK231.out)); have n16_ := A_ (ng_ hg (pk_ BK231.out)); have n17_ := A_ (nl_ hg (pk_ BK232.out)); have n18_ := A_ (ng_ hg (pk_ BK232.out)); clear HO3_1 HO236 BK229 BK231 BK232 HK HB; have HO3_1 := n0_; have HO236 := n1_; have BK229 := n2_; have BK231 := n4_; have BK232 := n5_; have HK := n6_; have HB := n7_; have BK238 := n8_; have GW238 := n9_; have GE238 := n10_; have NB229_238 := n11_; have NB238_229 := n12_; have NB231_238 := n15_; have NB238_231 := n16_; have NB232_238 := n17_; have NB238_232 := n18_; clear n0_ n1_ n2_ n4_ n5_ n6_ n7_ n8_ n9_ n10_ n11_ n12_ n15_ n16_ n17_ n18_ hb hbox hg; have hnb151 := NB238_229.out; have hnc151 := NB229_238.out; have hnb153 := NB238_231.out; have hnc153 := NB231_238.out; have hnb154 := NB238_232.out; have hnc154 := NB232_238.out; obtain ⟨hcz155_0, hcz155_1⟩ := bc2_ BK238.out; have hfz155_0 := blk_frozen BK238.out 0; have hfz155_1 := blk_frozen BK238.out 1; obtain ⟨Ao156, co156, eo156⟩ := Kd.R_slice HO236.out; subst eo156; obtain ⟨hcz157_0, hcz157_1⟩ := bc2_ BK231.out; have hfz157_0 := blk_frozen BK231.out 0; have hfz157_1 := blk_frozen BK231.out 1; obtain ⟨hcz159_0, hcz159_1⟩ := bc2_ BK232.out; have hfz159_0 := blk_frozen BK232.out 0; have hfz159_1 := blk_frozen BK232.out 1))
   refine bodyPost_ret (results_ctt rfl _ _ gb232 47 #[.int .i64 a3_0, .slice Ao139 l3_1.length co139] (0, 0) _ rfl (by refine pk_ ?_; refine blk_put (cs := #[.int .i64 a3_0, .slice none 0 0]) ?_ 1 _ rfl; refine pk_ ?_; refine blk_put (cs := #[.int .i64 0, .slice none 0 0]) ?_ 0 _ rfl; (iterate 2 (refine pk_ ?_; refine blk_far ?_ NB232_238.out _)); exact pk_ BK232.out) Try.underlying47 rfl (by kernel_rfl)) rfl ?_
   exact ⟨_, er_, by (with_reducible repeat (first | apply Kd.R_alloc | apply Kd.R_drewN | apply Kd.R_drew)); exact Kd.R_mono (rf2_ (Kd.R_far (p := ⟨gb238, 1, none⟩) (Kd.R_far (p := ⟨gb238, 0, none⟩) (Kd.R_types (Kd.R_types HO3_1.out BK238.out (by decide)) BK232.out (by decide)) (fun _ hk => hk.1.2) (.int .i64 t233)) (fun _ hk => hk.1.2) (.slice Ao156 t234.length co156))) (fun _ hk => hk.1.1.1), bk_ HB.out, by repeat (first | (with_reducible first | exact HK.out | apply Kept.alloc | apply Kept.drewN | apply Kept.drew | refine Kept.setCell ?_ (.inr GW229.out) _ | refine Kept.setCell ?_ (.inr GW230.out) _ | refine Kept.setCell ?_ (.inr GW231.out) _ | refine Kept.setCell ?_ (.inr GW232.out) _ | refine Kept.setCell ?_ (.inr GW238.out) _) | exact HK.out)⟩
  ·rw [if_neg c136] at H
   have c136b0 : (t237 == 5) = false := beq_eq_false_iff_ne.mpr c136
   have c136b1 : (t237 != 5) = true := bne_iff_ne.mpr c136
   simp only [Option.some.injEq, Prod.mk.injEq] at H
   obtain ⟨rfl, rfl, rfl, rfl⟩ := H
   go_enter Try.func19, Try.ntmps19
   go_wp2_with (first | ((with_reducible refine gate_dst (N := 5) rfl ?_); (try (refine gate_guard (by rfl) ?_; dsimp only)); refine box_event ?hg (N := 5) ?hd (cs := #[.int .i64 a0_0, .slice A0_1 l0_1.length c0_1]) (t := 38) ?hr ?_; (case hd => rfl); (case hg => rfl); (case hr => first | (go_simp; done) | (go_simp; rfl)); intro gb229 hg w160 hbox hb; have n0_ := A_ (Kd.R_below (rk_ HO3_1.out) hb); have n1_ := A_ (Kept.below (S := (fun k_ => P3_1_ k_)) (by repeat (first | (with_reducible first | exact HK.out | apply Kept.alloc | apply Kept.drewN | apply Kept.drew) | exact HK.out)) hb); have n2_ := A_ (below_step (bk_ HB.out) hb); have n3_ := A_ (hbox); have n4_ := A_ ((by rw [hg]; exact (by first | exact HK.out.1 | exact (show Kept w _ (fun k_ => P3_1_ k_) from by repeat (first | (with_reducible first | exact HK.out | apply Kept.alloc | apply Kept.drewN | apply Kept.drew) | exact HK.out)).1) : w.heap.size ≤ gb229)); have n5_ := A_ ((by rw [hg]; exact (below_size (bk_ HB.out)) : w0.heap.size ≤ gb229)); clear HO3_1 HK HB; have HO3_1 := n0_; have HK := n1_; have HB := n2_; have BK229 := n3_; have GW229 := n4_; have GE229 := n5_; clear n0_ n1_ n2_ n3_ n4_ n5_ hb hbox hg) | ((with_reducible refine gate_dst (N := 6) rfl ?_); (try (refine gate_guard (by rfl) ?_; dsimp only)); refine box_event ?hg (N := 6) ?hd (cs := #[.int .i64 a1_0, .slice A1_1 l1_1.length c1_1]) (t := 38) ?hr ?_; (case hd => rfl); (case hg => rfl); (case hr => first | (go_simp; done) | (go_simp; rfl)); intro gb230 hg w161 hbox hb; have n0_ := A_ (Kd.R_below (rk_ HO3_1.out) hb); have n1_ := A_ (blk_below (pk_ BK229.out) hb); have n2_ := A_ (Kept.below (S := (fun k_ => P3_1_ k_)) (by repeat (first | (with_reducible first | exact HK.out | apply Kept.alloc | apply Kept.drewN | apply Kept.drew | refine Kept.setCell ?_ (.inr GW229.out) _) | exact HK.out)) hb); have n3_ := A_ (below_step (bk_ HB.out) hb); have n5_ := A_ ((by rw [hg]; exact (by first | exact HK.out.1 | exact (show Kept w _ (fun k_ => P3_1_ k_) from by repeat (first | (with_reducible first | exact HK.out | apply Kept.alloc | apply Kept.drewN | apply Kept.drew | refine Kept.setCell ?_ (.inr GW229.out) _) | exact HK.out)).1) : w.heap.size ≤ gb230)); have n6_ := A_ ((by rw [hg]; exact (below_size (bk_ HB.out)) : w0.heap.size ≤ gb230)); clear HO3_1 BK229 HK HB; have HO3_1 := n0_; have BK229 := n1_; have HK := n2_; have HB := n3_; have GW230 := n5_; have GE230 := n6_; clear n0_ n1_ n2_ n3_ n5_ n6_ hb hbox hg; obtain ⟨Ao162, co162, eo162⟩ := Kd.R_slice HO3_1.out; subst eo162) | ((with_reducible refine gate_dst (N := 8) rfl ?_); (try (refine gate_guard (by rfl) ?_; dsimp only)); refine box_event ?hg (N := 8) ?hd (cs := #[.int .i64 a3_0, .slice Ao162 l3_1.length co162]) (t := 47) ?hr ?_; (case hd => rfl); (case hg => rfl); (case hr => first | (go_simp; done) | (go_simp; rfl)); intro gb231 hg w163 hbox hb; have n0_ := A_ (Kd.R_below (rk_ HO3_1.out) hb); have n1_ := A_ (blk_below (pk_ BK229.out) hb); have n3_ := A_ (Kept.below (S := (fun k_ => P3_1_ k_)) (by repeat (first | (with_reducible first | exact HK.out | apply Kept.alloc | apply Kept.drewN | apply Kept.drew | refine Kept.setCell ?_ (.inr GW229.out) _ | refine Kept.setCell ?_ (.inr GW230.out) _) | exact HK.out)) hb); have n4_ := A_ (below_step (bk_ HB.out) hb); have n5_ := A_ (hbox); have n6_ := A_ ((by rw [hg]; exact (by first | exact HK.out.1 | exact (show Kept w _ (fun k_ => P3_1_ k_) from by repeat (first | (with_reducible first | exact HK.out | apply Kept.alloc | apply Kept.drewN | apply Kept.drew | refine Kept.setCell ?_ (.inr GW229.out) _ | refine Kept.setCell ?_ (.inr GW230.out) _) | exact HK.out)).1) : w.heap.size ≤ gb231)); have n7_ := A_ ((by rw [hg]; exact (below_size (bk_ HB.out)) : w0.heap.size ≤ gb231)); have n8_ := A_ (nl_ hg (pk_ BK229.out)); have n9_ := A_ (ng_ hg (pk_ BK229.out)); clear HO3_1 BK229 HK HB; have HO3_1 := n0_; have BK229 := n1_; have HK := n3_; have HB := n4_; have BK231 := n5_; have GW231 := n6_; have GE231 := n7_; have NB229_231 := n8_; have NB231_229 := n9_; clear n0_ n1_ n3_ n4_ n5_ n6_ n7_ n8_ n9_ hb hbox hg) | ((with_reducible refine gate_dst (N := 10) rfl ?_); (try (refine gate_guard (by rfl) ?_; dsimp only)); refine box_event ?hg (N := 10) ?hd (cs := #[.int .i64 0, .slice none 0 0]) (t := 47) ?hr ?_; (case hd => rfl); (case hg => rfl); (case hr => first | (go_simp; done) | (go_simp; rfl)); intro gb232 hg w164 hbox hb; have n0_ := A_ (Kd.R_below (rk_ HO3_1.out) hb); have n1_ := A_ (blk_below (pk_ BK229.out) hb); have n3_ := A_ (blk_below (pk_ BK231.out) hb); have n4_ := A_ (Kept.below (S := (fun k_ => P3_1_ k_)) (by repeat (first | (with_reducible first | exact HK.out | apply Kept.alloc | apply Kept.drewN | apply Kept.drew | refine Kept.setCell ?_ (.inr GW229.out) _ | refine Kept.setCell ?_ (.inr GW230.out) _ | refine Kept.setCell ?_ (.inr GW231.out) _) | exact HK.out)) hb); have n5_ := A_ (below_step (bk_ HB.out) hb); have n6_ := A_ (hbox); have n7_ := A_ ((by rw [hg]; exact (by first | exact HK.out.1 | exact (show Kept w _ (fun k_ => P3_1_ k_) from by repeat (first | (with_reducible first | exact HK.out | apply Kept.alloc | apply Kept.drewN | apply Kept.drew | refine Kept.setCell ?_ (.inr GW229.out) _ | refine Kept.setCell ?_ (.inr GW230.out) _ | refine Kept.setCell ?_ (.inr GW231.out) _) | exact HK.out)).1) : w.heap.size ≤ gb232)); have n8_ := A_ ((by rw [hg]; exact (below_size (bk_ HB.out)) : w0.heap.size ≤ gb232)); have n9_ := A_ (nl_ hg (pk_ BK229.out)); have n10_ := A_ (ng_ hg (pk_ BK229.out)); have n13_ := A_ (nl_ hg (pk_ BK231.out)); have n14_ := A_ (ng_ hg (pk_ BK231.out)); clear HO3_1 BK229 BK231 HK HB; have HO3_1 := n0_; have BK229 := n1_; have BK231 := n3_; have HK := n4_; have HB := n5_; have BK232 := n6_; have GW232 := n7_; have GE232 := n8_; have NB229_232 := n9_; have NB232_229 := n10_; have NB231_232 := n13_; have NB232_231 := n14_; clear n0_ n1_ n3_ n4_ n5_ n6_ n7_ n8_ n9_ n10_ n13_ n14_ hb hbox hg; have hnb166 := NB229_231.out; have hnc166 := NB231_229.out; have hnb167 := NB229_232.out; have hnc167 := NB232_229.out; obtain ⟨hcz168_0, hcz168_1⟩ := bc2_ BK229.out; have hfz168_0 := blk_frozen BK229.out 0; have hfz168_1 := blk_frozen BK229.out 1; have hnb170 := NB231_232.out; have hnc170 := NB232_231.out; obtain ⟨hcz171_0, hcz171_1⟩ := bc2_ BK231.out; have hfz171_0 := blk_frozen BK231.out 0; have hfz171_1 := blk_frozen BK231.out 1) | ((with_reducible refine gate_callee (f := 31) rfl ?_); refine goesL_ (some 25) rfl rfl Try.func31 (by kernel_rfl) rfl #[.agg #[.int .i64 a0_0, .slice A0_1 l0_1.length c0_1], .agg #[.int .i64 a3_0, .slice Ao162 l3_1.length co162]] rfl gl_ ?_; (with_reducible refine (counter_Step.calls k a0_0 _ _ l0_1 a3_0 _ _ l3_1 t233 t234 t237 _ ?side1 ?side2 ?side3 ?side4 A6.out).mono ?_); (case side1 => exact Kd.C_kept_now HR0_1.out (by repeat (first | (with_reducible first | exact HK.out | apply Kept.alloc | apply Kept.drewN | apply Kept.drew | refine Kept.setCell ?_ (.inr GW229.out) _ | refine Kept.setCell ?_ (.inr GW230.out) _ | refine Kept.setCell ?_ (.inr GW231.out) _ | refine Kept.setCell ?_ (.inr GW232.out) _) | exact HK.out))); (case side2 => exact HC0_1.out); (case side3 => repeat (first | exact (Kd.R_reads' HO3_1.out).2.2 | (with_reducible refine Kd.C_alloc ?_ _) | (with_reducible refine Kd.C_drewN ?_ _) | (with_reducible refine Kd.C_drew ?_))); (case side4 => exact (Kd.R_reads' HO3_1.out).2.1); rintro e w172 ⟨v235, rfl, ho0, hb⟩; refine ⟨_, rfl, ?_⟩; have n0_ := A_ (Kd.R_elder' (rk_ HO3_1.out) (Kd.R_base ho0) hb); have n1_ := A_ (Kd.R_lower (Kd.R_new' (Kd.R_newM (M := fun k_ => (P3_1_ k_ ∨ w.heap.size ≤ k_)) ho0 (by first | exact HK.out.1 | exact (show Kept w _ (fun k_ => P3_1_ k_) from by repeat (first | (with_reducible first | exact HK.out | apply Kept.alloc | apply Kept.drewN | apply Kept.drew | refine Kept.setCell ?_ (.inr GW229.out) _ | refine Kept.setCell ?_ (.inr GW230.out) _ | refine Kept.setCell ?_ (.inr GW231.out) _ | refine Kept.setCell ?_ (.inr GW232.out) _) | exact HK.out)).1) (fun k_ h_ => .inr h_)) (Kd.R_lt (rk_ HO3_1.out))) (below_size (bk_ HB.out))); have n4_ := A_ (blk_below (pk_ BK231.out) hb); have n5_ := A_ (blk_below (pk_ BK232.out) hb); have n6_ := A_ (Kept.below (S := (fun k_ => P3_1_ k_)) (by repeat (first | (with_reducible first | exact HK.out | apply Kept.alloc | apply Kept.drewN | apply Kept.drew | refine Kept.setCell ?_ (.inr GW229.out) _ | refine Kept.setCell ?_ (.inr GW230.out) _ | refine Kept.setCell ?_ (.inr GW231.out) _ | refine Kept.setCell ?_ (.inr GW232.out) _) | exact HK.out)) hb); have n7_ := A_ (below_step (bk_ HB.out) hb); clear HO3_1 BK231 BK232 HK HB; have HO3_1 := n0_; have HO236 := n1_; have BK231 := n4_; have BK232 := n5_; have HK := n6_; have HB := n7_; clear n0_ n1_ n4_ n5_ n6_ n7_; (try clear hb); (try clear hb2); (try clear hk); (try clear hi); (try clear ho0)) | ((with_reducible refine gate_dst (N := 13) rfl ?_); (try (refine gate_guard (by rfl) ?_; dsimp only)); refine box_event ?hg (N := 13) ?hd (cs := #[.int .i64 0, .slice none 0 0]) (t := 47) ?hr ?_; (case hd => rfl); (case hg => rfl); (case hr => first | (go_simp; done) | (go_simp; rfl)); intro gb238 hg w173 hbox hb; have n0_ := A_ (Kd.R_below (rk_ HO3_1.out) hb); have n1_ := A_ (Kd.R_below (rk_ HO236.out) hb); have n4_ := A_ (blk_below (pk_ BK231.out) hb); have n5_ := A_ (blk_below (pk_ BK232.out) hb); have n6_ := A_ (Kept.below (S := (fun k_ => P3_1_ k_)) (by repeat (first | (with_reducible first | exact HK.out | apply Kept.alloc | apply Kept.drewN | apply Kept.drew | refine Kept.setCell ?_ (.inr GW229.out) _ | refine Kept.setCell ?_ (.inr GW230.out) _ | refine Kept.setCell ?_ (.inr GW231.out) _ | refine Kept.setCell ?_ (.inr GW232.out) _) | exact HK.out)) hb); have n7_ := A_ (below_step (bk_ HB.out) hb); have n8_ := A_ (hbox); have n9_ := A_ ((by rw [hg]; exact (by first | exact HK.out.1 | exact (show Kept w _ (fun k_ => P3_1_ k_) from by repeat (first | (with_reducible first | exact HK.out | apply Kept.alloc | apply Kept.drewN | apply Kept.drew | refine Kept.setCell ?_ (.inr GW229.out) _ | refine Kept.setCell ?_ (.inr GW230.out) _ | refine Kept.setCell ?_ (.inr GW231.out) _ | refine Kept.setCell ?_ (.inr GW232.out) _) | exact HK.out)).1) : w.heap.size ≤ gb238)); have n10_ := A_ ((by rw [hg]; exact (below_size (bk_ HB.out)) : w0.heap.size ≤ gb238)); have n15_ := A_ (nl_ hg (pk_ BK231.out)); have n16_ := A_ (ng_ hg (pk_ BK231.out)); have n17_ := A_ (nl_ hg (pk_ BK232.out)); have n18_ := A_ (ng_ hg (pk_ BK232.out)); clear HO3_1 HO236 BK231 BK232 HK HB; have HO3_1 := n0_; have HO236 := n1_; have BK231 := n4_; have BK232 := n5_; have HK := n6_; have HB := n7_; have BK238 := n8_; have GW238 := n9_; have GE238 := n10_; have NB231_238 := n15_; have NB238_231 := n16_; have NB232_238 := n17_; have NB238_232 := n18_; clear n0_ n1_ n4_ n5_ n6_ n7_ n8_ n9_ n10_ n15_ n16_ n17_ n18_ hb hbox hg; have hnb176 := NB238_231.out; have hnc176 := NB231_238.out; have hnb177 := NB238_232.out; have hnc177 := NB232_238.out; obtain ⟨hcz178_0, hcz178_1⟩ := bc2_ BK238.out; have hfz178_0 := blk_frozen BK238.out 0; have hfz178_1 := blk_frozen BK238.out 1; obtain ⟨Ao179, co179, eo179⟩ := Kd.R_slice HO236.out; subst eo179; obtain ⟨hcz180_0, hcz180_1⟩ := bc2_ BK231.out; have hfz180_0 := blk_frozen BK231.out 0; have hfz180_1 := blk_frozen BK231.out 1; obtain ⟨hcz182_0, hcz182_1⟩ := bc2_ BK232.out; have hfz182_0 := blk_frozen BK232.out 0; have hfz182_1 := blk_frozen BK232.out 1))
   refine bodyPost_ret (results_ctt rfl _ _ gb232 47 #[.int .i64 a3_0, .slice Ao162 l3_1.length co162] (0, 0) _ rfl (by refine pk_ ?_; refine blk_put (cs := #[.int .i64 a3_0, .slice none 0 0]) ?_ 1 _ rfl; refine pk_ ?_; refine blk_put (cs := #[.int .i64 0, .slice none 0 0]) ?_ 0 _ rfl; (iterate 2 (refine pk_ ?_; refine blk_far ?_ NB232_238.out _)); exact pk_ BK232.out) Try.underlying47 rfl (by kernel_rfl)) rfl ?_
   exact ⟨_, er_, by (with_reducible repeat (first | apply Kd.R_alloc | apply Kd.R_drewN | apply Kd.R_drew)); exact Kd.R_mono (rf2_ (Kd.R_far (p := ⟨gb238, 1, none⟩) (Kd.R_far (p := ⟨gb238, 0, none⟩) (Kd.R_types (Kd.R_types HO3_1.out BK238.out (by decide)) BK232.out (by decide)) (fun _ hk => hk.1.2) (.int .i64 t233)) (fun _ hk => hk.1.2) (.slice Ao179 t234.length co179))) (fun _ hk => hk.1.1.1), bk_ HB.out, by repeat (first | (with_reducible first | exact HK.out | apply Kept.alloc | apply Kept.drewN | apply Kept.drew | refine Kept.setCell ?_ (.inr GW229.out) _ | refine Kept.setCell ?_ (.inr GW230.out) _ | refine Kept.setCell ?_ (.inr GW231.out) _ | refine Kept.setCell ?_ (.inr GW232.out) _ | refine Kept.setCell ?_ (.inr GW238.out) _) | exact HK.out)⟩

end Go.Proofs.Ytkbekdjoaibhbaa.PPairRuns
