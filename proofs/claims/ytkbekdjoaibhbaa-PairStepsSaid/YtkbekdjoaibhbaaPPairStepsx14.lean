-- out of a turned copy of the print, by a program of this session; Lean checks it
import Derived.Test.YtkbekdjoaibhbaaPPairStepsx0
import Derived.Test.YtkbekdjoaibhbaaPPairStepsx9
import Derived.Test.YtkbekdjoaibhbaaPPairStepsx11
import Derived.Test.YtkbekdjoaibhbaaPPairStepsx12
import Derived.Test.YtkbekdjoaibhbaaPPairStepsx13
namespace Go.Proofs.Ytkbekdjoaibhbaa.PPairSteps
open Go.RowKit Go.Proofs.YtkbekdjoaibhbaaW.PrintWords Go.Proofs.YtkbekdjoaibhbaaW.PrintLast Go.Proofs.YtkbekdjoaibhbaaW.PrintMore
attribute [local go_sem] max2_int min2_int max_two min_two max_three min_three max_four min_four   -- for this text's walks alone
set_option linter.unusedVariables false
set_option linter.unusedSimpArgs false

attribute [local go_sem] isSome_put_
/-! ### standstilllaw08_next: function 19 -/
mutual
def standstilllaw08_next.j0 : Nat → List Int → Int → Bool → Int → List (S45) → Int → List Int → Int → List Int → Option (Int × List Int × Bool × Bool)
 | 0, _, _, _, _, _, _, _, _, _ => none
 | k + 1, x2, x4, x46, x237000, x237001, x238000, x238001, x245000, x245001 => if x46 = true then (none) else ((standstillref08_Encode.f k x238001).bind fun bt247 => ((standstillref08_Encode.f k x245001).bind fun bt249 => (if bt247.2 = true then (if bt249.2 = true then (if bt247.1 > x4 then (standstilllaw08_next.j1 k x2 bt247.1 bt249.1 true x237000 x237001 x238000 x238001 x245000 x245001) else (standstilllaw08_next.j1 k x2 bt247.1 bt249.1 (decide (bt249.1 > x4)) x237000 x237001 x238000 x238001 x245000 x245001)) else (standstilllaw08_next.j1 k x2 bt247.1 bt249.1 true x237000 x237001 x238000 x238001 x245000 x245001)) else (standstilllaw08_next.j1 k x2 bt247.1 bt249.1 true x237000 x237001 x238000 x238001 x245000 x245001))))
def standstilllaw08_next.j1 : Nat → List Int → Int → Int → Bool → Int → List (S45) → Int → List Int → Int → List Int → Option (Int × List Int × Bool × Bool)
 | 0, _, _, _, _, _, _, _, _, _, _ => none
 | k + 1, x2, x15, x17, x75, x237000, x237001, x238000, x238001, x245000, x245001 => if x75 = true then (some (x238000, x238001, true, true)) else (if x238000 < 0 then (standstilllaw08_next.j2 k x2 x15 x17 true x237000 x237001 x238000 x238001 x245000 x245001) else (if x238000 ≥ (x2.length : Int) then (standstilllaw08_next.j2 k x2 x15 x17 true x237000 x237001 x238000 x238001 x245000 x245001) else (if x245000 < 0 then (standstilllaw08_next.j2 k x2 x15 x17 true x237000 x237001 x238000 x238001 x245000 x245001) else (standstilllaw08_next.j2 k x2 x15 x17 (decide (x245000 ≥ (x2.length : Int))) x237000 x237001 x238000 x238001 x245000 x245001))))
def standstilllaw08_next.j2 : Nat → List Int → Int → Int → Bool → Int → List (S45) → Int → List Int → Int → List Int → Option (Int × List Int × Bool × Bool)
 | 0, _, _, _, _, _, _, _, _, _, _ => none
 | k + 1, x2, x15, x17, x98, x237000, x237001, x238000, x238001, x245000, x245001 => if x98 = true then (none) else (if 0 ≤ x238000 then (if x238000 < (x2.length : Int) then ((counter_Until.f k x237000 x237001 (rd x2 x238000) (([x15, 0] : List Int)) x2 (wrap64 (100 + (wrap64 (100 * (mx x15 x17)))))).bind fun bt255 => (if bt255.2.2.2 = 0 then (if bt255.2.2.1 ≤ (wrap64 (100 + (wrap64 (100 * (mx x15 x17))))) then (if 0 ≤ x245000 then (if x245000 < (x2.length : Int) then ((standstillref06_SameCount.f k bt255.1 bt255.2.1 (rd x2 x245000) (([x17, 0] : List Int))).bind fun t266 => (some (x245000, x245001, false, t266))) else (none)) else (none)) else (none)) else (none))) else (none)) else (none))
end
def standstilllaw08_next.f (k : Nat) (a0_0 : Int) (l0_1 : List (S45)) (a1_0 : Int) (l1_1 : List (S45)) (l2 : List Int) (a3_0 : Int) (l3_1 : List Int) (a4 : Int) : Option (Int × List Int × Bool × Bool) := (counter_Step.f k a0_0 l0_1 a3_0 l3_1).bind fun bt239 => (if bt239.2.2 = 0 then ((standstillref08_Contents.f k l3_1).bind fun t245 => (if t245 = true then ((standstillref08_Contents.f k bt239.2.1).bind fun t246 => (standstilllaw08_next.j0 k l2 a4 (!t246) a1_0 l1_1 a3_0 l3_1 bt239.1 bt239.2.1)) else (standstilllaw08_next.j0 k l2 a4 true a1_0 l1_1 a3_0 l3_1 bt239.1 bt239.2.1))) else (if bt239.2.2 = 5 then (some (a3_0, l3_1, true, true)) else (some (a3_0, l3_1, true, (bt239.2.2 == 4)))))
theorem standstilllaw08_next.mono_l : ∀ k, (∀ y0 y1 y2 y3 y4 y5 y6 y7 y8, LeO (standstilllaw08_next.j0 k y0 y1 y2 y3 y4 y5 y6 y7 y8) (standstilllaw08_next.j0 (k + 1) y0 y1 y2 y3 y4 y5 y6 y7 y8)) ∧ (∀ y0 y1 y2 y3 y4 y5 y6 y7 y8 y9, LeO (standstilllaw08_next.j1 k y0 y1 y2 y3 y4 y5 y6 y7 y8 y9) (standstilllaw08_next.j1 (k + 1) y0 y1 y2 y3 y4 y5 y6 y7 y8 y9)) ∧ (∀ y0 y1 y2 y3 y4 y5 y6 y7 y8 y9, LeO (standstilllaw08_next.j2 k y0 y1 y2 y3 y4 y5 y6 y7 y8 y9) (standstilllaw08_next.j2 (k + 1) y0 y1 y2 y3 y4 y5 y6 y7 y8 y9))
 | 0 => ⟨fun _ _ _ _ _ _ _ _ _ r h => by simp [standstilllaw08_next.j0] at h, fun _ _ _ _ _ _ _ _ _ _ r h => by simp [standstilllaw08_next.j1] at h, fun _ _ _ _ _ _ _ _ _ _ r h => by simp [standstilllaw08_next.j2] at h⟩
 | k + 1 => by
  obtain ⟨ih0, ih1, ih2⟩ := standstilllaw08_next.mono_l k
  refine ⟨?_, ?_, ?_⟩
  ·intro y0 y1 y2 y3 y4 y5 y6 y7 y8
   unfold standstilllaw08_next.j0
   repeat' first
   | (with_reducible exact ih0 _ _ _ _ _ _ _ _ _)
   | (with_reducible exact ih1 _ _ _ _ _ _ _ _ _ _)
   | (with_reducible exact ih2 _ _ _ _ _ _ _ _ _ _)
   | (with_reducible exact counter_Step.mono _ _ _ _ _)
   | (with_reducible exact counter_Until.mono _ _ _ _ _ _ _)
   | (with_reducible exact standstillref06_SameCount.mono _ _ _ _ _)
   | (with_reducible exact standstillref08_Contents.mono _ _)
   | (with_reducible exact standstillref08_Encode.mono _ _)
   | (with_reducible exact LeO.refl _)
   | (with_reducible exact LeO.none _)
   | (with_reducible refine LeO.ite ?_ ?_)
   | (with_reducible refine LeO.bind ?_ (fun _ => ?_))
   | exact ih0 _ _ _ _ _ _ _ _ _
   | exact ih1 _ _ _ _ _ _ _ _ _ _
   | exact ih2 _ _ _ _ _ _ _ _ _ _
   | exact counter_Step.mono _ _ _ _ _
   | exact counter_Until.mono _ _ _ _ _ _ _
   | exact standstillref06_SameCount.mono _ _ _ _ _
   | exact standstillref08_Contents.mono _ _
   | exact standstillref08_Encode.mono _ _
   | exact LeO.none _
   | refine LeO.ite ?_ ?_
   | refine LeO.bind ?_ (fun _ => ?_)
  ·intro y0 y1 y2 y3 y4 y5 y6 y7 y8 y9
   unfold standstilllaw08_next.j1
   repeat' first
   | (with_reducible exact ih0 _ _ _ _ _ _ _ _ _)
   | (with_reducible exact ih1 _ _ _ _ _ _ _ _ _ _)
   | (with_reducible exact ih2 _ _ _ _ _ _ _ _ _ _)
   | (with_reducible exact counter_Step.mono _ _ _ _ _)
   | (with_reducible exact counter_Until.mono _ _ _ _ _ _ _)
   | (with_reducible exact standstillref06_SameCount.mono _ _ _ _ _)
   | (with_reducible exact standstillref08_Contents.mono _ _)
   | (with_reducible exact standstillref08_Encode.mono _ _)
   | (with_reducible exact LeO.refl _)
   | (with_reducible exact LeO.none _)
   | (with_reducible refine LeO.ite ?_ ?_)
   | (with_reducible refine LeO.bind ?_ (fun _ => ?_))
   | exact ih0 _ _ _ _ _ _ _ _ _
   | exact ih1 _ _ _ _ _ _ _ _ _ _
   | exact ih2 _ _ _ _ _ _ _ _ _ _
   | exact counter_Step.mono _ _ _ _ _
   | exact counter_Until.mono _ _ _ _ _ _ _
   | exact standstillref06_SameCount.mono _ _ _ _ _
   | exact standstillref08_Contents.mono _ _
   | exact standstillref08_Encode.mono _ _
   | exact LeO.none _
   | refine LeO.ite ?_ ?_
   | refine LeO.bind ?_ (fun _ => ?_)
  ·intro y0 y1 y2 y3 y4 y5 y6 y7 y8 y9
   unfold standstilllaw08_next.j2
   repeat' first
   | (with_reducible exact ih0 _ _ _ _ _ _ _ _ _)
   | (with_reducible exact ih1 _ _ _ _ _ _ _ _ _ _)
   | (with_reducible exact ih2 _ _ _ _ _ _ _ _ _ _)
   | (with_reducible exact counter_Step.mono _ _ _ _ _)
   | (with_reducible exact counter_Until.mono _ _ _ _ _ _ _)
   | (with_reducible exact standstillref06_SameCount.mono _ _ _ _ _)
   | (with_reducible exact standstillref08_Contents.mono _ _)
   | (with_reducible exact standstillref08_Encode.mono _ _)
   | (with_reducible exact LeO.refl _)
   | (with_reducible exact LeO.none _)
   | (with_reducible refine LeO.ite ?_ ?_)
   | (with_reducible refine LeO.bind ?_ (fun _ => ?_))
   | exact ih0 _ _ _ _ _ _ _ _ _
   | exact ih1 _ _ _ _ _ _ _ _ _ _
   | exact ih2 _ _ _ _ _ _ _ _ _ _
   | exact counter_Step.mono _ _ _ _ _
   | exact counter_Until.mono _ _ _ _ _ _ _
   | exact standstillref06_SameCount.mono _ _ _ _ _
   | exact standstillref08_Contents.mono _ _
   | exact standstillref08_Encode.mono _ _
   | exact LeO.none _
   | refine LeO.ite ?_ ?_
   | refine LeO.bind ?_ (fun _ => ?_)
theorem standstilllaw08_next.mono : ∀ a0 a1 a2 a3 a4 a5 a6 a7 k, LeO (standstilllaw08_next.f k a0 a1 a2 a3 a4 a5 a6 a7) (standstilllaw08_next.f (k + 1) a0 a1 a2 a3 a4 a5 a6 a7) := by
 intro a0 a1 a2 a3 a4 a5 a6 a7 k
 obtain ⟨ih0, ih1, ih2⟩ := standstilllaw08_next.mono_l k
 unfold standstilllaw08_next.f
 repeat' first
   | (with_reducible exact ih0 _ _ _ _ _ _ _ _ _)
   | (with_reducible exact ih1 _ _ _ _ _ _ _ _ _ _)
   | (with_reducible exact ih2 _ _ _ _ _ _ _ _ _ _)
   | (with_reducible exact counter_Step.mono _ _ _ _ _)
   | (with_reducible exact counter_Until.mono _ _ _ _ _ _ _)
   | (with_reducible exact standstillref06_SameCount.mono _ _ _ _ _)
   | (with_reducible exact standstillref08_Contents.mono _ _)
   | (with_reducible exact standstillref08_Encode.mono _ _)
   | (with_reducible exact LeO.refl _)
   | (with_reducible exact LeO.none _)
   | (with_reducible refine LeO.ite ?_ ?_)
   | (with_reducible refine LeO.bind ?_ (fun _ => ?_))
   | exact ih0 _ _ _ _ _ _ _ _ _
   | exact ih1 _ _ _ _ _ _ _ _ _ _
   | exact ih2 _ _ _ _ _ _ _ _ _ _
   | exact counter_Step.mono _ _ _ _ _
   | exact counter_Until.mono _ _ _ _ _ _ _
   | exact standstillref06_SameCount.mono _ _ _ _ _
   | exact standstillref08_Contents.mono _ _
   | exact standstillref08_Encode.mono _ _
   | exact LeO.none _
   | refine LeO.ite ?_ ?_
   | refine LeO.bind ?_ (fun _ => ?_)
def standstilllaw08_next.T12 : Bool × List (List Nat × List Nat) := (true, [([], []), ([], []), ([], []), ([2], [2]), ([1, 3], [1, 3]), ([4], [4]), ([], []), ([6], [6]), ([5, 7], [5, 7]), ([], []), ([], []), ([], []), ([10, 11], [10, 11]), ([12], [12]), ([13], [13]), ([0, 8, 9, 14], [0, 8, 9, 14]), ([15], [15]), ([16], [16]), ([16], [16]), ([16], [16]), ([], []), ([20, 17, 15, 0, 1, 2, 3, 4, 5, 6, 7, 8, 9, 10, 11, 12, 13, 14, 15, 16, 17, 20], [17, 20]), ([18, 21, 0, 1, 2, 3, 4, 5, 6, 7, 8, 9, 10, 11, 12, 13, 14, 15, 16, 17, 18, 20, 21], [18]), ([19, 22, 0, 1, 2, 3, 4, 5, 6, 7, 8, 9, 10, 11, 12, 13, 14, 15, 16, 17, 18, 19, 20, 21, 22], [19])])
def standstilllaw08_next.B12 : List Nat := [0, 0, 0, 4, 14, 30, 0, 64, 254, 0, 0, 0, 3072, 7168, 15360, 32767, 65535, 131071, 131071, 131071, 0, 1310719, 3670015, 8388607]
theorem standstilllaw08_next.tab12 : rtab .any (opsOf Try.f19 12) = standstilllaw08_next.T12 := by kernel_rfl
theorem standstilllaw08_next.bits12 : waitsOk standstilllaw08_next.T12.2 standstilllaw08_next.B12 = true := by kernel_rfl
def standstilllaw08_next.T13 : Bool × List (List Nat × List Nat) := (true, [([], []), ([], []), ([1], [1]), ([2], [2]), ([3], [3]), ([3], [3]), ([3], [3]), ([5, 6, 3], [3, 5, 6]), ([7, 3], [3, 7]), ([8, 3], [3, 8]), ([4, 9, 3], [3, 4, 9]), ([3, 10], [3, 10]), ([11, 3], [11]), ([12], [12]), ([12], [12]), ([12], [12]), ([15, 12], [12, 15]), ([14, 16, 12], [12, 14, 16]), ([17, 12], [12, 17]), ([12], [12]), ([19, 12], [12, 19]), ([18, 20, 12], [12, 18, 20]), ([13, 21, 12, 12], [12, 13, 21]), ([12, 22], [12, 22]), ([0, 22, 0], [0]), ([24, 0, 24], []), ([23, 25, 0, 1, 2, 3, 4, 5, 6, 7, 8, 9, 10, 11, 12, 13, 14, 15, 16, 17, 18, 19, 20, 21, 22, 23, 24, 25], [23])])
def standstilllaw08_next.B13 : List Nat := [0, 0, 2, 6, 14, 14, 14, 110, 238, 494, 1022, 2046, 4094, 8190, 8190, 8190, 40958, 122878, 253950, 8190, 532478, 2088958, 4194302, 8388606, 8388607, 25165823, 67108863]
theorem standstilllaw08_next.tab13 : rtab .any (opsOf Try.f19 13) = standstilllaw08_next.T13 := by kernel_rfl
theorem standstilllaw08_next.bits13 : waitsOk standstilllaw08_next.T13.2 standstilllaw08_next.B13 = true := by kernel_rfl
set_option maxHeartbeats 8000000 in
set_option maxRecDepth 100000 in
theorem standstilllaw08_next.calls (k : Nat) (a0_0 : Int) (A0_1 : Option Addr) (c0_1 : Nat) (l0_1 : List (S45)) (a1_0 : Int) (A1_1 : Option Addr) (c1_1 : Nat) (l1_1 : List (S45)) (A2 : Option Addr) (c2 : Nat) (l2 : List Int) (a3_0 : Int) (P3_1_ : Nat → Prop) (A3_1 : Option Addr) (c3_1 : Nat) (l3_1 : List Int) (a4 : Int) (r1 : Int) (r2 : List Int) (r3 : Bool) (r4 : Bool) (w : World) (hr0_1 : Kd.C k45 w A0_1 l0_1.length l0_1) (hc0_1 : l0_1.length ≤ c0_1) (hr1_1 : Kd.C k45 w A1_1 l1_1.length l1_1) (hc1_1 : l1_1.length ≤ c1_1) (hr2 : Kd.C (Kd.int .i64) w A2 l2.length l2) (hc2 : l2.length ≤ c2) (hs3_1 : Kd.V (Kd.int .i64) 3 w w.heap.size (fun k_ => P3_1_ k_) (.slice A3_1 l3_1.length c3_1) l3_1) (h : standstilllaw08_next.f k a0_0 l0_1 a1_0 l1_1 l2 a3_0 l3_1 a4 = some (r1, r2, r3, r4)) :
  Calls Try.prog 19 #[.agg #[.int .i64 a0_0, .slice A0_1 l0_1.length c0_1], .agg #[.int .i64 a1_0, .slice A1_1 l1_1.length c1_1], .slice A2 l2.length c2, .agg #[.int .i64 a3_0, .slice A3_1 l3_1.length c3_1], .int .i64 a4] w fun e w' => ∃ v1_ : Value, e = .returned (.tuple #[.agg #[.int .i64 r1, v1_], .bool r3, .bool r4]) ∧ Kd.V (Kd.int .i64) 3 w' w.heap.size (fun k_ => (P3_1_ k_ ∨ w.heap.size ≤ k_)) v1_ r2 ∧ Below w.heap.size w w' := by
 have hu38 := Try.underlying38
 have hu47 := Try.underlying47
 have HR0_1 := Aside0.mk hr0_1
 have HC0_1 := Aside0.mk hc0_1
 clear hr0_1 hc0_1
 have HR1_1 := Aside0.mk hr1_1
 have HC1_1 := Aside0.mk hc1_1
 clear hr1_1 hc1_1
 have HR2 := Aside0.mk hr2
 have HC2 := Aside0.mk hc2
 clear hr2 hc2
 have HO3_1 := A_ (show Kd.V (Kd.int .i64) 3 w w.heap.size (fun k_ => (P3_1_ k_ ∨ w.heap.size ≤ k_)) (.slice A3_1 l3_1.length c3_1) l3_1 from Kd.V_mono hs3_1 (fun k_ hk => .inl hk))
 have HB := A_ (Below.refl w.heap.size w)
 have H : ((counter_Step.f k a0_0 l0_1 a3_0 l3_1).bind fun bt239 => (if bt239.2.2 = 0 then ((standstillref08_Contents.f k l3_1).bind fun t245 => (if t245 = true then ((standstillref08_Contents.f k bt239.2.1).bind fun t246 => (standstilllaw08_next.j0 k l2 a4 (!t246) a1_0 l1_1 a3_0 l3_1 bt239.1 bt239.2.1)) else (standstilllaw08_next.j0 k l2 a4 true a1_0 l1_1 a3_0 l3_1 bt239.1 bt239.2.1))) else (if bt239.2.2 = 5 then (some (a3_0, l3_1, true, true)) else (some (a3_0, l3_1, true, (bt239.2.2 == 4)))))) = some (r1, r2, r3, r4) := h
 clear h
 replace H := Option.bind_eq_some_iff.mp H
 obtain ⟨⟨t239, t240, t243⟩, A60, H⟩ := H
 replace H : (if t243 = 0 then ((standstillref08_Contents.f k l3_1).bind fun t245 => (if t245 = true then ((standstillref08_Contents.f k t240).bind fun t246 => (standstilllaw08_next.j0 k l2 a4 (!t246) a1_0 l1_1 a3_0 l3_1 t239 t240)) else (standstilllaw08_next.j0 k l2 a4 true a1_0 l1_1 a3_0 l3_1 t239 t240))) else (if t243 = 5 then (some (a3_0, l3_1, true, true)) else (some (a3_0, l3_1, true, (t243 == 4))))) = some (r1, r2, r3, r4) := H
 have A6 := Aside0.mk A60
 clear A60
 by_cases c7 : t243 = 0
 ·rw [if_pos c7] at H
  have c7b0 : (t243 == 0) = true := beq_iff_eq.mpr c7
  have c7b1 : (t243 != 0) = false := bne_eq_false_iff_eq.mpr c7
  clear c7
  have HC8 := Aside0.mk H
  clear H
  go_enter Try.func19, Try.ntmps19
  go_upto_region 4 with (first | ((with_reducible refine gate_dst (N := 5) rfl ?_); (try (refine gate_guard (by rfl) ?_; dsimp only)); refine box_event ?hg (N := 5) ?hd (cs := #[.int .i64 a0_0, .slice A0_1 l0_1.length c0_1]) (t := 38) ?hr ?_; (case hd => rfl); (case hg => rfl); (case hr => first | (go_simp; done) | (go_simp; rfl)); intro gb235 hg w9 hbox hb; have n0_ := A_ (Kd.V_below (Kd.V_elderB (by (with_reducible repeat (first | apply Kd.V_alloc | apply Kd.V_drewN | apply Kd.V_drew)); exact HO3_1.out) gb235 (Nat.le_of_eq hg.symm)) hb); have n1_ := A_ (below_step (bk_ HB.out) hb); have n2_ := A_ (hbox); have n3_ := A_ (bz_ hg (bk_ HB.out)); have n4_ := A_ (bz_ hg (bk_ HB.out)); clear HO3_1 HB; have HO3_1 := n0_; have HB := n1_; have BK235 := n2_; have GW235 := n3_; have GE235 := n4_; clear n0_ n1_ n2_ n3_ n4_ hb hbox hg) | ((with_reducible refine gate_dst (N := 6) rfl ?_); (try (refine gate_guard (by rfl) ?_; dsimp only)); refine box_event ?hg (N := 6) ?hd (cs := #[.int .i64 a1_0, .slice A1_1 l1_1.length c1_1]) (t := 38) ?hr ?_; (case hd => rfl); (case hg => rfl); (case hr => first | (go_simp; done) | (go_simp; rfl)); intro gb236 hg w10 hbox hb; have n0_ := A_ (Kd.V_below (Kd.V_elderB (by (with_reducible repeat (first | apply Kd.V_alloc | apply Kd.V_drewN | apply Kd.V_drew)); exact HO3_1.out) gb236 (Nat.le_of_eq hg.symm)) hb); have n1_ := A_ (blk_below (pk_ BK235.out) hb); have n2_ := A_ (below_step (bk_ HB.out) hb); have n3_ := A_ (hbox); have n4_ := A_ (bz_ hg (bk_ HB.out)); have n5_ := A_ (bz_ hg (bk_ HB.out)); have n6_ := A_ (nl_ hg (pk_ BK235.out)); have n7_ := A_ (ng_ hg (pk_ BK235.out)); clear HO3_1 BK235 HB; have HO3_1 := n0_; have BK235 := n1_; have HB := n2_; have BK236 := n3_; have GW236 := n4_; have GE236 := n5_; have NB235_236 := n6_; have NB236_235 := n7_; clear n0_ n1_ n2_ n3_ n4_ n5_ n6_ n7_ hb hbox hg) | ((with_reducible refine gate_dst (N := 8) rfl ?_); (try (refine gate_guard (by rfl) ?_; dsimp only)); refine box_event ?hg (N := 8) ?hd (cs := #[.int .i64 a3_0, .slice A3_1 l3_1.length c3_1]) (t := 47) ?hr ?_; (case hd => rfl); (case hg => rfl); (case hr => first | (go_simp; done) | (go_simp; rfl)); intro gb237 hg w11 hbox hb; have n0_ := A_ (Kd.V_below (Kd.V_elderB (by (with_reducible repeat (first | apply Kd.V_alloc | apply Kd.V_drewN | apply Kd.V_drew)); exact HO3_1.out) gb237 (Nat.le_of_eq hg.symm)) hb); have n1_ := A_ (blk_below (pk_ BK235.out) hb); have n2_ := A_ (blk_below (pk_ BK236.out) hb); have n3_ := A_ (below_step (bk_ HB.out) hb); have n4_ := A_ (hbox); have n5_ := A_ (bz_ hg (bk_ HB.out)); have n6_ := A_ (bz_ hg (bk_ HB.out)); have n7_ := A_ (nl_ hg (pk_ BK235.out)); have n8_ := A_ (ng_ hg (pk_ BK235.out)); have n9_ := A_ (nl_ hg (pk_ BK236.out)); have n10_ := A_ (ng_ hg (pk_ BK236.out)); clear HO3_1 BK235 BK236 HB; have HO3_1 := n0_; have BK235 := n1_; have BK236 := n2_; have HB := n3_; have BK237 := n4_; have GW237 := n5_; have GE237 := n6_; have NB235_237 := n7_; have NB237_235 := n8_; have NB236_237 := n9_; have NB237_236 := n10_; clear n0_ n1_ n2_ n3_ n4_ n5_ n6_ n7_ n8_ n9_ n10_ hb hbox hg) | ((with_reducible refine gate_dst (N := 10) rfl ?_); (try (refine gate_guard (by rfl) ?_; dsimp only)); refine box_event ?hg (N := 10) ?hd (cs := #[.int .i64 0, .slice none 0 0]) (t := 47) ?hr ?_; (case hd => rfl); (case hg => rfl); (case hr => first | (go_simp; done) | (go_simp; rfl)); intro gb238 hg w12 hbox hb; have n0_ := A_ (Kd.V_below (Kd.V_elderB (by (with_reducible repeat (first | apply Kd.V_alloc | apply Kd.V_drewN | apply Kd.V_drew)); exact HO3_1.out) gb238 (Nat.le_of_eq hg.symm)) hb); have n1_ := A_ (blk_below (pk_ BK235.out) hb); have n2_ := A_ (blk_below (pk_ BK236.out) hb); have n3_ := A_ (blk_below (pk_ BK237.out) hb); have n4_ := A_ (below_step (bk_ HB.out) hb); have n5_ := A_ (hbox); have n6_ := A_ (bz_ hg (bk_ HB.out)); have n7_ := A_ (bz_ hg (bk_ HB.out)); have n8_ := A_ (nl_ hg (pk_ BK235.out)); have n9_ := A_ (ng_ hg (pk_ BK235.out)); have n10_ := A_ (nl_ hg (pk_ BK236.out)); have n11_ := A_ (ng_ hg (pk_ BK236.out)); have n12_ := A_ (nl_ hg (pk_ BK237.out)); have n13_ := A_ (ng_ hg (pk_ BK237.out)); clear HO3_1 BK235 BK236 BK237 HB; have HO3_1 := n0_; have BK235 := n1_; have BK236 := n2_; have BK237 := n3_; have HB := n4_; have BK238 := n5_; have GW238 := n6_; have GE238 := n7_; have NB235_238 := n8_; have NB238_235 := n9_; have NB236_238 := n10_; have NB238_236 := n11_; have NB237_238 := n12_; have NB238_237 := n13_; clear n0_ n1_ n2_ n3_ n4_ n5_ n6_ n7_ n8_ n9_ n10_ n11_ n12_ n13_ hb hbox hg; have hnb13 := NB235_236.out; have hnc13 := NB236_235.out; have hnb14 := NB235_237.out; have hnc14 := NB237_235.out; have hnb15 := NB235_238.out; have hnc15 := NB238_235.out; obtain ⟨hcz16_0, hcz16_1⟩ := bc2_ BK235.out; have hfz16_0 := blk_frozen BK235.out 0; have hfz16_1 := blk_frozen BK235.out 1; have hnb17 := NB237_236.out; have hnc17 := NB236_237.out; have hnb18 := NB237_238.out; have hnc18 := NB238_237.out; obtain ⟨hcz19_0, hcz19_1⟩ := bc2_ BK237.out; have hfz19_0 := blk_frozen BK237.out 0; have hfz19_1 := blk_frozen BK237.out 1) | ((with_reducible refine gate_callee (f := 31) rfl ?_); refine goesL_ (some 25) rfl rfl Try.func31 (by kernel_rfl) rfl #[.agg #[.int .i64 a0_0, .slice A0_1 l0_1.length c0_1], .agg #[.int .i64 a3_0, .slice A3_1 l3_1.length c3_1]] rfl gl_ ?_; (with_reducible refine (counter_Step.calls k a0_0 _ _ l0_1 a3_0 _ _ l3_1 t239 t240 t243 _ ?side1 ?side2 ?side3 ?side4 A6.out).mono ?_); (case side1 => exact ck_ (Kd.C_below HR0_1.out HB.out)); (case side2 => exact HC0_1.out); (case side3 => repeat (first | exact (Kd.V_reads' HO3_1.out).2.2 | (with_reducible refine Kd.C_alloc ?_ _) | (with_reducible refine Kd.C_drewN ?_ _) | (with_reducible refine Kd.C_drew ?_))); (case side4 => exact (Kd.V_reads' HO3_1.out).2.1); rintro e w20 ⟨v241, rfl, ho0, hb⟩; refine ⟨_, rfl, ?_⟩; have n0_ := A_ (Kd.V_elder' (by (with_reducible repeat (first | apply Kd.V_alloc | apply Kd.V_drewN | apply Kd.V_drew)); exact HO3_1.out) (Kd.R_base ho0) hb); have n1_ := A_ (Kd.R_lower (Kd.R_newM (M := fun k_ => (w.heap.size ≤ k_)) ho0 (below_size (bk_ HB.out)) (fun k_ h_ => h_)) (below_size (bk_ HB.out))); have n2_ := A_ (blk_below (pk_ BK235.out) hb); have n3_ := A_ (blk_below (pk_ BK236.out) hb); have n4_ := A_ (blk_below (pk_ BK237.out) hb); have n5_ := A_ (blk_below (pk_ BK238.out) hb); have n6_ := A_ (below_step (bk_ HB.out) hb); clear HO3_1 BK235 BK236 BK237 BK238 HB; have HO3_1 := n0_; have HO242 := n1_; have BK235 := n2_; have BK236 := n3_; have BK237 := n4_; have BK238 := n5_; have HB := n6_; clear n0_ n1_ n2_ n3_ n4_ n5_ n6_; (try clear hb); (try clear hb2); (try clear hk); (try clear hi); (try clear ho0)) | ((with_reducible refine gate_dst (N := 13) rfl ?_); (try (refine gate_guard (by rfl) ?_; dsimp only)); refine box_event ?hg (N := 13) ?hd (cs := #[.int .i64 0, .slice none 0 0]) (t := 47) ?hr ?_; (case hd => rfl); (case hg => rfl); (case hr => first | (go_simp; done) | (go_simp; rfl)); intro gb244 hg w21 hbox hb; have n0_ := A_ (Kd.V_below (Kd.V_elderB (by (with_reducible repeat (first | apply Kd.V_alloc | apply Kd.V_drewN | apply Kd.V_drew)); exact HO3_1.out) gb244 (Nat.le_of_eq hg.symm)) hb); have n1_ := A_ (Kd.R_below (rk_ HO242.out) hb); have n2_ := A_ (blk_below (pk_ BK235.out) hb); have n3_ := A_ (blk_below (pk_ BK236.out) hb); have n4_ := A_ (blk_below (pk_ BK237.out) hb); have n5_ := A_ (blk_below (pk_ BK238.out) hb); have n6_ := A_ (below_step (bk_ HB.out) hb); have n7_ := A_ (hbox); have n8_ := A_ (bz_ hg (bk_ HB.out)); have n9_ := A_ (bz_ hg (bk_ HB.out)); have n10_ := A_ (nl_ hg (pk_ BK235.out)); have n11_ := A_ (ng_ hg (pk_ BK235.out)); have n12_ := A_ (nl_ hg (pk_ BK236.out)); have n13_ := A_ (ng_ hg (pk_ BK236.out)); have n14_ := A_ (nl_ hg (pk_ BK237.out)); have n15_ := A_ (ng_ hg (pk_ BK237.out)); have n16_ := A_ (nl_ hg (pk_ BK238.out)); have n17_ := A_ (ng_ hg (pk_ BK238.out)); clear HO3_1 HO242 BK235 BK236 BK237 BK238 HB; have HO3_1 := n0_; have HO242 := n1_; have BK235 := n2_; have BK236 := n3_; have BK237 := n4_; have BK238 := n5_; have HB := n6_; have BK244 := n7_; have GW244 := n8_; have GE244 := n9_; have NB235_244 := n10_; have NB244_235 := n11_; have NB236_244 := n12_; have NB244_236 := n13_; have NB237_244 := n14_; have NB244_237 := n15_; have NB238_244 := n16_; have NB244_238 := n17_; clear n0_ n1_ n2_ n3_ n4_ n5_ n6_ n7_ n8_ n9_ n10_ n11_ n12_ n13_ n14_ n15_ n16_ n17_ hb hbox hg; have hnb22 := NB244_235.out; have hnc22 := NB235_244.out; have hnb23 := NB244_236.out; have hnc23 := NB236_244.out; have hnb24 := NB244_237.out; have hnc24 := NB237_244.out; have hnb25 := NB244_238.out; have hnc25 := NB238_244.out; obtain ⟨hcz26_0, hcz26_1⟩ := bc2_ BK244.out; have hfz26_0 := blk_frozen BK244.out 0; have hfz26_1 := blk_frozen BK244.out 1; obtain ⟨Ao27, co27, eo27⟩ := Kd.R_slice HO242.out; subst eo27))
  (try simp only [Act.put, List.setIfInBounds_toArray, List.set_cons_zero, List.set_cons_succ])
  go_cut [46] (fun v46 wc => ∃ (kq : Nat) (x46_7 : Bool), v46 = .bool x46_7 ∧ Aside0 (standstilllaw08_next.j0 kq l2 a4 x46_7 a1_0 l1_1 a3_0 l3_1 t239 t240 = some (r1, r2, r3, r4)) ∧ Aside0 (kq ≤ k) ∧ Aside0 (Kd.V (Kd.int .i64) 3 wc w.heap.size (fun k_ => (P3_1_ k_ ∨ w.heap.size ≤ k_) ∧ some k_ ≠ ((.slice Ao27 t240.length co27) : Value).ownBlock ∧ k_ ≠ gb235 ∧ k_ ≠ gb236 ∧ k_ ≠ gb237 ∧ k_ ≠ gb238 ∧ k_ ≠ gb244) (.slice A3_1 l3_1.length c3_1) l3_1) ∧ Aside0 (Kd.R (Kd.int .i64) 3 wc w.heap.size (fun k_ => (w.heap.size ≤ k_)) (.slice Ao27 t240.length co27) t240) ∧ Aside0 (wc.heap[gb235]? = some (.cells #[.int .i64 a0_0, (.slice A0_1 l0_1.length c0_1)] 38 (0, 0))) ∧ Aside0 (wc.heap[gb236]? = some (.cells #[.int .i64 a1_0, (.slice A1_1 l1_1.length c1_1)] 38 (0, 0))) ∧ Aside0 (wc.heap[gb237]? = some (.cells #[.int .i64 a3_0, (.slice A3_1 l3_1.length c3_1)] 47 (0, 0))) ∧ Aside0 (wc.heap[gb238]? = some (.cells #[.int .i64 0, (.slice none 0 0)] 47 (0, 0))) ∧ Aside0 (wc.heap[gb244]? = some (.cells #[.int .i64 t239, (.slice Ao27 t240.length co27)] 47 (0, 0))) ∧ Aside0 (Below w.heap.size w wc))
  case first => as_aux_lemma =>
   have H := HC8.out
   clear HC8
   replace H := Option.bind_eq_some_iff.mp H
   obtain ⟨t245, A280, H⟩ := H
   replace H : (if t245 = true then ((standstillref08_Contents.f k t240).bind fun t246 => (standstilllaw08_next.j0 k l2 a4 (!t246) a1_0 l1_1 a3_0 l3_1 t239 t240)) else (standstilllaw08_next.j0 k l2 a4 true a1_0 l1_1 a3_0 l3_1 t239 t240)) = some (r1, r2, r3, r4) := H
   have A28 := Aside0.mk A280
   clear A280
   by_cases c29 : t245 = true
   ·subst c29
    have H1 : ((standstillref08_Contents.f k t240).bind fun t246 => (standstilllaw08_next.j0 k l2 a4 (!t246) a1_0 l1_1 a3_0 l3_1 t239 t240)) = some (r1, r2, r3, r4) := by rw [if_pos rfl] at H; exact H
    clear H
    have H := H1
    clear H1
    replace H := Option.bind_eq_some_iff.mp H
    obtain ⟨t246, A300, H⟩ := H
    replace H : (standstilllaw08_next.j0 k l2 a4 (!t246) a1_0 l1_1 a3_0 l3_1 t239 t240) = some (r1, r2, r3, r4) := H
    have A30 := Aside0.mk A300
    clear A300
    have H' := Aside0.mk H
    clear H
    have hnb31 := NB237_235.out
    have hnc31 := NB235_237.out
    have hnb32 := NB237_236.out
    have hnc32 := NB236_237.out
    have hnb33 := NB237_238.out
    have hnc33 := NB238_237.out
    have hnb34 := NB237_244.out
    have hnc34 := NB244_237.out
    obtain ⟨hcz35_0, hcz35_1⟩ := bc2_ BK237.out
    have hfz35_0 := blk_frozen BK237.out 0
    have hfz35_1 := blk_frozen BK237.out 1
    go_wp2_with (first | ((with_reducible refine gate_callee (f := 12) rfl ?_); refine goesL_ (some 39) rfl rfl Try.func12 (by kernel_rfl) rfl #[.slice A3_1 l3_1.length c3_1] rfl gl_ ?_; (with_reducible refine (standstillref08_Contents.calls k _ _ l3_1 true _ ?side1 ?side2 A28.out).mono ?_); (case side1 => refine (Kd.V_reads' (e := 3) (base := w.heap.size) (ok := fun k_ => (((((((P3_1_ k_ ∨ w.heap.size ≤ k_) ∧ k_ ≠ gb235) ∧ k_ ≠ gb236) ∧ k_ ≠ gb237) ∧ k_ ≠ gb238) ∧ some k_ ≠ (.slice Ao27 t240.length co27 : Value).ownBlock) ∧ k_ ≠ gb244)) (n := l3_1.length) (c := c3_1) ?_).2.2; exact (by (with_reducible repeat (first | apply Kd.V_alloc | apply Kd.V_drewN | apply Kd.V_drew)); exact (Kd.V_mono (Kd.V_far (p := ⟨gb244, 1, none⟩) (Kd.V_far (p := ⟨gb244, 0, none⟩) (Kd.V_mono HO3_1.out (fun k_ hk => (⟨hk, hk.2⟩ : _ ∧ k_ ≠ gb244))) (fun _ hk => hk.2) (.int .i64 t239)) (fun _ hk => hk.2) (.slice Ao27 t240.length co27)) (fun _ h_ => h_.1)))); (case side2 => exact (Kd.V_reads' HO3_1.out).2.1); rintro e w' ⟨rfl, ⟨nd, rfl⟩⟩; refine ⟨_, rfl, ?_⟩; have hnb36 := NB244_235.out; have hnc36 := NB235_244.out; have hnb37 := NB244_236.out; have hnc37 := NB236_244.out; have hnb38 := NB244_238.out; have hnc38 := NB238_244.out; obtain ⟨hcz39_0, hcz39_1⟩ := bc2_ BK244.out; have hfz39_0 := blk_frozen BK244.out 0; have hfz39_1 := blk_frozen BK244.out 1) | (go_at_call 12; (with_reducible refine (standstillref08_Contents.calls k _ _ t240 t246 _ ?side1 ?side2 A30.out).mono ?_); (case side1 => refine (Kd.R_reads' (e := 3) (base := w.heap.size) (ok := fun k_ => ((w.heap.size ≤ k_) ∧ True)) (n := t240.length) (c := co27) ?_).2.2; exact (rz_ HO242.out BK244.out)); (case side2 => exact (Kd.R_reads' HO242.out).2.1); rintro e w' ⟨rfl, ⟨nd, rfl⟩⟩))
    go_meet
    case rel => exact ⟨_, (!t246), jr_, H', ⟨by first | omega | exact Nat.le_refl _⟩, ⟨by (with_reducible repeat (first | apply Kd.V_alloc | apply Kd.V_drewN | apply Kd.V_drew)); exact Kd.V_mono (Kd.V_far (p := ⟨gb244, 1, none⟩) (Kd.V_far (p := ⟨gb244, 0, none⟩) (Kd.V_mono HO3_1.out (fun k_ hk => (⟨hk, hk.2⟩ : _ ∧ k_ ≠ gb244))) (fun _ hk => hk.2) (.int .i64 t239)) (fun _ hk => hk.2) (.slice Ao27 t240.length co27)) (fun _ hk => ⟨hk.1.1.1.1.1.1.1, ⟨hk.1.1.2, ⟨hk.1.1.1.1.1.1.2, ⟨hk.1.1.1.1.1.2, ⟨hk.1.1.1.1.2, ⟨hk.1.1.1.2, hk.1.2⟩⟩⟩⟩⟩⟩)⟩, ⟨by (with_reducible repeat (first | apply Kd.R_alloc | apply Kd.R_drewN | apply Kd.R_drew)); exact Kd.R_mono (rf2_ (Kd.R_types HO242.out BK244.out (by decide))) (fun _ hk => hk.1.1)⟩, ⟨by (iterate 2 (refine pk_ ?_; refine blk_far ?_ NB235_244.out _)); exact pk_ BK235.out⟩, ⟨by (iterate 2 (refine pk_ ?_; refine blk_far ?_ NB236_244.out _)); exact pk_ BK236.out⟩, ⟨by (iterate 2 (refine pk_ ?_; refine blk_far ?_ NB237_244.out _)); exact pk_ BK237.out⟩, ⟨by (iterate 2 (refine pk_ ?_; refine blk_far ?_ NB238_244.out _)); exact pk_ BK238.out⟩, ⟨by refine pk_ ?_; refine blk_put (cs := #[.int .i64 t239, .slice none 0 0]) ?_ 1 _ rfl; refine pk_ ?_; refine blk_put (cs := #[.int .i64 0, .slice none 0 0]) ?_ 0 _ rfl; exact pk_ BK244.out⟩, ⟨bk_ HB.out⟩⟩
   ·replace c29 := Bool.eq_false_iff.mpr c29
    subst c29
    have H1 : (standstilllaw08_next.j0 k l2 a4 true a1_0 l1_1 a3_0 l3_1 t239 t240) = some (r1, r2, r3, r4) := by rw [if_neg (show ¬ (false = true) by decide)] at H; exact H
    clear H
    have H := H1
    clear H1
    have H' := Aside0.mk H
    clear H
    have hnb40 := NB237_235.out
    have hnc40 := NB235_237.out
    have hnb41 := NB237_236.out
    have hnc41 := NB236_237.out
    have hnb42 := NB237_238.out
    have hnc42 := NB238_237.out
    have hnb43 := NB237_244.out
    have hnc43 := NB244_237.out
    obtain ⟨hcz44_0, hcz44_1⟩ := bc2_ BK237.out
    have hfz44_0 := blk_frozen BK237.out 0
    have hfz44_1 := blk_frozen BK237.out 1
    go_wp2_with (first | ((with_reducible refine gate_callee (f := 12) rfl ?_); refine goesL_ (some 39) rfl rfl Try.func12 (by kernel_rfl) rfl #[.slice A3_1 l3_1.length c3_1] rfl gl_ ?_; (with_reducible refine (standstillref08_Contents.calls k _ _ l3_1 false _ ?side1 ?side2 A28.out).mono ?_); (case side1 => refine (Kd.V_reads' (e := 3) (base := w.heap.size) (ok := fun k_ => (((((((P3_1_ k_ ∨ w.heap.size ≤ k_) ∧ k_ ≠ gb235) ∧ k_ ≠ gb236) ∧ k_ ≠ gb237) ∧ k_ ≠ gb238) ∧ some k_ ≠ (.slice Ao27 t240.length co27 : Value).ownBlock) ∧ k_ ≠ gb244)) (n := l3_1.length) (c := c3_1) ?_).2.2; exact (by (with_reducible repeat (first | apply Kd.V_alloc | apply Kd.V_drewN | apply Kd.V_drew)); exact (Kd.V_mono (Kd.V_far (p := ⟨gb244, 1, none⟩) (Kd.V_far (p := ⟨gb244, 0, none⟩) (Kd.V_mono HO3_1.out (fun k_ hk => (⟨hk, hk.2⟩ : _ ∧ k_ ≠ gb244))) (fun _ hk => hk.2) (.int .i64 t239)) (fun _ hk => hk.2) (.slice Ao27 t240.length co27)) (fun _ h_ => h_.1)))); (case side2 => exact (Kd.V_reads' HO3_1.out).2.1); rintro e w' ⟨rfl, ⟨nd, rfl⟩⟩; refine ⟨_, rfl, ?_⟩))
    go_meet
    case rel => exact ⟨_, (true), jr_, H', ⟨by first | omega | exact Nat.le_refl _⟩, ⟨by (with_reducible repeat (first | apply Kd.V_alloc | apply Kd.V_drewN | apply Kd.V_drew)); exact Kd.V_mono (Kd.V_far (p := ⟨gb244, 1, none⟩) (Kd.V_far (p := ⟨gb244, 0, none⟩) (Kd.V_mono HO3_1.out (fun k_ hk => (⟨hk, hk.2⟩ : _ ∧ k_ ≠ gb244))) (fun _ hk => hk.2) (.int .i64 t239)) (fun _ hk => hk.2) (.slice Ao27 t240.length co27)) (fun _ hk => ⟨hk.1.1.1.1.1.1.1, ⟨hk.1.1.2, ⟨hk.1.1.1.1.1.1.2, ⟨hk.1.1.1.1.1.2, ⟨hk.1.1.1.1.2, ⟨hk.1.1.1.2, hk.1.2⟩⟩⟩⟩⟩⟩)⟩, ⟨by (with_reducible repeat (first | apply Kd.R_alloc | apply Kd.R_drewN | apply Kd.R_drew)); exact Kd.R_mono (rf2_ (Kd.R_types HO242.out BK244.out (by decide))) (fun _ hk => hk.1.1)⟩, ⟨by (iterate 2 (refine pk_ ?_; refine blk_far ?_ NB235_244.out _)); exact pk_ BK235.out⟩, ⟨by (iterate 2 (refine pk_ ?_; refine blk_far ?_ NB236_244.out _)); exact pk_ BK236.out⟩, ⟨by (iterate 2 (refine pk_ ?_; refine blk_far ?_ NB237_244.out _)); exact pk_ BK237.out⟩, ⟨by (iterate 2 (refine pk_ ?_; refine blk_far ?_ NB238_244.out _)); exact pk_ BK238.out⟩, ⟨by refine pk_ ?_; refine blk_put (cs := #[.int .i64 t239, .slice none 0 0]) ?_ 1 _ rfl; refine pk_ ?_; refine blk_put (cs := #[.int .i64 0, .slice none 0 0]) ?_ 0 _ rfl; exact pk_ BK244.out⟩, ⟨bk_ HB.out⟩⟩
  case rest => as_aux_lemma =>
   clear HC8
   (try clear c2); (try clear c7); (try clear c7b0); (try clear c7b1); (try clear hcz16_0); (try clear hcz16_1); (try clear hcz19_0); (try clear hcz19_1); (try clear hcz26_0); (try clear hcz26_1); (try clear hfz16_0); (try clear hfz16_1); (try clear hfz19_0); (try clear hfz19_1); (try clear hfz26_0); (try clear hfz26_1)
   obtain ⟨kq, x46_7, rfl, HA, HJ7, HO_238001, HO_245001, BK235, BK236, BK237, BK238, BK244, HB⟩ := hcut
   cases kq with
   | zero => exact absurd HA.out (by simp [standstilllaw08_next.j0])
   | succ kj7 =>
    have H := HA.out
    clear HA
    simp only [standstilllaw08_next.j0] at H
    by_cases c45 : x46_7 = true
    ·subst c45
     have H1 : (none) = some (r1, r2, r3, r4) := by rw [if_pos rfl] at H; exact H
     clear H
     have H := H1
     clear H1
     exact absurd H (by simp)
    ·replace c45 := Bool.eq_false_iff.mpr c45
     subst c45
     have H1 : ((standstillref08_Encode.f kj7 l3_1).bind fun bt247 => ((standstillref08_Encode.f kj7 t240).bind fun bt249 => (if bt247.2 = true then (if bt249.2 = true then (if bt247.1 > a4 then (standstilllaw08_next.j1 kj7 l2 bt247.1 bt249.1 true a1_0 l1_1 a3_0 l3_1 t239 t240) else (standstilllaw08_next.j1 kj7 l2 bt247.1 bt249.1 (decide (bt249.1 > a4)) a1_0 l1_1 a3_0 l3_1 t239 t240)) else (standstilllaw08_next.j1 kj7 l2 bt247.1 bt249.1 true a1_0 l1_1 a3_0 l3_1 t239 t240)) else (standstilllaw08_next.j1 kj7 l2 bt247.1 bt249.1 true a1_0 l1_1 a3_0 l3_1 t239 t240)))) = some (r1, r2, r3, r4) := by rw [if_neg (show ¬ (false = true) by decide)] at H; exact H
     clear H
     have H := H1
     clear H1
     replace H := Option.bind_eq_some_iff.mp H
     obtain ⟨⟨t247, t248⟩, A460, H⟩ := H
     replace H : ((standstillref08_Encode.f kj7 t240).bind fun bt249 => (if t248 = true then (if bt249.2 = true then (if t247 > a4 then (standstilllaw08_next.j1 kj7 l2 t247 bt249.1 true a1_0 l1_1 a3_0 l3_1 t239 t240) else (standstilllaw08_next.j1 kj7 l2 t247 bt249.1 (decide (bt249.1 > a4)) a1_0 l1_1 a3_0 l3_1 t239 t240)) else (standstilllaw08_next.j1 kj7 l2 t247 bt249.1 true a1_0 l1_1 a3_0 l3_1 t239 t240)) else (standstilllaw08_next.j1 kj7 l2 t247 bt249.1 true a1_0 l1_1 a3_0 l3_1 t239 t240))) = some (r1, r2, r3, r4) := H
     have A46 := Aside0.mk A460
     clear A460
     replace H := Option.bind_eq_some_iff.mp H
     obtain ⟨⟨t249, t250⟩, A470, H⟩ := H
     replace H : (if t248 = true then (if t250 = true then (if t247 > a4 then (standstilllaw08_next.j1 kj7 l2 t247 t249 true a1_0 l1_1 a3_0 l3_1 t239 t240) else (standstilllaw08_next.j1 kj7 l2 t247 t249 (decide (t249 > a4)) a1_0 l1_1 a3_0 l3_1 t239 t240)) else (standstilllaw08_next.j1 kj7 l2 t247 t249 true a1_0 l1_1 a3_0 l3_1 t239 t240)) else (standstilllaw08_next.j1 kj7 l2 t247 t249 true a1_0 l1_1 a3_0 l3_1 t239 t240)) = some (r1, r2, r3, r4) := H
     have A47 := Aside0.mk A470
     clear A470
     have HC48 := Aside0.mk H
     clear H
     have hnb49 := NB237_235.out
     have hnc49 := NB235_237.out
     have hnb50 := NB237_236.out
     have hnc50 := NB236_237.out
     have hnb51 := NB237_238.out
     have hnc51 := NB238_237.out
     have hnb52 := NB237_244.out
     have hnc52 := NB244_237.out
     obtain ⟨hcz53_0, hcz53_1⟩ := bc2_ BK237.out
     have hfz53_0 := blk_frozen BK237.out 0
     have hfz53_1 := blk_frozen BK237.out 1
     go_upto_region 8 with (first | ((with_reducible refine gate_callee (f := 13) rfl ?_); refine goesL_ (some 51) rfl rfl Try.func13 (by kernel_rfl) rfl #[.slice A3_1 l3_1.length c3_1] rfl gl_ ?_; (with_reducible refine (standstillref08_Encode.calls kj7 _ _ l3_1 t247 t248 _ ?side1 ?side2 A46.out).mono ?_); (case side1 => repeat (first | exact (Kd.V_reads' HO_238001.out).2.2 | (with_reducible refine Kd.C_alloc ?_ _) | (with_reducible refine Kd.C_drewN ?_ _) | (with_reducible refine Kd.C_drew ?_))); (case side2 => exact (Kd.V_reads' HO_238001.out).2.1); rintro e w54 ⟨rfl, hb⟩; refine ⟨_, rfl, ?_⟩; have n0_ := A_ (Kd.V_below (by (with_reducible repeat (first | apply Kd.V_alloc | apply Kd.V_drewN | apply Kd.V_drew)); exact HO_238001.out) hb); have n1_ := A_ (Kd.R_below (rk_ HO_245001.out) hb); have n2_ := A_ (blk_below (pk_ BK235.out) hb); have n3_ := A_ (blk_below (pk_ BK236.out) hb); have n4_ := A_ (blk_below (pk_ BK237.out) hb); have n5_ := A_ (blk_below (pk_ BK238.out) hb); have n6_ := A_ (blk_below (pk_ BK244.out) hb); have n7_ := A_ (below_step (bk_ HB.out) hb); clear HO_238001 HO_245001 BK235 BK236 BK237 BK238 BK244 HB; have HO_238001 := n0_; have HO_245001 := n1_; have BK235 := n2_; have BK236 := n3_; have BK237 := n4_; have BK238 := n5_; have BK244 := n6_; have HB := n7_; clear n0_ n1_ n2_ n3_ n4_ n5_ n6_ n7_; (try clear hb); (try clear hb2); (try clear hk); (try clear hi); have hnb55 := NB244_235.out; have hnc55 := NB235_244.out; have hnb56 := NB244_236.out; have hnc56 := NB236_244.out; have hnb57 := NB244_238.out; have hnc57 := NB238_244.out; obtain ⟨hcz58_0, hcz58_1⟩ := bc2_ BK244.out; have hfz58_0 := blk_frozen BK244.out 0; have hfz58_1 := blk_frozen BK244.out 1) | ((with_reducible refine gate_callee (f := 13) rfl ?_); refine goesL_ (some 57) rfl rfl Try.func13 (by kernel_rfl) rfl #[.slice Ao27 t240.length co27] rfl gl_ ?_; (with_reducible refine (standstillref08_Encode.calls kj7 _ _ t240 t249 t250 _ ?side1 ?side2 A47.out).mono ?_); (case side1 => repeat (first | exact (Kd.R_reads' HO_245001.out).2.2 | (with_reducible refine Kd.C_alloc ?_ _) | (with_reducible refine Kd.C_drewN ?_ _) | (with_reducible refine Kd.C_drew ?_))); (case side2 => exact (Kd.R_reads' HO_245001.out).2.1); rintro e w59 ⟨rfl, hb⟩; refine ⟨_, rfl, ?_⟩; have n0_ := A_ (Kd.V_below (by (with_reducible repeat (first | apply Kd.V_alloc | apply Kd.V_drewN | apply Kd.V_drew)); exact HO_238001.out) hb); have n1_ := A_ (Kd.R_below (rk_ HO_245001.out) hb); have n2_ := A_ (blk_below (pk_ BK235.out) hb); have n3_ := A_ (blk_below (pk_ BK236.out) hb); have n4_ := A_ (blk_below (pk_ BK237.out) hb); have n5_ := A_ (blk_below (pk_ BK238.out) hb); have n6_ := A_ (blk_below (pk_ BK244.out) hb); have n7_ := A_ (below_step (bk_ HB.out) hb); clear HO_238001 HO_245001 BK235 BK236 BK237 BK238 BK244 HB; have HO_238001 := n0_; have HO_245001 := n1_; have BK235 := n2_; have BK236 := n3_; have BK237 := n4_; have BK238 := n5_; have BK244 := n6_; have HB := n7_; clear n0_ n1_ n2_ n3_ n4_ n5_ n6_ n7_; (try clear hb); (try clear hb2); (try clear hk); (try clear hi)))
     (try simp only [Act.put, List.setIfInBounds_toArray, List.set_cons_zero, List.set_cons_succ])
     go_cut [75] (fun v75 wc => ∃ (kq : Nat) (x75_47 : Bool), v75 = .bool x75_47 ∧ Aside0 (standstilllaw08_next.j1 kq l2 t247 t249 x75_47 a1_0 l1_1 a3_0 l3_1 t239 t240 = some (r1, r2, r3, r4)) ∧ Aside0 (kq ≤ kj7) ∧ Aside0 (Kd.V (Kd.int .i64) 3 wc w.heap.size (fun k_ => (P3_1_ k_ ∨ w.heap.size ≤ k_) ∧ some k_ ≠ ((.slice Ao27 t240.length co27) : Value).ownBlock ∧ k_ ≠ gb235 ∧ k_ ≠ gb236 ∧ k_ ≠ gb237 ∧ k_ ≠ gb238 ∧ k_ ≠ gb244) (.slice A3_1 l3_1.length c3_1) l3_1) ∧ Aside0 (Kd.R (Kd.int .i64) 3 wc w.heap.size (fun k_ => (w.heap.size ≤ k_)) (.slice Ao27 t240.length co27) t240) ∧ Aside0 (wc.heap[gb235]? = some (.cells #[.int .i64 a0_0, (.slice A0_1 l0_1.length c0_1)] 38 (0, 0))) ∧ Aside0 (wc.heap[gb236]? = some (.cells #[.int .i64 a1_0, (.slice A1_1 l1_1.length c1_1)] 38 (0, 0))) ∧ Aside0 (wc.heap[gb237]? = some (.cells #[.int .i64 a3_0, (.slice A3_1 l3_1.length c3_1)] 47 (0, 0))) ∧ Aside0 (wc.heap[gb238]? = some (.cells #[.int .i64 0, (.slice none 0 0)] 47 (0, 0))) ∧ Aside0 (wc.heap[gb244]? = some (.cells #[.int .i64 t239, (.slice Ao27 t240.length co27)] 47 (0, 0))) ∧ Aside0 (Below w.heap.size w wc))
     case first => as_aux_lemma =>
      have H := HC48.out
      clear HC48
      by_cases c60 : t248 = true
      ·subst c60
       have H1 : (if t250 = true then (if t247 > a4 then (standstilllaw08_next.j1 kj7 l2 t247 t249 true a1_0 l1_1 a3_0 l3_1 t239 t240) else (standstilllaw08_next.j1 kj7 l2 t247 t249 (decide (t249 > a4)) a1_0 l1_1 a3_0 l3_1 t239 t240)) else (standstilllaw08_next.j1 kj7 l2 t247 t249 true a1_0 l1_1 a3_0 l3_1 t239 t240)) = some (r1, r2, r3, r4) := by rw [if_pos rfl] at H; exact H
       clear H
       have H := H1
       clear H1
       by_cases c61 : t250 = true
       ·subst c61
        have H1 : (if t247 > a4 then (standstilllaw08_next.j1 kj7 l2 t247 t249 true a1_0 l1_1 a3_0 l3_1 t239 t240) else (standstilllaw08_next.j1 kj7 l2 t247 t249 (decide (t249 > a4)) a1_0 l1_1 a3_0 l3_1 t239 t240)) = some (r1, r2, r3, r4) := by rw [if_pos rfl] at H; exact H
        clear H
        have H := H1
        clear H1
        by_cases c62 : t247 > a4
        ·rw [if_pos c62] at H
         have c62b0 : decide (a4 < t247) = true := decide_eq_true c62
         clear c62
         (first | rw [c62b0] | (simp only [i64_w, i32_w]; rw [c62b0]) | skip)
         have H' := Aside0.mk H
         clear H
         go_wp2
         go_meet
         case rel => exact ⟨_, (true), jr_, H', ⟨by have := HJ7.out; first | omega | exact Nat.le_refl _⟩, ⟨by (with_reducible repeat (first | apply Kd.V_alloc | apply Kd.V_drewN | apply Kd.V_drew)); exact HO_238001.out⟩, ⟨rk_ HO_245001.out⟩, ⟨pk_ BK235.out⟩, ⟨pk_ BK236.out⟩, ⟨pk_ BK237.out⟩, ⟨pk_ BK238.out⟩, ⟨pk_ BK244.out⟩, ⟨bk_ HB.out⟩⟩
        ·rw [if_neg c62] at H
         have c62b0 : decide (a4 < t247) = false := decide_eq_false c62
         clear c62
         (first | rw [c62b0] | (simp only [i64_w, i32_w]; rw [c62b0]) | skip)
         have H' := Aside0.mk H
         clear H
         go_wp2
         go_meet
         case rel => exact ⟨_, (decide (t249 > a4)), jr_, H', ⟨by have := HJ7.out; first | omega | exact Nat.le_refl _⟩, ⟨by (with_reducible repeat (first | apply Kd.V_alloc | apply Kd.V_drewN | apply Kd.V_drew)); exact HO_238001.out⟩, ⟨rk_ HO_245001.out⟩, ⟨pk_ BK235.out⟩, ⟨pk_ BK236.out⟩, ⟨pk_ BK237.out⟩, ⟨pk_ BK238.out⟩, ⟨pk_ BK244.out⟩, ⟨bk_ HB.out⟩⟩
       ·replace c61 := Bool.eq_false_iff.mpr c61
        subst c61
        have H1 : (standstilllaw08_next.j1 kj7 l2 t247 t249 true a1_0 l1_1 a3_0 l3_1 t239 t240) = some (r1, r2, r3, r4) := by rw [if_neg (show ¬ (false = true) by decide)] at H; exact H
        clear H
        have H := H1
        clear H1
        have H' := Aside0.mk H
        clear H
        go_wp2
        go_meet
        case rel => exact ⟨_, (true), jr_, H', ⟨by have := HJ7.out; first | omega | exact Nat.le_refl _⟩, ⟨by (with_reducible repeat (first | apply Kd.V_alloc | apply Kd.V_drewN | apply Kd.V_drew)); exact HO_238001.out⟩, ⟨rk_ HO_245001.out⟩, ⟨pk_ BK235.out⟩, ⟨pk_ BK236.out⟩, ⟨pk_ BK237.out⟩, ⟨pk_ BK238.out⟩, ⟨pk_ BK244.out⟩, ⟨bk_ HB.out⟩⟩
      ·replace c60 := Bool.eq_false_iff.mpr c60
       subst c60
       have H1 : (standstilllaw08_next.j1 kj7 l2 t247 t249 true a1_0 l1_1 a3_0 l3_1 t239 t240) = some (r1, r2, r3, r4) := by rw [if_neg (show ¬ (false = true) by decide)] at H; exact H
       clear H
       have H := H1
       clear H1
       have H' := Aside0.mk H
       clear H
       go_wp2
       go_meet
       case rel => exact ⟨_, (true), jr_, H', ⟨by have := HJ7.out; first | omega | exact Nat.le_refl _⟩, ⟨by (with_reducible repeat (first | apply Kd.V_alloc | apply Kd.V_drewN | apply Kd.V_drew)); exact HO_238001.out⟩, ⟨rk_ HO_245001.out⟩, ⟨pk_ BK235.out⟩, ⟨pk_ BK236.out⟩, ⟨pk_ BK237.out⟩, ⟨pk_ BK238.out⟩, ⟨pk_ BK244.out⟩, ⟨bk_ HB.out⟩⟩
     case rest => as_aux_lemma =>
      clear HC48
      (try clear c2); (try clear c7); (try clear c7b0); (try clear c7b1); (try clear c45); (try clear hcz16_0); (try clear hcz16_1); (try clear hcz19_0); (try clear hcz19_1); (try clear hcz26_0); (try clear hcz26_1); (try clear hcz53_0); (try clear hcz53_1); (try clear hcz58_0); (try clear hcz58_1); (try clear hfz16_0); (try clear hfz16_1); (try clear hfz19_0); (try clear hfz19_1); (try clear hfz26_0); (try clear hfz26_1); (try clear hfz53_0); (try clear hfz53_1); (try clear hfz58_0); (try clear hfz58_1)
      obtain ⟨kq, x75_47, rfl, HA, HJ47, HO_238001, HO_245001, BK235, BK236, BK237, BK238, BK244, HB⟩ := hcut
      cases kq with
      | zero => exact absurd HA.out (by simp [standstilllaw08_next.j1])
      | succ kj47 =>
       have H := HA.out
       clear HA
       simp only [standstilllaw08_next.j1] at H
       by_cases c63 : x75_47 = true
       ·subst c63
        have H1 : (some (a3_0, l3_1, true, true)) = some (r1, r2, r3, r4) := by rw [if_pos rfl] at H; exact H
        clear H
        have H := H1
        clear H1
        simp only [Option.some.injEq, Prod.mk.injEq] at H
        obtain ⟨rfl, rfl, rfl, rfl⟩ := H
        have hnb64 := NB237_235.out
        have hnc64 := NB235_237.out
        have hnb65 := NB237_236.out
        have hnc65 := NB236_237.out
        have hnb66 := NB237_238.out
        have hnc66 := NB238_237.out
        have hnb67 := NB237_244.out
        have hnc67 := NB244_237.out
        obtain ⟨hcz68_0, hcz68_1⟩ := bc2_ BK237.out
        have hfz68_0 := blk_frozen BK237.out 0
        have hfz68_1 := blk_frozen BK237.out 1
        have hnb69 := NB238_235.out
        have hnc69 := NB235_238.out
        have hnb70 := NB238_236.out
        have hnc70 := NB236_238.out
        have hnb71 := NB238_244.out
        have hnc71 := NB244_238.out
        obtain ⟨hcz72_0, hcz72_1⟩ := bc2_ BK238.out
        have hfz72_0 := blk_frozen BK238.out 0
        have hfz72_1 := blk_frozen BK238.out 1
        go_wp2
        refine bodyPost_ret (results_ctt rfl _ _ gb238 47 #[.int .i64 a3_0, .slice A3_1 l3_1.length c3_1] (0, 0) _ rfl (by refine pk_ ?_; refine blk_put (cs := #[.int .i64 a3_0, .slice none 0 0]) ?_ 1 _ rfl; refine pk_ ?_; refine blk_put (cs := #[.int .i64 0, .slice none 0 0]) ?_ 0 _ rfl; exact pk_ BK238.out) Try.underlying47 rfl (by kernel_rfl)) rfl ?_
        exact ⟨_, er_, by (with_reducible repeat (first | apply Kd.V_alloc | apply Kd.V_drewN | apply Kd.V_drew)); exact Kd.V_mono (Kd.V_far (p := ⟨gb238, 1, none⟩) (Kd.V_far (p := ⟨gb238, 0, none⟩) (Kd.V_mono HO_238001.out (fun k_ hk => (⟨hk, hk.2.2.2.2.2.1⟩ : _ ∧ k_ ≠ gb238))) (fun _ hk => hk.2) (.int .i64 a3_0)) (fun _ hk => hk.2) (.slice A3_1 l3_1.length c3_1)) (fun _ hk => hk.1.1), bk_ HB.out⟩
       ·replace c63 := Bool.eq_false_iff.mpr c63
        subst c63
        have H1 : (if a3_0 < 0 then (standstilllaw08_next.j2 kj47 l2 t247 t249 true a1_0 l1_1 a3_0 l3_1 t239 t240) else (if a3_0 ≥ (l2.length : Int) then (standstilllaw08_next.j2 kj47 l2 t247 t249 true a1_0 l1_1 a3_0 l3_1 t239 t240) else (if t239 < 0 then (standstilllaw08_next.j2 kj47 l2 t247 t249 true a1_0 l1_1 a3_0 l3_1 t239 t240) else (standstilllaw08_next.j2 kj47 l2 t247 t249 (decide (t239 ≥ (l2.length : Int))) a1_0 l1_1 a3_0 l3_1 t239 t240)))) = some (r1, r2, r3, r4) := by rw [if_neg (show ¬ (false = true) by decide)] at H; exact H
        clear H
        have H := H1
        clear H1
        have HC73 := Aside0.mk H
        clear H
        go_upto_region 10 with (fail)
        go_cut [98] (fun v98 wc => ∃ (kq : Nat) (x98_72 : Bool), v98 = .bool x98_72 ∧ Aside0 (standstilllaw08_next.j2 kq l2 t247 t249 x98_72 a1_0 l1_1 a3_0 l3_1 t239 t240 = some (r1, r2, r3, r4)) ∧ Aside0 (kq ≤ kj47) ∧ Aside0 (Kd.V (Kd.int .i64) 3 wc w.heap.size (fun k_ => (P3_1_ k_ ∨ w.heap.size ≤ k_) ∧ some k_ ≠ ((.slice Ao27 t240.length co27) : Value).ownBlock ∧ k_ ≠ gb235 ∧ k_ ≠ gb236 ∧ k_ ≠ gb237 ∧ k_ ≠ gb238 ∧ k_ ≠ gb244) (.slice A3_1 l3_1.length c3_1) l3_1) ∧ Aside0 (Kd.R (Kd.int .i64) 3 wc w.heap.size (fun k_ => (w.heap.size ≤ k_)) (.slice Ao27 t240.length co27) t240) ∧ Aside0 (wc.heap[gb235]? = some (.cells #[.int .i64 a0_0, (.slice A0_1 l0_1.length c0_1)] 38 (0, 0))) ∧ Aside0 (wc.heap[gb236]? = some (.cells #[.int .i64 a1_0, (.slice A1_1 l1_1.length c1_1)] 38 (0, 0))) ∧ Aside0 (wc.heap[gb237]? = some (.cells #[.int .i64 a3_0, (.slice A3_1 l3_1.length c3_1)] 47 (0, 0))) ∧ Aside0 (wc.heap[gb238]? = some (.cells #[.int .i64 0, (.slice none 0 0)] 47 (0, 0))) ∧ Aside0 (wc.heap[gb244]? = some (.cells #[.int .i64 t239, (.slice Ao27 t240.length co27)] 47 (0, 0))) ∧ Aside0 (Below w.heap.size w wc))
        case first => as_aux_lemma =>
         have H := HC73.out
         clear HC73
         by_cases c74 : a3_0 < 0
         ·rw [if_pos c74] at H
          have c74b0 : decide (a3_0 < 0) = true := decide_eq_true c74
          clear c74
          (first | rw [c74b0] | (simp only [i64_w, i32_w]; rw [c74b0]) | skip)
          have H' := Aside0.mk H
          clear H
          have hnb75 := NB237_235.out
          have hnc75 := NB235_237.out
          have hnb76 := NB237_236.out
          have hnc76 := NB236_237.out
          have hnb77 := NB237_238.out
          have hnc77 := NB238_237.out
          have hnb78 := NB237_244.out
          have hnc78 := NB244_237.out
          obtain ⟨hcz79_0, hcz79_1⟩ := bc2_ BK237.out
          have hfz79_0 := blk_frozen BK237.out 0
          have hfz79_1 := blk_frozen BK237.out 1
          go_wp2
          go_meet
          case rel => exact ⟨_, (true), jr_, H', ⟨by have := HJ7.out; have := HJ47.out; first | omega | exact Nat.le_refl _⟩, ⟨by (with_reducible repeat (first | apply Kd.V_alloc | apply Kd.V_drewN | apply Kd.V_drew)); exact HO_238001.out⟩, ⟨rk_ HO_245001.out⟩, ⟨pk_ BK235.out⟩, ⟨pk_ BK236.out⟩, ⟨pk_ BK237.out⟩, ⟨pk_ BK238.out⟩, ⟨pk_ BK244.out⟩, ⟨bk_ HB.out⟩⟩
         ·rw [if_neg c74] at H
          have c74b0 : decide (a3_0 < 0) = false := decide_eq_false c74
          clear c74
          (first | rw [c74b0] | (simp only [i64_w, i32_w]; rw [c74b0]) | skip)
          by_cases c80 : a3_0 ≥ (l2.length : Int)
          ·rw [if_pos c80] at H
           have c80b0 : decide ((l2.length : Int) ≤ a3_0) = true := decide_eq_true c80
           clear c80
           have H' := Aside0.mk H
           clear H
           have hnb81 := NB237_235.out
           have hnc81 := NB235_237.out
           have hnb82 := NB237_236.out
           have hnc82 := NB236_237.out
           have hnb83 := NB237_238.out
           have hnc83 := NB238_237.out
           have hnb84 := NB237_244.out
           have hnc84 := NB244_237.out
           obtain ⟨hcz85_0, hcz85_1⟩ := bc2_ BK237.out
           have hfz85_0 := blk_frozen BK237.out 0
           have hfz85_1 := blk_frozen BK237.out 1
           go_wp2
           go_meet
           case rel => exact ⟨_, (true), jr_, H', ⟨by have := HJ7.out; have := HJ47.out; first | omega | exact Nat.le_refl _⟩, ⟨by (with_reducible repeat (first | apply Kd.V_alloc | apply Kd.V_drewN | apply Kd.V_drew)); exact HO_238001.out⟩, ⟨rk_ HO_245001.out⟩, ⟨pk_ BK235.out⟩, ⟨pk_ BK236.out⟩, ⟨pk_ BK237.out⟩, ⟨pk_ BK238.out⟩, ⟨pk_ BK244.out⟩, ⟨bk_ HB.out⟩⟩
          ·rw [if_neg c80] at H
           have c80b0 : decide ((l2.length : Int) ≤ a3_0) = false := decide_eq_false c80
           clear c80
           by_cases c86 : t239 < 0
           ·rw [if_pos c86] at H
            have c86b0 : decide (t239 < 0) = true := decide_eq_true c86
            clear c86
            have H' := Aside0.mk H
            clear H
            have hnb87 := NB237_235.out
            have hnc87 := NB235_237.out
            have hnb88 := NB237_236.out
            have hnc88 := NB236_237.out
            have hnb89 := NB237_238.out
            have hnc89 := NB238_237.out
            have hnb90 := NB237_244.out
            have hnc90 := NB244_237.out
            obtain ⟨hcz91_0, hcz91_1⟩ := bc2_ BK237.out
            have hfz91_0 := blk_frozen BK237.out 0
            have hfz91_1 := blk_frozen BK237.out 1
            have hnb92 := NB244_235.out
            have hnc92 := NB235_244.out
            have hnb93 := NB244_236.out
            have hnc93 := NB236_244.out
            have hnb94 := NB244_238.out
            have hnc94 := NB238_244.out
            obtain ⟨hcz95_0, hcz95_1⟩ := bc2_ BK244.out
            have hfz95_0 := blk_frozen BK244.out 0
            have hfz95_1 := blk_frozen BK244.out 1
            go_wp2
            go_meet
            case rel => exact ⟨_, (true), jr_, H', ⟨by have := HJ7.out; have := HJ47.out; first | omega | exact Nat.le_refl _⟩, ⟨by (with_reducible repeat (first | apply Kd.V_alloc | apply Kd.V_drewN | apply Kd.V_drew)); exact HO_238001.out⟩, ⟨rk_ HO_245001.out⟩, ⟨pk_ BK235.out⟩, ⟨pk_ BK236.out⟩, ⟨pk_ BK237.out⟩, ⟨pk_ BK238.out⟩, ⟨pk_ BK244.out⟩, ⟨bk_ HB.out⟩⟩
           ·rw [if_neg c86] at H
            have c86b0 : decide (t239 < 0) = false := decide_eq_false c86
            clear c86
            have H' := Aside0.mk H
            clear H
            have hnb96 := NB237_235.out
            have hnc96 := NB235_237.out
            have hnb97 := NB237_236.out
            have hnc97 := NB236_237.out
            have hnb98 := NB237_238.out
            have hnc98 := NB238_237.out
            have hnb99 := NB237_244.out
            have hnc99 := NB244_237.out
            obtain ⟨hcz100_0, hcz100_1⟩ := bc2_ BK237.out
            have hfz100_0 := blk_frozen BK237.out 0
            have hfz100_1 := blk_frozen BK237.out 1
            have hnb101 := NB244_235.out
            have hnc101 := NB235_244.out
            have hnb102 := NB244_236.out
            have hnc102 := NB236_244.out
            have hnb103 := NB244_238.out
            have hnc103 := NB238_244.out
            obtain ⟨hcz104_0, hcz104_1⟩ := bc2_ BK244.out
            have hfz104_0 := blk_frozen BK244.out 0
            have hfz104_1 := blk_frozen BK244.out 1
            go_wp2
            go_meet
            case rel => exact ⟨_, (decide (t239 ≥ (l2.length : Int))), jr_, H', ⟨by have := HJ7.out; have := HJ47.out; first | omega | exact Nat.le_refl _⟩, ⟨by (with_reducible repeat (first | apply Kd.V_alloc | apply Kd.V_drewN | apply Kd.V_drew)); exact HO_238001.out⟩, ⟨rk_ HO_245001.out⟩, ⟨pk_ BK235.out⟩, ⟨pk_ BK236.out⟩, ⟨pk_ BK237.out⟩, ⟨pk_ BK238.out⟩, ⟨pk_ BK244.out⟩, ⟨bk_ HB.out⟩⟩
        case rest => as_aux_lemma =>
         clear HC73
         (try clear c2); (try clear c7); (try clear c7b0); (try clear c7b1); (try clear c45); (try clear c63); (try clear hcz16_0); (try clear hcz16_1); (try clear hcz19_0); (try clear hcz19_1); (try clear hcz26_0); (try clear hcz26_1); (try clear hcz53_0); (try clear hcz53_1); (try clear hcz58_0); (try clear hcz58_1); (try clear hfz16_0); (try clear hfz16_1); (try clear hfz19_0); (try clear hfz19_1); (try clear hfz26_0); (try clear hfz26_1); (try clear hfz53_0); (try clear hfz53_1); (try clear hfz58_0); (try clear hfz58_1)
         obtain ⟨kq, x98_72, rfl, HA, HJ72, HO_238001, HO_245001, BK235, BK236, BK237, BK238, BK244, HB⟩ := hcut
         cases kq with
         | zero => exact absurd HA.out (by simp [standstilllaw08_next.j2])
         | succ kj72 =>
          have H := HA.out
          clear HA
          simp only [standstilllaw08_next.j2] at H
          by_cases c105 : x98_72 = true
          ·subst c105
           have H1 : (none) = some (r1, r2, r3, r4) := by rw [if_pos rfl] at H; exact H
           clear H
           have H := H1
           clear H1
           exact absurd H (by simp)
          ·replace c105 := Bool.eq_false_iff.mpr c105
           subst c105
           have H1 : (if 0 ≤ a3_0 then (if a3_0 < (l2.length : Int) then ((counter_Until.f kj72 a1_0 l1_1 (rd l2 a3_0) (([t247, 0] : List Int)) l2 (wrap64 (100 + (wrap64 (100 * (mx t247 t249)))))).bind fun bt255 => (if bt255.2.2.2 = 0 then (if bt255.2.2.1 ≤ (wrap64 (100 + (wrap64 (100 * (mx t247 t249))))) then (if 0 ≤ t239 then (if t239 < (l2.length : Int) then ((standstillref06_SameCount.f kj72 bt255.1 bt255.2.1 (rd l2 t239) (([t249, 0] : List Int))).bind fun t266 => (some (t239, t240, false, t266))) else (none)) else (none)) else (none)) else (none))) else (none)) else (none)) = some (r1, r2, r3, r4) := by rw [if_neg (show ¬ (false = true) by decide)] at H; exact H
           clear H
           have H := H1
           clear H1
           by_cases c106 : 0 ≤ a3_0
           ·rw [if_pos c106] at H
            have c106b0 : decide (0 ≤ a3_0) = true := decide_eq_true c106
            clear c106
            by_cases c107 : a3_0 < (l2.length : Int)
            ·rw [if_pos c107] at H
             have c107b0 : decide (a3_0 < (l2.length : Int)) = true := decide_eq_true c107
             clear c107
             obtain ⟨y252, hy252⟩ : ∃ y_ : List Int, y_ = (([t247, 0] : List Int)) := ⟨_, rfl⟩
             replace H : ((counter_Until.f kj72 a1_0 l1_1 (rd l2 a3_0) y252 l2 (wrap64 (100 + (wrap64 (100 * (mx t247 t249)))))).bind fun bt255 => (if bt255.2.2.2 = 0 then (if bt255.2.2.1 ≤ (wrap64 (100 + (wrap64 (100 * (mx t247 t249))))) then (if 0 ≤ t239 then (if t239 < (l2.length : Int) then ((standstillref06_SameCount.f kj72 bt255.1 bt255.2.1 (rd l2 t239) (([t249, 0] : List Int))).bind fun t266 => (some (t239, t240, false, t266))) else (none)) else (none)) else (none)) else (none))) = some (r1, r2, r3, r4) := by first | (rw [hy252]; with_reducible exact H) | (have H2_ := (Option.bind_some _ _).symm.trans H; rw [hy252]; with_reducible exact H2_) | (have H2_ := (Option.bind_some _ _).symm.trans H; with_reducible exact H2_) | with_reducible exact H | (rw [hy252]; exact H) | exact H
             have Ny252 := Aside0.mk hy252
             clear hy252
             obtain ⟨ji108, hji108⟩ : ∃ j_ : Int, (mx t247 t249) = j_ := ⟨_, rfl⟩
             replace H : ((counter_Until.f kj72 a1_0 l1_1 (rd l2 a3_0) y252 l2 (wrap64 (100 + (wrap64 (100 * (ji108)))))).bind fun bt255 => (if bt255.2.2.2 = 0 then (if bt255.2.2.1 ≤ (wrap64 (100 + (wrap64 (100 * (ji108))))) then (if 0 ≤ t239 then (if t239 < (l2.length : Int) then ((standstillref06_SameCount.f kj72 bt255.1 bt255.2.1 (rd l2 t239) (([t249, 0] : List Int))).bind fun t266 => (some (t239, t240, false, t266))) else (none)) else (none)) else (none)) else (none))) = some (r1, r2, r3, r4) := by first | (rw [hji108] at H; exact H) | (simp only [hji108] at H ⊢; exact H)
             have hji108_ : (if t247 < t249 then t249 else t247) = ji108 := hji108
             replace H := Option.bind_eq_some_iff.mp H
             obtain ⟨⟨t255, t256, t259, t260⟩, A1090, H⟩ := H
             replace H : (if t260 = 0 then (if t259 ≤ (wrap64 (100 + (wrap64 (100 * (ji108))))) then (if 0 ≤ t239 then (if t239 < (l2.length : Int) then ((standstillref06_SameCount.f kj72 t255 t256 (rd l2 t239) (([t249, 0] : List Int))).bind fun t266 => (some (t239, t240, false, t266))) else (none)) else (none)) else (none)) else (none)) = some (r1, r2, r3, r4) := H
             have A109 := Aside0.mk A1090
             clear A1090
             by_cases c110 : t260 = 0
             ·rw [if_pos c110] at H
              have c110b0 : (t260 == 0) = true := beq_iff_eq.mpr c110
              have c110b1 : (t260 != 0) = false := bne_eq_false_iff_eq.mpr c110
              clear c110
              by_cases c112 : t259 ≤ (wrap64 (100 + (wrap64 (100 * (ji108)))))
              ·rw [if_pos c112] at H
               have c112b0 : decide (t259 ≤ (wrap64 (100 + (wrap64 (100 * (ji108)))))) = true := decide_eq_true c112
               clear c112
               by_cases c113 : 0 ≤ t239
               ·rw [if_pos c113] at H
                have c113b0 : decide (0 ≤ t239) = true := decide_eq_true c113
                clear c113
                by_cases c114 : t239 < (l2.length : Int)
                ·rw [if_pos c114] at H
                 have c114b0 : decide (t239 < (l2.length : Int)) = true := decide_eq_true c114
                 clear c114
                 obtain ⟨y263, hy263⟩ : ∃ y_ : List Int, y_ = (([t249, 0] : List Int)) := ⟨_, rfl⟩
                 replace H : ((standstillref06_SameCount.f kj72 t255 t256 (rd l2 t239) y263).bind fun t266 => (some (t239, t240, false, t266))) = some (r1, r2, r3, r4) := by first | (rw [hy263]; with_reducible exact H) | (have H2_ := (Option.bind_some _ _).symm.trans H; rw [hy263]; with_reducible exact H2_) | (have H2_ := (Option.bind_some _ _).symm.trans H; with_reducible exact H2_) | with_reducible exact H | (rw [hy263]; exact H) | exact H
                 have Ny263 := Aside0.mk hy263
                 clear hy263
                 replace H := Option.bind_eq_some_iff.mp H
                 obtain ⟨t266, A1150, H⟩ := H
                 replace H : (some (t239, t240, false, t266)) = some (r1, r2, r3, r4) := H
                 have A115 := Aside0.mk A1150
                 clear A1150
                 simp only [Option.some.injEq, Prod.mk.injEq] at H
                 obtain ⟨rfl, rfl, rfl, rfl⟩ := H
                 try go_wp2
                 have n0_ := A_ (Kd.V_drew HO_238001.out)
                 have n1_ := A_ (Kd.R_drew HO_245001.out)
                 have n2_ := A_ (blk_drew BK235.out)
                 have n3_ := A_ (blk_drew BK236.out)
                 have n4_ := A_ (blk_drew BK237.out)
                 have n5_ := A_ (blk_drew BK238.out)
                 have n6_ := A_ (blk_drew BK244.out)
                 have n7_ := A_ (below_drew1 HB.out)
                 clear HO_238001 HO_245001 BK235 BK236 BK237 BK238 BK244 HB
                 have HO_238001 := n0_
                 have HO_245001 := n1_
                 have BK235 := n2_
                 have BK236 := n3_
                 have BK237 := n4_
                 have BK238 := n5_
                 have BK244 := n6_
                 have HB := n7_
                 clear n0_ n1_ n2_ n3_ n4_ n5_ n6_ n7_
                 have p251 : 0 ≤ (a3_0 : Int) := od_
                 have q251 : a3_0 < (l2.length : Int) := od_
                 obtain ⟨ad251, e251, hx251_0⟩ := Kd.at_int HR2.out a3_0 p251 q251
                 have hw251_0 := hx251_0
                 cases e251
                 replace hx251_0 := lf_ HB.out hx251_0
                 replace p251 := eq_true p251
                 replace q251 := eq_true q251
                 refine start_ (n := 24) (S := fun w' => w'.cell? ⟨gb236, 0, none⟩ = some (.int .i64 a1_0) ∧ w'.cell? ⟨gb236, 1, none⟩ = some (.slice A1_1 l1_1.length c1_1) ∧ w'.cell? ⟨gb237, 0, none⟩ = some (.int .i64 a3_0) ∧ w'.cell? ⟨gb237, 1, none⟩ = some (.slice A3_1 l3_1.length c3_1) ∧ w'.cell? (ad251.add (a3_0).toNat) = some (.int .i64 (rd l2 a3_0))) (ds := []) #[false, false, false, false, false, false, false, false, false, false, false, false, false, false, false, false, false, false, false, false, false, false, false, false] (by kernel_rfl) rfl rfl ⟨(blk_cell BK236.out 0).trans rfl, (blk_cell BK236.out 1).trans rfl, (blk_cell BK237.out 0).trans rfl, (blk_cell BK237.out 1).trans rfl, ((HB.out.cell (World.block_lt_of_cell? w _ hw251_0)).trans hw251_0)⟩ (fun hHeld => ?_); refine with_tabW standstilllaw08_next.tab12 standstilllaw08_next.bits12 (fun HT_ HW_ => ?_)
                 generalize wc.drew = w116 at HO_238001 HO_245001 BK235 BK236 BK237 BK238 BK244 HB hx251_0 hHeld ⊢
                 refine pure_ (i := 1) (N := some 102) (v := ?_) (a' := ?_) #[false, true, false, false, false, false, false, false, false, false, false, false, false, false, false, false, false, false, false, false, false, false, false, false] rfl rfl (any_of HT_.out (by kernel_rfl)) (fun _ _ _ h => h) (Or.inl ⟨by rfl, ?_⟩) ?_ ?_
                 rotate_left
                 ·intro w'
                  go_simp
                  with_reducible rfl
                 rotate_left
                 ·simp only [Act.put, sa_, sz_, ss_, i64_w, i32_w]
                  rfl
                 refine pure_ (i := 2) (N := some 103) (v := ?_) (a' := ?_) #[false, true, true, false, false, false, false, false, false, false, false, false, false, false, false, false, false, false, false, false, false, false, false, false] rfl rfl (any_of HT_.out (by kernel_rfl)) (fun _ _ _ h => h) (Or.inl ⟨by rfl, ?_⟩) ?_ ?_
                 rotate_left
                 ·intro w'
                  go_simp
                  with_reducible rfl
                 rotate_left
                 ·simp only [Act.put, sa_, sz_, ss_, i64_w, i32_w]
                  rfl
                 refine pure_ (i := 6) (N := some 107) (v := ?_) (a' := ?_) #[false, true, true, false, false, false, true, false, false, false, false, false, false, false, false, false, false, false, false, false, false, false, false, false] rfl rfl (any_of HT_.out (by kernel_rfl)) (fun _ _ _ h => h) (Or.inl ⟨by rfl, ?_⟩) ?_ ?_
                 rotate_left
                 ·intro w'
                  go_simp
                  with_reducible rfl
                 rotate_left
                 ·simp only [Act.put, sa_, sz_, ss_, i64_w, i32_w]
                  rfl
                 refine pure_ (i := 9) (N := some 110) (v := ?_) (a' := ?_) #[false, true, true, false, false, false, true, false, false, true, false, false, false, false, false, false, false, false, false, false, false, false, false, false] rfl rfl (any_of HT_.out (by kernel_rfl)) (fun _ _ _ h => h) (Or.inl ⟨by rfl, ?_⟩) ?_ ?_
                 rotate_left
                 ·intro w'
                  go_simp
                  with_reducible rfl
                 rotate_left
                 ·simp only [Act.put, sa_, sz_, ss_, i64_w, i32_w]
                  rfl
                 refine pure_ (i := 10) (N := some 111) (v := ?_) (a' := ?_) #[false, true, true, false, false, false, true, false, false, true, true, false, false, false, false, false, false, false, false, false, false, false, false, false] rfl rfl (any_of HT_.out (by kernel_rfl)) (fun _ _ _ h => h) (Or.inl ⟨by rfl, ?_⟩) ?_ ?_
                 rotate_left
                 ·intro w'
                  go_simp
                  with_reducible rfl
                 rotate_left
                 ·simp only [Act.put, sa_, sz_, ss_, i64_w, i32_w]
                  rfl
                 refine pure_ (i := 11) (N := some 112) (v := ?_) (a' := ?_) #[false, true, true, false, false, false, true, false, false, true, true, true, false, false, false, false, false, false, false, false, false, false, false, false] rfl rfl (any_of HT_.out (by kernel_rfl)) (fun _ _ _ h => h) (Or.inl ⟨by rfl, ?_⟩) ?_ ?_
                 rotate_left
                 ·intro w'
                  go_simp
                  with_reducible rfl
                 rotate_left
                 ·simp only [Act.put, sa_, sz_, ss_, i64_w, i32_w]
                  rfl
                 refine pure_ (i := 12) (N := some 113) (v := ?_) (a' := ?_) #[false, true, true, false, false, false, true, false, false, true, true, true, true, false, false, false, false, false, false, false, false, false, false, false] rfl rfl (any_of HT_.out (by kernel_rfl)) (fun _ _ _ h => h) (Or.inl ⟨by rfl, ?_⟩) ?_ ?_
                 rotate_left
                 ·intro w'
                  go_simp
                  with_reducible rfl
                 rotate_left
                 ·simp only [Act.put, sa_, sz_, ss_, i64_w, i32_w]
                  rfl
                 refine pure_ (i := 13) (N := some 114) (v := ?_) (a' := ?_) #[false, true, true, false, false, false, true, false, false, true, true, true, true, true, false, false, false, false, false, false, false, false, false, false] rfl rfl (any_of HT_.out (by kernel_rfl)) (fun _ _ _ h => h) (Or.inl ⟨by rfl, ?_⟩) ?_ ?_
                 rotate_left
                 ·intro w'
                  go_simp
                  with_reducible rfl
                 rotate_left
                 ·simp only [Act.put, sa_, sz_, ss_, i64_w, i32_w]
                  rfl
                 refine pure_ (i := 14) (N := some 115) (v := ?_) (a' := ?_) #[false, true, true, false, false, false, true, false, false, true, true, true, true, true, true, false, false, false, false, false, false, false, false, false] rfl rfl (any_of HT_.out (by kernel_rfl)) (fun _ _ _ h => h) (Or.inl ⟨by rfl, ?_⟩) ?_ ?_
                 rotate_left
                 ·intro w'
                  go_simp
                  with_reducible rfl
                 rotate_left
                 ·simp only [Act.put, sa_, sz_, ss_, i64_w, i32_w]
                  rfl
                 refine take_ (i := 0) (N := some 101) (v := ?_) (a' := ?_) #[true, true, true, false, false, false, true, false, false, true, true, true, true, true, true, false, false, false, false, false, false, false, false, false] rfl rfl (take_ofW HT_.out HW_.out (by kernel_rfl)) (fun _ _ _ h => h) (Or.inl ⟨by rfl, ?_⟩) hHeld ?_ ?_
                 rotate_left
                 ·rintro w' ⟨s0, s1, s2, s3, s4⟩
                  go_simp
                  with_reducible rfl
                 rotate_left
                 ·simp only [Act.put, sa_, sz_, ss_, i64_w, i32_w]
                  rfl
                 refine take_ (i := 3) (N := some 104) (v := ?_) (a' := ?_) #[true, true, true, true, false, false, true, false, false, true, true, true, true, true, true, false, false, false, false, false, false, false, false, false] rfl rfl (take_ofW HT_.out HW_.out (by kernel_rfl)) (fun _ _ _ h => h) (Or.inl ⟨by rfl, ?_⟩) hHeld ?_ ?_
                 rotate_left
                 ·rintro w' ⟨s0, s1, s2, s3, s4⟩
                  go_simp
                  with_reducible rfl
                 rotate_left
                 ·simp only [Act.put, sa_, sz_, ss_, i64_w, i32_w]
                  rfl
                 refine pure_ (i := 4) (N := some 105) (v := ?_) (a' := ?_) #[true, true, true, true, true, false, true, false, false, true, true, true, true, true, true, false, false, false, false, false, false, false, false, false] rfl rfl (any_of HT_.out (by kernel_rfl)) (fun _ _ _ h => h) (Or.inl ⟨by rfl, ?_⟩) ?_ ?_
                 rotate_left
                 ·intro w'
                  go_simp
                  with_reducible rfl
                 rotate_left
                 ·simp only [Act.put, sa_, sz_, ss_, i64_w, i32_w]
                  rfl
                 refine take_ (i := 5) (N := some 106) (v := ?_) (a' := ?_) #[true, true, true, true, true, true, true, false, false, true, true, true, true, true, true, false, false, false, false, false, false, false, false, false] rfl rfl (take_ofW HT_.out HW_.out (by kernel_rfl)) (fun _ _ _ h => h) (Or.inl ⟨by rfl, ?_⟩) hHeld ?_ ?_
                 rotate_left
                 ·rintro w' ⟨s0, s1, s2, s3, s4⟩
                  go_simp
                  with_reducible rfl
                 rotate_left
                 ·simp only [Act.put, sa_, sz_, ss_, i64_w, i32_w]
                  rfl
                 refine join_ (σ := Value × Value × Nat) 3 #[true, true, true, true, true, true, true, true, true, true, true, true, true, true, true, true, true, true, true, true, true, false, false, false] (fun s_ => [(108, s_.1), (116, .tuple #[.agg #[.int .i64 t255, s_.2.1], .int .i64 t259, .int .i64 t260]), (19, .pointer (some ⟨s_.2.2, 0, none⟩)), (109, .agg #[.int .i64 (rd l2 a3_0), s_.1]), (100, .tuple #[.agg #[.int .i64 t255, s_.2.1], .int .i64 t259, .int .i64 t260]), (117, .agg #[.int .i64 t255, s_.2.1]), (118, .int .i64 t259), (119, .int .i64 t260)]) (fun s_ w' => (w'.cell? ⟨gb236, 0, none⟩ = some (.int .i64 a1_0) ∧ w'.cell? ⟨gb236, 1, none⟩ = some (.slice A1_1 l1_1.length c1_1) ∧ w'.cell? ⟨gb237, 0, none⟩ = some (.int .i64 a3_0) ∧ w'.cell? ⟨gb237, 1, none⟩ = some (.slice A3_1 l3_1.length c3_1) ∧ w'.cell? (ad251.add (a3_0).toNat) = some (.int .i64 (rd l2 a3_0))) ∧ (Kd.R (Kd.int .i64) 3 w' w.heap.size (fun k_ => (w.heap.size ≤ k_) ∧ some k_ ≠ (s_.2.1 : Value).ownBlock ∧ some k_ ≠ (.slice Ao27 t240.length co27 : Value).ownBlock) s_.1 y252) ∧ (Kd.R (Kd.int .i64) 3 w' w.heap.size (fun k_ => (w.heap.size ≤ k_) ∧ some k_ ≠ (s_.1 : Value).ownBlock ∧ some k_ ≠ (.slice Ao27 t240.length co27 : Value).ownBlock) s_.2.1 t256) ∧ (Kd.V (Kd.int .i64) 3 w' w.heap.size (fun k_ => (P3_1_ k_ ∨ w.heap.size ≤ k_) ∧ some k_ ≠ (s_.1 : Value).ownBlock ∧ some k_ ≠ (s_.2.1 : Value).ownBlock ∧ some k_ ≠ (.slice Ao27 t240.length co27 : Value).ownBlock ∧ k_ ≠ gb235 ∧ k_ ≠ gb236 ∧ k_ ≠ gb237 ∧ k_ ≠ gb238 ∧ k_ ≠ gb244 ∧ k_ ≠ s_.2.2) (.slice A3_1 l3_1.length c3_1) l3_1) ∧ (Kd.R (Kd.int .i64) 3 w' w.heap.size (fun k_ => (w.heap.size ≤ k_) ∧ some k_ ≠ (s_.1 : Value).ownBlock ∧ some k_ ≠ (s_.2.1 : Value).ownBlock) (.slice Ao27 t240.length co27) t240) ∧ (w'.heap[gb235]? = some (.cells #[.int .i64 a0_0, .slice A0_1 l0_1.length c0_1] 38 (0, 0))) ∧ (w'.heap[gb236]? = some (.cells #[.int .i64 a1_0, .slice A1_1 l1_1.length c1_1] 38 (0, 0))) ∧ (w'.heap[gb237]? = some (.cells #[.int .i64 a3_0, .slice A3_1 l3_1.length c3_1] 47 (0, 0))) ∧ (w'.heap[gb238]? = some (.cells #[.int .i64 0, .slice none 0 0] 47 (0, 0))) ∧ (w'.heap[gb244]? = some (.cells #[.int .i64 t239, .slice Ao27 t240.length co27] 47 (0, 0))) ∧ (w'.heap[s_.2.2]? = some (.cells #[.int .i64 0, .slice none 0 0] 47 (0, 0))) ∧ (w.heap.size ≤ s_.2.2) ∧ (w.heap.size ≤ s_.2.2) ∧ (gb235 ≠ s_.2.2) ∧ (s_.2.2 ≠ gb235) ∧ (gb236 ≠ s_.2.2) ∧ (s_.2.2 ≠ gb236) ∧ (gb237 ≠ s_.2.2) ∧ (s_.2.2 ≠ gb237) ∧ (gb238 ≠ s_.2.2) ∧ (s_.2.2 ≠ gb238) ∧ (gb244 ≠ s_.2.2) ∧ (s_.2.2 ≠ gb244) ∧ (Below w.heap.size w w')) ?_ ?_
                 rotate_left
                 ·intro hCont
                  refine two_ (i := 7) (j := 20) (Ni := some 108) (Nj := some 19) #[true, true, true, true, true, true, true, true, false, true, true, true, true, true, true, false, false, false, false, false, false, false, false, false] #[true, true, true, true, true, true, true, false, false, true, true, true, true, true, true, false, false, false, false, false, true, false, false, false] rfl rfl rfl rfl (two_of HT_.out (by kernel_rfl)) (by decide) (by decide) (fun K hK => ?_) (fun K hK => ?_)
                  ·skip
                   refine Kd.R_lit_step (Kd.int .i64) _ 3 ?hg (N := 108) ?hd (xs := ([t247, 0] : List Int)) (inner := [.int .i64 t247, .int .i64 0]) (ok := fun _ => True) (okp := fun _ => True) ?hr ?hp (fun _ hk => hk) trivial (Below.refl _ _) (Nat.le_refl _) (by simp) ?_; (case hd => rfl); (case hg => rfl); (case hr => first | (go_simp; done) | (go_simp; rfl)); (case hp => exact (Reps.one (show Kd.M (Kd.int .i64) _ _ _ t247 [.int .i64 t247] from rfl) (Reps.one (show Kd.M (Kd.int .i64) _ _ _ 0 [.int .i64 0] from rfl) (Reps.none _ _))))
                   intro v253 w117 ho118 hb hg_ hnew_
                   clear hg_ hnew_
                   (first | rw [← Ny252.out] at ho118 | (simp only [Int.reduceToNat] at ho118; rw [← Ny252.out] at ho118))
                   have n0_ := A_ (Kd.V_elder' (by (with_reducible repeat (first | apply Kd.V_alloc | apply Kd.V_drewN | apply Kd.V_drew)); exact HO_238001.out) (Kd.R_base ho118) hb)
                   have n1_ := A_ (Kd.R_elder' (rk_ HO_245001.out) (Kd.R_base ho118) hb)
                   have n2_ := A_ (Kd.R_lower (Kd.R_new' (Kd.R_newM (M := fun k_ => (w.heap.size ≤ k_)) ho118 (below_size (bk_ HB.out)) (fun k_ h_ => h_)) (Kd.R_lt (rk_ HO_245001.out))) (below_size (bk_ HB.out)))
                   have n3_ := A_ (blk_below (pk_ BK235.out) hb)
                   have n4_ := A_ (blk_below (pk_ BK236.out) hb)
                   have n5_ := A_ (blk_below (pk_ BK237.out) hb)
                   have n6_ := A_ (blk_below (pk_ BK238.out) hb)
                   have n7_ := A_ (blk_below (pk_ BK244.out) hb)
                   have n8_ := A_ (below_step (bk_ HB.out) hb)
                   clear HO_238001 HO_245001 BK235 BK236 BK237 BK238 BK244 HB
                   have HO_238001 := n0_
                   have HO_245001 := n1_
                   have HO254 := n2_
                   have BK235 := n3_
                   have BK236 := n4_
                   have BK237 := n5_
                   have BK238 := n6_
                   have BK244 := n7_
                   have HB := n8_
                   clear n0_ n1_ n2_ n3_ n4_ n5_ n6_ n7_ n8_ hb ho118
                   obtain ⟨Ao119, co119, eo119⟩ := Kd.R_slice HO254.out
                   (first | subst eo119 | (injection eo119 with f1_ f2_ f3_; have f4_ := f1_.symm; have f5_ := f3_.symm; clear f1_ f2_ f3_; subst f4_; subst f5_))
                   refine hK.out _ _ ⟨(blk_cell BK236.out 0).trans rfl, (blk_cell BK236.out 1).trans rfl, (blk_cell BK237.out 0).trans rfl, (blk_cell BK237.out 1).trans rfl, ((HB.out.cell (World.block_lt_of_cell? w _ hw251_0)).trans hw251_0)⟩ (fun hHeld => ?_)
                   clear hK K
                   refine norm_ (a' := ?_) ?_ ?_
                   rotate_left
                   ·show Act.put _ (some 108) _ = _
                    simp only [Act.put, sa_, sz_, ss_, i64_w, i32_w]
                    rfl
                   refine pure_ (i := 8) (N := some 109) (v := ?_) (a' := ?_) #[true, true, true, true, true, true, true, true, true, true, true, true, true, true, true, false, false, false, false, false, false, false, false, false] rfl rfl (any_of HT_.out (by kernel_rfl)) (fun _ _ _ h => h) (Or.inl ⟨by rfl, ?_⟩) ?_ ?_
                   rotate_left
                   ·intro w'
                    go_simp
                    with_reducible rfl
                   rotate_left
                   ·simp only [Act.put, sa_, sz_, ss_, i64_w, i32_w]
                    rfl
                   refine two_ (i := 15) (j := 20) (Ni := some 116) (Nj := some 19) #[true, true, true, true, true, true, true, true, true, true, true, true, true, true, true, true, false, false, false, false, false, false, false, false] #[true, true, true, true, true, true, true, true, true, true, true, true, true, true, true, false, false, false, false, false, true, false, false, false] rfl rfl rfl rfl (two_of HT_.out (by kernel_rfl)) (by decide) (by decide) (fun K hK => ?_) (fun K hK => ?_)
                   ·skip
                    refine goes_ Try.func32 (by kernel_rfl) rfl #[.agg #[.int .i64 a1_0, .slice A1_1 l1_1.length c1_1], .agg #[.int .i64 (rd l2 a3_0), .slice Ao119 y252.length co119], .slice (some ad251) l2.length c2, .int .i64 (wrap64 (100 + (wrap64 (100 * (ji108)))))] (by rfl) rfl rfl (by (try simp only [List.map_toArray, List.map_cons, List.map_nil]); first | done | (simp only [hji108]; rfl) | rfl | (simp only [List.length_drop, List.length_take]; rfl)) ?_
                    with_reducible refine (counter_Until.calls kj72 a1_0 _ _ l1_1 (rd l2 a3_0) _ _ y252 _ _ l2 (wrap64 (100 + (wrap64 (100 * (ji108))))) t255 t256 t259 t260 _ ?side1 ?side2 ?side3 ?side4 ?side5 ?side6 A109.out).mono ?_
                    (case side1 => exact ck_ (Kd.C_below HR1_1.out HB.out))
                    (case side2 => exact HC1_1.out)
                    (case side3 => repeat (first | exact (Kd.R_reads' HO254.out).2.2 | (with_reducible refine Kd.C_alloc ?_ _) | (with_reducible refine Kd.C_drewN ?_ _) | (with_reducible refine Kd.C_drew ?_)))
                    (case side4 => exact (Kd.R_reads' HO254.out).2.1)
                    (case side5 => exact ck_ (Kd.C_below HR2.out HB.out))
                    (case side6 => exact HC2.out)
                    rintro e w120 ⟨v257, rfl, ho0, hb⟩
                    refine ⟨_, rfl, ?_⟩
                    have n0_ := A_ (Kd.V_elder' (by (with_reducible repeat (first | apply Kd.V_alloc | apply Kd.V_drewN | apply Kd.V_drew)); exact HO_238001.out) (Kd.R_base ho0) hb)
                    have n1_ := A_ (Kd.R_elder' (rk_ HO_245001.out) (Kd.R_base ho0) hb)
                    have n2_ := A_ (Kd.R_elder' (rk_ HO254.out) (Kd.R_base ho0) hb)
                    have n3_ := A_ (Kd.R_lower (Kd.R_new' (Kd.R_new' (Kd.R_newM (M := fun k_ => (w.heap.size ≤ k_)) ho0 (below_size (bk_ HB.out)) (fun k_ h_ => h_)) (Kd.R_lt (rk_ HO_245001.out))) (Kd.R_lt (rk_ HO254.out))) (below_size (bk_ HB.out)))
                    have n4_ := A_ (blk_below (pk_ BK235.out) hb)
                    have n5_ := A_ (blk_below (pk_ BK236.out) hb)
                    have n6_ := A_ (blk_below (pk_ BK237.out) hb)
                    have n7_ := A_ (blk_below (pk_ BK238.out) hb)
                    have n8_ := A_ (blk_below (pk_ BK244.out) hb)
                    have n9_ := A_ (below_step (bk_ HB.out) hb)
                    clear HO_238001 HO_245001 HO254 BK235 BK236 BK237 BK238 BK244 HB
                    have HO_238001 := n0_
                    have HO_245001 := n1_
                    have HO254 := n2_
                    have HO258 := n3_
                    have BK235 := n4_
                    have BK236 := n5_
                    have BK237 := n6_
                    have BK238 := n7_
                    have BK244 := n8_
                    have HB := n9_
                    clear n0_ n1_ n2_ n3_ n4_ n5_ n6_ n7_ n8_ n9_
                    (try clear hb)
                    (try clear hb2)
                    (try clear hk)
                    (try clear hi)
                    (try clear ho0)
                    refine hK.out _ _ ⟨(blk_cell BK236.out 0).trans rfl, (blk_cell BK236.out 1).trans rfl, (blk_cell BK237.out 0).trans rfl, (blk_cell BK237.out 1).trans rfl, ((HB.out.cell (World.block_lt_of_cell? w _ hw251_0)).trans hw251_0)⟩ (fun hHeld => ?_)
                    clear hK K
                    refine norm_ (a' := ?_) ?_ ?_
                    rotate_left
                    ·show Act.put _ (some 116) _ = _
                     simp only [Act.put, sa_, sz_, ss_, i64_w, i32_w]
                     rfl
                    refine pure_ (i := 16) (N := some 100) (v := ?_) (a' := ?_) #[true, true, true, true, true, true, true, true, true, true, true, true, true, true, true, true, true, false, false, false, false, false, false, false] rfl rfl (any_of HT_.out (by kernel_rfl)) (fun _ _ _ h => h) (Or.inl ⟨by rfl, ?_⟩) ?_ ?_
                    rotate_left
                    ·intro w'
                     go_simp
                     with_reducible rfl
                    rotate_left
                    ·simp only [Act.put, sa_, sz_, ss_, i64_w, i32_w]
                     rfl
                    refine pure_ (i := 17) (N := some 117) (v := ?_) (a' := ?_) #[true, true, true, true, true, true, true, true, true, true, true, true, true, true, true, true, true, true, false, false, false, false, false, false] rfl rfl (any_of HT_.out (by kernel_rfl)) (fun _ _ _ h => h) (Or.inl ⟨by rfl, ?_⟩) ?_ ?_
                    rotate_left
                    ·intro w'
                     go_simp
                     with_reducible rfl
                    rotate_left
                    ·simp only [Act.put, sa_, sz_, ss_, i64_w, i32_w]
                     rfl
                    refine pure_ (i := 18) (N := some 118) (v := ?_) (a' := ?_) #[true, true, true, true, true, true, true, true, true, true, true, true, true, true, true, true, true, true, true, false, false, false, false, false] rfl rfl (any_of HT_.out (by kernel_rfl)) (fun _ _ _ h => h) (Or.inl ⟨by rfl, ?_⟩) ?_ ?_
                    rotate_left
                    ·intro w'
                     go_simp
                     with_reducible rfl
                    rotate_left
                    ·simp only [Act.put, sa_, sz_, ss_, i64_w, i32_w]
                     rfl
                    refine pure_ (i := 19) (N := some 119) (v := ?_) (a' := ?_) #[true, true, true, true, true, true, true, true, true, true, true, true, true, true, true, true, true, true, true, true, false, false, false, false] rfl rfl (any_of HT_.out (by kernel_rfl)) (fun _ _ _ h => h) (Or.inl ⟨by rfl, ?_⟩) ?_ ?_
                    rotate_left
                    ·intro w'
                     go_simp
                     with_reducible rfl
                    rotate_left
                    ·simp only [Act.put, sa_, sz_, ss_, i64_w, i32_w]
                     rfl
                    refine one_ (i := 20) (N := some 19) #[true, true, true, true, true, true, true, true, true, true, true, true, true, true, true, true, true, true, true, true, true, false, false, false] rfl rfl (one_of HT_.out (by kernel_rfl)) (by decide) (fun K hK => ?_)
                    refine box_step ?hg (N := 19) ?hd (cs := #[.int .i64 0, .slice none 0 0]) (t := 47) ?hr ?_; (case hd => rfl); (case hg => rfl); (case hr => first | (go_simp; done) | (go_simp; rfl))
                    intro gb261 hg w121 hbox hb
                    have n0_ := A_ (Kd.V_below (Kd.V_elderB (by (with_reducible repeat (first | apply Kd.V_alloc | apply Kd.V_drewN | apply Kd.V_drew)); exact HO_238001.out) gb261 (Nat.le_of_eq hg.symm)) hb)
                    have n1_ := A_ (Kd.R_below (rk_ HO_245001.out) hb)
                    have n2_ := A_ (Kd.R_below (rk_ HO254.out) hb)
                    have n3_ := A_ (Kd.R_below (rk_ HO258.out) hb)
                    have n4_ := A_ (blk_below (pk_ BK235.out) hb)
                    have n5_ := A_ (blk_below (pk_ BK236.out) hb)
                    have n6_ := A_ (blk_below (pk_ BK237.out) hb)
                    have n7_ := A_ (blk_below (pk_ BK238.out) hb)
                    have n8_ := A_ (blk_below (pk_ BK244.out) hb)
                    have n9_ := A_ (below_step (bk_ HB.out) hb)
                    have n10_ := A_ (hbox)
                    have n11_ := A_ (bz_ hg (bk_ HB.out))
                    have n12_ := A_ (bz_ hg (bk_ HB.out))
                    have n13_ := A_ (nl_ hg (pk_ BK235.out))
                    have n14_ := A_ (ng_ hg (pk_ BK235.out))
                    have n15_ := A_ (nl_ hg (pk_ BK236.out))
                    have n16_ := A_ (ng_ hg (pk_ BK236.out))
                    have n17_ := A_ (nl_ hg (pk_ BK237.out))
                    have n18_ := A_ (ng_ hg (pk_ BK237.out))
                    have n19_ := A_ (nl_ hg (pk_ BK238.out))
                    have n20_ := A_ (ng_ hg (pk_ BK238.out))
                    have n21_ := A_ (nl_ hg (pk_ BK244.out))
                    have n22_ := A_ (ng_ hg (pk_ BK244.out))
                    clear HO_238001 HO_245001 HO254 HO258 BK235 BK236 BK237 BK238 BK244 HB
                    have HO_238001 := n0_
                    have HO_245001 := n1_
                    have HO254 := n2_
                    have HO258 := n3_
                    have BK235 := n4_
                    have BK236 := n5_
                    have BK237 := n6_
                    have BK238 := n7_
                    have BK244 := n8_
                    have HB := n9_
                    have BK261 := n10_
                    have GW261 := n11_
                    have GE261 := n12_
                    have NB235_261 := n13_
                    have NB261_235 := n14_
                    have NB236_261 := n15_
                    have NB261_236 := n16_
                    have NB237_261 := n17_
                    have NB261_237 := n18_
                    have NB238_261 := n19_
                    have NB261_238 := n20_
                    have NB244_261 := n21_
                    have NB261_244 := n22_
                    clear n0_ n1_ n2_ n3_ n4_ n5_ n6_ n7_ n8_ n9_ n10_ n11_ n12_ n13_ n14_ n15_ n16_ n17_ n18_ n19_ n20_ n21_ n22_ hb hbox hg
                    refine hK.out _ _ ⟨(blk_cell BK236.out 0).trans rfl, (blk_cell BK236.out 1).trans rfl, (blk_cell BK237.out 0).trans rfl, (blk_cell BK237.out 1).trans rfl, ((HB.out.cell (World.block_lt_of_cell? w _ hw251_0)).trans hw251_0)⟩ (fun hHeld => ?_)
                    clear hK K
                    refine norm_ (a' := ?_) ?_ ?_
                    rotate_left
                    ·show Act.put _ (some 19) _ = _
                     simp only [Act.put, sa_, sz_, ss_, i64_w, i32_w]
                     rfl
                    exact norm_ (by simp only [putAll, Act.put, List.setIfInBounds_toArray, List.set_cons_zero, List.set_cons_succ]) (hCont (.slice Ao119 y252.length co119, v257, gb261) _ ⟨hHeld, (by (with_reducible repeat (first | apply Kd.R_alloc | apply Kd.R_drewN | apply Kd.R_drew)); exact Kd.R_mono HO254.out (fun _ hk => ⟨hk.1.1.1, ⟨hk.2, hk.1.2⟩⟩)), (by (with_reducible repeat (first | apply Kd.R_alloc | apply Kd.R_drewN | apply Kd.R_drew)); exact Kd.R_mono HO258.out (fun _ hk => ⟨hk.1.1.1, ⟨hk.2, hk.1.2⟩⟩)), (by (with_reducible repeat (first | apply Kd.V_alloc | apply Kd.V_drewN | apply Kd.V_drew)); exact Kd.V_mono HO_238001.out (fun _ hk => ⟨hk.1.1.1.1, ⟨hk.1.1.2, ⟨hk.1.2, ⟨hk.1.1.1.2.1, ⟨hk.1.1.1.2.2.1, ⟨hk.1.1.1.2.2.2.1, ⟨hk.1.1.1.2.2.2.2.1, ⟨hk.1.1.1.2.2.2.2.2.1, ⟨hk.1.1.1.2.2.2.2.2.2, hk.2⟩⟩⟩⟩⟩⟩⟩⟩⟩)), (by (with_reducible repeat (first | apply Kd.R_alloc | apply Kd.R_drewN | apply Kd.R_drew)); exact Kd.R_mono HO_245001.out (fun _ hk => ⟨hk.1.1, ⟨hk.1.2, hk.2⟩⟩)), (pk_ BK235.out), (pk_ BK236.out), (pk_ BK237.out), (pk_ BK238.out), (pk_ BK244.out), (pk_ BK261.out), GW261.out, GE261.out, NB235_261.out, NB261_235.out, NB236_261.out, NB261_236.out, NB237_261.out, NB261_237.out, NB238_261.out, NB261_238.out, NB244_261.out, NB261_244.out, (bk_ HB.out)⟩)
                   ·skip
                    refine box_step ?hg (N := 19) ?hd (cs := #[.int .i64 0, .slice none 0 0]) (t := 47) ?hr ?_; (case hd => rfl); (case hg => rfl); (case hr => first | (go_simp; done) | (go_simp; rfl))
                    intro gb261 hg w120 hbox hb
                    have n0_ := A_ (Kd.V_below (Kd.V_elderB (by (with_reducible repeat (first | apply Kd.V_alloc | apply Kd.V_drewN | apply Kd.V_drew)); exact HO_238001.out) gb261 (Nat.le_of_eq hg.symm)) hb)
                    have n1_ := A_ (Kd.R_below (rk_ HO_245001.out) hb)
                    have n2_ := A_ (Kd.R_below (rk_ HO254.out) hb)
                    have n3_ := A_ (blk_below (pk_ BK235.out) hb)
                    have n4_ := A_ (blk_below (pk_ BK236.out) hb)
                    have n5_ := A_ (blk_below (pk_ BK237.out) hb)
                    have n6_ := A_ (blk_below (pk_ BK238.out) hb)
                    have n7_ := A_ (blk_below (pk_ BK244.out) hb)
                    have n8_ := A_ (below_step (bk_ HB.out) hb)
                    have n9_ := A_ (hbox)
                    have n10_ := A_ (bz_ hg (bk_ HB.out))
                    have n11_ := A_ (bz_ hg (bk_ HB.out))
                    have n12_ := A_ (nl_ hg (pk_ BK235.out))
                    have n13_ := A_ (ng_ hg (pk_ BK235.out))
                    have n14_ := A_ (nl_ hg (pk_ BK236.out))
                    have n15_ := A_ (ng_ hg (pk_ BK236.out))
                    have n16_ := A_ (nl_ hg (pk_ BK237.out))
                    have n17_ := A_ (ng_ hg (pk_ BK237.out))
                    have n18_ := A_ (nl_ hg (pk_ BK238.out))
                    have n19_ := A_ (ng_ hg (pk_ BK238.out))
                    have n20_ := A_ (nl_ hg (pk_ BK244.out))
                    have n21_ := A_ (ng_ hg (pk_ BK244.out))
                    clear HO_238001 HO_245001 HO254 BK235 BK236 BK237 BK238 BK244 HB
                    have HO_238001 := n0_
                    have HO_245001 := n1_
                    have HO254 := n2_
                    have BK235 := n3_
                    have BK236 := n4_
                    have BK237 := n5_
                    have BK238 := n6_
                    have BK244 := n7_
                    have HB := n8_
                    have BK261 := n9_
                    have GW261 := n10_
                    have GE261 := n11_
                    have NB235_261 := n12_
                    have NB261_235 := n13_
                    have NB236_261 := n14_
                    have NB261_236 := n15_
                    have NB237_261 := n16_
                    have NB261_237 := n17_
                    have NB238_261 := n18_
                    have NB261_238 := n19_
                    have NB244_261 := n20_
                    have NB261_244 := n21_
                    clear n0_ n1_ n2_ n3_ n4_ n5_ n6_ n7_ n8_ n9_ n10_ n11_ n12_ n13_ n14_ n15_ n16_ n17_ n18_ n19_ n20_ n21_ hb hbox hg
                    refine hK.out _ _ ⟨(blk_cell BK236.out 0).trans rfl, (blk_cell BK236.out 1).trans rfl, (blk_cell BK237.out 0).trans rfl, (blk_cell BK237.out 1).trans rfl, ((HB.out.cell (World.block_lt_of_cell? w _ hw251_0)).trans hw251_0)⟩ (fun hHeld => ?_)
                    clear hK K
                    refine norm_ (a' := ?_) ?_ ?_
                    rotate_left
                    ·show Act.put _ (some 19) _ = _
                     simp only [Act.put, sa_, sz_, ss_, i64_w, i32_w]
                     rfl
                    refine one_ (i := 15) (N := some 116) #[true, true, true, true, true, true, true, true, true, true, true, true, true, true, true, true, false, false, false, false, true, false, false, false] rfl rfl (one_of HT_.out (by kernel_rfl)) (by decide) (fun K hK => ?_)
                    refine goes_ Try.func32 (by kernel_rfl) rfl #[.agg #[.int .i64 a1_0, .slice A1_1 l1_1.length c1_1], .agg #[.int .i64 (rd l2 a3_0), .slice Ao119 y252.length co119], .slice (some ad251) l2.length c2, .int .i64 (wrap64 (100 + (wrap64 (100 * (ji108)))))] (by rfl) rfl rfl (by (try simp only [List.map_toArray, List.map_cons, List.map_nil]); first | done | (simp only [hji108]; rfl) | rfl | (simp only [List.length_drop, List.length_take]; rfl)) ?_
                    with_reducible refine (counter_Until.calls kj72 a1_0 _ _ l1_1 (rd l2 a3_0) _ _ y252 _ _ l2 (wrap64 (100 + (wrap64 (100 * (ji108))))) t255 t256 t259 t260 _ ?side1 ?side2 ?side3 ?side4 ?side5 ?side6 A109.out).mono ?_
                    (case side1 => exact ck_ (Kd.C_below HR1_1.out HB.out))
                    (case side2 => exact HC1_1.out)
                    (case side3 => repeat (first | exact (Kd.R_reads' HO254.out).2.2 | (with_reducible refine Kd.C_alloc ?_ _) | (with_reducible refine Kd.C_drewN ?_ _) | (with_reducible refine Kd.C_drew ?_)))
                    (case side4 => exact (Kd.R_reads' HO254.out).2.1)
                    (case side5 => exact ck_ (Kd.C_below HR2.out HB.out))
                    (case side6 => exact HC2.out)
                    rintro e w121 ⟨v257, rfl, ho0, hb⟩
                    refine ⟨_, rfl, ?_⟩
                    have n0_ := A_ (Kd.V_elder' (by (with_reducible repeat (first | apply Kd.V_alloc | apply Kd.V_drewN | apply Kd.V_drew)); exact HO_238001.out) (Kd.R_base ho0) hb)
                    have n1_ := A_ (Kd.R_elder' (rk_ HO_245001.out) (Kd.R_base ho0) hb)
                    have n2_ := A_ (Kd.R_elder' (rk_ HO254.out) (Kd.R_base ho0) hb)
                    have n3_ := A_ (Kd.R_lower (Kd.R_new' (Kd.R_new' (Kd.R_newM (M := fun k_ => (w.heap.size ≤ k_)) ho0 (below_size (bk_ HB.out)) (fun k_ h_ => h_)) (Kd.R_lt (rk_ HO_245001.out))) (Kd.R_lt (rk_ HO254.out))) (below_size (bk_ HB.out)))
                    have n4_ := A_ (blk_below (pk_ BK235.out) hb)
                    have n5_ := A_ (blk_below (pk_ BK236.out) hb)
                    have n6_ := A_ (blk_below (pk_ BK237.out) hb)
                    have n7_ := A_ (blk_below (pk_ BK238.out) hb)
                    have n8_ := A_ (blk_below (pk_ BK244.out) hb)
                    have n9_ := A_ (blk_below (pk_ BK261.out) hb)
                    have n10_ := A_ (below_step (bk_ HB.out) hb)
                    clear HO_238001 HO_245001 HO254 BK235 BK236 BK237 BK238 BK244 BK261 HB
                    have HO_238001 := n0_
                    have HO_245001 := n1_
                    have HO254 := n2_
                    have HO258 := n3_
                    have BK235 := n4_
                    have BK236 := n5_
                    have BK237 := n6_
                    have BK238 := n7_
                    have BK244 := n8_
                    have BK261 := n9_
                    have HB := n10_
                    clear n0_ n1_ n2_ n3_ n4_ n5_ n6_ n7_ n8_ n9_ n10_
                    (try clear hb)
                    (try clear hb2)
                    (try clear hk)
                    (try clear hi)
                    (try clear ho0)
                    refine hK.out _ _ ⟨(blk_cell BK236.out 0).trans rfl, (blk_cell BK236.out 1).trans rfl, (blk_cell BK237.out 0).trans rfl, (blk_cell BK237.out 1).trans rfl, ((HB.out.cell (World.block_lt_of_cell? w _ hw251_0)).trans hw251_0)⟩ (fun hHeld => ?_)
                    clear hK K
                    refine norm_ (a' := ?_) ?_ ?_
                    rotate_left
                    ·show Act.put _ (some 116) _ = _
                     simp only [Act.put, sa_, sz_, ss_, i64_w, i32_w]
                     rfl
                    refine pure_ (i := 16) (N := some 100) (v := ?_) (a' := ?_) #[true, true, true, true, true, true, true, true, true, true, true, true, true, true, true, true, true, false, false, false, true, false, false, false] rfl rfl (any_of HT_.out (by kernel_rfl)) (fun _ _ _ h => h) (Or.inl ⟨by rfl, ?_⟩) ?_ ?_
                    rotate_left
                    ·intro w'
                     go_simp
                     with_reducible rfl
                    rotate_left
                    ·simp only [Act.put, sa_, sz_, ss_, i64_w, i32_w]
                     rfl
                    refine pure_ (i := 17) (N := some 117) (v := ?_) (a' := ?_) #[true, true, true, true, true, true, true, true, true, true, true, true, true, true, true, true, true, true, false, false, true, false, false, false] rfl rfl (any_of HT_.out (by kernel_rfl)) (fun _ _ _ h => h) (Or.inl ⟨by rfl, ?_⟩) ?_ ?_
                    rotate_left
                    ·intro w'
                     go_simp
                     with_reducible rfl
                    rotate_left
                    ·simp only [Act.put, sa_, sz_, ss_, i64_w, i32_w]
                     rfl
                    refine pure_ (i := 18) (N := some 118) (v := ?_) (a' := ?_) #[true, true, true, true, true, true, true, true, true, true, true, true, true, true, true, true, true, true, true, false, true, false, false, false] rfl rfl (any_of HT_.out (by kernel_rfl)) (fun _ _ _ h => h) (Or.inl ⟨by rfl, ?_⟩) ?_ ?_
                    rotate_left
                    ·intro w'
                     go_simp
                     with_reducible rfl
                    rotate_left
                    ·simp only [Act.put, sa_, sz_, ss_, i64_w, i32_w]
                     rfl
                    refine pure_ (i := 19) (N := some 119) (v := ?_) (a' := ?_) #[true, true, true, true, true, true, true, true, true, true, true, true, true, true, true, true, true, true, true, true, true, false, false, false] rfl rfl (any_of HT_.out (by kernel_rfl)) (fun _ _ _ h => h) (Or.inl ⟨by rfl, ?_⟩) ?_ ?_
                    rotate_left
                    ·intro w'
                     go_simp
                     with_reducible rfl
                    rotate_left
                    ·simp only [Act.put, sa_, sz_, ss_, i64_w, i32_w]
                     rfl
                    exact norm_ (by simp only [putAll, Act.put, List.setIfInBounds_toArray, List.set_cons_zero, List.set_cons_succ]) (hCont (.slice Ao119 y252.length co119, v257, gb261) _ ⟨hHeld, (by (with_reducible repeat (first | apply Kd.R_alloc | apply Kd.R_drewN | apply Kd.R_drew)); exact Kd.R_mono HO254.out (fun _ hk => ⟨hk.1.1.1, ⟨hk.2, hk.1.2⟩⟩)), (by (with_reducible repeat (first | apply Kd.R_alloc | apply Kd.R_drewN | apply Kd.R_drew)); exact Kd.R_mono HO258.out (fun _ hk => ⟨hk.1.1.1, ⟨hk.2, hk.1.2⟩⟩)), (by (with_reducible repeat (first | apply Kd.V_alloc | apply Kd.V_drewN | apply Kd.V_drew)); exact Kd.V_mono HO_238001.out (fun _ hk => ⟨hk.1.1.1.1, ⟨hk.1.1.2, ⟨hk.2, ⟨hk.1.1.1.2.1, ⟨hk.1.1.1.2.2.1, ⟨hk.1.1.1.2.2.2.1, ⟨hk.1.1.1.2.2.2.2.1, ⟨hk.1.1.1.2.2.2.2.2.1, ⟨hk.1.1.1.2.2.2.2.2.2, hk.1.2⟩⟩⟩⟩⟩⟩⟩⟩⟩)), (by (with_reducible repeat (first | apply Kd.R_alloc | apply Kd.R_drewN | apply Kd.R_drew)); exact Kd.R_mono HO_245001.out (fun _ hk => ⟨hk.1.1, ⟨hk.1.2, hk.2⟩⟩)), (pk_ BK235.out), (pk_ BK236.out), (pk_ BK237.out), (pk_ BK238.out), (pk_ BK244.out), (pk_ BK261.out), GW261.out, GE261.out, NB235_261.out, NB261_235.out, NB236_261.out, NB261_236.out, NB237_261.out, NB261_237.out, NB238_261.out, NB261_238.out, NB244_261.out, NB261_244.out, (bk_ HB.out)⟩)
                  ·skip
                   refine box_step ?hg (N := 19) ?hd (cs := #[.int .i64 0, .slice none 0 0]) (t := 47) ?hr ?_; (case hd => rfl); (case hg => rfl); (case hr => first | (go_simp; done) | (go_simp; rfl))
                   intro gb261 hg w117 hbox hb
                   have n0_ := A_ (Kd.V_below (Kd.V_elderB (by (with_reducible repeat (first | apply Kd.V_alloc | apply Kd.V_drewN | apply Kd.V_drew)); exact HO_238001.out) gb261 (Nat.le_of_eq hg.symm)) hb)
                   have n1_ := A_ (Kd.R_below (rk_ HO_245001.out) hb)
                   have n2_ := A_ (blk_below (pk_ BK235.out) hb)
                   have n3_ := A_ (blk_below (pk_ BK236.out) hb)
                   have n4_ := A_ (blk_below (pk_ BK237.out) hb)
                   have n5_ := A_ (blk_below (pk_ BK238.out) hb)
                   have n6_ := A_ (blk_below (pk_ BK244.out) hb)
                   have n7_ := A_ (below_step (bk_ HB.out) hb)
                   have n8_ := A_ (hbox)
                   have n9_ := A_ (bz_ hg (bk_ HB.out))
                   have n10_ := A_ (bz_ hg (bk_ HB.out))
                   have n11_ := A_ (nl_ hg (pk_ BK235.out))
                   have n12_ := A_ (ng_ hg (pk_ BK235.out))
                   have n13_ := A_ (nl_ hg (pk_ BK236.out))
                   have n14_ := A_ (ng_ hg (pk_ BK236.out))
                   have n15_ := A_ (nl_ hg (pk_ BK237.out))
                   have n16_ := A_ (ng_ hg (pk_ BK237.out))
                   have n17_ := A_ (nl_ hg (pk_ BK238.out))
                   have n18_ := A_ (ng_ hg (pk_ BK238.out))
                   have n19_ := A_ (nl_ hg (pk_ BK244.out))
                   have n20_ := A_ (ng_ hg (pk_ BK244.out))
                   clear HO_238001 HO_245001 BK235 BK236 BK237 BK238 BK244 HB
                   have HO_238001 := n0_
                   have HO_245001 := n1_
                   have BK235 := n2_
                   have BK236 := n3_
                   have BK237 := n4_
                   have BK238 := n5_
                   have BK244 := n6_
                   have HB := n7_
                   have BK261 := n8_
                   have GW261 := n9_
                   have GE261 := n10_
                   have NB235_261 := n11_
                   have NB261_235 := n12_
                   have NB236_261 := n13_
                   have NB261_236 := n14_
                   have NB237_261 := n15_
                   have NB261_237 := n16_
                   have NB238_261 := n17_
                   have NB261_238 := n18_
                   have NB244_261 := n19_
                   have NB261_244 := n20_
                   clear n0_ n1_ n2_ n3_ n4_ n5_ n6_ n7_ n8_ n9_ n10_ n11_ n12_ n13_ n14_ n15_ n16_ n17_ n18_ n19_ n20_ hb hbox hg
                   refine hK.out _ _ ⟨(blk_cell BK236.out 0).trans rfl, (blk_cell BK236.out 1).trans rfl, (blk_cell BK237.out 0).trans rfl, (blk_cell BK237.out 1).trans rfl, ((HB.out.cell (World.block_lt_of_cell? w _ hw251_0)).trans hw251_0)⟩ (fun hHeld => ?_)
                   clear hK K
                   refine norm_ (a' := ?_) ?_ ?_
                   rotate_left
                   ·show Act.put _ (some 19) _ = _
                    simp only [Act.put, sa_, sz_, ss_, i64_w, i32_w]
                    rfl
                   refine one_ (i := 7) (N := some 108) #[true, true, true, true, true, true, true, true, false, true, true, true, true, true, true, false, false, false, false, false, true, false, false, false] rfl rfl (one_of HT_.out (by kernel_rfl)) (by decide) (fun K hK => ?_)
                   refine Kd.R_lit_step (Kd.int .i64) _ 3 ?hg (N := 108) ?hd (xs := ([t247, 0] : List Int)) (inner := [.int .i64 t247, .int .i64 0]) (ok := fun _ => True) (okp := fun _ => True) ?hr ?hp (fun _ hk => hk) trivial (Below.refl _ _) (Nat.le_refl _) (by simp) ?_; (case hd => rfl); (case hg => rfl); (case hr => first | (go_simp; done) | (go_simp; rfl)); (case hp => exact (Reps.one (show Kd.M (Kd.int .i64) _ _ _ t247 [.int .i64 t247] from rfl) (Reps.one (show Kd.M (Kd.int .i64) _ _ _ 0 [.int .i64 0] from rfl) (Reps.none _ _))))
                   intro v253 w118 ho119 hb hg_ hnew_
                   clear hg_ hnew_
                   (first | rw [← Ny252.out] at ho119 | (simp only [Int.reduceToNat] at ho119; rw [← Ny252.out] at ho119))
                   have n0_ := A_ (Kd.V_elder' (by (with_reducible repeat (first | apply Kd.V_alloc | apply Kd.V_drewN | apply Kd.V_drew)); exact HO_238001.out) (Kd.R_base ho119) hb)
                   have n1_ := A_ (Kd.R_elder' (rk_ HO_245001.out) (Kd.R_base ho119) hb)
                   have n2_ := A_ (Kd.R_lower (Kd.R_new' (Kd.R_newM (M := fun k_ => (w.heap.size ≤ k_)) ho119 (below_size (bk_ HB.out)) (fun k_ h_ => h_)) (Kd.R_lt (rk_ HO_245001.out))) (below_size (bk_ HB.out)))
                   have n3_ := A_ (blk_below (pk_ BK235.out) hb)
                   have n4_ := A_ (blk_below (pk_ BK236.out) hb)
                   have n5_ := A_ (blk_below (pk_ BK237.out) hb)
                   have n6_ := A_ (blk_below (pk_ BK238.out) hb)
                   have n7_ := A_ (blk_below (pk_ BK244.out) hb)
                   have n8_ := A_ (blk_below (pk_ BK261.out) hb)
                   have n9_ := A_ (below_step (bk_ HB.out) hb)
                   clear HO_238001 HO_245001 BK235 BK236 BK237 BK238 BK244 BK261 HB
                   have HO_238001 := n0_
                   have HO_245001 := n1_
                   have HO254 := n2_
                   have BK235 := n3_
                   have BK236 := n4_
                   have BK237 := n5_
                   have BK238 := n6_
                   have BK244 := n7_
                   have BK261 := n8_
                   have HB := n9_
                   clear n0_ n1_ n2_ n3_ n4_ n5_ n6_ n7_ n8_ n9_ hb ho119
                   obtain ⟨Ao120, co120, eo120⟩ := Kd.R_slice HO254.out
                   (first | subst eo120 | (injection eo120 with f1_ f2_ f3_; have f4_ := f1_.symm; have f5_ := f3_.symm; clear f1_ f2_ f3_; subst f4_; subst f5_))
                   refine hK.out _ _ ⟨(blk_cell BK236.out 0).trans rfl, (blk_cell BK236.out 1).trans rfl, (blk_cell BK237.out 0).trans rfl, (blk_cell BK237.out 1).trans rfl, ((HB.out.cell (World.block_lt_of_cell? w _ hw251_0)).trans hw251_0)⟩ (fun hHeld => ?_)
                   clear hK K
                   refine norm_ (a' := ?_) ?_ ?_
                   rotate_left
                   ·show Act.put _ (some 108) _ = _
                    simp only [Act.put, sa_, sz_, ss_, i64_w, i32_w]
                    rfl
                   refine pure_ (i := 8) (N := some 109) (v := ?_) (a' := ?_) #[true, true, true, true, true, true, true, true, true, true, true, true, true, true, true, false, false, false, false, false, true, false, false, false] rfl rfl (any_of HT_.out (by kernel_rfl)) (fun _ _ _ h => h) (Or.inl ⟨by rfl, ?_⟩) ?_ ?_
                   rotate_left
                   ·intro w'
                    go_simp
                    with_reducible rfl
                   rotate_left
                   ·simp only [Act.put, sa_, sz_, ss_, i64_w, i32_w]
                    rfl
                   refine one_ (i := 15) (N := some 116) #[true, true, true, true, true, true, true, true, true, true, true, true, true, true, true, true, false, false, false, false, true, false, false, false] rfl rfl (one_of HT_.out (by kernel_rfl)) (by decide) (fun K hK => ?_)
                   refine goes_ Try.func32 (by kernel_rfl) rfl #[.agg #[.int .i64 a1_0, .slice A1_1 l1_1.length c1_1], .agg #[.int .i64 (rd l2 a3_0), .slice Ao120 y252.length co120], .slice (some ad251) l2.length c2, .int .i64 (wrap64 (100 + (wrap64 (100 * (ji108)))))] (by rfl) rfl rfl (by (try simp only [List.map_toArray, List.map_cons, List.map_nil]); first | done | (simp only [hji108]; rfl) | rfl | (simp only [List.length_drop, List.length_take]; rfl)) ?_
                   with_reducible refine (counter_Until.calls kj72 a1_0 _ _ l1_1 (rd l2 a3_0) _ _ y252 _ _ l2 (wrap64 (100 + (wrap64 (100 * (ji108))))) t255 t256 t259 t260 _ ?side1 ?side2 ?side3 ?side4 ?side5 ?side6 A109.out).mono ?_
                   (case side1 => exact ck_ (Kd.C_below HR1_1.out HB.out))
                   (case side2 => exact HC1_1.out)
                   (case side3 => repeat (first | exact (Kd.R_reads' HO254.out).2.2 | (with_reducible refine Kd.C_alloc ?_ _) | (with_reducible refine Kd.C_drewN ?_ _) | (with_reducible refine Kd.C_drew ?_)))
                   (case side4 => exact (Kd.R_reads' HO254.out).2.1)
                   (case side5 => exact ck_ (Kd.C_below HR2.out HB.out))
                   (case side6 => exact HC2.out)
                   rintro e w121 ⟨v257, rfl, ho0, hb⟩
                   refine ⟨_, rfl, ?_⟩
                   have n0_ := A_ (Kd.V_elder' (by (with_reducible repeat (first | apply Kd.V_alloc | apply Kd.V_drewN | apply Kd.V_drew)); exact HO_238001.out) (Kd.R_base ho0) hb)
                   have n1_ := A_ (Kd.R_elder' (rk_ HO_245001.out) (Kd.R_base ho0) hb)
                   have n2_ := A_ (Kd.R_elder' (rk_ HO254.out) (Kd.R_base ho0) hb)
                   have n3_ := A_ (Kd.R_lower (Kd.R_new' (Kd.R_new' (Kd.R_newM (M := fun k_ => (w.heap.size ≤ k_)) ho0 (below_size (bk_ HB.out)) (fun k_ h_ => h_)) (Kd.R_lt (rk_ HO_245001.out))) (Kd.R_lt (rk_ HO254.out))) (below_size (bk_ HB.out)))
                   have n4_ := A_ (blk_below (pk_ BK235.out) hb)
                   have n5_ := A_ (blk_below (pk_ BK236.out) hb)
                   have n6_ := A_ (blk_below (pk_ BK237.out) hb)
                   have n7_ := A_ (blk_below (pk_ BK238.out) hb)
                   have n8_ := A_ (blk_below (pk_ BK244.out) hb)
                   have n9_ := A_ (blk_below (pk_ BK261.out) hb)
                   have n10_ := A_ (below_step (bk_ HB.out) hb)
                   clear HO_238001 HO_245001 HO254 BK235 BK236 BK237 BK238 BK244 BK261 HB
                   have HO_238001 := n0_
                   have HO_245001 := n1_
                   have HO254 := n2_
                   have HO258 := n3_
                   have BK235 := n4_
                   have BK236 := n5_
                   have BK237 := n6_
                   have BK238 := n7_
                   have BK244 := n8_
                   have BK261 := n9_
                   have HB := n10_
                   clear n0_ n1_ n2_ n3_ n4_ n5_ n6_ n7_ n8_ n9_ n10_
                   (try clear hb)
                   (try clear hb2)
                   (try clear hk)
                   (try clear hi)
                   (try clear ho0)
                   refine hK.out _ _ ⟨(blk_cell BK236.out 0).trans rfl, (blk_cell BK236.out 1).trans rfl, (blk_cell BK237.out 0).trans rfl, (blk_cell BK237.out 1).trans rfl, ((HB.out.cell (World.block_lt_of_cell? w _ hw251_0)).trans hw251_0)⟩ (fun hHeld => ?_)
                   clear hK K
                   refine norm_ (a' := ?_) ?_ ?_
                   rotate_left
                   ·show Act.put _ (some 116) _ = _
                    simp only [Act.put, sa_, sz_, ss_, i64_w, i32_w]
                    rfl
                   refine pure_ (i := 16) (N := some 100) (v := ?_) (a' := ?_) #[true, true, true, true, true, true, true, true, true, true, true, true, true, true, true, true, true, false, false, false, true, false, false, false] rfl rfl (any_of HT_.out (by kernel_rfl)) (fun _ _ _ h => h) (Or.inl ⟨by rfl, ?_⟩) ?_ ?_
                   rotate_left
                   ·intro w'
                    go_simp
                    with_reducible rfl
                   rotate_left
                   ·simp only [Act.put, sa_, sz_, ss_, i64_w, i32_w]
                    rfl
                   refine pure_ (i := 17) (N := some 117) (v := ?_) (a' := ?_) #[true, true, true, true, true, true, true, true, true, true, true, true, true, true, true, true, true, true, false, false, true, false, false, false] rfl rfl (any_of HT_.out (by kernel_rfl)) (fun _ _ _ h => h) (Or.inl ⟨by rfl, ?_⟩) ?_ ?_
                   rotate_left
                   ·intro w'
                    go_simp
                    with_reducible rfl
                   rotate_left
                   ·simp only [Act.put, sa_, sz_, ss_, i64_w, i32_w]
                    rfl
                   refine pure_ (i := 18) (N := some 118) (v := ?_) (a' := ?_) #[true, true, true, true, true, true, true, true, true, true, true, true, true, true, true, true, true, true, true, false, true, false, false, false] rfl rfl (any_of HT_.out (by kernel_rfl)) (fun _ _ _ h => h) (Or.inl ⟨by rfl, ?_⟩) ?_ ?_
                   rotate_left
                   ·intro w'
                    go_simp
                    with_reducible rfl
                   rotate_left
                   ·simp only [Act.put, sa_, sz_, ss_, i64_w, i32_w]
                    rfl
                   refine pure_ (i := 19) (N := some 119) (v := ?_) (a' := ?_) #[true, true, true, true, true, true, true, true, true, true, true, true, true, true, true, true, true, true, true, true, true, false, false, false] rfl rfl (any_of HT_.out (by kernel_rfl)) (fun _ _ _ h => h) (Or.inl ⟨by rfl, ?_⟩) ?_ ?_
                   rotate_left
                   ·intro w'
                    go_simp
                    with_reducible rfl
                   rotate_left
                   ·simp only [Act.put, sa_, sz_, ss_, i64_w, i32_w]
                    rfl
                   exact norm_ (by simp only [putAll, Act.put, List.setIfInBounds_toArray, List.set_cons_zero, List.set_cons_succ]) (hCont (.slice Ao120 y252.length co120, v257, gb261) _ ⟨hHeld, (by (with_reducible repeat (first | apply Kd.R_alloc | apply Kd.R_drewN | apply Kd.R_drew)); exact Kd.R_mono HO254.out (fun _ hk => ⟨hk.1.1.1, ⟨hk.2, hk.1.2⟩⟩)), (by (with_reducible repeat (first | apply Kd.R_alloc | apply Kd.R_drewN | apply Kd.R_drew)); exact Kd.R_mono HO258.out (fun _ hk => ⟨hk.1.1.1, ⟨hk.2, hk.1.2⟩⟩)), (by (with_reducible repeat (first | apply Kd.V_alloc | apply Kd.V_drewN | apply Kd.V_drew)); exact Kd.V_mono HO_238001.out (fun _ hk => ⟨hk.1.1.1.1, ⟨hk.1.2, ⟨hk.2, ⟨hk.1.1.1.2.1, ⟨hk.1.1.1.2.2.1, ⟨hk.1.1.1.2.2.2.1, ⟨hk.1.1.1.2.2.2.2.1, ⟨hk.1.1.1.2.2.2.2.2.1, ⟨hk.1.1.1.2.2.2.2.2.2, hk.1.1.2⟩⟩⟩⟩⟩⟩⟩⟩⟩)), (by (with_reducible repeat (first | apply Kd.R_alloc | apply Kd.R_drewN | apply Kd.R_drew)); exact Kd.R_mono HO_245001.out (fun _ hk => ⟨hk.1.1, ⟨hk.1.2, hk.2⟩⟩)), (pk_ BK235.out), (pk_ BK236.out), (pk_ BK237.out), (pk_ BK238.out), (pk_ BK244.out), (pk_ BK261.out), GW261.out, GE261.out, NB235_261.out, NB261_235.out, NB236_261.out, NB261_236.out, NB237_261.out, NB261_237.out, NB238_261.out, NB261_238.out, NB244_261.out, NB261_244.out, (bk_ HB.out)⟩)
                 rintro ⟨v253, v257, gb261⟩ w122 ⟨hS_, h0_, h1_, h2_, h3_, h4_, h5_, h6_, h7_, h8_, h9_, h10_, h11_, h12_, h13_, h14_, h15_, h16_, h17_, h18_, h19_, h20_, h21_, h22_⟩
                 have n0_ : Aside0 (Kd.R (Kd.int .i64) 3 w122 w.heap.size (fun k_ => (w.heap.size ≤ k_) ∧ some k_ ≠ (v257 : Value).ownBlock ∧ some k_ ≠ (.slice Ao27 t240.length co27 : Value).ownBlock) v253 y252) := ⟨h0_⟩
                 have n1_ : Aside0 (Kd.R (Kd.int .i64) 3 w122 w.heap.size (fun k_ => (w.heap.size ≤ k_) ∧ some k_ ≠ (v253 : Value).ownBlock ∧ some k_ ≠ (.slice Ao27 t240.length co27 : Value).ownBlock) v257 t256) := ⟨h1_⟩
                 have n2_ : Aside0 (Kd.V (Kd.int .i64) 3 w122 w.heap.size (fun k_ => (P3_1_ k_ ∨ w.heap.size ≤ k_) ∧ some k_ ≠ (v253 : Value).ownBlock ∧ some k_ ≠ (v257 : Value).ownBlock ∧ some k_ ≠ (.slice Ao27 t240.length co27 : Value).ownBlock ∧ k_ ≠ gb235 ∧ k_ ≠ gb236 ∧ k_ ≠ gb237 ∧ k_ ≠ gb238 ∧ k_ ≠ gb244 ∧ k_ ≠ gb261) (.slice A3_1 l3_1.length c3_1) l3_1) := ⟨h2_⟩
                 have n3_ : Aside0 (Kd.R (Kd.int .i64) 3 w122 w.heap.size (fun k_ => (w.heap.size ≤ k_) ∧ some k_ ≠ (v253 : Value).ownBlock ∧ some k_ ≠ (v257 : Value).ownBlock) (.slice Ao27 t240.length co27) t240) := ⟨h3_⟩
                 have n4_ : Aside0 (w122.heap[gb235]? = some (.cells #[.int .i64 a0_0, .slice A0_1 l0_1.length c0_1] 38 (0, 0))) := ⟨h4_⟩
                 have n5_ : Aside0 (w122.heap[gb236]? = some (.cells #[.int .i64 a1_0, .slice A1_1 l1_1.length c1_1] 38 (0, 0))) := ⟨h5_⟩
                 have n6_ : Aside0 (w122.heap[gb237]? = some (.cells #[.int .i64 a3_0, .slice A3_1 l3_1.length c3_1] 47 (0, 0))) := ⟨h6_⟩
                 have n7_ : Aside0 (w122.heap[gb238]? = some (.cells #[.int .i64 0, .slice none 0 0] 47 (0, 0))) := ⟨h7_⟩
                 have n8_ : Aside0 (w122.heap[gb244]? = some (.cells #[.int .i64 t239, .slice Ao27 t240.length co27] 47 (0, 0))) := ⟨h8_⟩
                 have n9_ : Aside0 (w122.heap[gb261]? = some (.cells #[.int .i64 0, .slice none 0 0] 47 (0, 0))) := ⟨h9_⟩
                 have n10_ : Aside0 (w.heap.size ≤ gb261) := ⟨h10_⟩
                 have n11_ : Aside0 (w.heap.size ≤ gb261) := ⟨h11_⟩
                 have n12_ : Aside0 (gb235 ≠ gb261) := ⟨h12_⟩
                 have n13_ : Aside0 (gb261 ≠ gb235) := ⟨h13_⟩
                 have n14_ : Aside0 (gb236 ≠ gb261) := ⟨h14_⟩
                 have n15_ : Aside0 (gb261 ≠ gb236) := ⟨h15_⟩
                 have n16_ : Aside0 (gb237 ≠ gb261) := ⟨h16_⟩
                 have n17_ : Aside0 (gb261 ≠ gb237) := ⟨h17_⟩
                 have n18_ : Aside0 (gb238 ≠ gb261) := ⟨h18_⟩
                 have n19_ : Aside0 (gb261 ≠ gb238) := ⟨h19_⟩
                 have n20_ : Aside0 (gb244 ≠ gb261) := ⟨h20_⟩
                 have n21_ : Aside0 (gb261 ≠ gb244) := ⟨h21_⟩
                 have n22_ : Aside0 (Below w.heap.size w w122) := ⟨h22_⟩
                 clear HO_238001 HO_245001 BK235 BK236 BK237 BK238 BK244 HB h0_ h1_ h2_ h3_ h4_ h5_ h6_ h7_ h8_ h9_ h10_ h11_ h12_ h13_ h14_ h15_ h16_ h17_ h18_ h19_ h20_ h21_ h22_
                 have HO254 := n0_
                 have HO258 := n1_
                 have HO_238001 := n2_
                 have HO_245001 := n3_
                 have BK235 := n4_
                 have BK236 := n5_
                 have BK237 := n6_
                 have BK238 := n7_
                 have BK244 := n8_
                 have BK261 := n9_
                 have GW261 := n10_
                 have GE261 := n11_
                 have NB235_261 := n12_
                 have NB261_235 := n13_
                 have NB236_261 := n14_
                 have NB261_236 := n15_
                 have NB237_261 := n16_
                 have NB261_237 := n17_
                 have NB238_261 := n18_
                 have NB261_238 := n19_
                 have NB244_261 := n20_
                 have NB261_244 := n21_
                 have HB := n22_
                 clear n0_ n1_ n2_ n3_ n4_ n5_ n6_ n7_ n8_ n9_ n10_ n11_ n12_ n13_ n14_ n15_ n16_ n17_ n18_ n19_ n20_ n21_ n22_
                 have hHeld : w122.cell? ⟨gb236, 0, none⟩ = some (.int .i64 a1_0) ∧ w122.cell? ⟨gb236, 1, none⟩ = some (.slice A1_1 l1_1.length c1_1) ∧ w122.cell? ⟨gb237, 0, none⟩ = some (.int .i64 a3_0) ∧ w122.cell? ⟨gb237, 1, none⟩ = some (.slice A3_1 l3_1.length c3_1) ∧ w122.cell? (ad251.add (a3_0).toNat) = some (.int .i64 (rd l2 a3_0)) := hS_
                 obtain ⟨Ao123, co123, eo123⟩ := Kd.R_slice HO254.out
                 (first | subst eo123 | (injection eo123 with f1_ f2_ f3_; have f4_ := f1_.symm; have f5_ := f3_.symm; clear f1_ f2_ f3_; subst f4_; subst f5_))
                 obtain ⟨Ao125, co125, eo125⟩ := Kd.R_slice HO258.out
                 (first | subst eo125 | (injection eo125 with f1_ f2_ f3_; have f4_ := f1_.symm; have f5_ := f3_.symm; clear f1_ f2_ f3_; subst f4_; subst f5_))
                 refine norm_ (a' := ?_) ?_ ?_
                 rotate_left
                 ·simp only [putAll, Act.put, List.setIfInBounds_toArray, List.set_cons_zero, List.set_cons_succ]
                  rfl
                 refine one_ (i := 21) (N := none) #[true, true, true, true, true, true, true, true, true, true, true, true, true, true, true, true, true, true, true, true, true, true, false, false] rfl rfl (one_of HT_.out (by kernel_rfl)) (by decide) (fun K hK => ?_)
                 have hs124 : w122.cell? ⟨gb261, 0, none⟩ = some (.int .i64 0) := (blk_cell BK261.out 0).trans rfl
                 have hfs124 := blk_frozen BK261.out 0
                 have hns124_0 := NB235_261.out
                 have hns124_1 := NB236_261.out
                 have hns124_2 := NB237_261.out
                 have hns124_3 := NB238_261.out
                 have hns124_4 := NB244_261.out
                 have hms124_0 := NB261_235.out
                 have hms124_1 := NB261_236.out
                 have hms124_2 := NB261_237.out
                 have hms124_3 := NB261_238.out
                 have hms124_4 := NB261_244.out
                 have hs126 : w122.cell? ⟨gb261, 1, none⟩ = some (.slice none 0 0) := (blk_cell BK261.out 1).trans rfl
                 have hfs126 := blk_frozen BK261.out 1
                 have hns126_0 := NB235_261.out
                 have hns126_1 := NB236_261.out
                 have hns126_2 := NB237_261.out
                 have hns126_3 := NB238_261.out
                 have hns126_4 := NB244_261.out
                 have hms126_0 := NB261_235.out
                 have hms126_1 := NB261_236.out
                 have hms126_2 := NB261_237.out
                 have hms126_3 := NB261_238.out
                 have hms126_4 := NB261_244.out
                 refine skip_ (w1 := ?_) (by rfl) rfl ?_ ?_
                 rotate_left
                 ·go_simp
                  rfl
                 refine hK.out _ _ ⟨(cf2_ NB236_261.out hHeld.1), (cf2_ NB236_261.out hHeld.2.1), (cf2_ NB237_261.out hHeld.2.2.1), (cf2_ NB237_261.out hHeld.2.2.2.1), ((cell_far (p := ⟨gb261, _, none⟩) (by first | exact Nat.ne_of_lt (Nat.lt_of_lt_of_le (by have := World.block_lt_of_cell? _ _ hw251_0; first | rwa [add_block] at this | exact this) GW261.out) | (rw [add_block]; exact Nat.ne_of_lt (Nat.lt_of_lt_of_le (by have := World.block_lt_of_cell? _ _ hw251_0; first | rwa [add_block] at this | exact this) GW261.out)) | (show (Addr.add _ _).block ≠ _; rw [add_block]; exact Nat.ne_of_lt (Nat.lt_of_lt_of_le (by have := World.block_lt_of_cell? _ _ hw251_0; first | rwa [add_block] at this | exact this) GW261.out)) | (dsimp only; exact Nat.ne_of_lt (Nat.lt_of_lt_of_le (by have := World.block_lt_of_cell? _ _ hw251_0; first | rwa [add_block] at this | exact this) GW261.out))) _).trans (((cell_far (p := ⟨gb261, _, none⟩) (by first | exact Nat.ne_of_lt (Nat.lt_of_lt_of_le (by have := World.block_lt_of_cell? _ _ hw251_0; first | rwa [add_block] at this | exact this) GW261.out) | (rw [add_block]; exact Nat.ne_of_lt (Nat.lt_of_lt_of_le (by have := World.block_lt_of_cell? _ _ hw251_0; first | rwa [add_block] at this | exact this) GW261.out)) | (show (Addr.add _ _).block ≠ _; rw [add_block]; exact Nat.ne_of_lt (Nat.lt_of_lt_of_le (by have := World.block_lt_of_cell? _ _ hw251_0; first | rwa [add_block] at this | exact this) GW261.out)) | (dsimp only; exact Nat.ne_of_lt (Nat.lt_of_lt_of_le (by have := World.block_lt_of_cell? _ _ hw251_0; first | rwa [add_block] at this | exact this) GW261.out))) _).trans (hHeld.2.2.2.2))))⟩ (fun hHeld => ?_)
                 clear hK K
                 refine pure_ (i := 22) (N := some 20) (v := ?_) (a' := ?_) #[true, true, true, true, true, true, true, true, true, true, true, true, true, true, true, true, true, true, true, true, true, true, true, false] rfl rfl (any_of HT_.out (by kernel_rfl)) (fun _ _ _ h => h) (Or.inl ⟨by rfl, ?_⟩) ?_ ?_
                 rotate_left
                 ·intro w'
                  go_simp
                  with_reducible rfl
                 rotate_left
                 ·simp only [Act.put, sa_, sz_, ss_, i64_w, i32_w]
                  rfl
                 refine pure_ (i := 23) (N := some 21) (v := ?_) (a' := ?_) #[true, true, true, true, true, true, true, true, true, true, true, true, true, true, true, true, true, true, true, true, true, true, true, true] rfl rfl (any_of HT_.out (by kernel_rfl)) (fun _ _ _ h => h) (Or.inl ⟨by rfl, ?_⟩) ?_ ?_
                 rotate_left
                 ·intro w'
                  go_simp
                  with_reducible rfl
                 rotate_left
                 ·simp only [Act.put, sa_, sz_, ss_, i64_w, i32_w]
                  rfl
                 refine done_ (done_of HT_.out (by kernel_rfl)) ?_
                 try go_wp2
                 have n0_ : Aside0 (Kd.V (Kd.int .i64) 3 ((w122.setCell ⟨gb261, 0, none⟩ (.int .i64 t255)).setCell ⟨gb261, 1, none⟩ (.slice Ao125 t256.length co125)) w.heap.size (fun k_ => (P3_1_ k_ ∨ w.heap.size ≤ k_) ∧ some k_ ≠ (.slice Ao27 t240.length co27 : Value).ownBlock ∧ some k_ ≠ (.slice Ao123 y252.length co123 : Value).ownBlock ∧ some k_ ≠ (.slice Ao125 t256.length co125 : Value).ownBlock ∧ k_ ≠ gb235 ∧ k_ ≠ gb236 ∧ k_ ≠ gb237 ∧ k_ ≠ gb238 ∧ k_ ≠ gb244 ∧ k_ ≠ gb261) (.slice A3_1 l3_1.length c3_1) l3_1) := ⟨by (with_reducible repeat (first | apply Kd.V_alloc | apply Kd.V_drewN | apply Kd.V_drew)); exact Kd.V_mono (Kd.V_far (p := ⟨gb261, 1, none⟩) (Kd.V_far (p := ⟨gb261, 0, none⟩) (Kd.V_mono HO_238001.out (fun k_ hk => (⟨hk, hk.2.2.2.2.2.2.2.2.2⟩ : _ ∧ k_ ≠ gb261))) (fun _ hk => hk.2) (.int .i64 t255)) (fun _ hk => hk.2) (.slice Ao125 t256.length co125)) (fun _ hk => ⟨hk.1.1, ⟨hk.1.2.2.2.1, ⟨hk.1.2.1, ⟨hk.1.2.2.1, ⟨hk.1.2.2.2.2.1, ⟨hk.1.2.2.2.2.2.1, ⟨hk.1.2.2.2.2.2.2.1, ⟨hk.1.2.2.2.2.2.2.2.1, ⟨hk.1.2.2.2.2.2.2.2.2.1, hk.1.2.2.2.2.2.2.2.2.2⟩⟩⟩⟩⟩⟩⟩⟩⟩)⟩
                 have n1_ : Aside0 (Kd.R (Kd.int .i64) 3 ((w122.setCell ⟨gb261, 0, none⟩ (.int .i64 t255)).setCell ⟨gb261, 1, none⟩ (.slice Ao125 t256.length co125)) w.heap.size (fun k_ => (w.heap.size ≤ k_) ∧ some k_ ≠ (.slice Ao123 y252.length co123 : Value).ownBlock ∧ some k_ ≠ (.slice Ao125 t256.length co125 : Value).ownBlock) (.slice Ao27 t240.length co27) t240) := ⟨by (with_reducible repeat (first | apply Kd.R_alloc | apply Kd.R_drewN | apply Kd.R_drew)); exact Kd.R_mono (rf2_ (Kd.R_types HO_245001.out BK261.out (by decide))) (fun _ hk => ⟨hk.1.1, ⟨hk.1.2.1, hk.1.2.2⟩⟩)⟩
                 have n2_ : Aside0 (Kd.R (Kd.int .i64) 3 ((w122.setCell ⟨gb261, 0, none⟩ (.int .i64 t255)).setCell ⟨gb261, 1, none⟩ (.slice Ao125 t256.length co125)) w.heap.size (fun k_ => (w.heap.size ≤ k_) ∧ some k_ ≠ (.slice Ao27 t240.length co27 : Value).ownBlock ∧ some k_ ≠ (.slice Ao125 t256.length co125 : Value).ownBlock) (.slice Ao123 y252.length co123) y252) := ⟨by (with_reducible repeat (first | apply Kd.R_alloc | apply Kd.R_drewN | apply Kd.R_drew)); exact Kd.R_mono (rf2_ (Kd.R_types HO254.out BK261.out (by decide))) (fun _ hk => ⟨hk.1.1, ⟨hk.1.2.2, hk.1.2.1⟩⟩)⟩
                 have n3_ : Aside0 (Kd.R (Kd.int .i64) 3 ((w122.setCell ⟨gb261, 0, none⟩ (.int .i64 t255)).setCell ⟨gb261, 1, none⟩ (.slice Ao125 t256.length co125)) w.heap.size (fun k_ => (w.heap.size ≤ k_) ∧ some k_ ≠ (.slice Ao27 t240.length co27 : Value).ownBlock ∧ some k_ ≠ (.slice Ao123 y252.length co123 : Value).ownBlock) (.slice Ao125 t256.length co125) t256) := ⟨by (with_reducible repeat (first | apply Kd.R_alloc | apply Kd.R_drewN | apply Kd.R_drew)); exact Kd.R_mono (rf2_ (Kd.R_types HO258.out BK261.out (by decide))) (fun _ hk => ⟨hk.1.1, ⟨hk.1.2.2, hk.1.2.1⟩⟩)⟩
                 have n4_ : Aside0 (((w122.setCell ⟨gb261, 0, none⟩ (.int .i64 t255)).setCell ⟨gb261, 1, none⟩ (.slice Ao125 t256.length co125)).heap[gb235]? = some (.cells #[.int .i64 a0_0, .slice A0_1 l0_1.length c0_1] 38 (0, 0))) := ⟨by (iterate 2 (refine pk_ ?_; refine blk_far ?_ NB235_261.out _)); exact pk_ BK235.out⟩
                 have n5_ : Aside0 (((w122.setCell ⟨gb261, 0, none⟩ (.int .i64 t255)).setCell ⟨gb261, 1, none⟩ (.slice Ao125 t256.length co125)).heap[gb236]? = some (.cells #[.int .i64 a1_0, .slice A1_1 l1_1.length c1_1] 38 (0, 0))) := ⟨by (iterate 2 (refine pk_ ?_; refine blk_far ?_ NB236_261.out _)); exact pk_ BK236.out⟩
                 have n6_ : Aside0 (((w122.setCell ⟨gb261, 0, none⟩ (.int .i64 t255)).setCell ⟨gb261, 1, none⟩ (.slice Ao125 t256.length co125)).heap[gb237]? = some (.cells #[.int .i64 a3_0, .slice A3_1 l3_1.length c3_1] 47 (0, 0))) := ⟨by (iterate 2 (refine pk_ ?_; refine blk_far ?_ NB237_261.out _)); exact pk_ BK237.out⟩
                 have n7_ : Aside0 (((w122.setCell ⟨gb261, 0, none⟩ (.int .i64 t255)).setCell ⟨gb261, 1, none⟩ (.slice Ao125 t256.length co125)).heap[gb238]? = some (.cells #[.int .i64 0, .slice none 0 0] 47 (0, 0))) := ⟨by (iterate 2 (refine pk_ ?_; refine blk_far ?_ NB238_261.out _)); exact pk_ BK238.out⟩
                 have n8_ : Aside0 (((w122.setCell ⟨gb261, 0, none⟩ (.int .i64 t255)).setCell ⟨gb261, 1, none⟩ (.slice Ao125 t256.length co125)).heap[gb244]? = some (.cells #[.int .i64 t239, .slice Ao27 t240.length co27] 47 (0, 0))) := ⟨by (iterate 2 (refine pk_ ?_; refine blk_far ?_ NB244_261.out _)); exact pk_ BK244.out⟩
                 have n9_ : Aside0 (((w122.setCell ⟨gb261, 0, none⟩ (.int .i64 t255)).setCell ⟨gb261, 1, none⟩ (.slice Ao125 t256.length co125)).heap[gb261]? = some (.cells #[.int .i64 t255, .slice Ao125 t256.length co125] 47 (0, 0))) := ⟨by refine pk_ ?_; refine blk_put (cs := #[.int .i64 t255, .slice none 0 0]) ?_ 1 _ rfl; refine pk_ ?_; refine blk_put (cs := #[.int .i64 0, .slice none 0 0]) ?_ 0 _ rfl; exact pk_ BK261.out⟩
                 have n10_ : Aside0 (Below w.heap.size w ((w122.setCell ⟨gb261, 0, none⟩ (.int .i64 t255)).setCell ⟨gb261, 1, none⟩ (.slice Ao125 t256.length co125))) := ⟨bk_ HB.out⟩
                 (try clear HO_238001)
                 (try clear HO_245001)
                 (try clear HO254)
                 (try clear HO258)
                 (try clear BK235)
                 (try clear BK236)
                 (try clear BK237)
                 (try clear BK238)
                 (try clear BK244)
                 (try clear BK261)
                 (try clear HB)
                 generalize ((w122.setCell ⟨gb261, 0, none⟩ (.int .i64 t255)).setCell ⟨gb261, 1, none⟩ (.slice Ao125 t256.length co125)) = w127 at n0_ n1_ n2_ n3_ n4_ n5_ n6_ n7_ n8_ n9_ n10_ ⊢
                 have HO_238001 := n0_
                 have HO_245001 := n1_
                 have HO254 := n2_
                 have HO258 := n3_
                 have BK235 := n4_
                 have BK236 := n5_
                 have BK237 := n6_
                 have BK238 := n7_
                 have BK244 := n8_
                 have BK261 := n9_
                 have HB := n10_
                 clear n0_ n1_ n2_ n3_ n4_ n5_ n6_ n7_ n8_ n9_ n10_
                 have n1_ := A_ (Kd.R_drew HO_245001.out)
                 have n2_ := A_ (Kd.R_drew HO254.out)
                 have n3_ := A_ (Kd.R_drew HO258.out)
                 have n4_ := A_ (blk_drew BK235.out)
                 have n6_ := A_ (blk_drew BK237.out)
                 have n7_ := A_ (blk_drew BK238.out)
                 have n8_ := A_ (blk_drew BK244.out)
                 have n9_ := A_ (blk_drew BK261.out)
                 have n10_ := A_ (below_drew1 HB.out)
                 clear HO_245001 HO254 HO258 BK235 BK237 BK238 BK244 BK261 HB
                 have HO_245001 := n1_
                 have HO254 := n2_
                 have HO258 := n3_
                 have BK235 := n4_
                 have BK237 := n6_
                 have BK238 := n7_
                 have BK244 := n8_
                 have BK261 := n9_
                 have HB := n10_
                 clear n1_ n2_ n3_ n4_ n6_ n7_ n8_ n9_ n10_
                 have p262 : 0 ≤ (t239 : Int) := od_
                 have q262 : t239 < (l2.length : Int) := od_
                 obtain ⟨ad262, e262, hx262_0⟩ := Kd.at_int HR2.out t239 p262 q262
                 have hw262_0 := hx262_0
                 obtain rfl : ad251 = ad262 := (by injection e262)
                 replace hx262_0 := lf_ HB.out hx262_0
                 replace p262 := eq_true p262
                 replace q262 := eq_true q262
                 refine start_ (n := 27) (S := fun w' => w'.cell? ⟨gb244, 0, none⟩ = some (.int .i64 t239) ∧ w'.cell? ⟨gb244, 1, none⟩ = some (.slice Ao27 t240.length co27) ∧ w'.cell? ⟨gb261, 0, none⟩ = some (.int .i64 t255) ∧ w'.cell? ⟨gb261, 1, none⟩ = some (.slice Ao125 t256.length co125) ∧ w'.cell? (ad251.add (t239).toNat) = some (.int .i64 (rd l2 t239))) (ds := []) #[false, false, false, false, false, false, false, false, false, false, false, false, false, false, false, false, false, false, false, false, false, false, false, false, false, false, false] (by kernel_rfl) rfl rfl ⟨(blk_cell BK244.out 0).trans rfl, (blk_cell BK244.out 1).trans rfl, (blk_cell BK261.out 0).trans rfl, (blk_cell BK261.out 1).trans rfl, ((HB.out.cell (World.block_lt_of_cell? w _ hw262_0)).trans hw262_0)⟩ (fun hHeld => ?_); refine with_tabW standstilllaw08_next.tab13 standstilllaw08_next.bits13 (fun HT_ HW_ => ?_)
                 generalize w127.drew = w128 at HO_245001 HO254 HO258 BK235 BK237 BK238 BK244 BK261 HB hx262_0 hHeld ⊢
                 refine pure_ (i := 1) (N := some 121) (v := ?_) (a' := ?_) #[false, true, false, false, false, false, false, false, false, false, false, false, false, false, false, false, false, false, false, false, false, false, false, false, false, false, false] rfl rfl (any_of HT_.out (by kernel_rfl)) (fun _ _ _ h => h) (Or.inl ⟨by rfl, ?_⟩) ?_ ?_
                 rotate_left
                 ·intro w'
                  go_simp
                  with_reducible rfl
                 rotate_left
                 ·simp only [Act.put, sa_, sz_, ss_, i64_w, i32_w]
                  rfl
                 refine pure_ (i := 2) (N := some 122) (v := ?_) (a' := ?_) #[false, true, true, false, false, false, false, false, false, false, false, false, false, false, false, false, false, false, false, false, false, false, false, false, false, false, false] rfl rfl (any_of HT_.out (by kernel_rfl)) (fun _ _ _ h => h) (Or.inl ⟨by rfl, ?_⟩) ?_ ?_
                 rotate_left
                 ·intro w'
                  go_simp
                  with_reducible rfl
                 rotate_left
                 ·simp only [Act.put, sa_, sz_, ss_, i64_w, i32_w]
                  rfl
                 refine pure_ (i := 3) (N := some 123) (v := ?_) (a' := ?_) #[false, true, true, true, false, false, false, false, false, false, false, false, false, false, false, false, false, false, false, false, false, false, false, false, false, false, false] rfl rfl (any_of HT_.out (by kernel_rfl)) (fun _ _ _ h => h) (Or.inl ⟨by rfl, ?_⟩) ?_ ?_
                 rotate_left
                 ·intro w'
                  go_simp
                  with_reducible rfl
                 rotate_left
                 ·simp only [Act.put, sa_, sz_, ss_, i64_w, i32_w]
                  rfl
                 refine pure_ (i := 4) (N := some 124) (v := ?_) (a' := ?_) #[false, true, true, true, true, false, false, false, false, false, false, false, false, false, false, false, false, false, false, false, false, false, false, false, false, false, false] rfl rfl (any_of HT_.out (by kernel_rfl)) (fun _ _ _ h => h) (Or.inl ⟨by rfl, ?_⟩) ?_ ?_
                 rotate_left
                 ·intro w'
                  go_simp
                  with_reducible rfl
                 rotate_left
                 ·simp only [Act.put, sa_, sz_, ss_, i64_w, i32_w]
                  rfl
                 refine pure_ (i := 5) (N := some 125) (v := ?_) (a' := ?_) #[false, true, true, true, true, true, false, false, false, false, false, false, false, false, false, false, false, false, false, false, false, false, false, false, false, false, false] rfl rfl (any_of HT_.out (by kernel_rfl)) (fun _ _ _ h => h) (Or.inl ⟨by rfl, ?_⟩) ?_ ?_
                 rotate_left
                 ·intro w'
                  go_simp
                  with_reducible rfl
                 rotate_left
                 ·simp only [Act.put, sa_, sz_, ss_, i64_w, i32_w]
                  rfl
                 refine pure_ (i := 6) (N := some 126) (v := ?_) (a' := ?_) #[false, true, true, true, true, true, true, false, false, false, false, false, false, false, false, false, false, false, false, false, false, false, false, false, false, false, false] rfl rfl (any_of HT_.out (by kernel_rfl)) (fun _ _ _ h => h) (Or.inl ⟨by rfl, ?_⟩) ?_ ?_
                 rotate_left
                 ·intro w'
                  go_simp
                  with_reducible rfl
                 rotate_left
                 ·simp only [Act.put, sa_, sz_, ss_, i64_w, i32_w]
                  rfl
                 refine pure_ (i := 7) (N := some 127) (v := ?_) (a' := ?_) #[false, true, true, true, true, true, true, true, false, false, false, false, false, false, false, false, false, false, false, false, false, false, false, false, false, false, false] rfl rfl (any_of HT_.out (by kernel_rfl)) (fun _ _ _ h => h) (Or.inl ⟨by rfl, ?_⟩) ?_ ?_
                 rotate_left
                 ·intro w'
                  go_simp
                  with_reducible rfl
                 rotate_left
                 ·simp only [Act.put, sa_, sz_, ss_, i64_w, i32_w]
                  rfl
                 refine pure_ (i := 8) (N := some 128) (v := ?_) (a' := ?_) #[false, true, true, true, true, true, true, true, true, false, false, false, false, false, false, false, false, false, false, false, false, false, false, false, false, false, false] rfl rfl (any_of HT_.out (by kernel_rfl)) (fun _ _ _ h => h) (Or.inl ⟨by rfl, ?_⟩) ?_ ?_
                 rotate_left
                 ·intro w'
                  go_simp
                  with_reducible rfl
                 rotate_left
                 ·simp only [Act.put, sa_, sz_, ss_, i64_w, i32_w]
                  rfl
                 refine pure_ (i := 9) (N := some 129) (v := ?_) (a' := ?_) #[false, true, true, true, true, true, true, true, true, true, false, false, false, false, false, false, false, false, false, false, false, false, false, false, false, false, false] rfl rfl (any_of HT_.out (by kernel_rfl)) (fun _ _ _ h => h) (Or.inl ⟨by rfl, ?_⟩) ?_ ?_
                 rotate_left
                 ·intro w'
                  go_simp
                  with_reducible rfl
                 rotate_left
                 ·simp only [Act.put, sa_, sz_, ss_, i64_w, i32_w]
                  rfl
                 refine pure_ (i := 10) (N := some 130) (v := ?_) (a' := ?_) #[false, true, true, true, true, true, true, true, true, true, true, false, false, false, false, false, false, false, false, false, false, false, false, false, false, false, false] rfl rfl (any_of HT_.out (by kernel_rfl)) (fun _ _ _ h => h) (Or.inl ⟨by rfl, ?_⟩) ?_ ?_
                 rotate_left
                 ·intro w'
                  go_simp
                  with_reducible rfl
                 rotate_left
                 ·simp only [Act.put, sa_, sz_, ss_, i64_w, i32_w]
                  rfl
                 refine pure_ (i := 11) (N := some 131) (v := ?_) (a' := ?_) #[false, true, true, true, true, true, true, true, true, true, true, true, false, false, false, false, false, false, false, false, false, false, false, false, false, false, false] rfl rfl (any_of HT_.out (by kernel_rfl)) (fun _ _ _ h => h) (Or.inl ⟨by rfl, ?_⟩) ?_ ?_
                 rotate_left
                 ·intro w'
                  go_simp
                  with_reducible rfl
                 rotate_left
                 ·simp only [Act.put, sa_, sz_, ss_, i64_w, i32_w]
                  rfl
                 refine pure_ (i := 12) (N := some 132) (v := ?_) (a' := ?_) #[false, true, true, true, true, true, true, true, true, true, true, true, true, false, false, false, false, false, false, false, false, false, false, false, false, false, false] rfl rfl (any_of HT_.out (by kernel_rfl)) (fun _ _ _ h => h) (Or.inl ⟨by rfl, ?_⟩) ?_ ?_
                 rotate_left
                 ·intro w'
                  go_simp
                  with_reducible rfl
                 rotate_left
                 ·simp only [Act.put, sa_, sz_, ss_, i64_w, i32_w]
                  rfl
                 refine pure_ (i := 14) (N := some 134) (v := ?_) (a' := ?_) #[false, true, true, true, true, true, true, true, true, true, true, true, true, false, true, false, false, false, false, false, false, false, false, false, false, false, false] rfl rfl (any_of HT_.out (by kernel_rfl)) (fun _ _ _ h => h) (Or.inl ⟨by rfl, ?_⟩) ?_ ?_
                 rotate_left
                 ·intro w'
                  go_simp
                  with_reducible rfl
                 rotate_left
                 ·simp only [Act.put, sa_, sz_, ss_, i64_w, i32_w]
                  rfl
                 refine pure_ (i := 15) (N := some 135) (v := ?_) (a' := ?_) #[false, true, true, true, true, true, true, true, true, true, true, true, true, false, true, true, false, false, false, false, false, false, false, false, false, false, false] rfl rfl (any_of HT_.out (by kernel_rfl)) (fun _ _ _ h => h) (Or.inl ⟨by rfl, ?_⟩) ?_ ?_
                 rotate_left
                 ·intro w'
                  go_simp
                  with_reducible rfl
                 rotate_left
                 ·simp only [Act.put, sa_, sz_, ss_, i64_w, i32_w]
                  rfl
                 refine pure_ (i := 19) (N := some 139) (v := ?_) (a' := ?_) #[false, true, true, true, true, true, true, true, true, true, true, true, true, false, true, true, false, false, false, true, false, false, false, false, false, false, false] rfl rfl (any_of HT_.out (by kernel_rfl)) (fun _ _ _ h => h) (Or.inl ⟨by rfl, ?_⟩) ?_ ?_
                 rotate_left
                 ·intro w'
                  go_simp
                  with_reducible rfl
                 rotate_left
                 ·simp only [Act.put, sa_, sz_, ss_, i64_w, i32_w]
                  rfl
                 refine take_ (i := 0) (N := some 120) (v := ?_) (a' := ?_) #[true, true, true, true, true, true, true, true, true, true, true, true, true, false, true, true, false, false, false, true, false, false, false, false, false, false, false] rfl rfl (take_ofW HT_.out HW_.out (by kernel_rfl)) (fun _ _ _ h => h) (Or.inl ⟨by rfl, ?_⟩) hHeld ?_ ?_
                 rotate_left
                 ·rintro w' ⟨s0, s1, s2, s3, s4⟩
                  go_simp
                  with_reducible rfl
                 rotate_left
                 ·simp only [Act.put, sa_, sz_, ss_, i64_w, i32_w]
                  rfl
                 refine take_ (i := 13) (N := some 133) (v := ?_) (a' := ?_) #[true, true, true, true, true, true, true, true, true, true, true, true, true, true, true, true, false, false, false, true, false, false, false, false, false, false, false] rfl rfl (take_ofW HT_.out HW_.out (by kernel_rfl)) (fun _ _ _ h => h) (Or.inl ⟨by rfl, ?_⟩) hHeld ?_ ?_
                 rotate_left
                 ·rintro w' ⟨s0, s1, s2, s3, s4⟩
                  go_simp
                  with_reducible rfl
                 rotate_left
                 ·simp only [Act.put, sa_, sz_, ss_, i64_w, i32_w]
                  rfl
                 refine take_ (i := 16) (N := some 136) (v := ?_) (a' := ?_) #[true, true, true, true, true, true, true, true, true, true, true, true, true, true, true, true, true, false, false, true, false, false, false, false, false, false, false] rfl rfl (take_ofW HT_.out HW_.out (by kernel_rfl)) (fun _ _ _ h => h) (Or.inl ⟨by rfl, ?_⟩) hHeld ?_ ?_
                 rotate_left
                 ·rintro w' ⟨s0, s1, s2, s3, s4⟩
                  go_simp
                  with_reducible rfl
                 rotate_left
                 ·simp only [Act.put, sa_, sz_, ss_, i64_w, i32_w]
                  rfl
                 refine pure_ (i := 17) (N := some 137) (v := ?_) (a' := ?_) #[true, true, true, true, true, true, true, true, true, true, true, true, true, true, true, true, true, true, false, true, false, false, false, false, false, false, false] rfl rfl (any_of HT_.out (by kernel_rfl)) (fun _ _ _ h => h) (Or.inl ⟨by rfl, ?_⟩) ?_ ?_
                 rotate_left
                 ·intro w'
                  go_simp
                  with_reducible rfl
                 rotate_left
                 ·simp only [Act.put, sa_, sz_, ss_, i64_w, i32_w]
                  rfl
                 refine take_ (i := 18) (N := some 138) (v := ?_) (a' := ?_) #[true, true, true, true, true, true, true, true, true, true, true, true, true, true, true, true, true, true, true, true, false, false, false, false, false, false, false] rfl rfl (take_ofW HT_.out HW_.out (by kernel_rfl)) (fun _ _ _ h => h) (Or.inl ⟨by rfl, ?_⟩) hHeld ?_ ?_
                 rotate_left
                 ·rintro w' ⟨s0, s1, s2, s3, s4⟩
                  go_simp
                  with_reducible rfl
                 rotate_left
                 ·simp only [Act.put, sa_, sz_, ss_, i64_w, i32_w]
                  rfl
                 refine one_ (i := 20) (N := some 140) #[true, true, true, true, true, true, true, true, true, true, true, true, true, true, true, true, true, true, true, true, true, false, false, false, false, false, false] rfl rfl (one_of HT_.out (by kernel_rfl)) (by decide) (fun K hK => ?_)
                 refine Kd.R_lit_step (Kd.int .i64) _ 3 ?hg (N := 140) ?hd (xs := ([t249, 0] : List Int)) (inner := [.int .i64 t249, .int .i64 0]) (ok := fun _ => True) (okp := fun _ => True) ?hr ?hp (fun _ hk => hk) trivial (Below.refl _ _) (Nat.le_refl _) (by simp) ?_; (case hd => rfl); (case hg => rfl); (case hr => first | (go_simp; done) | (go_simp; rfl)); (case hp => exact (Reps.one (show Kd.M (Kd.int .i64) _ _ _ t249 [.int .i64 t249] from rfl) (Reps.one (show Kd.M (Kd.int .i64) _ _ _ 0 [.int .i64 0] from rfl) (Reps.none _ _))))
                 intro v264 w129 ho130 hb hg_ hnew_
                 clear hg_ hnew_
                 (first | rw [← Ny263.out] at ho130 | (simp only [Int.reduceToNat] at ho130; rw [← Ny263.out] at ho130))
                 have n1_ := A_ (Kd.R_elder' (rk_ HO_245001.out) (Kd.R_base ho130) hb)
                 have n3_ := A_ (Kd.R_elder' (rk_ HO258.out) (Kd.R_base ho130) hb)
                 have n4_ := A_ (Kd.R_lower (Kd.R_new' (Kd.R_new' (Kd.R_new' (Kd.R_newM (M := fun k_ => (w.heap.size ≤ k_)) ho130 (below_size (bk_ HB.out)) (fun k_ h_ => h_)) (Kd.R_lt (rk_ HO_245001.out))) (Kd.R_lt (rk_ HO254.out))) (Kd.R_lt (rk_ HO258.out))) (below_size (bk_ HB.out)))
                 have n5_ := A_ (blk_below (pk_ BK235.out) hb)
                 have n7_ := A_ (blk_below (pk_ BK237.out) hb)
                 have n8_ := A_ (blk_below (pk_ BK238.out) hb)
                 have n9_ := A_ (blk_below (pk_ BK244.out) hb)
                 have n10_ := A_ (blk_below (pk_ BK261.out) hb)
                 have n11_ := A_ (below_step (bk_ HB.out) hb)
                 clear HO_245001 HO258 BK235 BK237 BK238 BK244 BK261 HB
                 have HO_245001 := n1_
                 have HO258 := n3_
                 have HO265 := n4_
                 have BK235 := n5_
                 have BK237 := n7_
                 have BK238 := n8_
                 have BK244 := n9_
                 have BK261 := n10_
                 have HB := n11_
                 clear n1_ n3_ n4_ n5_ n7_ n8_ n9_ n10_ n11_ hb ho130
                 obtain ⟨Ao131, co131, eo131⟩ := Kd.R_slice HO265.out
                 (first | subst eo131 | (injection eo131 with f1_ f2_ f3_; have f4_ := f1_.symm; have f5_ := f3_.symm; clear f1_ f2_ f3_; subst f4_; subst f5_))
                 refine hK.out _ _ ⟨(blk_cell BK244.out 0).trans rfl, (blk_cell BK244.out 1).trans rfl, (blk_cell BK261.out 0).trans rfl, (blk_cell BK261.out 1).trans rfl, ((HB.out.cell (World.block_lt_of_cell? w _ hw262_0)).trans hw262_0)⟩ (fun hHeld => ?_)
                 clear hK K
                 refine norm_ (a' := ?_) ?_ ?_
                 rotate_left
                 ·show Act.put _ (some 140) _ = _
                  simp only [Act.put, sa_, sz_, ss_, i64_w, i32_w]
                  rfl
                 refine pure_ (i := 21) (N := some 141) (v := ?_) (a' := ?_) #[true, true, true, true, true, true, true, true, true, true, true, true, true, true, true, true, true, true, true, true, true, true, false, false, false, false, false] rfl rfl (any_of HT_.out (by kernel_rfl)) (fun _ _ _ h => h) (Or.inl ⟨by rfl, ?_⟩) ?_ ?_
                 rotate_left
                 ·intro w'
                  go_simp
                  with_reducible rfl
                 rotate_left
                 ·simp only [Act.put, sa_, sz_, ss_, i64_w, i32_w]
                  rfl
                 refine one_ (i := 22) (N := some 142) #[true, true, true, true, true, true, true, true, true, true, true, true, true, true, true, true, true, true, true, true, true, true, true, false, false, false, false] rfl rfl (one_of HT_.out (by kernel_rfl)) (by decide) (fun K hK => ?_)
                 refine goes_ Try.func22 (by kernel_rfl) rfl #[.agg #[.int .i64 t255, .slice Ao125 t256.length co125], .agg #[.int .i64 (rd l2 t239), .slice Ao131 y263.length co131]] (by rfl) rfl rfl gl_ ?_
                 with_reducible refine (standstillref06_SameCount.calls kj72 t255 _ _ t256 (rd l2 t239) _ _ y263 t266 _ ?side1 ?side2 ?side3 ?side4 A115.out).mono ?_
                 (case side1 => repeat (first | exact (Kd.R_reads' HO258.out).2.2 | (with_reducible refine Kd.C_alloc ?_ _) | (with_reducible refine Kd.C_drewN ?_ _) | (with_reducible refine Kd.C_drew ?_)))
                 (case side2 => exact (Kd.R_reads' HO258.out).2.1)
                 (case side3 => repeat (first | exact (Kd.R_reads' HO265.out).2.2 | (with_reducible refine Kd.C_alloc ?_ _) | (with_reducible refine Kd.C_drewN ?_ _) | (with_reducible refine Kd.C_drew ?_)))
                 (case side4 => exact (Kd.R_reads' HO265.out).2.1)
                 rintro e w132 ⟨rfl, hb⟩
                 refine ⟨_, rfl, ?_⟩
                 have n1_ := A_ (Kd.R_below (rk_ HO_245001.out) hb)
                 have n5_ := A_ (blk_below (pk_ BK235.out) hb)
                 have n7_ := A_ (blk_below (pk_ BK237.out) hb)
                 have n8_ := A_ (blk_below (pk_ BK238.out) hb)
                 have n9_ := A_ (blk_below (pk_ BK244.out) hb)
                 have n10_ := A_ (blk_below (pk_ BK261.out) hb)
                 have n11_ := A_ (below_step (bk_ HB.out) hb)
                 clear HO_245001 BK235 BK237 BK238 BK244 BK261 HB
                 have HO_245001 := n1_
                 have BK235 := n5_
                 have BK237 := n7_
                 have BK238 := n8_
                 have BK244 := n9_
                 have BK261 := n10_
                 have HB := n11_
                 clear n1_ n5_ n7_ n8_ n9_ n10_ n11_
                 (try clear hb)
                 (try clear hb2)
                 (try clear hk)
                 (try clear hi)
                 refine hK.out _ _ ⟨(blk_cell BK244.out 0).trans rfl, (blk_cell BK244.out 1).trans rfl, (blk_cell BK261.out 0).trans rfl, (blk_cell BK261.out 1).trans rfl, ((HB.out.cell (World.block_lt_of_cell? w _ hw262_0)).trans hw262_0)⟩ (fun hHeld => ?_)
                 clear hK K
                 refine norm_ (a' := ?_) ?_ ?_
                 rotate_left
                 ·show Act.put _ (some 142) _ = _
                  simp only [Act.put, sa_, sz_, ss_, i64_w, i32_w]
                  rfl
                 refine pure_ (i := 23) (N := some 143) (v := ?_) (a' := ?_) #[true, true, true, true, true, true, true, true, true, true, true, true, true, true, true, true, true, true, true, true, true, true, true, true, false, false, false] rfl rfl (any_of HT_.out (by kernel_rfl)) (fun _ _ _ h => h) (Or.inl ⟨by rfl, ?_⟩) ?_ ?_
                 rotate_left
                 ·intro w'
                  go_simp
                  with_reducible rfl
                 rotate_left
                 ·simp only [Act.put, sa_, sz_, ss_, i64_w, i32_w]
                  rfl
                 refine one_ (i := 24) (N := none) #[true, true, true, true, true, true, true, true, true, true, true, true, true, true, true, true, true, true, true, true, true, true, true, true, true, false, false] rfl rfl (one_of HT_.out (by kernel_rfl)) (by decide) (fun K hK => ?_)
                 have hs133 : w132.cell? ⟨gb238, 0, none⟩ = some (.int .i64 0) := (blk_cell BK238.out 0).trans rfl
                 have hfs133 := blk_frozen BK238.out 0
                 have hns133_0 := NB235_238.out
                 have hns133_1 := NB236_238.out
                 have hns133_2 := NB237_238.out
                 have hns133_4 := NB244_238.out
                 have hns133_5 := NB261_238.out
                 have hms133_0 := NB238_235.out
                 have hms133_1 := NB238_236.out
                 have hms133_2 := NB238_237.out
                 have hms133_4 := NB238_244.out
                 have hms133_5 := NB238_261.out
                 have hs134 : w132.cell? ⟨gb238, 1, none⟩ = some (.slice none 0 0) := (blk_cell BK238.out 1).trans rfl
                 have hfs134 := blk_frozen BK238.out 1
                 have hns134_0 := NB235_238.out
                 have hns134_1 := NB236_238.out
                 have hns134_2 := NB237_238.out
                 have hns134_4 := NB244_238.out
                 have hns134_5 := NB261_238.out
                 have hms134_0 := NB238_235.out
                 have hms134_1 := NB238_236.out
                 have hms134_2 := NB238_237.out
                 have hms134_4 := NB238_244.out
                 have hms134_5 := NB238_261.out
                 refine skip_ (w1 := ?_) (by rfl) rfl ?_ ?_
                 rotate_left
                 ·go_simp
                  rfl
                 refine hK.out _ _ ⟨(cf2_ NB244_238.out hHeld.1), (cf2_ NB244_238.out hHeld.2.1), (cf2_ NB261_238.out hHeld.2.2.1), (cf2_ NB261_238.out hHeld.2.2.2.1), ((cell_far (p := ⟨gb238, _, none⟩) (by first | exact Nat.ne_of_lt (Nat.lt_of_lt_of_le (by have := World.block_lt_of_cell? _ _ hw262_0; first | rwa [add_block] at this | exact this) GW238.out) | (rw [add_block]; exact Nat.ne_of_lt (Nat.lt_of_lt_of_le (by have := World.block_lt_of_cell? _ _ hw262_0; first | rwa [add_block] at this | exact this) GW238.out)) | (show (Addr.add _ _).block ≠ _; rw [add_block]; exact Nat.ne_of_lt (Nat.lt_of_lt_of_le (by have := World.block_lt_of_cell? _ _ hw262_0; first | rwa [add_block] at this | exact this) GW238.out)) | (dsimp only; exact Nat.ne_of_lt (Nat.lt_of_lt_of_le (by have := World.block_lt_of_cell? _ _ hw262_0; first | rwa [add_block] at this | exact this) GW238.out))) _).trans (((cell_far (p := ⟨gb238, _, none⟩) (by first | exact Nat.ne_of_lt (Nat.lt_of_lt_of_le (by have := World.block_lt_of_cell? _ _ hw262_0; first | rwa [add_block] at this | exact this) GW238.out) | (rw [add_block]; exact Nat.ne_of_lt (Nat.lt_of_lt_of_le (by have := World.block_lt_of_cell? _ _ hw262_0; first | rwa [add_block] at this | exact this) GW238.out)) | (show (Addr.add _ _).block ≠ _; rw [add_block]; exact Nat.ne_of_lt (Nat.lt_of_lt_of_le (by have := World.block_lt_of_cell? _ _ hw262_0; first | rwa [add_block] at this | exact this) GW238.out)) | (dsimp only; exact Nat.ne_of_lt (Nat.lt_of_lt_of_le (by have := World.block_lt_of_cell? _ _ hw262_0; first | rwa [add_block] at this | exact this) GW238.out))) _).trans (hHeld.2.2.2.2))))⟩ (fun hHeld => ?_)
                 clear hK K
                 refine pure_ (i := 25) (N := some 11) (v := ?_) (a' := ?_) #[true, true, true, true, true, true, true, true, true, true, true, true, true, true, true, true, true, true, true, true, true, true, true, true, true, true, false] rfl rfl (any_of HT_.out (by kernel_rfl)) (fun _ _ _ h => h) (Or.inl ⟨by rfl, ?_⟩) ?_ ?_
                 rotate_left
                 ·intro w'
                  go_simp
                  with_reducible rfl
                 rotate_left
                 ·simp only [Act.put, sa_, sz_, ss_, i64_w, i32_w]
                  rfl
                 refine pure_ (i := 26) (N := some 12) (v := ?_) (a' := ?_) #[true, true, true, true, true, true, true, true, true, true, true, true, true, true, true, true, true, true, true, true, true, true, true, true, true, true, true] rfl rfl (any_of HT_.out (by kernel_rfl)) (fun _ _ _ h => h) (Or.inl ⟨by rfl, ?_⟩) ?_ ?_
                 rotate_left
                 ·intro w'
                  go_simp
                  with_reducible rfl
                 rotate_left
                 ·simp only [Act.put, sa_, sz_, ss_, i64_w, i32_w]
                  rfl
                 refine done_ (done_of HT_.out (by kernel_rfl)) ?_
                 try go_wp2
                 refine bodyPost_ret (results_ctt rfl _ _ gb238 47 #[.int .i64 t239, .slice Ao27 t240.length co27] (0, 0) _ rfl (by refine pk_ ?_; refine blk_put (cs := #[.int .i64 t239, .slice none 0 0]) ?_ 1 _ rfl; refine pk_ ?_; refine blk_put (cs := #[.int .i64 0, .slice none 0 0]) ?_ 0 _ rfl; exact pk_ BK238.out) Try.underlying47 rfl (by kernel_rfl)) rfl ?_
                 exact ⟨_, by first | rfl | (simp [errW_none, errW_some] <;> rfl) | (simp only [← hji108]; first | rfl | (simp [errW_none, errW_some] <;> rfl)) | (simp [*, errW_none, errW_some] <;> rfl), Kd.V_mono (Kd.R_V (by (with_reducible repeat (first | apply Kd.R_alloc | apply Kd.R_drewN | apply Kd.R_drew)); exact Kd.R_mono (rf2_ (Kd.R_types HO_245001.out BK238.out (by decide))) (fun _ hk => hk.1.1.1))) (fun k_ hk => by first | exact ⟨(.inr (hk.1)), hk.2⟩ | exact (.inr (hk))), bk_ HB.out⟩
                ·rw [if_neg c114] at H
                 exact absurd H (by simp)
               ·rw [if_neg c113] at H
                exact absurd H (by simp)
              ·rw [if_neg c112] at H
               have c112b0 : decide (t259 ≤ (wrap64 (100 + (wrap64 (100 * (ji108)))))) = false := decide_eq_false c112
               clear c112
               exact absurd H (by simp)
             ·rw [if_neg c110] at H
              have c110b0 : (t260 == 0) = false := beq_eq_false_iff_ne.mpr c110
              have c110b1 : (t260 != 0) = true := bne_iff_ne.mpr c110
              exact absurd H (by simp)
            ·rw [if_neg c107] at H
             exact absurd H (by simp)
           ·rw [if_neg c106] at H
            exact absurd H (by simp)
 ·rw [if_neg c7] at H
  have c7b0 : (t243 == 0) = false := beq_eq_false_iff_ne.mpr c7
  have c7b1 : (t243 != 0) = true := bne_iff_ne.mpr c7
  by_cases c135 : t243 = 5
  ·rw [if_pos c135] at H
   have c135b0 : (t243 == 5) = true := beq_iff_eq.mpr c135
   have c135b1 : (t243 != 5) = false := bne_eq_false_iff_eq.mpr c135
   clear c135
   simp only [Option.some.injEq, Prod.mk.injEq] at H
   obtain ⟨rfl, rfl, rfl, rfl⟩ := H
   go_enter Try.func19, Try.ntmps19
   go_wp2_with (first | ((with_reducible refine gate_dst (N := 5) rfl ?_); (try (refine gate_guard (by rfl) ?_; dsimp only)); refine box_event ?hg (N := 5) ?hd (cs := #[.int .i64 a0_0, .slice A0_1 l0_1.length c0_1]) (t := 38) ?hr ?_; (case hd => rfl); (case hg => rfl); (case hr => first | (go_simp; done) | (go_simp; rfl)); intro gb235 hg w136 hbox hb; have n0_ := A_ (Kd.V_below (Kd.V_elderB (by (with_reducible repeat (first | apply Kd.V_alloc | apply Kd.V_drewN | apply Kd.V_drew)); exact HO3_1.out) gb235 (Nat.le_of_eq hg.symm)) hb); have n1_ := A_ (below_step (bk_ HB.out) hb); have n2_ := A_ (hbox); have n3_ := A_ (bz_ hg (bk_ HB.out)); have n4_ := A_ (bz_ hg (bk_ HB.out)); clear HO3_1 HB; have HO3_1 := n0_; have HB := n1_; have BK235 := n2_; have GW235 := n3_; have GE235 := n4_; clear n0_ n1_ n2_ n3_ n4_ hb hbox hg) | ((with_reducible refine gate_dst (N := 6) rfl ?_); (try (refine gate_guard (by rfl) ?_; dsimp only)); refine box_event ?hg (N := 6) ?hd (cs := #[.int .i64 a1_0, .slice A1_1 l1_1.length c1_1]) (t := 38) ?hr ?_; (case hd => rfl); (case hg => rfl); (case hr => first | (go_simp; done) | (go_simp; rfl)); intro gb236 hg w137 hbox hb; have n0_ := A_ (Kd.V_below (Kd.V_elderB (by (with_reducible repeat (first | apply Kd.V_alloc | apply Kd.V_drewN | apply Kd.V_drew)); exact HO3_1.out) gb236 (Nat.le_of_eq hg.symm)) hb); have n1_ := A_ (blk_below (pk_ BK235.out) hb); have n2_ := A_ (below_step (bk_ HB.out) hb); have n4_ := A_ (bz_ hg (bk_ HB.out)); have n5_ := A_ (bz_ hg (bk_ HB.out)); clear HO3_1 BK235 HB; have HO3_1 := n0_; have BK235 := n1_; have HB := n2_; have GW236 := n4_; have GE236 := n5_; clear n0_ n1_ n2_ n4_ n5_ hb hbox hg) | ((with_reducible refine gate_dst (N := 8) rfl ?_); (try (refine gate_guard (by rfl) ?_; dsimp only)); refine box_event ?hg (N := 8) ?hd (cs := #[.int .i64 a3_0, .slice A3_1 l3_1.length c3_1]) (t := 47) ?hr ?_; (case hd => rfl); (case hg => rfl); (case hr => first | (go_simp; done) | (go_simp; rfl)); intro gb237 hg w138 hbox hb; have n0_ := A_ (Kd.V_below (Kd.V_elderB (by (with_reducible repeat (first | apply Kd.V_alloc | apply Kd.V_drewN | apply Kd.V_drew)); exact HO3_1.out) gb237 (Nat.le_of_eq hg.symm)) hb); have n1_ := A_ (blk_below (pk_ BK235.out) hb); have n3_ := A_ (below_step (bk_ HB.out) hb); have n4_ := A_ (hbox); have n5_ := A_ (bz_ hg (bk_ HB.out)); have n6_ := A_ (bz_ hg (bk_ HB.out)); have n7_ := A_ (nl_ hg (pk_ BK235.out)); have n8_ := A_ (ng_ hg (pk_ BK235.out)); clear HO3_1 BK235 HB; have HO3_1 := n0_; have BK235 := n1_; have HB := n3_; have BK237 := n4_; have GW237 := n5_; have GE237 := n6_; have NB235_237 := n7_; have NB237_235 := n8_; clear n0_ n1_ n3_ n4_ n5_ n6_ n7_ n8_ hb hbox hg) | ((with_reducible refine gate_dst (N := 10) rfl ?_); (try (refine gate_guard (by rfl) ?_; dsimp only)); refine box_event ?hg (N := 10) ?hd (cs := #[.int .i64 0, .slice none 0 0]) (t := 47) ?hr ?_; (case hd => rfl); (case hg => rfl); (case hr => first | (go_simp; done) | (go_simp; rfl)); intro gb238 hg w139 hbox hb; have n0_ := A_ (Kd.V_below (Kd.V_elderB (by (with_reducible repeat (first | apply Kd.V_alloc | apply Kd.V_drewN | apply Kd.V_drew)); exact HO3_1.out) gb238 (Nat.le_of_eq hg.symm)) hb); have n1_ := A_ (blk_below (pk_ BK235.out) hb); have n3_ := A_ (blk_below (pk_ BK237.out) hb); have n4_ := A_ (below_step (bk_ HB.out) hb); have n5_ := A_ (hbox); have n6_ := A_ (bz_ hg (bk_ HB.out)); have n7_ := A_ (bz_ hg (bk_ HB.out)); have n8_ := A_ (nl_ hg (pk_ BK235.out)); have n9_ := A_ (ng_ hg (pk_ BK235.out)); have n12_ := A_ (nl_ hg (pk_ BK237.out)); have n13_ := A_ (ng_ hg (pk_ BK237.out)); clear HO3_1 BK235 BK237 HB; have HO3_1 := n0_; have BK235 := n1_; have BK237 := n3_; have HB := n4_; have BK238 := n5_; have GW238 := n6_; have GE238 := n7_; have NB235_238 := n8_; have NB238_235 := n9_; have NB237_238 := n12_; have NB238_237 := n13_; clear n0_ n1_ n3_ n4_ n5_ n6_ n7_ n8_ n9_ n12_ n13_ hb hbox hg; have hnb141 := NB235_237.out; have hnc141 := NB237_235.out; have hnb142 := NB235_238.out; have hnc142 := NB238_235.out; obtain ⟨hcz143_0, hcz143_1⟩ := bc2_ BK235.out; have hfz143_0 := blk_frozen BK235.out 0; have hfz143_1 := blk_frozen BK235.out 1; have hnb145 := NB237_238.out; have hnc145 := NB238_237.out; obtain ⟨hcz146_0, hcz146_1⟩ := bc2_ BK237.out; have hfz146_0 := blk_frozen BK237.out 0; have hfz146_1 := blk_frozen BK237.out 1) | ((with_reducible refine gate_callee (f := 31) rfl ?_); refine goesL_ (some 25) rfl rfl Try.func31 (by kernel_rfl) rfl #[.agg #[.int .i64 a0_0, .slice A0_1 l0_1.length c0_1], .agg #[.int .i64 a3_0, .slice A3_1 l3_1.length c3_1]] rfl gl_ ?_; (with_reducible refine (counter_Step.calls k a0_0 _ _ l0_1 a3_0 _ _ l3_1 t239 t240 t243 _ ?side1 ?side2 ?side3 ?side4 A6.out).mono ?_); (case side1 => exact ck_ (Kd.C_below HR0_1.out HB.out)); (case side2 => exact HC0_1.out); (case side3 => repeat (first | exact (Kd.V_reads' HO3_1.out).2.2 | (with_reducible refine Kd.C_alloc ?_ _) | (with_reducible refine Kd.C_drewN ?_ _) | (with_reducible refine Kd.C_drew ?_))); (case side4 => exact (Kd.V_reads' HO3_1.out).2.1); rintro e w147 ⟨v241, rfl, ho0, hb⟩; refine ⟨_, rfl, ?_⟩; have n0_ := A_ (Kd.V_elder' (by (with_reducible repeat (first | apply Kd.V_alloc | apply Kd.V_drewN | apply Kd.V_drew)); exact HO3_1.out) (Kd.R_base ho0) hb); have n1_ := A_ (Kd.R_lower (Kd.R_newM (M := fun k_ => (w.heap.size ≤ k_)) ho0 (below_size (bk_ HB.out)) (fun k_ h_ => h_)) (below_size (bk_ HB.out))); have n2_ := A_ (blk_below (pk_ BK235.out) hb); have n4_ := A_ (blk_below (pk_ BK237.out) hb); have n5_ := A_ (blk_below (pk_ BK238.out) hb); have n6_ := A_ (below_step (bk_ HB.out) hb); clear HO3_1 BK235 BK237 BK238 HB; have HO3_1 := n0_; have HO242 := n1_; have BK235 := n2_; have BK237 := n4_; have BK238 := n5_; have HB := n6_; clear n0_ n1_ n2_ n4_ n5_ n6_; (try clear hb); (try clear hb2); (try clear hk); (try clear hi); (try clear ho0)) | ((with_reducible refine gate_dst (N := 13) rfl ?_); (try (refine gate_guard (by rfl) ?_; dsimp only)); refine box_event ?hg (N := 13) ?hd (cs := #[.int .i64 0, .slice none 0 0]) (t := 47) ?hr ?_; (case hd => rfl); (case hg => rfl); (case hr => first | (go_simp; done) | (go_simp; rfl)); intro gb244 hg w148 hbox hb; have n0_ := A_ (Kd.V_below (Kd.V_elderB (by (with_reducible repeat (first | apply Kd.V_alloc | apply Kd.V_drewN | apply Kd.V_drew)); exact HO3_1.out) gb244 (Nat.le_of_eq hg.symm)) hb); have n1_ := A_ (Kd.R_below (rk_ HO242.out) hb); have n2_ := A_ (blk_below (pk_ BK235.out) hb); have n4_ := A_ (blk_below (pk_ BK237.out) hb); have n5_ := A_ (blk_below (pk_ BK238.out) hb); have n6_ := A_ (below_step (bk_ HB.out) hb); have n7_ := A_ (hbox); have n8_ := A_ (bz_ hg (bk_ HB.out)); have n9_ := A_ (bz_ hg (bk_ HB.out)); have n10_ := A_ (nl_ hg (pk_ BK235.out)); have n11_ := A_ (ng_ hg (pk_ BK235.out)); have n14_ := A_ (nl_ hg (pk_ BK237.out)); have n15_ := A_ (ng_ hg (pk_ BK237.out)); have n16_ := A_ (nl_ hg (pk_ BK238.out)); have n17_ := A_ (ng_ hg (pk_ BK238.out)); clear HO3_1 HO242 BK235 BK237 BK238 HB; have HO3_1 := n0_; have HO242 := n1_; have BK235 := n2_; have BK237 := n4_; have BK238 := n5_; have HB := n6_; have BK244 := n7_; have GW244 := n8_; have GE244 := n9_; have NB235_244 := n10_; have NB244_235 := n11_; have NB237_244 := n14_; have NB244_237 := n15_; have NB238_244 := n16_; have NB244_238 := n17_; clear n0_ n1_ n2_ n4_ n5_ n6_ n7_ n8_ n9_ n10_ n11_ n14_ n15_ n16_ n17_ hb hbox hg; have hnb149 := NB244_235.out; have hnc149 := NB235_244.out; have hnb151 := NB244_237.out; have hnc151 := NB237_244.out; have hnb152 := NB244_238.out; have hnc152 := NB238_244.out; obtain ⟨hcz153_0, hcz153_1⟩ := bc2_ BK244.out; have hfz153_0 := blk_frozen BK244.out 0; have hfz153_1 := blk_frozen BK244.out 1; obtain ⟨Ao154, co154, eo154⟩ := Kd.R_slice HO242.out; subst eo154; obtain ⟨hcz155_0, hcz155_1⟩ := bc2_ BK237.out; have hfz155_0 := blk_frozen BK237.out 0; have hfz155_1 := blk_frozen BK237.out 1; obtain ⟨hcz157_0, hcz157_1⟩ := bc2_ BK238.out; have hfz157_0 := blk_frozen BK238.out 0; have hfz157_1 := blk_frozen BK238.out 1))
   refine bodyPost_ret (results_ctt rfl _ _ gb238 47 #[.int .i64 a3_0, .slice A3_1 l3_1.length c3_1] (0, 0) _ rfl (by refine pk_ ?_; refine blk_put (cs := #[.int .i64 a3_0, .slice none 0 0]) ?_ 1 _ rfl; refine pk_ ?_; refine blk_put (cs := #[.int .i64 0, .slice none 0 0]) ?_ 0 _ rfl; (iterate 2 (refine pk_ ?_; refine blk_far ?_ NB238_244.out _)); exact pk_ BK238.out) Try.underlying47 rfl (by kernel_rfl)) rfl ?_
   exact ⟨_, er_, by (with_reducible repeat (first | apply Kd.V_alloc | apply Kd.V_drewN | apply Kd.V_drew)); exact Kd.V_mono (Kd.V_far (p := ⟨gb238, 1, none⟩) (Kd.V_far (p := ⟨gb238, 0, none⟩) (Kd.V_far (p := ⟨gb244, 1, none⟩) (Kd.V_far (p := ⟨gb244, 0, none⟩) (Kd.V_mono (Kd.V_mono HO3_1.out (fun k_ hk => (⟨hk, hk.2⟩ : _ ∧ k_ ≠ gb244))) (fun k_ hk => (⟨hk, hk.1.1.1.2⟩ : _ ∧ k_ ≠ gb238))) (fun _ hk => hk.1.2) (.int .i64 t239)) (fun _ hk => hk.1.2) (.slice Ao154 t240.length co154)) (fun _ hk => hk.2) (.int .i64 a3_0)) (fun _ hk => hk.2) (.slice A3_1 l3_1.length c3_1)) (fun _ hk => hk.1.1.1.1.1.1.1.1), bk_ HB.out⟩
  ·rw [if_neg c135] at H
   have c135b0 : (t243 == 5) = false := beq_eq_false_iff_ne.mpr c135
   have c135b1 : (t243 != 5) = true := bne_iff_ne.mpr c135
   simp only [Option.some.injEq, Prod.mk.injEq] at H
   obtain ⟨rfl, rfl, rfl, rfl⟩ := H
   go_enter Try.func19, Try.ntmps19
   go_wp2_with (first | ((with_reducible refine gate_dst (N := 5) rfl ?_); (try (refine gate_guard (by rfl) ?_; dsimp only)); refine box_event ?hg (N := 5) ?hd (cs := #[.int .i64 a0_0, .slice A0_1 l0_1.length c0_1]) (t := 38) ?hr ?_; (case hd => rfl); (case hg => rfl); (case hr => first | (go_simp; done) | (go_simp; rfl)); intro gb235 hg w158 hbox hb; have n0_ := A_ (Kd.V_below (Kd.V_elderB (by (with_reducible repeat (first | apply Kd.V_alloc | apply Kd.V_drewN | apply Kd.V_drew)); exact HO3_1.out) gb235 (Nat.le_of_eq hg.symm)) hb); have n1_ := A_ (below_step (bk_ HB.out) hb); have n2_ := A_ (hbox); have n3_ := A_ (bz_ hg (bk_ HB.out)); have n4_ := A_ (bz_ hg (bk_ HB.out)); clear HO3_1 HB; have HO3_1 := n0_; have HB := n1_; have BK235 := n2_; have GW235 := n3_; have GE235 := n4_; clear n0_ n1_ n2_ n3_ n4_ hb hbox hg) | ((with_reducible refine gate_dst (N := 6) rfl ?_); (try (refine gate_guard (by rfl) ?_; dsimp only)); refine box_event ?hg (N := 6) ?hd (cs := #[.int .i64 a1_0, .slice A1_1 l1_1.length c1_1]) (t := 38) ?hr ?_; (case hd => rfl); (case hg => rfl); (case hr => first | (go_simp; done) | (go_simp; rfl)); intro gb236 hg w159 hbox hb; have n0_ := A_ (Kd.V_below (Kd.V_elderB (by (with_reducible repeat (first | apply Kd.V_alloc | apply Kd.V_drewN | apply Kd.V_drew)); exact HO3_1.out) gb236 (Nat.le_of_eq hg.symm)) hb); have n1_ := A_ (blk_below (pk_ BK235.out) hb); have n2_ := A_ (below_step (bk_ HB.out) hb); have n4_ := A_ (bz_ hg (bk_ HB.out)); have n5_ := A_ (bz_ hg (bk_ HB.out)); clear HO3_1 BK235 HB; have HO3_1 := n0_; have BK235 := n1_; have HB := n2_; have GW236 := n4_; have GE236 := n5_; clear n0_ n1_ n2_ n4_ n5_ hb hbox hg) | ((with_reducible refine gate_dst (N := 8) rfl ?_); (try (refine gate_guard (by rfl) ?_; dsimp only)); refine box_event ?hg (N := 8) ?hd (cs := #[.int .i64 a3_0, .slice A3_1 l3_1.length c3_1]) (t := 47) ?hr ?_; (case hd => rfl); (case hg => rfl); (case hr => first | (go_simp; done) | (go_simp; rfl)); intro gb237 hg w160 hbox hb; have n0_ := A_ (Kd.V_below (Kd.V_elderB (by (with_reducible repeat (first | apply Kd.V_alloc | apply Kd.V_drewN | apply Kd.V_drew)); exact HO3_1.out) gb237 (Nat.le_of_eq hg.symm)) hb); have n1_ := A_ (blk_below (pk_ BK235.out) hb); have n3_ := A_ (below_step (bk_ HB.out) hb); have n4_ := A_ (hbox); have n5_ := A_ (bz_ hg (bk_ HB.out)); have n6_ := A_ (bz_ hg (bk_ HB.out)); have n7_ := A_ (nl_ hg (pk_ BK235.out)); have n8_ := A_ (ng_ hg (pk_ BK235.out)); clear HO3_1 BK235 HB; have HO3_1 := n0_; have BK235 := n1_; have HB := n3_; have BK237 := n4_; have GW237 := n5_; have GE237 := n6_; have NB235_237 := n7_; have NB237_235 := n8_; clear n0_ n1_ n3_ n4_ n5_ n6_ n7_ n8_ hb hbox hg) | ((with_reducible refine gate_dst (N := 10) rfl ?_); (try (refine gate_guard (by rfl) ?_; dsimp only)); refine box_event ?hg (N := 10) ?hd (cs := #[.int .i64 0, .slice none 0 0]) (t := 47) ?hr ?_; (case hd => rfl); (case hg => rfl); (case hr => first | (go_simp; done) | (go_simp; rfl)); intro gb238 hg w161 hbox hb; have n0_ := A_ (Kd.V_below (Kd.V_elderB (by (with_reducible repeat (first | apply Kd.V_alloc | apply Kd.V_drewN | apply Kd.V_drew)); exact HO3_1.out) gb238 (Nat.le_of_eq hg.symm)) hb); have n1_ := A_ (blk_below (pk_ BK235.out) hb); have n3_ := A_ (blk_below (pk_ BK237.out) hb); have n4_ := A_ (below_step (bk_ HB.out) hb); have n5_ := A_ (hbox); have n6_ := A_ (bz_ hg (bk_ HB.out)); have n7_ := A_ (bz_ hg (bk_ HB.out)); have n8_ := A_ (nl_ hg (pk_ BK235.out)); have n9_ := A_ (ng_ hg (pk_ BK235.out)); have n12_ := A_ (nl_ hg (pk_ BK237.out)); have n13_ := A_ (ng_ hg (pk_ BK237.out)); clear HO3_1 BK235 BK237 HB; have HO3_1 := n0_; have BK235 := n1_; have BK237 := n3_; have HB := n4_; have BK238 := n5_; have GW238 := n6_; have GE238 := n7_; have NB235_238 := n8_; have NB238_235 := n9_; have NB237_238 := n12_; have NB238_237 := n13_; clear n0_ n1_ n3_ n4_ n5_ n6_ n7_ n8_ n9_ n12_ n13_ hb hbox hg; have hnb163 := NB235_237.out; have hnc163 := NB237_235.out; have hnb164 := NB235_238.out; have hnc164 := NB238_235.out; obtain ⟨hcz165_0, hcz165_1⟩ := bc2_ BK235.out; have hfz165_0 := blk_frozen BK235.out 0; have hfz165_1 := blk_frozen BK235.out 1; have hnb167 := NB237_238.out; have hnc167 := NB238_237.out; obtain ⟨hcz168_0, hcz168_1⟩ := bc2_ BK237.out; have hfz168_0 := blk_frozen BK237.out 0; have hfz168_1 := blk_frozen BK237.out 1) | ((with_reducible refine gate_callee (f := 31) rfl ?_); refine goesL_ (some 25) rfl rfl Try.func31 (by kernel_rfl) rfl #[.agg #[.int .i64 a0_0, .slice A0_1 l0_1.length c0_1], .agg #[.int .i64 a3_0, .slice A3_1 l3_1.length c3_1]] rfl gl_ ?_; (with_reducible refine (counter_Step.calls k a0_0 _ _ l0_1 a3_0 _ _ l3_1 t239 t240 t243 _ ?side1 ?side2 ?side3 ?side4 A6.out).mono ?_); (case side1 => exact ck_ (Kd.C_below HR0_1.out HB.out)); (case side2 => exact HC0_1.out); (case side3 => repeat (first | exact (Kd.V_reads' HO3_1.out).2.2 | (with_reducible refine Kd.C_alloc ?_ _) | (with_reducible refine Kd.C_drewN ?_ _) | (with_reducible refine Kd.C_drew ?_))); (case side4 => exact (Kd.V_reads' HO3_1.out).2.1); rintro e w169 ⟨v241, rfl, ho0, hb⟩; refine ⟨_, rfl, ?_⟩; have n0_ := A_ (Kd.V_elder' (by (with_reducible repeat (first | apply Kd.V_alloc | apply Kd.V_drewN | apply Kd.V_drew)); exact HO3_1.out) (Kd.R_base ho0) hb); have n1_ := A_ (Kd.R_lower (Kd.R_newM (M := fun k_ => (w.heap.size ≤ k_)) ho0 (below_size (bk_ HB.out)) (fun k_ h_ => h_)) (below_size (bk_ HB.out))); have n4_ := A_ (blk_below (pk_ BK237.out) hb); have n5_ := A_ (blk_below (pk_ BK238.out) hb); have n6_ := A_ (below_step (bk_ HB.out) hb); clear HO3_1 BK237 BK238 HB; have HO3_1 := n0_; have HO242 := n1_; have BK237 := n4_; have BK238 := n5_; have HB := n6_; clear n0_ n1_ n4_ n5_ n6_; (try clear hb); (try clear hb2); (try clear hk); (try clear hi); (try clear ho0)) | ((with_reducible refine gate_dst (N := 13) rfl ?_); (try (refine gate_guard (by rfl) ?_; dsimp only)); refine box_event ?hg (N := 13) ?hd (cs := #[.int .i64 0, .slice none 0 0]) (t := 47) ?hr ?_; (case hd => rfl); (case hg => rfl); (case hr => first | (go_simp; done) | (go_simp; rfl)); intro gb244 hg w170 hbox hb; have n0_ := A_ (Kd.V_below (Kd.V_elderB (by (with_reducible repeat (first | apply Kd.V_alloc | apply Kd.V_drewN | apply Kd.V_drew)); exact HO3_1.out) gb244 (Nat.le_of_eq hg.symm)) hb); have n1_ := A_ (Kd.R_below (rk_ HO242.out) hb); have n4_ := A_ (blk_below (pk_ BK237.out) hb); have n5_ := A_ (blk_below (pk_ BK238.out) hb); have n6_ := A_ (below_step (bk_ HB.out) hb); have n7_ := A_ (hbox); have n8_ := A_ (bz_ hg (bk_ HB.out)); have n9_ := A_ (bz_ hg (bk_ HB.out)); have n14_ := A_ (nl_ hg (pk_ BK237.out)); have n15_ := A_ (ng_ hg (pk_ BK237.out)); have n16_ := A_ (nl_ hg (pk_ BK238.out)); have n17_ := A_ (ng_ hg (pk_ BK238.out)); clear HO3_1 HO242 BK237 BK238 HB; have HO3_1 := n0_; have HO242 := n1_; have BK237 := n4_; have BK238 := n5_; have HB := n6_; have BK244 := n7_; have GW244 := n8_; have GE244 := n9_; have NB237_244 := n14_; have NB244_237 := n15_; have NB238_244 := n16_; have NB244_238 := n17_; clear n0_ n1_ n4_ n5_ n6_ n7_ n8_ n9_ n14_ n15_ n16_ n17_ hb hbox hg; have hnb173 := NB244_237.out; have hnc173 := NB237_244.out; have hnb174 := NB244_238.out; have hnc174 := NB238_244.out; obtain ⟨hcz175_0, hcz175_1⟩ := bc2_ BK244.out; have hfz175_0 := blk_frozen BK244.out 0; have hfz175_1 := blk_frozen BK244.out 1; obtain ⟨Ao176, co176, eo176⟩ := Kd.R_slice HO242.out; subst eo176; obtain ⟨hcz177_0, hcz177_1⟩ := bc2_ BK237.out; have hfz177_0 := blk_frozen BK237.out 0; have hfz177_1 := blk_frozen BK237.out 1; obtain ⟨hcz179_0, hcz179_1⟩ := bc2_ BK238.out; have hfz179_0 := blk_frozen BK238.out 0; have hfz179_1 := blk_frozen BK238.out 1))
   refine bodyPost_ret (results_ctt rfl _ _ gb238 47 #[.int .i64 a3_0, .slice A3_1 l3_1.length c3_1] (0, 0) _ rfl (by refine pk_ ?_; refine blk_put (cs := #[.int .i64 a3_0, .slice none 0 0]) ?_ 1 _ rfl; refine pk_ ?_; refine blk_put (cs := #[.int .i64 0, .slice none 0 0]) ?_ 0 _ rfl; (iterate 2 (refine pk_ ?_; refine blk_far ?_ NB238_244.out _)); exact pk_ BK238.out) Try.underlying47 rfl (by kernel_rfl)) rfl ?_
   exact ⟨_, er_, by (with_reducible repeat (first | apply Kd.V_alloc | apply Kd.V_drewN | apply Kd.V_drew)); exact Kd.V_mono (Kd.V_far (p := ⟨gb238, 1, none⟩) (Kd.V_far (p := ⟨gb238, 0, none⟩) (Kd.V_far (p := ⟨gb244, 1, none⟩) (Kd.V_far (p := ⟨gb244, 0, none⟩) (Kd.V_mono (Kd.V_mono HO3_1.out (fun k_ hk => (⟨hk, hk.2⟩ : _ ∧ k_ ≠ gb244))) (fun k_ hk => (⟨hk, hk.1.1.1.2⟩ : _ ∧ k_ ≠ gb238))) (fun _ hk => hk.1.2) (.int .i64 t239)) (fun _ hk => hk.1.2) (.slice Ao176 t240.length co176)) (fun _ hk => hk.2) (.int .i64 a3_0)) (fun _ hk => hk.2) (.slice A3_1 l3_1.length c3_1)) (fun _ hk => hk.1.1.1.1.1.1.1.1), bk_ HB.out⟩

end Go.Proofs.Ytkbekdjoaibhbaa.PPairSteps
