-- out of a turned copy of the print, by a program of this session; Lean checks it
import Derived.Test.YtkbekdjoaibhbaaPPairRunsx0
import Derived.Test.YtkbekdjoaibhbaaPPairRunsx5
import Derived.Test.YtkbekdjoaibhbaaPPairRunsx6
import Derived.Test.YtkbekdjoaibhbaaPPairRunsx10
import Derived.Test.YtkbekdjoaibhbaaPPairRunsx14
namespace Go.Proofs.Ytkbekdjoaibhbaa.PPairRuns
open Go.RowKit Go.Proofs.YtkbekdjoaibhbaaW.PrintWords Go.Proofs.YtkbekdjoaibhbaaW.PrintLast Go.Proofs.YtkbekdjoaibhbaaW.PrintMore
attribute [local go_sem] max2_int min2_int max_two min_two max_three min_three max_four min_four   -- for this text's walks alone
set_option linter.unusedVariables false
set_option linter.unusedSimpArgs false

attribute [local go_sem] isSome_put_
/-! ### standstilllaw08_PairRuns: function 6 -/
mutual
def standstilllaw08_PairRuns.j0 : Nat → List Int → Int → Bool → Int → List (S45) → Option (Bool)
 | 0, _, _, _, _, _ => none
 | k + 1, x1, x2, x34, x262000, x262001 => if x34 = true then ((standstilllaw08_awake.f k).bind fun t263 => (some t263)) else ((pair_Two.f k x262000 x262001).bind fun bt264 => (if bt264.2.2.2 = 0 then (if 0 ≤ x262000 then (if (x262000 : Int).toNat ≤ 35184372088832 then (standstilllaw08_PairRuns.l0 k x1 x2 bt264.2.2.1 0 x262000 x262001 bt264.1 bt264.2.1 0 (List.replicate (x262000 : Int).toNat 0)) else (none)) else (none)) else (if bt264.2.2.2 = 4 then ((standstilllaw08_awake.f k).bind fun t273 => (some t273)) else (none))))
def standstilllaw08_PairRuns.l0 : Nat → List Int → Int → List Int → Int → Int → List (S45) → Int → List (S45) → Int → List Int → Option (Bool)
 | 0, _, _, _, _, _, _, _, _, _, _ => none
 | k + 1, x1, x2, x8, x11, x262000, x262001, x273000, x273001, x278000, x278001 => if x11 < x262000 then (standstilllaw08_PairRuns.j2 k x1 x2 x8 x11 (decide (x11 < (x1.length : Int))) x262000 x262001 x273000 x273001 x278000 x278001) else (standstilllaw08_PairRuns.j2 k x1 x2 x8 x11 false x262000 x262001 x273000 x273001 x278000 x278001)
def standstilllaw08_PairRuns.j2 : Nat → List Int → Int → List Int → Int → Bool → Int → List (S45) → Int → List (S45) → Int → List Int → Option (Bool)
 | 0, _, _, _, _, _, _, _, _, _, _, _ => none
 | k + 1, x1, x2, x8, x11, x62, x262000, x262001, x273000, x273001, x278000, x278001 => if x62 = true then (if 0 ≤ x11 then (if x11 < (x1.length : Int) then (if (rd x1 x11) < 0 then ((standstilllaw08_awake.f k).bind fun t279 => (some t279)) else (if (rd x1 x11) > 60 then ((standstilllaw08_awake.f k).bind fun t281 => (some t281)) else (if x11 < (x278001.length : Int) then (standstilllaw08_PairRuns.l0 k x1 x2 x8 (wrap64 (x11 + 1)) x262000 x262001 x273000 x273001 x278000 (x278001.set (x11 : Int).toNat (rd x1 x11))) else (none)))) else (none)) else (none)) else (standstilllaw08_PairRuns.l1 k x2 x8 0 x262000 x262001 x273000 x273001 x278000 x278001)
def standstilllaw08_PairRuns.l1 : Nat → Int → List Int → Int → Int → List (S45) → Int → List (S45) → Int → List Int → Option (Bool)
 | 0, _, _, _, _, _, _, _, _, _ => none
 | k + 1, x2, x8, x12, x262000, x262001, x273000, x273001, x278000, x278001 => if x12 < (Int.tmod (wrap64 (x2)) 61) then ((standstilllaw08_next.f k x262000 x262001 x273000 x273001 x8 x278000 x278001 3000).bind fun bt290 => (if bt290.2.2.2 = true then (if bt290.2.2.1 = true then (if x278000 < 0 then (none) else (if x278000 ≥ (x8.length : Int) then (none) else (if x278000 ≥ (x262001.length : Int) then (none) else (if 0 ≤ x278000 then (if x278000 < (x8.length : Int) then (if (rd x8 x278000) < 0 then (none) else (if (rd x8 x278000) ≥ (x273001.length : Int) then (none) else (if x278000 < (x262001.length : Int) then (if 0 ≤ (rd x8 x278000) then (if (rd x8 x278000) < (x273001.length : Int) then (if ((((rd_T45 x262001 x278000).f0) == 2) == (((rd_T45 x273001 (rd x8 x278000)).f0) == 2)) = true then ((standstilllaw08_awake.f k).bind fun t302 => (some t302)) else (none)) else (none)) else (none)) else (none)))) else (none)) else (none))))) else (standstilllaw08_PairRuns.l1 k x2 x8 (wrap64 (x12 + 1)) x262000 x262001 x273000 x273001 bt290.1 bt290.2.1)) else (none))) else (if x278000 < 0 then (none) else (if x278000 ≥ (x8.length : Int) then (none) else (if x278000 ≥ (x262001.length : Int) then (none) else (if 0 ≤ x278000 then (if x278000 < (x8.length : Int) then (if (rd x8 x278000) < 0 then (none) else (if (rd x8 x278000) ≥ (x273001.length : Int) then (none) else (if x278000 < (x262001.length : Int) then (if 0 ≤ (rd x8 x278000) then (if (rd x8 x278000) < (x273001.length : Int) then (if ((((rd_T45 x262001 x278000).f0) == 2) == (((rd_T45 x273001 (rd x8 x278000)).f0) == 2)) = true then ((standstilllaw08_awake.f k).bind fun t289 => (some t289)) else (none)) else (none)) else (none)) else (none)))) else (none)) else (none)))))
end
def standstilllaw08_PairRuns.f (k : Nat) (a0_0 : Int) (l0_1 : List (S45)) (l1 : List Int) (a2 : Int) : Option (Bool) := if (l0_1.length : Int) > 4000 then (standstilllaw08_PairRuns.j0 k l1 a2 true a0_0 l0_1) else ((standstillref06_Valid.f k a0_0 l0_1).bind fun t262 => (if t262 = true then (if a0_0 > 6 then (standstilllaw08_PairRuns.j0 k l1 a2 true a0_0 l0_1) else (standstilllaw08_PairRuns.j0 k l1 a2 (decide ((l1.length : Int) > 100)) a0_0 l0_1)) else (standstilllaw08_PairRuns.j0 k l1 a2 true a0_0 l0_1)))
theorem standstilllaw08_PairRuns.mono_l : ∀ k, (∀ y0 y1 y2 y3 y4, LeO (standstilllaw08_PairRuns.j0 k y0 y1 y2 y3 y4) (standstilllaw08_PairRuns.j0 (k + 1) y0 y1 y2 y3 y4)) ∧ (∀ y0 y1 y2 y3 y4 y5 y6 y7 y8 y9, LeO (standstilllaw08_PairRuns.l0 k y0 y1 y2 y3 y4 y5 y6 y7 y8 y9) (standstilllaw08_PairRuns.l0 (k + 1) y0 y1 y2 y3 y4 y5 y6 y7 y8 y9)) ∧ (∀ y0 y1 y2 y3 y4 y5 y6 y7 y8 y9 y10, LeO (standstilllaw08_PairRuns.j2 k y0 y1 y2 y3 y4 y5 y6 y7 y8 y9 y10) (standstilllaw08_PairRuns.j2 (k + 1) y0 y1 y2 y3 y4 y5 y6 y7 y8 y9 y10)) ∧ (∀ y0 y1 y2 y3 y4 y5 y6 y7 y8, LeO (standstilllaw08_PairRuns.l1 k y0 y1 y2 y3 y4 y5 y6 y7 y8) (standstilllaw08_PairRuns.l1 (k + 1) y0 y1 y2 y3 y4 y5 y6 y7 y8))
 | 0 => ⟨fun _ _ _ _ _ r h => by simp [standstilllaw08_PairRuns.j0] at h, fun _ _ _ _ _ _ _ _ _ _ r h => by simp [standstilllaw08_PairRuns.l0] at h, fun _ _ _ _ _ _ _ _ _ _ _ r h => by simp [standstilllaw08_PairRuns.j2] at h, fun _ _ _ _ _ _ _ _ _ r h => by simp [standstilllaw08_PairRuns.l1] at h⟩
 | k + 1 => by
  obtain ⟨ih0, ih1, ih2, ih3⟩ := standstilllaw08_PairRuns.mono_l k
  refine ⟨?_, ?_, ?_, ?_⟩
  ·intro y0 y1 y2 y3 y4
   unfold standstilllaw08_PairRuns.j0
   repeat' first
   | (with_reducible exact ih0 _ _ _ _ _)
   | (with_reducible exact ih1 _ _ _ _ _ _ _ _ _ _)
   | (with_reducible exact ih2 _ _ _ _ _ _ _ _ _ _ _)
   | (with_reducible exact ih3 _ _ _ _ _ _ _ _ _)
   | (with_reducible exact pair_Two.mono _ _ _)
   | (with_reducible exact standstilllaw08_awake.mono _)
   | (with_reducible exact standstilllaw08_next.mono _ _ _ _ _ _ _ _ _)
   | (with_reducible exact standstillref06_Valid.mono _ _ _)
   | (with_reducible exact LeO.refl _)
   | (with_reducible exact LeO.none _)
   | (with_reducible refine LeO.ite ?_ ?_)
   | (with_reducible refine LeO.bind ?_ (fun _ => ?_))
   | exact ih0 _ _ _ _ _
   | exact ih1 _ _ _ _ _ _ _ _ _ _
   | exact ih2 _ _ _ _ _ _ _ _ _ _ _
   | exact ih3 _ _ _ _ _ _ _ _ _
   | exact pair_Two.mono _ _ _
   | exact standstilllaw08_awake.mono _
   | exact standstilllaw08_next.mono _ _ _ _ _ _ _ _ _
   | exact standstillref06_Valid.mono _ _ _
   | exact LeO.none _
   | refine LeO.ite ?_ ?_
   | refine LeO.bind ?_ (fun _ => ?_)
  ·intro y0 y1 y2 y3 y4 y5 y6 y7 y8 y9
   unfold standstilllaw08_PairRuns.l0
   repeat' first
   | (with_reducible exact ih0 _ _ _ _ _)
   | (with_reducible exact ih1 _ _ _ _ _ _ _ _ _ _)
   | (with_reducible exact ih2 _ _ _ _ _ _ _ _ _ _ _)
   | (with_reducible exact ih3 _ _ _ _ _ _ _ _ _)
   | (with_reducible exact pair_Two.mono _ _ _)
   | (with_reducible exact standstilllaw08_awake.mono _)
   | (with_reducible exact standstilllaw08_next.mono _ _ _ _ _ _ _ _ _)
   | (with_reducible exact standstillref06_Valid.mono _ _ _)
   | (with_reducible exact LeO.refl _)
   | (with_reducible exact LeO.none _)
   | (with_reducible refine LeO.ite ?_ ?_)
   | (with_reducible refine LeO.bind ?_ (fun _ => ?_))
   | exact ih0 _ _ _ _ _
   | exact ih1 _ _ _ _ _ _ _ _ _ _
   | exact ih2 _ _ _ _ _ _ _ _ _ _ _
   | exact ih3 _ _ _ _ _ _ _ _ _
   | exact pair_Two.mono _ _ _
   | exact standstilllaw08_awake.mono _
   | exact standstilllaw08_next.mono _ _ _ _ _ _ _ _ _
   | exact standstillref06_Valid.mono _ _ _
   | exact LeO.none _
   | refine LeO.ite ?_ ?_
   | refine LeO.bind ?_ (fun _ => ?_)
  ·intro y0 y1 y2 y3 y4 y5 y6 y7 y8 y9 y10
   unfold standstilllaw08_PairRuns.j2
   repeat' first
   | (with_reducible exact ih0 _ _ _ _ _)
   | (with_reducible exact ih1 _ _ _ _ _ _ _ _ _ _)
   | (with_reducible exact ih2 _ _ _ _ _ _ _ _ _ _ _)
   | (with_reducible exact ih3 _ _ _ _ _ _ _ _ _)
   | (with_reducible exact pair_Two.mono _ _ _)
   | (with_reducible exact standstilllaw08_awake.mono _)
   | (with_reducible exact standstilllaw08_next.mono _ _ _ _ _ _ _ _ _)
   | (with_reducible exact standstillref06_Valid.mono _ _ _)
   | (with_reducible exact LeO.refl _)
   | (with_reducible exact LeO.none _)
   | (with_reducible refine LeO.ite ?_ ?_)
   | (with_reducible refine LeO.bind ?_ (fun _ => ?_))
   | exact ih0 _ _ _ _ _
   | exact ih1 _ _ _ _ _ _ _ _ _ _
   | exact ih2 _ _ _ _ _ _ _ _ _ _ _
   | exact ih3 _ _ _ _ _ _ _ _ _
   | exact pair_Two.mono _ _ _
   | exact standstilllaw08_awake.mono _
   | exact standstilllaw08_next.mono _ _ _ _ _ _ _ _ _
   | exact standstillref06_Valid.mono _ _ _
   | exact LeO.none _
   | refine LeO.ite ?_ ?_
   | refine LeO.bind ?_ (fun _ => ?_)
  ·intro y0 y1 y2 y3 y4 y5 y6 y7 y8
   unfold standstilllaw08_PairRuns.l1
   repeat' first
   | (with_reducible exact ih0 _ _ _ _ _)
   | (with_reducible exact ih1 _ _ _ _ _ _ _ _ _ _)
   | (with_reducible exact ih2 _ _ _ _ _ _ _ _ _ _ _)
   | (with_reducible exact ih3 _ _ _ _ _ _ _ _ _)
   | (with_reducible exact pair_Two.mono _ _ _)
   | (with_reducible exact standstilllaw08_awake.mono _)
   | (with_reducible exact standstilllaw08_next.mono _ _ _ _ _ _ _ _ _)
   | (with_reducible exact standstillref06_Valid.mono _ _ _)
   | (with_reducible exact LeO.refl _)
   | (with_reducible exact LeO.none _)
   | (with_reducible refine LeO.ite ?_ ?_)
   | (with_reducible refine LeO.bind ?_ (fun _ => ?_))
   | exact ih0 _ _ _ _ _
   | exact ih1 _ _ _ _ _ _ _ _ _ _
   | exact ih2 _ _ _ _ _ _ _ _ _ _ _
   | exact ih3 _ _ _ _ _ _ _ _ _
   | exact pair_Two.mono _ _ _
   | exact standstilllaw08_awake.mono _
   | exact standstilllaw08_next.mono _ _ _ _ _ _ _ _ _
   | exact standstillref06_Valid.mono _ _ _
   | exact LeO.none _
   | refine LeO.ite ?_ ?_
   | refine LeO.bind ?_ (fun _ => ?_)
theorem standstilllaw08_PairRuns.mono : ∀ a0 a1 a2 a3 k, LeO (standstilllaw08_PairRuns.f k a0 a1 a2 a3) (standstilllaw08_PairRuns.f (k + 1) a0 a1 a2 a3) := by
 intro a0 a1 a2 a3 k
 obtain ⟨ih0, ih1, ih2, ih3⟩ := standstilllaw08_PairRuns.mono_l k
 unfold standstilllaw08_PairRuns.f
 repeat' first
   | (with_reducible exact ih0 _ _ _ _ _)
   | (with_reducible exact ih1 _ _ _ _ _ _ _ _ _ _)
   | (with_reducible exact ih2 _ _ _ _ _ _ _ _ _ _ _)
   | (with_reducible exact ih3 _ _ _ _ _ _ _ _ _)
   | (with_reducible exact pair_Two.mono _ _ _)
   | (with_reducible exact standstilllaw08_awake.mono _)
   | (with_reducible exact standstilllaw08_next.mono _ _ _ _ _ _ _ _ _)
   | (with_reducible exact standstillref06_Valid.mono _ _ _)
   | (with_reducible exact LeO.refl _)
   | (with_reducible exact LeO.none _)
   | (with_reducible refine LeO.ite ?_ ?_)
   | (with_reducible refine LeO.bind ?_ (fun _ => ?_))
   | exact ih0 _ _ _ _ _
   | exact ih1 _ _ _ _ _ _ _ _ _ _
   | exact ih2 _ _ _ _ _ _ _ _ _ _ _
   | exact ih3 _ _ _ _ _ _ _ _ _
   | exact pair_Two.mono _ _ _
   | exact standstilllaw08_awake.mono _
   | exact standstilllaw08_next.mono _ _ _ _ _ _ _ _ _
   | exact standstillref06_Valid.mono _ _ _
   | exact LeO.none _
   | refine LeO.ite ?_ ?_
   | refine LeO.bind ?_ (fun _ => ?_)
def standstilllaw08_PairRuns.T12 : Bool × List (List Nat × List Nat) := (true, [([], []), ([0], [0]), ([], []), ([], []), ([], []), ([3, 4], [3, 4]), ([5], [5]), ([1, 2, 0, 1, 2, 3, 4, 5, 6], [1, 2]), ([7, 6, 0, 1, 2, 3, 4, 5, 6], [6, 7])])
def standstilllaw08_PairRuns.B12 : List Nat := [0, 1, 0, 0, 0, 24, 56, 127, 255]
theorem standstilllaw08_PairRuns.tab12 : rtab .any (opsOf Try.f6 12) = standstilllaw08_PairRuns.T12 := by kernel_rfl
theorem standstilllaw08_PairRuns.bits12 : waitsOk standstilllaw08_PairRuns.T12.2 standstilllaw08_PairRuns.B12 = true := by kernel_rfl
def standstilllaw08_PairRuns.T21 : Bool × List (List Nat × List Nat) := (true, [([], []), ([0], [0]), ([1], [1]), ([2], [2]), ([3], [3]), ([4, 3], [3, 4]), ([3], [3]), ([6, 3], [3, 6]), ([5, 7, 3], [3, 5, 7]), ([3, 8], [3, 8]), ([9, 3], [9]), ([10], [10]), ([11, 10], [10, 11]), ([10], [10]), ([13, 10], [10, 13]), ([14, 10], [10, 14]), ([12, 15, 10], [10, 12, 15]), ([10, 16], [10, 16]), ([17, 10], [17]), ([18], [18]), ([18], [18]), ([20, 18], [18, 20]), ([19, 21, 18], [18, 19, 21]), ([22, 18], [18, 22]), ([23, 18], [18, 23]), ([18, 24], [18, 24]), ([25, 18], [25]), ([26], [26]), ([26], [26]), ([28, 26], [26, 28]), ([27, 29, 26], [26, 27, 29]), ([30, 26], [26, 30]), ([26], [26]), ([32, 26], [26, 32]), ([33, 26], [26, 33]), ([31, 34, 26], [26, 31, 34]), ([26, 35], [26, 35])])
def standstilllaw08_PairRuns.B21 : List Nat := [0, 1, 3, 7, 15, 31, 15, 79, 255, 511, 1023, 2047, 4095, 2047, 10239, 26623, 65535, 131071, 262143, 524287, 524287, 1572863, 4194303, 8388607, 16777215, 33554431, 67108863, 134217727, 134217727, 402653183, 1073741823, 2147483647, 134217727, 4429185023, 13019119615, 34359738367, 68719476735]
theorem standstilllaw08_PairRuns.tab21 : rtab .any (opsOf Try.f6 21) = standstilllaw08_PairRuns.T21 := by kernel_rfl
theorem standstilllaw08_PairRuns.bits21 : waitsOk standstilllaw08_PairRuns.T21.2 standstilllaw08_PairRuns.B21 = true := by kernel_rfl
def standstilllaw08_PairRuns.T23 : Bool × List (List Nat × List Nat) := (true, [([], []), ([0], [0]), ([], []), ([2], [2]), ([1, 3], [1, 3]), ([4], [4]), ([5], [5]), ([6], [6]), ([], []), ([8], [8]), ([], []), ([], []), ([11], [11]), ([10, 12], [10, 12]), ([13], [13]), ([9, 14], [9, 14]), ([15], [15]), ([16], [16]), ([17], [17]), ([7, 18], [7, 18]), ([19], [19]), ([20, 20], [20]), ([20, 21], [20, 21]), ([22, 21, 0, 1, 2, 3, 4, 5, 6, 7, 8, 9, 10, 11, 12, 13, 14, 15, 16, 17, 18, 19, 20, 21, 22], [22])])
def standstilllaw08_PairRuns.B23 : List Nat := [0, 1, 0, 4, 15, 31, 63, 127, 0, 256, 0, 0, 2048, 7168, 15360, 32512, 65280, 130816, 261888, 524287, 1048575, 2097151, 4194303, 8388607]
theorem standstilllaw08_PairRuns.tab23 : rtab .any (opsOf Try.f6 23) = standstilllaw08_PairRuns.T23 := by kernel_rfl
theorem standstilllaw08_PairRuns.bits23 : waitsOk standstilllaw08_PairRuns.T23.2 standstilllaw08_PairRuns.B23 = true := by kernel_rfl
set_option maxHeartbeats 8000000 in
set_option maxRecDepth 100000 in
theorem standstilllaw08_PairRuns.calls (k : Nat) (a0_0 : Int) (A0_1 : Option Addr) (c0_1 : Nat) (l0_1 : List (S45)) (A1 : Option Addr) (c1 : Nat) (l1 : List Int) (a2 : Int) (r : Bool) (w : World) (hr0_1 : Kd.C k45 w A0_1 l0_1.length l0_1) (hc0_1 : l0_1.length ≤ c0_1) (hr1 : Kd.C (Kd.int .i64) w A1 l1.length l1) (hc1 : l1.length ≤ c1) (h : standstilllaw08_PairRuns.f k a0_0 l0_1 l1 a2 = some r) :
  Calls Try.prog 6 #[.agg #[.int .i64 a0_0, .slice A0_1 l0_1.length c0_1], .slice A1 l1.length c1, .int .u8 a2] w fun e w' => e = .returned (.bool r) ∧ Below w.heap.size w w' := by
 have hu38 := Try.underlying38
 have hu47 := Try.underlying47
 have HR0_1 := Aside0.mk hr0_1
 have HC0_1 := Aside0.mk hc0_1
 clear hr0_1 hc0_1
 have HR1 := Aside0.mk hr1
 have HC1 := Aside0.mk hc1
 clear hr1 hc1
 have HB := A_ (Below.refl w.heap.size w)
 have H : (if (l0_1.length : Int) > 4000 then (standstilllaw08_PairRuns.j0 k l1 a2 true a0_0 l0_1) else ((standstillref06_Valid.f k a0_0 l0_1).bind fun t262 => (if t262 = true then (if a0_0 > 6 then (standstilllaw08_PairRuns.j0 k l1 a2 true a0_0 l0_1) else (standstilllaw08_PairRuns.j0 k l1 a2 (decide ((l1.length : Int) > 100)) a0_0 l0_1)) else (standstilllaw08_PairRuns.j0 k l1 a2 true a0_0 l0_1)))) = some r := h
 clear h
 have HC4 := Aside0.mk H
 clear H
 go_enter Try.func6, Try.ntmps6
 go_upto_region 1 with (first | ((with_reducible refine gate_dst (N := 3) rfl ?_); (try (refine gate_guard (by rfl) ?_; dsimp only)); refine box_event ?hg (N := 3) ?hd (cs := #[.int .i64 a0_0, .slice A0_1 l0_1.length c0_1]) (t := 38) ?hr ?_; (case hd => rfl); (case hg => rfl); (case hr => first | (go_simp; done) | (go_simp; rfl)); intro gb261 hg w5 hbox hb; have n0_ := A_ (below_step (bk_ HB.out) hb); have n1_ := A_ (hbox); have n2_ := A_ (bz_ hg (bk_ HB.out)); have n3_ := A_ (bz_ hg (bk_ HB.out)); clear HB; have HB := n0_; have BK261 := n1_; have GW261 := n2_; have GE261 := n3_; clear n0_ n1_ n2_ n3_ hb hbox hg))
 (try simp only [Act.put, List.setIfInBounds_toArray, List.set_cons_zero, List.set_cons_succ])
 go_cut [34] (fun v34 wc => ∃ (kq : Nat) (x34_3 : Bool), v34 = .bool x34_3 ∧ Aside0 (standstilllaw08_PairRuns.j0 kq l1 a2 x34_3 a0_0 l0_1 = some r) ∧ Aside0 (kq ≤ k) ∧ Aside0 (wc.heap[gb261]? = some (.cells #[.int .i64 a0_0, (.slice A0_1 l0_1.length c0_1)] 38 (0, 0))) ∧ Aside0 (Below w.heap.size w wc))
 case first => as_aux_lemma =>
  have H := HC4.out
  clear HC4
  by_cases c6 : (l0_1.length : Int) > 4000
  ·rw [if_pos c6] at H
   have c6b0 : decide (4000 < (l0_1.length : Int)) = true := decide_eq_true c6
   have c6b1 : decide (4000 < l0_1.length) = true := decide_eq_true (by omega)
   clear c6
   (first | rw [c6b0] | (simp only [i64_w, i32_w]; rw [c6b0]) | skip)
   have H' := Aside0.mk H
   clear H
   obtain ⟨hcz7_0, hcz7_1⟩ := bc2_ BK261.out
   have hfz7_0 := blk_frozen BK261.out 0
   have hfz7_1 := blk_frozen BK261.out 1
   go_wp2
   go_meet
   case rel => exact ⟨_, (true), jr_, H', ⟨by first | omega | exact Nat.le_refl _⟩, ⟨pk_ BK261.out⟩, ⟨bk_ HB.out⟩⟩
  ·rw [if_neg c6] at H
   have c6b0 : decide (4000 < (l0_1.length : Int)) = false := decide_eq_false c6
   have c6b1 : decide (4000 < l0_1.length) = false := decide_eq_false (by omega)
   clear c6
   (first | rw [c6b0] | (simp only [i64_w, i32_w]; rw [c6b0]) | skip)
   replace H := Option.bind_eq_some_iff.mp H
   obtain ⟨t262, A80, H⟩ := H
   replace H : (if t262 = true then (if a0_0 > 6 then (standstilllaw08_PairRuns.j0 k l1 a2 true a0_0 l0_1) else (standstilllaw08_PairRuns.j0 k l1 a2 (decide ((l1.length : Int) > 100)) a0_0 l0_1)) else (standstilllaw08_PairRuns.j0 k l1 a2 true a0_0 l0_1)) = some r := H
   have A8 := Aside0.mk A80
   clear A80
   by_cases c9 : t262 = true
   ·subst c9
    have H1 : (if a0_0 > 6 then (standstilllaw08_PairRuns.j0 k l1 a2 true a0_0 l0_1) else (standstilllaw08_PairRuns.j0 k l1 a2 (decide ((l1.length : Int) > 100)) a0_0 l0_1)) = some r := by rw [if_pos rfl] at H; exact H
    clear H
    have H := H1
    clear H1
    by_cases c10 : a0_0 > 6
    ·rw [if_pos c10] at H
     have c10b0 : decide (6 < a0_0) = true := decide_eq_true c10
     clear c10
     have H' := Aside0.mk H
     clear H
     obtain ⟨hcz11_0, hcz11_1⟩ := bc2_ BK261.out
     have hfz11_0 := blk_frozen BK261.out 0
     have hfz11_1 := blk_frozen BK261.out 1
     go_wp2_with (first | (go_at_call 15; (with_reducible refine (standstillref06_Valid.calls k a0_0 _ _ l0_1 true _ ?side1 ?side2 A8.out).mono ?_); (case side1 => exact ck_ (Kd.C_below HR0_1.out HB.out)); (case side2 => exact HC0_1.out); rintro e w12 ⟨rfl, hb⟩; have n0_ := A_ (blk_below (pk_ BK261.out) hb); have n1_ := A_ (below_step (bk_ HB.out) hb); clear BK261 HB; have BK261 := n0_; have HB := n1_; clear n0_ n1_; (try clear hb); (try clear hb2); (try clear hk); (try clear hi); obtain ⟨hcz13_0, hcz13_1⟩ := bc2_ BK261.out; have hfz13_0 := blk_frozen BK261.out 0; have hfz13_1 := blk_frozen BK261.out 1))
     go_meet
     case rel => exact ⟨_, (true), jr_, H', ⟨by first | omega | exact Nat.le_refl _⟩, ⟨pk_ BK261.out⟩, ⟨bk_ HB.out⟩⟩
    ·rw [if_neg c10] at H
     have c10b0 : decide (6 < a0_0) = false := decide_eq_false c10
     clear c10
     have H' := Aside0.mk H
     clear H
     obtain ⟨hcz14_0, hcz14_1⟩ := bc2_ BK261.out
     have hfz14_0 := blk_frozen BK261.out 0
     have hfz14_1 := blk_frozen BK261.out 1
     go_wp2_with (first | (go_at_call 15; (with_reducible refine (standstillref06_Valid.calls k a0_0 _ _ l0_1 true _ ?side1 ?side2 A8.out).mono ?_); (case side1 => exact ck_ (Kd.C_below HR0_1.out HB.out)); (case side2 => exact HC0_1.out); rintro e w15 ⟨rfl, hb⟩; have n0_ := A_ (blk_below (pk_ BK261.out) hb); have n1_ := A_ (below_step (bk_ HB.out) hb); clear BK261 HB; have BK261 := n0_; have HB := n1_; clear n0_ n1_; (try clear hb); (try clear hb2); (try clear hk); (try clear hi); obtain ⟨hcz16_0, hcz16_1⟩ := bc2_ BK261.out; have hfz16_0 := blk_frozen BK261.out 0; have hfz16_1 := blk_frozen BK261.out 1))
     go_meet
     case rel => exact ⟨_, (decide ((l1.length : Int) > 100)), jr_, H', ⟨by first | omega | exact Nat.le_refl _⟩, ⟨pk_ BK261.out⟩, ⟨bk_ HB.out⟩⟩
   ·replace c9 := Bool.eq_false_iff.mpr c9
    subst c9
    have H1 : (standstilllaw08_PairRuns.j0 k l1 a2 true a0_0 l0_1) = some r := by rw [if_neg (show ¬ (false = true) by decide)] at H; exact H
    clear H
    have H := H1
    clear H1
    have H' := Aside0.mk H
    clear H
    obtain ⟨hcz17_0, hcz17_1⟩ := bc2_ BK261.out
    have hfz17_0 := blk_frozen BK261.out 0
    have hfz17_1 := blk_frozen BK261.out 1
    go_wp2_with (first | (go_at_call 15; (with_reducible refine (standstillref06_Valid.calls k a0_0 _ _ l0_1 false _ ?side1 ?side2 A8.out).mono ?_); (case side1 => exact ck_ (Kd.C_below HR0_1.out HB.out)); (case side2 => exact HC0_1.out); rintro e w18 ⟨rfl, hb⟩; have n0_ := A_ (blk_below (pk_ BK261.out) hb); have n1_ := A_ (below_step (bk_ HB.out) hb); clear BK261 HB; have BK261 := n0_; have HB := n1_; clear n0_ n1_; (try clear hb); (try clear hb2); (try clear hk); (try clear hi)))
    go_meet
    case rel => exact ⟨_, (true), jr_, H', ⟨by first | omega | exact Nat.le_refl _⟩, ⟨pk_ BK261.out⟩, ⟨bk_ HB.out⟩⟩
 case rest => as_aux_lemma =>
  clear HC4
  (try clear c1)
  obtain ⟨kq, x34_3, rfl, HA, HJ3, BK261, HB⟩ := hcut
  cases kq with
  | zero => exact absurd HA.out (by simp [standstilllaw08_PairRuns.j0])
  | succ kj3 =>
   have H := HA.out
   clear HA
   simp only [standstilllaw08_PairRuns.j0] at H
   by_cases c19 : x34_3 = true
   ·subst c19
    have H1 : ((standstilllaw08_awake.f kj3).bind fun t263 => (some t263)) = some r := by rw [if_pos rfl] at H; exact H
    clear H
    have H := H1
    clear H1
    replace H := Option.bind_eq_some_iff.mp H
    obtain ⟨t263, A200, H⟩ := H
    replace H : (some t263) = some r := H
    have A20 := Aside0.mk A200
    clear A200
    obtain rfl := Option.some.inj H
    go_wp2_with (first | ((with_reducible refine gate_callee (f := 7) rfl ?_); refine goesL_ (some 35) rfl rfl Try.func7 (by kernel_rfl) rfl #[] rfl gl_ ?_; (with_reducible refine (standstilllaw08_awake.calls kj3  t263 _ A20.out).mono ?_); rintro e w21 ⟨rfl, hb⟩; refine ⟨_, rfl, ?_⟩; have n0_ := A_ (blk_below (pk_ BK261.out) hb); have n1_ := A_ (below_step (bk_ HB.out) hb); clear BK261 HB; have BK261 := n0_; have HB := n1_; clear n0_ n1_; (try clear hb); (try clear hb2); (try clear hk); (try clear hi)))
    go_ret
    exact ⟨er_, bk_ HB.out⟩
   ·replace c19 := Bool.eq_false_iff.mpr c19
    subst c19
    have H1 : ((pair_Two.f kj3 a0_0 l0_1).bind fun bt264 => (if bt264.2.2.2 = 0 then (if 0 ≤ a0_0 then (if (a0_0 : Int).toNat ≤ 35184372088832 then (standstilllaw08_PairRuns.l0 kj3 l1 a2 bt264.2.2.1 0 a0_0 l0_1 bt264.1 bt264.2.1 0 (List.replicate (a0_0 : Int).toNat 0)) else (none)) else (none)) else (if bt264.2.2.2 = 4 then ((standstilllaw08_awake.f kj3).bind fun t273 => (some t273)) else (none)))) = some r := by rw [if_neg (show ¬ (false = true) by decide)] at H; exact H
    clear H
    have H := H1
    clear H1
    replace H := Option.bind_eq_some_iff.mp H
    obtain ⟨⟨t264, t265, t268, t271⟩, A220, H⟩ := H
    replace H : (if t271 = 0 then (if 0 ≤ a0_0 then (if (a0_0 : Int).toNat ≤ 35184372088832 then (standstilllaw08_PairRuns.l0 kj3 l1 a2 t268 0 a0_0 l0_1 t264 t265 0 (List.replicate (a0_0 : Int).toNat 0)) else (none)) else (none)) else (if t271 = 4 then ((standstilllaw08_awake.f kj3).bind fun t273 => (some t273)) else (none))) = some r := H
    have A22 := Aside0.mk A220
    clear A220
    by_cases c23 : t271 = 0
    ·rw [if_pos c23] at H
     have c23b0 : (t271 == 0) = true := beq_iff_eq.mpr c23
     have c23b1 : (t271 != 0) = false := bne_eq_false_iff_eq.mpr c23
     clear c23
     by_cases c24 : 0 ≤ a0_0
     ·rw [if_pos c24] at H
      have c24b0 := eq_true c24
      have c24b1 : decide (0 ≤ a0_0) = true := decide_eq_true c24
      clear c24
      by_cases c25 : (a0_0 : Int).toNat ≤ 35184372088832
      ·rw [if_pos c25] at H
       have c25b0 := eq_true c25
       have c25b1 : decide ((a0_0 : Int).toNat ≤ 35184372088832) = true := decide_eq_true c25
       clear c25
       obtain ⟨y274, hy274⟩ : ∃ y_ : List Int, y_ = (List.replicate (a0_0 : Int).toNat 0) := ⟨_, rfl⟩
       replace H : (standstilllaw08_PairRuns.l0 kj3 l1 a2 t268 0 a0_0 l0_1 t264 t265 0 y274) = some r := by first | (rw [hy274]; with_reducible exact H) | (have H2_ := (Option.bind_some _ _).symm.trans H; rw [hy274]; with_reducible exact H2_) | (have H2_ := (Option.bind_some _ _).symm.trans H; with_reducible exact H2_) | with_reducible exact H | (rw [hy274]; exact H) | exact H
       have Ny274 := Aside0.mk hy274
       clear hy274
       have H' := Aside0.mk H
       clear H
       obtain ⟨hcz26_0, hcz26_1⟩ := bc2_ BK261.out
       have hfz26_0 := blk_frozen BK261.out 0
       have hfz26_1 := blk_frozen BK261.out 1
       go_wp2_with (first | ((with_reducible refine gate_callee (f := 14) rfl ?_); refine goesL_ (some 38) rfl rfl Try.func14 (by kernel_rfl) rfl #[.agg #[.int .i64 a0_0, .slice A0_1 l0_1.length c0_1]] rfl gl_ ?_; (with_reducible refine (pair_Two.calls kj3 a0_0 _ _ l0_1 t264 t265 t268 t271 _ ?side1 ?side2 A22.out).mono ?_); (case side1 => exact ck_ (Kd.C_below HR0_1.out HB.out)); (case side2 => exact HC0_1.out); rintro e w27 ⟨v266, v269, rfl, ho0, ho1, hb⟩; refine ⟨_, rfl, ?_⟩; have n0_ := A_ (Kd.R_lower ho0 (below_size (bk_ HB.out))); have n1_ := A_ (Kd.R_lower ho1 (below_size (bk_ HB.out))); have n2_ := A_ (blk_below (pk_ BK261.out) hb); have n3_ := A_ (below_step (bk_ HB.out) hb); clear BK261 HB; have HO267 := n0_; have HO270 := n1_; have BK261 := n2_; have HB := n3_; clear n0_ n1_ n2_ n3_; (try clear hb); (try clear hb2); (try clear hk); (try clear hi); (try clear ho0); (try clear ho1)) | ((with_reducible refine gate_dst (N := 7) rfl ?_); (try (refine gate_guard (by rfl) ?_; dsimp only)); refine box_event ?hg (N := 7) ?hd (cs := #[.int .i64 0, .slice none 0 0]) (t := 38) ?hr ?_; (case hd => rfl); (case hg => rfl); (case hr => first | (go_simp; done) | (go_simp; rfl)); intro gb272 hg w28 hbox hb; have n0_ := A_ (Kd.R_below (rk_ HO267.out) hb); have n1_ := A_ (Kd.R_below (rk_ HO270.out) hb); have n2_ := A_ (blk_below (pk_ BK261.out) hb); have n3_ := A_ (below_step (bk_ HB.out) hb); have n4_ := A_ (hbox); have n5_ := A_ (bz_ hg (bk_ HB.out)); have n6_ := A_ (bz_ hg (bk_ HB.out)); have n7_ := A_ (nl_ hg (pk_ BK261.out)); have n8_ := A_ (ng_ hg (pk_ BK261.out)); clear HO267 HO270 BK261 HB; have HO267 := n0_; have HO270 := n1_; have BK261 := n2_; have HB := n3_; have BK272 := n4_; have GW272 := n5_; have GE272 := n6_; have NB261_272 := n7_; have NB272_261 := n8_; clear n0_ n1_ n2_ n3_ n4_ n5_ n6_ n7_ n8_ hb hbox hg; have hnb29 := NB272_261.out; have hnc29 := NB261_272.out; obtain ⟨hcz30_0, hcz30_1⟩ := bc2_ BK272.out; have hfz30_0 := blk_frozen BK272.out 0; have hfz30_1 := blk_frozen BK272.out 1; obtain ⟨Ao31, co31, eo31⟩ := Kd.R_slice HO267.out; subst eo31; obtain ⟨hcz32_0, hcz32_1⟩ := bc2_ BK261.out; have hfz32_0 := blk_frozen BK261.out 0; have hfz32_1 := blk_frozen BK261.out 1) | ((with_reducible refine gate_dst (N := 51) rfl ?_); (try (refine gate_guard (by rfl) ?_; dsimp only)); refine Kd.R_make (Kd.int .i64) _ 3 rfl (N := 51) rfl 22 _ _ rfl a0_0 rfl rfl Try.underlying22 (.int .i64 0) 8 info3 rfl (by decide) (by omega) 0 (ok := fun _ => True) (okp := fun _ => True) rfl (fun _ hk => hk) trivial (od_) (Nat.le_trans (Nat.mul_le_mul_right _ (od_ : a0_0.toNat ≤ 35184372088832)) (by omega)) (Below.refl _ _) (Nat.le_refl _) ?_; intro v275 w33 ho34 hb hg_ hnew_; clear hg_ hnew_; (first | rw [← Ny274.out] at ho34 | (simp only [Int.reduceToNat] at ho34; rw [← Ny274.out] at ho34)); have n0_ := A_ (Kd.R_below (rz_ HO267.out BK272.out) hb); have n1_ := A_ (Kd.R_elder' (rz_ HO270.out BK272.out) (Kd.R_base ho34) hb); have n2_ := A_ (Kd.R_lower (Kd.R_new' ho34 (Kd.R_lt (rz_ HO270.out BK272.out))) (below_size (bk_ HB.out))); have n3_ := A_ (bf_ BK261.out NB261_272.out hb); have n4_ := A_ (blk_below (g := gb272) (o := .cells #[.int .i64 t264, .slice Ao31 t265.length co31] 38 (0, 0)) (by refine pk_ ?_; refine blk_put (cs := #[.int .i64 t264, .slice none 0 0]) ?_ 1 _ rfl; refine pk_ ?_; refine blk_put (cs := #[.int .i64 0, .slice none 0 0]) ?_ 0 _ rfl; exact pk_ BK272.out) hb); have n5_ := A_ (below_step (bk_ HB.out) hb); clear HO267 HO270 BK261 BK272 HB; have HO267 := n0_; have HO270 := n1_; have HO276 := n2_; have BK261 := n3_; have BK272 := n4_; have HB := n5_; clear n0_ n1_ n2_ n3_ n4_ n5_ hb ho34; obtain ⟨Ao35, co35, eo35⟩ := Kd.R_slice HO276.out; subst eo35) | ((with_reducible refine gate_dst (N := 10) rfl ?_); (try (refine gate_guard (by rfl) ?_; dsimp only)); refine box_event ?hg (N := 10) ?hd (cs := #[.int .i64 0, .slice none 0 0]) (t := 47) ?hr ?_; (case hd => rfl); (case hg => rfl); (case hr => first | (go_simp; done) | (go_simp; rfl)); intro gb277 hg w36 hbox hb; have n0_ := A_ (Kd.R_below (rk_ HO267.out) hb); have n1_ := A_ (Kd.R_below (rk_ HO270.out) hb); have n2_ := A_ (Kd.R_below (rk_ HO276.out) hb); have n3_ := A_ (blk_below (pk_ BK261.out) hb); have n4_ := A_ (blk_below (pk_ BK272.out) hb); have n5_ := A_ (below_step (bk_ HB.out) hb); have n6_ := A_ (hbox); have n7_ := A_ (bz_ hg (bk_ HB.out)); have n8_ := A_ (bz_ hg (bk_ HB.out)); have n9_ := A_ (nl_ hg (pk_ BK261.out)); have n10_ := A_ (ng_ hg (pk_ BK261.out)); have n11_ := A_ (nl_ hg (pk_ BK272.out)); have n12_ := A_ (ng_ hg (pk_ BK272.out)); clear HO267 HO270 HO276 BK261 BK272 HB; have HO267 := n0_; have HO270 := n1_; have HO276 := n2_; have BK261 := n3_; have BK272 := n4_; have HB := n5_; have BK277 := n6_; have GW277 := n7_; have GE277 := n8_; have NB261_277 := n9_; have NB277_261 := n10_; have NB272_277 := n11_; have NB277_272 := n12_; clear n0_ n1_ n2_ n3_ n4_ n5_ n6_ n7_ n8_ n9_ n10_ n11_ n12_ hb hbox hg; have hnb37 := NB277_261.out; have hnc37 := NB261_277.out; have hnb38 := NB277_272.out; have hnc38 := NB272_277.out; obtain ⟨hcz39_0, hcz39_1⟩ := bc2_ BK277.out; have hfz39_0 := blk_frozen BK277.out 0; have hfz39_1 := blk_frozen BK277.out 1))
       go_loopg [11] kj3 (fun kq v11 w' => ∃ (x8_2 : List Int) (x11_2 : Int) (x278001_2 : List Int) (u278001 : Value), v11 = .int .i64 x11_2 ∧ Aside0 (standstilllaw08_PairRuns.l0 kq l1 a2 x8_2 x11_2 a0_0 l0_1 t264 t265 0 x278001_2 = some r) ∧ Aside0 (kq ≤ kj3) ∧ Aside0 (Kd.R (Kd.int .i64) 3 w' w.heap.size (fun k_ => some k_ ≠ (u278001 : Value).ownBlock) v269 x8_2) ∧ Aside0 (Kd.R k45 45 w' w.heap.size (fun _ => True) (.slice Ao31 t265.length co31) t265) ∧ Aside0 (Kd.R (Kd.int .i64) 3 w' w.heap.size (fun k_ => some k_ ≠ (v269 : Value).ownBlock) u278001 x278001_2) ∧ Aside0 (w'.heap[gb261]? = some (.cells #[.int .i64 a0_0, (.slice A0_1 l0_1.length c0_1)] 38 (0, 0))) ∧ Aside0 (w'.heap[gb272]? = some (.cells #[.int .i64 t264, (.slice Ao31 t265.length co31)] 38 (0, 0))) ∧ Aside0 (w'.heap[gb277]? = some (.cells #[.int .i64 0, u278001] 47 (0, 0))) ∧ Aside0 (Below w.heap.size w w'))
       case atStart => exact ⟨(t268), (0), (y274), (.slice Ao35 y274.length co35), jr_, H', ⟨Nat.le_refl _⟩, ⟨by (with_reducible repeat (first | apply Kd.R_alloc | apply Kd.R_drewN | apply Kd.R_drew)); exact Kd.R_mono (rf2_ (Kd.R_types HO270.out BK277.out (by decide))) (fun _ hk => hk.1.2)⟩, ⟨by (with_reducible repeat (first | apply Kd.R_alloc | apply Kd.R_drewN | apply Kd.R_drew)); exact Kd.R_mono (rf2_ (Kd.R_types HO267.out BK277.out (by decide))) (fun _ hk => trivial)⟩, ⟨by (with_reducible repeat (first | apply Kd.R_alloc | apply Kd.R_drewN | apply Kd.R_drew)); exact Kd.R_mono (rf2_ (Kd.R_types HO276.out BK277.out (by decide))) (fun _ hk => hk.1.2)⟩, ⟨by (iterate 2 (refine pk_ ?_; refine blk_far ?_ NB261_277.out _)); exact pk_ BK261.out⟩, ⟨by (iterate 2 (refine pk_ ?_; refine blk_far ?_ NB272_277.out _)); exact pk_ BK272.out⟩, ⟨by refine pk_ ?_; refine blk_put (cs := #[.int .i64 0, .slice none 0 0]) ?_ 1 _ rfl; refine pk_ ?_; refine blk_put (cs := #[.int .i64 0, .slice none 0 0]) ?_ 0 _ rfl; exact pk_ BK277.out⟩, ⟨bk_ HB.out⟩⟩
       case round => as_aux_lemma =>
        clear H'
        (try clear c1); (try clear c19); (try clear c23); (try clear c23b0); (try clear c23b1); (try clear c24); (try clear c24b0); (try clear c24b1); (try clear c25); (try clear c25b0); (try clear c25b1); (try clear hcz26_0); (try clear hcz26_1); (try clear hcz30_0); (try clear hcz30_1); (try clear hcz32_0); (try clear hcz32_1); (try clear hcz39_0); (try clear hcz39_1); (try clear hfz26_0); (try clear hfz26_1); (try clear hfz30_0); (try clear hfz30_1); (try clear hfz32_0); (try clear hfz32_1); (try clear hfz39_0); (try clear hfz39_1)
        obtain ⟨x8_2, x11_2, x278001_2, u278001, rfl, HA, HK2, HO_8, HO_273001, HO_278001, BK261, BK272, BK277, HB⟩ := hrel
        cases gk with
        | zero => exact absurd HA.out (by simp [standstilllaw08_PairRuns.l0])
        | succ k2 =>
         have H := HA.out
         clear HA
         simp only [standstilllaw08_PairRuns.l0] at H
         have HC40 := Aside0.mk H
         clear H
         go_upto_region 8 with (fail)
         go_cut [62] (fun v62 wc => ∃ (kq : Nat) (x62_39 : Bool), v62 = .bool x62_39 ∧ Aside0 (standstilllaw08_PairRuns.j2 kq l1 a2 x8_2 x11_2 x62_39 a0_0 l0_1 t264 t265 0 x278001_2 = some r) ∧ Aside0 (kq ≤ k2) ∧ Aside0 (Kd.R (Kd.int .i64) 3 wc w.heap.size (fun k_ => some k_ ≠ (u278001 : Value).ownBlock) v269 x8_2) ∧ Aside0 (Kd.R k45 45 wc w.heap.size (fun _ => True) (.slice Ao31 t265.length co31) t265) ∧ Aside0 (Kd.R (Kd.int .i64) 3 wc w.heap.size (fun k_ => some k_ ≠ (v269 : Value).ownBlock) u278001 x278001_2) ∧ Aside0 (wc.heap[gb261]? = some (.cells #[.int .i64 a0_0, (.slice A0_1 l0_1.length c0_1)] 38 (0, 0))) ∧ Aside0 (wc.heap[gb272]? = some (.cells #[.int .i64 t264, (.slice Ao31 t265.length co31)] 38 (0, 0))) ∧ Aside0 (wc.heap[gb277]? = some (.cells #[.int .i64 0, u278001] 47 (0, 0))) ∧ Aside0 (Below w.heap.size w wc))
         case first => as_aux_lemma =>
          have H := HC40.out
          clear HC40
          by_cases c41 : x11_2 < a0_0
          ·rw [if_pos c41] at H
           have c41b0 : decide (x11_2 < a0_0) = true := decide_eq_true c41
           clear c41
           (first | rw [c41b0] | (simp only [i64_w, i32_w]; rw [c41b0]) | skip)
           have H' := Aside0.mk H
           clear H
           have hnb42 := NB261_272.out
           have hnc42 := NB272_261.out
           have hnb43 := NB261_277.out
           have hnc43 := NB277_261.out
           obtain ⟨hcz44_0, hcz44_1⟩ := bc2_ BK261.out
           have hfz44_0 := blk_frozen BK261.out 0
           have hfz44_1 := blk_frozen BK261.out 1
           go_wp2
           go_meet
           case rel => exact ⟨_, (decide (x11_2 < (l1.length : Int))), jr_, H', ⟨by have := HJ3.out; have := HK2.out; first | omega | exact Nat.le_refl _⟩, ⟨rk_ HO_8.out⟩, ⟨rk_ HO_273001.out⟩, ⟨rk_ HO_278001.out⟩, ⟨pk_ BK261.out⟩, ⟨pk_ BK272.out⟩, ⟨pk_ BK277.out⟩, ⟨bk_ HB.out⟩⟩
          ·rw [if_neg c41] at H
           have c41b0 : decide (x11_2 < a0_0) = false := decide_eq_false c41
           clear c41
           (first | rw [c41b0] | (simp only [i64_w, i32_w]; rw [c41b0]) | skip)
           have H' := Aside0.mk H
           clear H
           have hnb45 := NB261_272.out
           have hnc45 := NB272_261.out
           have hnb46 := NB261_277.out
           have hnc46 := NB277_261.out
           obtain ⟨hcz47_0, hcz47_1⟩ := bc2_ BK261.out
           have hfz47_0 := blk_frozen BK261.out 0
           have hfz47_1 := blk_frozen BK261.out 1
           go_wp2
           go_meet
           case rel => exact ⟨_, (false), jr_, H', ⟨by have := HJ3.out; have := HK2.out; first | omega | exact Nat.le_refl _⟩, ⟨rk_ HO_8.out⟩, ⟨rk_ HO_273001.out⟩, ⟨rk_ HO_278001.out⟩, ⟨pk_ BK261.out⟩, ⟨pk_ BK272.out⟩, ⟨pk_ BK277.out⟩, ⟨bk_ HB.out⟩⟩
         case rest => as_aux_lemma =>
          clear HC40
          (try clear c1); (try clear c19); (try clear c23); (try clear c23b0); (try clear c23b1); (try clear c24); (try clear c24b0); (try clear c24b1); (try clear c25); (try clear c25b0); (try clear c25b1); (try clear hcz26_0); (try clear hcz26_1); (try clear hcz30_0); (try clear hcz30_1); (try clear hcz32_0); (try clear hcz32_1); (try clear hcz39_0); (try clear hcz39_1); (try clear hfz26_0); (try clear hfz26_1); (try clear hfz30_0); (try clear hfz30_1); (try clear hfz32_0); (try clear hfz32_1); (try clear hfz39_0); (try clear hfz39_1)
          obtain ⟨kq, x62_39, rfl, HA, HJ39, HO_8, HO_273001, HO_278001, BK261, BK272, BK277, HB⟩ := hcut
          cases kq with
          | zero => exact absurd HA.out (by simp [standstilllaw08_PairRuns.j2])
          | succ kj39 =>
           have H := HA.out
           clear HA
           simp only [standstilllaw08_PairRuns.j2] at H
           by_cases c48 : x62_39 = true
           ·subst c48
            have H1 : (if 0 ≤ x11_2 then (if x11_2 < (l1.length : Int) then (if (rd l1 x11_2) < 0 then ((standstilllaw08_awake.f kj39).bind fun t279 => (some t279)) else (if (rd l1 x11_2) > 60 then ((standstilllaw08_awake.f kj39).bind fun t281 => (some t281)) else (if x11_2 < (x278001_2.length : Int) then (standstilllaw08_PairRuns.l0 kj39 l1 a2 x8_2 (wrap64 (x11_2 + 1)) a0_0 l0_1 t264 t265 0 (x278001_2.set (x11_2 : Int).toNat (rd l1 x11_2))) else (none)))) else (none)) else (none)) = some r := by rw [if_pos rfl] at H; exact H
            clear H
            have H := H1
            clear H1
            by_cases c49 : 0 ≤ x11_2
            ·rw [if_pos c49] at H
             have c49b0 : decide (0 ≤ x11_2) = true := decide_eq_true c49
             clear c49
             by_cases c50 : x11_2 < (l1.length : Int)
             ·rw [if_pos c50] at H
              have c50b0 : decide (x11_2 < (l1.length : Int)) = true := decide_eq_true c50
              clear c50
              by_cases c51 : (rd l1 x11_2) < 0
              ·rw [if_pos c51] at H
               have c51b0 : decide ((rd l1 x11_2) < 0) = true := decide_eq_true c51
               clear c51
               replace H := Option.bind_eq_some_iff.mp H
               obtain ⟨t279, A520, H⟩ := H
               replace H : (some t279) = some r := H
               have A52 := Aside0.mk A520
               clear A520
               obtain rfl := Option.some.inj H
               have p278 : 0 ≤ (x11_2 : Int) := od_
               have q278 : x11_2 < (l1.length : Int) := od_
               obtain ⟨ad278, e278, hx278_0⟩ := Kd.at_int HR1.out x11_2 p278 q278
               cases e278
               replace hx278_0 := lf_ HB.out hx278_0
               replace p278 := eq_true p278
               replace q278 := eq_true q278
               go_wp2_with (first | ((with_reducible refine gate_callee (f := 7) rfl ?_); refine goesL_ (some 77) rfl rfl Try.func7 (by kernel_rfl) rfl #[] rfl gl_ ?_; (with_reducible refine (standstilllaw08_awake.calls kj39  t279 _ A52.out).mono ?_); rintro e w53 ⟨rfl, hb⟩; refine ⟨_, rfl, ?_⟩; have n0_ := A_ (Kd.R_below (rk_ HO_8.out) hb); have n1_ := A_ (Kd.R_below (rk_ HO_273001.out) hb); have n2_ := A_ (Kd.R_below (rk_ HO_278001.out) hb); have n3_ := A_ (blk_below (pk_ BK261.out) hb); have n4_ := A_ (blk_below (pk_ BK272.out) hb); have n5_ := A_ (blk_below (pk_ BK277.out) hb); have n6_ := A_ (below_step (bk_ HB.out) hb); clear HO_8 HO_273001 HO_278001 BK261 BK272 BK277 HB; have HO_8 := n0_; have HO_273001 := n1_; have HO_278001 := n2_; have BK261 := n3_; have BK272 := n4_; have BK277 := n5_; have HB := n6_; clear n0_ n1_ n2_ n3_ n4_ n5_ n6_; (try clear hb); (try clear hb2); (try clear hk); (try clear hi)))
               go_ret
               exact ⟨er_, bk_ HB.out⟩
              ·rw [if_neg c51] at H
               have c51b0 : decide ((rd l1 x11_2) < 0) = false := decide_eq_false c51
               clear c51
               by_cases c54 : (rd l1 x11_2) > 60
               ·rw [if_pos c54] at H
                have c54b0 : decide (60 < (rd l1 x11_2)) = true := decide_eq_true c54
                clear c54
                replace H := Option.bind_eq_some_iff.mp H
                obtain ⟨t281, A550, H⟩ := H
                replace H : (some t281) = some r := H
                have A55 := Aside0.mk A550
                clear A550
                obtain rfl := Option.some.inj H
                have p278 : 0 ≤ (x11_2 : Int) := od_
                have q278 : x11_2 < (l1.length : Int) := od_
                obtain ⟨ad278, e278, hx278_0⟩ := Kd.at_int HR1.out x11_2 p278 q278
                cases e278
                replace hx278_0 := lf_ HB.out hx278_0
                replace p278 := eq_true p278
                replace q278 := eq_true q278
                have p280 : 0 ≤ (x11_2 : Int) := od_
                have q280 : x11_2 < (l1.length : Int) := od_
                obtain ⟨ad280, e280, hx280_0⟩ := Kd.at_int HR1.out x11_2 p280 q280
                obtain rfl : ad278 = ad280 := (by injection e280)
                replace hx280_0 := lf_ HB.out hx280_0
                replace p280 := eq_true p280
                replace q280 := eq_true q280
                go_wp2_with (first | ((with_reducible refine gate_callee (f := 7) rfl ?_); refine goesL_ (some 77) rfl rfl Try.func7 (by kernel_rfl) rfl #[] rfl gl_ ?_; (with_reducible refine (standstilllaw08_awake.calls kj39  t281 _ A55.out).mono ?_); rintro e w56 ⟨rfl, hb⟩; refine ⟨_, rfl, ?_⟩; have n0_ := A_ (Kd.R_below (rk_ HO_8.out) hb); have n1_ := A_ (Kd.R_below (rk_ HO_273001.out) hb); have n2_ := A_ (Kd.R_below (rk_ HO_278001.out) hb); have n3_ := A_ (blk_below (pk_ BK261.out) hb); have n4_ := A_ (blk_below (pk_ BK272.out) hb); have n5_ := A_ (blk_below (pk_ BK277.out) hb); have n6_ := A_ (below_step (bk_ HB.out) hb); clear HO_8 HO_273001 HO_278001 BK261 BK272 BK277 HB; have HO_8 := n0_; have HO_273001 := n1_; have HO_278001 := n2_; have BK261 := n3_; have BK272 := n4_; have BK277 := n5_; have HB := n6_; clear n0_ n1_ n2_ n3_ n4_ n5_ n6_; (try clear hb); (try clear hb2); (try clear hk); (try clear hi)))
                go_ret
                exact ⟨er_, bk_ HB.out⟩
               ·rw [if_neg c54] at H
                have c54b0 : decide (60 < (rd l1 x11_2)) = false := decide_eq_false c54
                clear c54
                by_cases c57 : x11_2 < (x278001_2.length : Int)
                ·rw [if_pos c57] at H
                 have c57b0 : decide (x11_2 < (x278001_2.length : Int)) = true := decide_eq_true c57
                 clear c57
                 obtain ⟨y283, hy283⟩ : ∃ y_ : List Int, y_ = (x278001_2.set (x11_2 : Int).toNat (rd l1 x11_2)) := ⟨_, rfl⟩
                 replace H : (standstilllaw08_PairRuns.l0 kj39 l1 a2 x8_2 (wrap64 (x11_2 + 1)) a0_0 l0_1 t264 t265 0 y283) = some r := by first | (rw [hy283]; with_reducible exact H) | (have H2_ := (Option.bind_some _ _).symm.trans H; rw [hy283]; with_reducible exact H2_) | (have H2_ := (Option.bind_some _ _).symm.trans H; with_reducible exact H2_) | with_reducible exact H | (rw [hy283]; exact H) | exact H
                 have Ny283 := Aside0.mk hy283
                 clear hy283
                 have H' := Aside0.mk H
                 clear H
                 have p278 : 0 ≤ (x11_2 : Int) := od_
                 have q278 : x11_2 < (l1.length : Int) := od_
                 obtain ⟨ad278, e278, hx278_0⟩ := Kd.at_int HR1.out x11_2 p278 q278
                 cases e278
                 replace hx278_0 := lf_ HB.out hx278_0
                 replace p278 := eq_true p278
                 replace q278 := eq_true q278
                 have p280 : 0 ≤ (x11_2 : Int) := od_
                 have q280 : x11_2 < (l1.length : Int) := od_
                 obtain ⟨ad280, e280, hx280_0⟩ := Kd.at_int HR1.out x11_2 p280 q280
                 obtain rfl : ad278 = ad280 := (by injection e280)
                 replace hx280_0 := lf_ HB.out hx280_0
                 replace p280 := eq_true p280
                 replace q280 := eq_true q280
                 try go_wp2
                 have n0_ := A_ (Kd.R_drew HO_8.out)
                 have n1_ := A_ (Kd.R_drew HO_273001.out)
                 have n2_ := A_ (Kd.R_drew HO_278001.out)
                 have n3_ := A_ (blk_drew BK261.out)
                 have n4_ := A_ (blk_drew BK272.out)
                 have n5_ := A_ (blk_drew BK277.out)
                 have n6_ := A_ (below_drew1 HB.out)
                 clear HO_8 HO_273001 HO_278001 BK261 BK272 BK277 HB
                 have HO_8 := n0_
                 have HO_273001 := n1_
                 have HO_278001 := n2_
                 have BK261 := n3_
                 have BK272 := n4_
                 have BK277 := n5_
                 have HB := n6_
                 clear n0_ n1_ n2_ n3_ n4_ n5_ n6_
                 have p282 : 0 ≤ (x11_2 : Int) := od_
                 have q282 : x11_2 < (l1.length : Int) := od_
                 obtain ⟨ad282, e282, hx282_0⟩ := Kd.at_int HR1.out x11_2 p282 q282
                 have hw282_0 := hx282_0
                 obtain rfl : ad278 = ad282 := (by injection e282)
                 replace hx282_0 := lf_ HB.out hx282_0
                 replace p282 := eq_true p282
                 replace q282 := eq_true q282
                 have p58 : 0 ≤ (x11_2 : Int) := od_
                 have q58 : (x11_2 : Int) < ((x278001_2.length : Int) : Int) := od_
                 obtain ⟨go58, co58, eo58, gb58, gl58, cl58, HG58⟩ := Kd.R_form HO_278001.out (by omega)
                 (first | cases eo58 | (injection eo58 with ea_ en_ ec_; (first | subst ea_ | (injection ea_ with ea_; subst ea_)); subst ec_; clear en_))
                 have GB58 := Aside0.mk gb58
                 have GG58 := Aside0.mk HG58
                 clear gb58 gl58 HG58
                 obtain ⟨hx58_0, hf58_0⟩ := Kd.R_celln 0 HO_278001.out (x11_2 : Int) p58 q58
                 replace p58 := eq_true p58
                 replace q58 := eq_true q58
                 have HP60 := Kd.R_putn HO_278001.out (x11_2 : Int) (rd l1 x11_2)
                 rw [← Ny283.out] at HP60
                 have HQ60 := Aside0.mk HP60
                 clear HP60
                 refine start_ (n := 9) (S := fun w' => w'.cell? ⟨gb277, 0, none⟩ = some (.int .i64 0) ∧ w'.cell? ⟨gb277, 1, none⟩ = some (.slice (some ⟨go58, 0, none⟩) x278001_2.length co58) ∧ w'.cell? (ad278.add (x11_2).toNat) = some (.int .i64 (rd l1 x11_2))) (ds := [8]) #[false, false, false, false, false, false, false, false, false] (by kernel_rfl) rfl rfl ⟨(blk_cell BK277.out 0).trans rfl, (blk_cell BK277.out 1).trans rfl, ((HB.out.cell (World.block_lt_of_cell? w _ hw282_0)).trans hw282_0)⟩ (fun hHeld => ?_); refine with_tabW standstilllaw08_PairRuns.tab12 standstilllaw08_PairRuns.bits12 (fun HT_ HW_ => ?_)
                 generalize wc.drew = w59 at HO_8 HO_273001 HO_278001 BK261 BK272 BK277 HB GG58 HQ60 hf58_0 hx282_0 hx58_0 hHeld ⊢
                 refine pure_ (i := 0) (N := some 78) (v := ?_) (a' := ?_) #[true, false, false, false, false, false, false, false, false] rfl rfl (any_of HT_.out (by kernel_rfl)) (fun _ _ _ h => h) (Or.inl ⟨by rfl, ?_⟩) ?_ ?_
                 rotate_left
                 ·intro w'
                  go_simp
                  with_reducible rfl
                 rotate_left
                 ·simp only [Act.put, sa_, sz_, ss_, i64_w, i32_w]
                  rfl
                 refine pure_ (i := 2) (N := some 80) (v := ?_) (a' := ?_) #[true, false, true, false, false, false, false, false, false] rfl rfl (any_of HT_.out (by kernel_rfl)) (fun _ _ _ h => h) (Or.inl ⟨by rfl, ?_⟩) ?_ ?_
                 rotate_left
                 ·intro w'
                  go_simp
                  with_reducible rfl
                 rotate_left
                 ·simp only [Act.put, sa_, sz_, ss_, i64_w, i32_w]
                  rfl
                 refine pure_ (i := 3) (N := some 81) (v := ?_) (a' := ?_) #[true, false, true, true, false, false, false, false, false] rfl rfl (any_of HT_.out (by kernel_rfl)) (fun _ _ _ h => h) (Or.inl ⟨by rfl, ?_⟩) ?_ ?_
                 rotate_left
                 ·intro w'
                  go_simp
                  with_reducible rfl
                 rotate_left
                 ·simp only [Act.put, sa_, sz_, ss_, i64_w, i32_w]
                  rfl
                 refine pure_ (i := 4) (N := some 82) (v := ?_) (a' := ?_) #[true, false, true, true, true, false, false, false, false] rfl rfl (any_of HT_.out (by kernel_rfl)) (fun _ _ _ h => h) (Or.inl ⟨by rfl, ?_⟩) ?_ ?_
                 rotate_left
                 ·intro w'
                  go_simp
                  with_reducible rfl
                 rotate_left
                 ·simp only [Act.put, sa_, sz_, ss_, i64_w, i32_w]
                  rfl
                 refine pure_ (i := 5) (N := some 83) (v := ?_) (a' := ?_) #[true, false, true, true, true, true, false, false, false] rfl rfl (any_of HT_.out (by kernel_rfl)) (fun _ _ _ h => h) (Or.inl ⟨by rfl, ?_⟩) ?_ ?_
                 rotate_left
                 ·intro w'
                  go_simp
                  with_reducible rfl
                 rotate_left
                 ·simp only [Act.put, sa_, sz_, ss_, i64_w, i32_w]
                  rfl
                 refine take_ (i := 1) (N := some 79) (v := ?_) (a' := ?_) #[true, true, true, true, true, true, false, false, false] rfl rfl (take_ofW HT_.out HW_.out (by kernel_rfl)) (fun _ _ _ h => h) (Or.inl ⟨by rfl, ?_⟩) hHeld ?_ ?_
                 rotate_left
                 ·rintro w' ⟨s0, s1, s2⟩
                  go_simp
                  with_reducible rfl
                 rotate_left
                 ·simp only [Act.put, sa_, sz_, ss_, i64_w, i32_w]
                  rfl
                 refine take_ (i := 6) (N := some 84) (v := ?_) (a' := ?_) #[true, true, true, true, true, true, true, false, false] rfl rfl (take_ofW HT_.out HW_.out (by kernel_rfl)) (fun _ _ _ h => h) (Or.inl ⟨by rfl, ?_⟩) hHeld ?_ ?_
                 rotate_left
                 ·rintro w' ⟨s0, s1, s2⟩
                  go_simp
                  with_reducible rfl
                 rotate_left
                 ·simp only [Act.put, sa_, sz_, ss_, i64_w, i32_w]
                  rfl
                 refine pure_ (i := 7) (N := some 85) (v := ?_) (a' := ?_) #[true, true, true, true, true, true, true, true, false] rfl rfl (any_of HT_.out (by kernel_rfl)) (fun _ _ _ h => h) (Or.inl ⟨by rfl, ?_⟩) ?_ ?_
                 rotate_left
                 ·intro w'
                  go_simp
                  with_reducible rfl
                 rotate_left
                 ·simp only [Act.put, sa_, sz_, ss_, i64_w, i32_w]
                  rfl
                 refine last_ (i := 8) (N := none) #[true, true, true, true, true, true, true, true, true] rfl rfl (one_of HT_.out (by kernel_rfl)) (by decide) (fun K hK => ?_)
                 refine skip_ (w1 := ?_) (by rfl) rfl ?_ ?_
                 rotate_left
                 ·go_simp
                  rfl
                 refine hK.out _ _ ?_
                 clear hK K
                 refine done_ (done_of HT_.out (by kernel_rfl)) ?_
                 try go_wp2
                 go_roundg kj39
                 case measure => have := HJ3.out; have := HK2.out; have := HJ39.out; omega
                 case rel => exact ⟨(x8_2), (wrap64 (x11_2 + 1)), (y283), (.slice (some ⟨go58, 0, none⟩) x278001_2.length co58), jr_, H', ⟨by have := HJ3.out; have := HK2.out; have := HJ39.out; omega⟩, ⟨by (with_reducible repeat (first | apply Kd.R_alloc | apply Kd.R_drewN | apply Kd.R_drew)); exact Kd.R_mono (Kd.R_far (p := ⟨go58, (x11_2 : Int).toNat, none⟩) (Kd.R_mono HO_8.out (fun k_ hk => (⟨hk, fun e_ => hk (by rw [e_]; rfl)⟩ : _ ∧ k_ ≠ go58))) (fun _ hk => hk.2) (.int .i64 (rd l1 x11_2))) (fun _ hk => hk.1)⟩, ⟨by (with_reducible repeat (first | apply Kd.R_alloc | apply Kd.R_drewN | apply Kd.R_drew)); exact Kd.R_mono (Kd.R_far (p := ⟨go58, (x11_2 : Int).toNat, none⟩) (Kd.R_types HO_273001.out GG58.out (by decide)) (fun _ hk => hk.2) (.int .i64 (rd l1 x11_2))) (fun _ hk => trivial)⟩, ⟨by (with_reducible repeat (first | apply Kd.R_alloc | apply Kd.R_drewN | apply Kd.R_drew)); exact HQ60.out⟩, ⟨by refine pk_ ?_; refine blk_far ?_ (by have h_ := Kd.R_ne HO_278001.out BK261.out (by decide); intro e_; exact h_ (by rw [e_]; rfl)) _; exact pk_ BK261.out⟩, ⟨by refine pk_ ?_; refine blk_far ?_ (by have h_ := Kd.R_ne HO_278001.out BK272.out (by decide); intro e_; exact h_ (by rw [e_]; rfl)) _; exact pk_ BK272.out⟩, ⟨by refine pk_ ?_; refine blk_far ?_ (by have h_ := Kd.R_ne HO_278001.out BK277.out (by decide); intro e_; exact h_ (by rw [e_]; rfl)) _; exact pk_ BK277.out⟩, ⟨by repeat (first | (with_reducible first | exact HB.out | apply below_alloc | apply pw_below_drewN | apply below_drew1 | refine below_set ?_ GB58.out | refine below_set ?_ GE261.out | refine below_set ?_ GE272.out | refine below_set ?_ GE277.out) | exact HB.out)⟩⟩
                ·rw [if_neg c57] at H
                 exact absurd H (by simp)
             ·rw [if_neg c50] at H
              exact absurd H (by simp)
            ·rw [if_neg c49] at H
             exact absurd H (by simp)
           ·replace c48 := Bool.eq_false_iff.mpr c48
            subst c48
            have H1 : (standstilllaw08_PairRuns.l1 kj39 a2 x8_2 0 a0_0 l0_1 t264 t265 0 x278001_2) = some r := by rw [if_neg (show ¬ (false = true) by decide)] at H; exact H
            clear H
            have H := H1
            clear H1
            have H' := Aside0.mk H
            clear H
            go_wp2
            go_loopg [12] kj39 (fun kq v12 w' => ∃ (x12_4 : Int) (x278000_4 : Int) (x278001_4 : List Int) (u278001 : Value), v12 = .int .i64 x12_4 ∧ Aside0 (standstilllaw08_PairRuns.l1 kq a2 x8_2 x12_4 a0_0 l0_1 t264 t265 x278000_4 x278001_4 = some r) ∧ Aside0 (kq ≤ kj39) ∧ Aside0 (Kd.R (Kd.int .i64) 3 w' w.heap.size (fun k_ => some k_ ≠ (u278001 : Value).ownBlock) v269 x8_2) ∧ Aside0 (Kd.R k45 45 w' w.heap.size (fun _ => True) (.slice Ao31 t265.length co31) t265) ∧ Aside0 (Kd.R (Kd.int .i64) 3 w' w.heap.size (fun k_ => some k_ ≠ (v269 : Value).ownBlock) u278001 x278001_4) ∧ Aside0 (w'.heap[gb261]? = some (.cells #[.int .i64 a0_0, (.slice A0_1 l0_1.length c0_1)] 38 (0, 0))) ∧ Aside0 (w'.heap[gb272]? = some (.cells #[.int .i64 t264, (.slice Ao31 t265.length co31)] 38 (0, 0))) ∧ Aside0 (w'.heap[gb277]? = some (.cells #[.int .i64 x278000_4, u278001] 47 (0, 0))) ∧ Aside0 (Below w.heap.size w w'))
            case atStart => exact ⟨(0), (0), (x278001_2), (u278001), jr_, H', ⟨Nat.le_refl _⟩, ⟨rk_ HO_8.out⟩, ⟨rk_ HO_273001.out⟩, ⟨rk_ HO_278001.out⟩, ⟨pk_ BK261.out⟩, ⟨pk_ BK272.out⟩, ⟨pk_ BK277.out⟩, ⟨bk_ HB.out⟩⟩
            case round => as_aux_lemma =>
             clear H'
             (try clear c1); (try clear c19); (try clear c23); (try clear c23b0); (try clear c23b1); (try clear c24); (try clear c24b0); (try clear c24b1); (try clear c25); (try clear c25b0); (try clear c25b1); (try clear c48); (try clear hcz26_0); (try clear hcz26_1); (try clear hcz30_0); (try clear hcz30_1); (try clear hcz32_0); (try clear hcz32_1); (try clear hcz39_0); (try clear hcz39_1); (try clear hfz26_0); (try clear hfz26_1); (try clear hfz30_0); (try clear hfz30_1); (try clear hfz32_0); (try clear hfz32_1); (try clear hfz39_0); (try clear hfz39_1)
             obtain ⟨x12_4, x278000_4, x278001_4, u278001, rfl, HA, HK4, HO_8, HO_273001, HO_278001, BK261, BK272, BK277, HB⟩ := hrel
             cases gk with
             | zero => exact absurd HA.out (by simp [standstilllaw08_PairRuns.l1])
             | succ k4 =>
              have H := HA.out
              clear HA
              simp only [standstilllaw08_PairRuns.l1] at H
              by_cases c61 : x12_4 < (Int.tmod (wrap64 (a2)) 61)
              ·rw [if_pos c61] at H
               have c61b0 : decide (x12_4 < (Int.tmod (wrap64 (a2)) 61)) = true := decide_eq_true c61
               clear c61
               replace H := Option.bind_eq_some_iff.mp H
               obtain ⟨⟨t290, t291, t294, t295⟩, A620, H⟩ := H
               replace H : (if t295 = true then (if t294 = true then (if x278000_4 < 0 then (none) else (if x278000_4 ≥ (x8_2.length : Int) then (none) else (if x278000_4 ≥ (l0_1.length : Int) then (none) else (if 0 ≤ x278000_4 then (if x278000_4 < (x8_2.length : Int) then (if (rd x8_2 x278000_4) < 0 then (none) else (if (rd x8_2 x278000_4) ≥ (t265.length : Int) then (none) else (if x278000_4 < (l0_1.length : Int) then (if 0 ≤ (rd x8_2 x278000_4) then (if (rd x8_2 x278000_4) < (t265.length : Int) then (if ((((rd_T45 l0_1 x278000_4).f0) == 2) == (((rd_T45 t265 (rd x8_2 x278000_4)).f0) == 2)) = true then ((standstilllaw08_awake.f k4).bind fun t302 => (some t302)) else (none)) else (none)) else (none)) else (none)))) else (none)) else (none))))) else (standstilllaw08_PairRuns.l1 k4 a2 x8_2 (wrap64 (x12_4 + 1)) a0_0 l0_1 t264 t265 t290 t291)) else (none)) = some r := H
               have A62 := Aside0.mk A620
               clear A620
               by_cases c63 : t295 = true
               ·subst c63
                have H1 : (if t294 = true then (if x278000_4 < 0 then (none) else (if x278000_4 ≥ (x8_2.length : Int) then (none) else (if x278000_4 ≥ (l0_1.length : Int) then (none) else (if 0 ≤ x278000_4 then (if x278000_4 < (x8_2.length : Int) then (if (rd x8_2 x278000_4) < 0 then (none) else (if (rd x8_2 x278000_4) ≥ (t265.length : Int) then (none) else (if x278000_4 < (l0_1.length : Int) then (if 0 ≤ (rd x8_2 x278000_4) then (if (rd x8_2 x278000_4) < (t265.length : Int) then (if ((((rd_T45 l0_1 x278000_4).f0) == 2) == (((rd_T45 t265 (rd x8_2 x278000_4)).f0) == 2)) = true then ((standstilllaw08_awake.f k4).bind fun t302 => (some t302)) else (none)) else (none)) else (none)) else (none)))) else (none)) else (none))))) else (standstilllaw08_PairRuns.l1 k4 a2 x8_2 (wrap64 (x12_4 + 1)) a0_0 l0_1 t264 t265 t290 t291)) = some r := by rw [if_pos rfl] at H; exact H
                clear H
                have H := H1
                clear H1
                by_cases c64 : t294 = true
                ·subst c64
                 have H1 : (if x278000_4 < 0 then (none) else (if x278000_4 ≥ (x8_2.length : Int) then (none) else (if x278000_4 ≥ (l0_1.length : Int) then (none) else (if 0 ≤ x278000_4 then (if x278000_4 < (x8_2.length : Int) then (if (rd x8_2 x278000_4) < 0 then (none) else (if (rd x8_2 x278000_4) ≥ (t265.length : Int) then (none) else (if x278000_4 < (l0_1.length : Int) then (if 0 ≤ (rd x8_2 x278000_4) then (if (rd x8_2 x278000_4) < (t265.length : Int) then (if ((((rd_T45 l0_1 x278000_4).f0) == 2) == (((rd_T45 t265 (rd x8_2 x278000_4)).f0) == 2)) = true then ((standstilllaw08_awake.f k4).bind fun t302 => (some t302)) else (none)) else (none)) else (none)) else (none)))) else (none)) else (none))))) = some r := by rw [if_pos rfl] at H; exact H
                 clear H
                 have H := H1
                 clear H1
                 by_cases c65 : x278000_4 < 0
                 ·rw [if_pos c65] at H
                  have c65b0 : decide (x278000_4 < 0) = true := decide_eq_true c65
                  clear c65
                  exact absurd H (by simp)
                 ·rw [if_neg c65] at H
                  have c65b0 : decide (x278000_4 < 0) = false := decide_eq_false c65
                  clear c65
                  by_cases c66 : x278000_4 ≥ (x8_2.length : Int)
                  ·rw [if_pos c66] at H
                   have c66b0 : decide ((x8_2.length : Int) ≤ x278000_4) = true := decide_eq_true c66
                   clear c66
                   exact absurd H (by simp)
                  ·rw [if_neg c66] at H
                   have c66b0 : decide ((x8_2.length : Int) ≤ x278000_4) = false := decide_eq_false c66
                   clear c66
                   by_cases c67 : x278000_4 ≥ (l0_1.length : Int)
                   ·rw [if_pos c67] at H
                    have c67b0 : decide ((l0_1.length : Int) ≤ x278000_4) = true := decide_eq_true c67
                    clear c67
                    exact absurd H (by simp)
                   ·rw [if_neg c67] at H
                    have c67b0 : decide ((l0_1.length : Int) ≤ x278000_4) = false := decide_eq_false c67
                    clear c67
                    by_cases c68 : 0 ≤ x278000_4
                    ·rw [if_pos c68] at H
                     have c68b0 : decide (0 ≤ x278000_4) = true := decide_eq_true c68
                     clear c68
                     by_cases c69 : x278000_4 < (x8_2.length : Int)
                     ·rw [if_pos c69] at H
                      have c69b0 : decide (x278000_4 < (x8_2.length : Int)) = true := decide_eq_true c69
                      clear c69
                      by_cases c70 : (rd x8_2 x278000_4) < 0
                      ·rw [if_pos c70] at H
                       have c70b0 : decide ((rd x8_2 x278000_4) < 0) = true := decide_eq_true c70
                       clear c70
                       exact absurd H (by simp)
                      ·rw [if_neg c70] at H
                       have c70b0 : decide ((rd x8_2 x278000_4) < 0) = false := decide_eq_false c70
                       clear c70
                       by_cases c71 : (rd x8_2 x278000_4) ≥ (t265.length : Int)
                       ·rw [if_pos c71] at H
                        exact absurd H (by simp)
                       ·rw [if_neg c71] at H
                        have c71b0 : decide ((t265.length : Int) ≤ (rd x8_2 x278000_4)) = false := decide_eq_false c71
                        clear c71
                        by_cases c72 : x278000_4 < (l0_1.length : Int)
                        ·rw [if_pos c72] at H
                         have c72b0 : decide (x278000_4 < (l0_1.length : Int)) = true := decide_eq_true c72
                         clear c72
                         by_cases c73 : 0 ≤ (rd x8_2 x278000_4)
                         ·rw [if_pos c73] at H
                          have c73b0 : decide (0 ≤ (rd x8_2 x278000_4)) = true := decide_eq_true c73
                          clear c73
                          by_cases c74 : (rd x8_2 x278000_4) < (t265.length : Int)
                          ·rw [if_pos c74] at H
                           have c74b0 : decide ((rd x8_2 x278000_4) < (t265.length : Int)) = true := decide_eq_true c74
                           clear c74
                           by_cases c75 : ((((rd_T45 l0_1 x278000_4).f0) == 2) == (((rd_T45 t265 (rd x8_2 x278000_4)).f0) == 2)) = true
                           ·rw [if_pos c75] at H
                            have c75b0 : ((((rd_T45 l0_1 x278000_4).f0) == 2) == (((rd_T45 t265 (rd x8_2 x278000_4)).f0) == 2)) = true := c75
                            (try (have c75b1 : decide ((((rd_T45 l0_1 x278000_4).f0) == 2) = (((rd_T45 t265 (rd x8_2 x278000_4)).f0) == 2)) = true := by simpa using c75))
                            (try (have c75b2 : ((((rd_T45 l0_1 x278000_4).f0) == 2) == (((rd_T45 t265 (rd x8_2 x278000_4)).f0) == 2)) = true := by simpa using c75))
                            clear c75
                            replace H := Option.bind_eq_some_iff.mp H
                            obtain ⟨t302, A760, H⟩ := H
                            replace H : (some t302) = some r := H
                            have A76 := Aside0.mk A760
                            clear A760
                            obtain rfl := Option.some.inj H
                            have hnb77 := NB261_272.out
                            have hnc77 := NB272_261.out
                            have hnb78 := NB261_277.out
                            have hnc78 := NB277_261.out
                            obtain ⟨hcz79_0, hcz79_1⟩ := bc2_ BK261.out
                            have hfz79_0 := blk_frozen BK261.out 0
                            have hfz79_1 := blk_frozen BK261.out 1
                            have hnb80 := NB272_277.out
                            have hnc80 := NB277_272.out
                            obtain ⟨hcz81_0, hcz81_1⟩ := bc2_ BK272.out
                            have hfz81_0 := blk_frozen BK272.out 0
                            have hfz81_1 := blk_frozen BK272.out 1
                            obtain ⟨hcz82_0, hcz82_1⟩ := bc2_ BK277.out
                            have hfz82_0 := blk_frozen BK277.out 0
                            have hfz82_1 := blk_frozen BK277.out 1
                            obtain ⟨Ao83, co83, eo83⟩ := Kd.R_slice HO_8.out
                            subst eo83
                            obtain ⟨Ao84, co84, eo84⟩ := Kd.R_slice HO_278001.out
                            subst eo84
                            try go_wp2_with (first | ((with_reducible refine gate_callee (f := 19) rfl ?_); refine goesL_ (some 98) rfl rfl Try.func19 (by kernel_rfl) rfl #[.agg #[.int .i64 a0_0, .slice A0_1 l0_1.length c0_1], .agg #[.int .i64 t264, .slice Ao31 t265.length co31], .slice Ao83 x8_2.length co83, .agg #[.int .i64 x278000_4, .slice Ao84 x278001_4.length co84], .int .i64 3000] rfl gl_ ?_; (with_reducible refine (standstilllaw08_next.calls k4 a0_0 _ _ l0_1 t264 _ _ t265 _ _ x8_2 x278000_4 (fun k_ => some k_ = (.slice Ao84 x278001_4.length co84 : Value).ownBlock) (.slice Ao84 x278001_4.length co84) x278001_4 3000 t290 t291 true true w _ ?side1 ?side2 ?side3 ?side4 ?side5 ?side6 ?side7 ?side8 A62.out).mono ?_); (case side1 => repeat (first | (with_reducible first | exact HB.out | apply below_alloc | apply pw_below_drewN | apply below_drew1 | refine below_set ?_ GE261.out | refine below_set ?_ GE272.out | refine below_set ?_ GE277.out) | exact HB.out)); (case side2 => exact Kd.C_kept_came (show Kd.Heap k45 from Kd.heap_iso _ (Kd.heap_pair (Kd.heap_int _) (Kd.heap_pair (Kd.heap_int _) (Kd.heap_pair (Kd.heap_int _) (Kd.heap_int _))))) HR0_1.out (bk_ HB.out) (fun k_ hs_ => (fun e_ => Kd.R_base HO_278001.out k_ e_.symm) hs_)); (case side3 => exact HC0_1.out); (case side4 => exact Kd.C_kept_own ((Kd.R_apart' HO_273001.out (Kd.R_typed HO_278001.out) (by decide))) (fun k_ hk_ hs_ => (hk_.2) hs_)); (case side5 => exact (Kd.R_reads' HO_273001.out).2.1); (case side6 => exact Kd.C_kept_own (HO_8.out) (fun k_ hk_ hs_ => (hk_) hs_)); (case side7 => exact (Kd.R_reads' HO_8.out).2.1); (case side8 => exact Kd.R_tight rfl HO_278001.out); rintro e w85 ⟨v292, rfl, ho0, hb, hkp⟩; refine ⟨_, rfl, ?_⟩; have n0_ := A_ (Kd.R_mono (ok' := fun k_ => some k_ ≠ (v292 : Value).ownBlock) (Kd.R_keptB (HO_8.out) hkp (fun k_ hk_ hs_ => (hk_) hs_)) (fun k_ hk_ => fun e_ => Or.elim (ho0.1 k_ e_.symm) (fun hs_ => hk_.2.1 hs_) (fun hn_ => Nat.not_le.2 hk_.2.2 hn_))); have n1_ := A_ (Kd.R_mono (ok' := fun k_ => True) (Kd.R_keptB ((Kd.R_apart' HO_273001.out (Kd.R_typed HO_278001.out) (by decide))) hkp (fun k_ hk_ hs_ => (hk_.2) hs_)) (fun k_ hk_ => trivial)); have n2_ := A_ (blk_kept (pk_ BK261.out) hkp (fun hs_ => (fun e_ => (Kd.R_ne HO_278001.out BK261.out (by decide)) e_) hs_)); have n3_ := A_ (blk_kept (pk_ BK272.out) hkp (fun hs_ => (fun e_ => (Kd.R_ne HO_278001.out BK272.out (by decide)) e_) hs_)); have n4_ := A_ (blk_kept (pk_ BK277.out) hkp (fun hs_ => (fun e_ => (Kd.R_ne HO_278001.out BK277.out (by decide)) e_) hs_)); have n5_ := A_ (Kd.R_mono (ok' := fun k_ => some k_ ≠ (.slice Ao83 x8_2.length co83 : Value).ownBlock) ho0 (fun k_ hk_ => Or.elim hk_ (fun hs_ => fun e_ => (((HO_8.out).1 k_ e_.symm)) hs_) (fun hn_ => (Kd.fresh' (Kd.R_lt (rk_ HO_8.out)) k_ hn_)))); have n6_ := A_ (hb); clear HO_8 HO_273001 BK261 BK272 BK277 HB HO_278001; have HO_8 := n0_; have HO_273001 := n1_; have BK261 := n2_; have BK272 := n3_; have BK277 := n4_; have HO293 := n5_; have HB := n6_; clear n0_ n1_ n2_ n3_ n4_ n5_ n6_; (try clear hb); (try clear hkp); (try clear ho0)) | ((with_reducible refine gate_dst (N := 13) rfl ?_); (try (refine gate_guard (by rfl) ?_; dsimp only)); refine box_event ?hg (N := 13) ?hd (cs := #[.int .i64 0, .slice none 0 0]) (t := 47) ?hr ?_; (case hd => rfl); (case hg => rfl); (case hr => first | (go_simp; done) | (go_simp; rfl)); intro gb296 hg w86 hbox hb; have n0_ := A_ (Kd.R_below (rk_ HO_8.out) hb); have n1_ := A_ (Kd.R_below (rk_ HO_273001.out) hb); have n2_ := A_ (Kd.R_below (rk_ HO293.out) hb); have n3_ := A_ (blk_below (pk_ BK261.out) hb); have n4_ := A_ (blk_below (pk_ BK272.out) hb); have n5_ := A_ (blk_below (pk_ BK277.out) hb); have n6_ := A_ (below_step (bk_ HB.out) hb); have n7_ := A_ (hbox); have n8_ := A_ (bz_ hg (bk_ HB.out)); have n9_ := A_ (bz_ hg (bk_ HB.out)); have n10_ := A_ (nl_ hg (pk_ BK261.out)); have n11_ := A_ (ng_ hg (pk_ BK261.out)); have n12_ := A_ (nl_ hg (pk_ BK272.out)); have n13_ := A_ (ng_ hg (pk_ BK272.out)); have n14_ := A_ (nl_ hg (pk_ BK277.out)); have n15_ := A_ (ng_ hg (pk_ BK277.out)); clear HO_8 HO_273001 HO293 BK261 BK272 BK277 HB; have HO_8 := n0_; have HO_273001 := n1_; have HO293 := n2_; have BK261 := n3_; have BK272 := n4_; have BK277 := n5_; have HB := n6_; have BK296 := n7_; have GW296 := n8_; have GE296 := n9_; have NB261_296 := n10_; have NB296_261 := n11_; have NB272_296 := n12_; have NB296_272 := n13_; have NB277_296 := n14_; have NB296_277 := n15_; clear n0_ n1_ n2_ n3_ n4_ n5_ n6_ n7_ n8_ n9_ n10_ n11_ n12_ n13_ n14_ n15_ hb hbox hg; have hnb87 := NB296_261.out; have hnc87 := NB261_296.out; have hnb88 := NB296_272.out; have hnc88 := NB272_296.out; have hnb89 := NB296_277.out; have hnc89 := NB277_296.out; obtain ⟨hcz90_0, hcz90_1⟩ := bc2_ BK296.out; have hfz90_0 := blk_frozen BK296.out 0; have hfz90_1 := blk_frozen BK296.out 1; obtain ⟨Ao91, co91, eo91⟩ := Kd.R_slice HO293.out; subst eo91))
                            have n0_ : Aside0 (Kd.R (Kd.int .i64) 3 ((w86.setCell ⟨gb296, 0, none⟩ (.int .i64 t290)).setCell ⟨gb296, 1, none⟩ (.slice Ao91 t291.length co91)) w.heap.size (fun k_ => some k_ ≠ (.slice Ao91 t291.length co91 : Value).ownBlock) (.slice Ao83 x8_2.length co83) x8_2) := ⟨by (with_reducible repeat (first | apply Kd.R_alloc | apply Kd.R_drewN | apply Kd.R_drew)); exact Kd.R_mono (rf2_ (Kd.R_types HO_8.out BK296.out (by decide))) (fun _ hk => hk.1)⟩
                            have n1_ : Aside0 (Kd.R k45 45 ((w86.setCell ⟨gb296, 0, none⟩ (.int .i64 t290)).setCell ⟨gb296, 1, none⟩ (.slice Ao91 t291.length co91)) w.heap.size (fun _ => True) (.slice Ao31 t265.length co31) t265) := ⟨by (with_reducible repeat (first | apply Kd.R_alloc | apply Kd.R_drewN | apply Kd.R_drew)); exact Kd.R_mono (rf2_ (Kd.R_types HO_273001.out BK296.out (by decide))) (fun _ hk => trivial)⟩
                            have n2_ : Aside0 (Kd.R (Kd.int .i64) 3 ((w86.setCell ⟨gb296, 0, none⟩ (.int .i64 t290)).setCell ⟨gb296, 1, none⟩ (.slice Ao91 t291.length co91)) w.heap.size (fun k_ => some k_ ≠ (.slice Ao83 x8_2.length co83 : Value).ownBlock) (.slice Ao91 t291.length co91) t291) := ⟨by (with_reducible repeat (first | apply Kd.R_alloc | apply Kd.R_drewN | apply Kd.R_drew)); exact Kd.R_mono (rf2_ (Kd.R_types HO293.out BK296.out (by decide))) (fun _ hk => hk.1)⟩
                            have n3_ : Aside0 (((w86.setCell ⟨gb296, 0, none⟩ (.int .i64 t290)).setCell ⟨gb296, 1, none⟩ (.slice Ao91 t291.length co91)).heap[gb261]? = some (.cells #[.int .i64 a0_0, .slice A0_1 l0_1.length c0_1] 38 (0, 0))) := ⟨by (iterate 2 (refine pk_ ?_; refine blk_far ?_ NB261_296.out _)); exact pk_ BK261.out⟩
                            have n4_ : Aside0 (((w86.setCell ⟨gb296, 0, none⟩ (.int .i64 t290)).setCell ⟨gb296, 1, none⟩ (.slice Ao91 t291.length co91)).heap[gb272]? = some (.cells #[.int .i64 t264, .slice Ao31 t265.length co31] 38 (0, 0))) := ⟨by (iterate 2 (refine pk_ ?_; refine blk_far ?_ NB272_296.out _)); exact pk_ BK272.out⟩
                            have n5_ : Aside0 (((w86.setCell ⟨gb296, 0, none⟩ (.int .i64 t290)).setCell ⟨gb296, 1, none⟩ (.slice Ao91 t291.length co91)).heap[gb277]? = some (.cells #[.int .i64 x278000_4, .slice Ao84 x278001_4.length co84] 47 (0, 0))) := ⟨by (iterate 2 (refine pk_ ?_; refine blk_far ?_ NB277_296.out _)); exact pk_ BK277.out⟩
                            have n6_ : Aside0 (((w86.setCell ⟨gb296, 0, none⟩ (.int .i64 t290)).setCell ⟨gb296, 1, none⟩ (.slice Ao91 t291.length co91)).heap[gb296]? = some (.cells #[.int .i64 t290, .slice Ao91 t291.length co91] 47 (0, 0))) := ⟨by refine pk_ ?_; refine blk_put (cs := #[.int .i64 t290, .slice none 0 0]) ?_ 1 _ rfl; refine pk_ ?_; refine blk_put (cs := #[.int .i64 0, .slice none 0 0]) ?_ 0 _ rfl; exact pk_ BK296.out⟩
                            have n7_ : Aside0 (Below w.heap.size w ((w86.setCell ⟨gb296, 0, none⟩ (.int .i64 t290)).setCell ⟨gb296, 1, none⟩ (.slice Ao91 t291.length co91))) := ⟨bk_ HB.out⟩
                            (try clear HO_8)
                            (try clear HO_273001)
                            (try clear HO293)
                            (try clear BK261)
                            (try clear BK272)
                            (try clear BK277)
                            (try clear BK296)
                            (try clear HB)
                            generalize ((w86.setCell ⟨gb296, 0, none⟩ (.int .i64 t290)).setCell ⟨gb296, 1, none⟩ (.slice Ao91 t291.length co91)) = w92 at n0_ n1_ n2_ n3_ n4_ n5_ n6_ n7_ ⊢
                            have HO_8 := n0_
                            have HO_273001 := n1_
                            have HO293 := n2_
                            have BK261 := n3_
                            have BK272 := n4_
                            have BK277 := n5_
                            have BK296 := n6_
                            have HB := n7_
                            clear n0_ n1_ n2_ n3_ n4_ n5_ n6_ n7_
                            have n0_ := A_ (Kd.R_drew HO_8.out)
                            have n1_ := A_ (Kd.R_drew HO_273001.out)
                            have n2_ := A_ (Kd.R_drew HO293.out)
                            have n3_ := A_ (blk_drew BK261.out)
                            have n4_ := A_ (blk_drew BK272.out)
                            have n5_ := A_ (blk_drew BK277.out)
                            have n6_ := A_ (blk_drew BK296.out)
                            have n7_ := A_ (below_drew1 HB.out)
                            clear HO_8 HO_273001 HO293 BK261 BK272 BK277 BK296 HB
                            have HO_8 := n0_
                            have HO_273001 := n1_
                            have HO293 := n2_
                            have BK261 := n3_
                            have BK272 := n4_
                            have BK277 := n5_
                            have BK296 := n6_
                            have HB := n7_
                            clear n0_ n1_ n2_ n3_ n4_ n5_ n6_ n7_
                            have p297 : 0 ≤ (x278000_4 : Int) := od_
                            have q297 : x278000_4 < (x8_2.length : Int) := od_
                            obtain ⟨ad297, e297, hx297_0⟩ := Kd.at_int (Kd.R_reads' HO_8.out).2.2 x278000_4 p297 q297
                            cases e297
                            replace p297 := eq_true p297
                            replace q297 := eq_true q297
                            have p298 : 0 ≤ (x278000_4 : Int) := od_
                            have q298 : x278000_4 < (x8_2.length : Int) := od_
                            obtain ⟨ad298, e298, hx298_0⟩ := Kd.at_int (Kd.R_reads' HO_8.out).2.2 x278000_4 p298 q298
                            obtain rfl : ad297 = ad298 := (by injection e298)
                            replace p298 := eq_true p298
                            replace q298 := eq_true q298
                            refine start_ (n := 37) (S := fun w' => w'.cell? ⟨gb277, 0, none⟩ = some (.int .i64 x278000_4) ∧ w'.cell? ⟨gb277, 1, none⟩ = some (.slice Ao84 x278001_4.length co84) ∧ w'.cell? ⟨gb261, 0, none⟩ = some (.int .i64 a0_0) ∧ w'.cell? ⟨gb261, 1, none⟩ = some (.slice A0_1 l0_1.length c0_1) ∧ w'.cell? ⟨gb272, 0, none⟩ = some (.int .i64 t264) ∧ w'.cell? ⟨gb272, 1, none⟩ = some (.slice Ao31 t265.length co31) ∧ w'.cell? (ad297.add (x278000_4).toNat) = some (.int .i64 (rd x8_2 x278000_4)) ∧ w'.cell? (ad297.add (x278000_4).toNat) = some (.int .i64 (rd x8_2 x278000_4))) (ds := []) #[false, false, false, false, false, false, false, false, false, false, false, false, false, false, false, false, false, false, false, false, false, false, false, false, false, false, false, false, false, false, false, false, false, false, false, false, false] (by kernel_rfl) rfl rfl ⟨(blk_cell BK277.out 0).trans rfl, (blk_cell BK277.out 1).trans rfl, (blk_cell BK261.out 0).trans rfl, (blk_cell BK261.out 1).trans rfl, (blk_cell BK272.out 0).trans rfl, (blk_cell BK272.out 1).trans rfl, hx297_0, hx298_0⟩ (fun hHeld => ?_); refine with_tabW standstilllaw08_PairRuns.tab21 standstilllaw08_PairRuns.bits21 (fun HT_ HW_ => ?_)
                            generalize w92.drew = w93 at HO_8 HO_273001 HO293 BK261 BK272 BK277 BK296 HB hx297_0 hx298_0 hHeld ⊢
                            refine pure_ (i := 0) (N := some 106) (v := ?_) (a' := ?_) #[true, false, false, false, false, false, false, false, false, false, false, false, false, false, false, false, false, false, false, false, false, false, false, false, false, false, false, false, false, false, false, false, false, false, false, false, false] rfl rfl (any_of HT_.out (by kernel_rfl)) (fun _ _ _ h => h) (Or.inl ⟨by rfl, ?_⟩) ?_ ?_
                            rotate_left
                            ·intro w'
                             go_simp
                             with_reducible rfl
                            rotate_left
                            ·simp only [Act.put, sa_, sz_, ss_, i64_w, i32_w]
                             rfl
                            refine take_ (i := 1) (N := some 107) (v := ?_) (a' := ?_) #[true, true, false, false, false, false, false, false, false, false, false, false, false, false, false, false, false, false, false, false, false, false, false, false, false, false, false, false, false, false, false, false, false, false, false, false, false] rfl rfl (take_ofW HT_.out HW_.out (by kernel_rfl)) (fun _ _ _ h => h) (Or.inl ⟨by rfl, ?_⟩) hHeld ?_ ?_
                            rotate_left
                            ·rintro w' ⟨s0, s1, s2, s3, s4, s5, s6, s7⟩
                             go_simp
                             with_reducible rfl
                            rotate_left
                            ·simp only [Act.put, sa_, sz_, ss_, i64_w, i32_w]
                             rfl
                            refine pure_ (i := 2) (N := some 108) (v := ?_) (a' := ?_) #[true, true, true, false, false, false, false, false, false, false, false, false, false, false, false, false, false, false, false, false, false, false, false, false, false, false, false, false, false, false, false, false, false, false, false, false, false] rfl rfl (any_of HT_.out (by kernel_rfl)) (fun _ _ _ h => h) (Or.inl ⟨by rfl, ?_⟩) ?_ ?_
                            rotate_left
                            ·intro w'
                             go_simp
                             with_reducible rfl
                            rotate_left
                            ·simp only [Act.put, sa_, sz_, ss_, i64_w, i32_w]
                             rfl
                            refine pure_ (i := 3) (N := some 109) (v := ?_) (a' := ?_) #[true, true, true, true, false, false, false, false, false, false, false, false, false, false, false, false, false, false, false, false, false, false, false, false, false, false, false, false, false, false, false, false, false, false, false, false, false] rfl rfl (any_of HT_.out (by kernel_rfl)) (fun _ _ _ h => h) (Or.inl ⟨by rfl, ?_⟩) ?_ ?_
                            rotate_left
                            ·intro w'
                             go_simp
                             with_reducible rfl
                            rotate_left
                            ·simp only [Act.put, sa_, sz_, ss_, i64_w, i32_w]
                             rfl
                            refine pure_ (i := 4) (N := some 110) (v := ?_) (a' := ?_) #[true, true, true, true, true, false, false, false, false, false, false, false, false, false, false, false, false, false, false, false, false, false, false, false, false, false, false, false, false, false, false, false, false, false, false, false, false] rfl rfl (any_of HT_.out (by kernel_rfl)) (fun _ _ _ h => h) (Or.inl ⟨by rfl, ?_⟩) ?_ ?_
                            rotate_left
                            ·intro w'
                             go_simp
                             with_reducible rfl
                            rotate_left
                            ·simp only [Act.put, sa_, sz_, ss_, i64_w, i32_w]
                             rfl
                            refine pure_ (i := 6) (N := some 112) (v := ?_) (a' := ?_) #[true, true, true, true, true, false, true, false, false, false, false, false, false, false, false, false, false, false, false, false, false, false, false, false, false, false, false, false, false, false, false, false, false, false, false, false, false] rfl rfl (any_of HT_.out (by kernel_rfl)) (fun _ _ _ h => h) (Or.inl ⟨by rfl, ?_⟩) ?_ ?_
                            rotate_left
                            ·intro w'
                             go_simp
                             with_reducible rfl
                            rotate_left
                            ·simp only [Act.put, sa_, sz_, ss_, i64_w, i32_w]
                             rfl
                            refine pure_ (i := 7) (N := some 113) (v := ?_) (a' := ?_) #[true, true, true, true, true, false, true, true, false, false, false, false, false, false, false, false, false, false, false, false, false, false, false, false, false, false, false, false, false, false, false, false, false, false, false, false, false] rfl rfl (any_of HT_.out (by kernel_rfl)) (fun _ _ _ h => h) (Or.inl ⟨by rfl, ?_⟩) ?_ ?_
                            rotate_left
                            ·intro w'
                             go_simp
                             with_reducible rfl
                            rotate_left
                            ·simp only [Act.put, sa_, sz_, ss_, i64_w, i32_w]
                             rfl
                            refine take_ (i := 5) (N := some 111) (v := ?_) (a' := ?_) #[true, true, true, true, true, true, true, true, false, false, false, false, false, false, false, false, false, false, false, false, false, false, false, false, false, false, false, false, false, false, false, false, false, false, false, false, false] rfl rfl (take_ofW HT_.out HW_.out (by kernel_rfl)) (fun _ _ _ h => h) (Or.inl ⟨by rfl, ?_⟩) hHeld ?_ ?_
                            rotate_left
                            ·rintro w' ⟨s0, s1, s2, s3, s4, s5, s6, s7⟩
                             go_simp
                             with_reducible rfl
                            rotate_left
                            ·simp only [Act.put, sa_, sz_, ss_, i64_w, i32_w]
                             rfl
                            refine pure_ (i := 8) (N := some 114) (v := ?_) (a' := ?_) #[true, true, true, true, true, true, true, true, true, false, false, false, false, false, false, false, false, false, false, false, false, false, false, false, false, false, false, false, false, false, false, false, false, false, false, false, false] rfl rfl (any_of HT_.out (by kernel_rfl)) (fun _ _ _ h => h) (Or.inl ⟨by rfl, ?_⟩) ?_ ?_
                            rotate_left
                            ·intro w'
                             go_simp
                             with_reducible rfl
                            rotate_left
                            ·simp only [Act.put, sa_, sz_, ss_, i64_w, i32_w]
                             rfl
                            refine pure_ (i := 9) (N := some 115) (v := ?_) (a' := ?_) #[true, true, true, true, true, true, true, true, true, true, false, false, false, false, false, false, false, false, false, false, false, false, false, false, false, false, false, false, false, false, false, false, false, false, false, false, false] rfl rfl (any_of HT_.out (by kernel_rfl)) (fun _ _ _ h => h) (Or.inl ⟨by rfl, ?_⟩) ?_ ?_
                            rotate_left
                            ·intro w'
                             go_simp
                             with_reducible rfl
                            rotate_left
                            ·simp only [Act.put, sa_, sz_, ss_, i64_w, i32_w]
                             rfl
                            refine pure_ (i := 10) (N := some 116) (v := ?_) (a' := ?_) #[true, true, true, true, true, true, true, true, true, true, true, false, false, false, false, false, false, false, false, false, false, false, false, false, false, false, false, false, false, false, false, false, false, false, false, false, false] rfl rfl (any_of HT_.out (by kernel_rfl)) (fun _ _ _ h => h) (Or.inl ⟨by rfl, ?_⟩) ?_ ?_
                            rotate_left
                            ·intro w'
                             go_simp
                             with_reducible rfl
                            rotate_left
                            ·simp only [Act.put, sa_, sz_, ss_, i64_w, i32_w]
                             rfl
                            refine pure_ (i := 11) (N := some 117) (v := ?_) (a' := ?_) #[true, true, true, true, true, true, true, true, true, true, true, true, false, false, false, false, false, false, false, false, false, false, false, false, false, false, false, false, false, false, false, false, false, false, false, false, false] rfl rfl (any_of HT_.out (by kernel_rfl)) (fun _ _ _ h => h) (Or.inl ⟨by rfl, ?_⟩) ?_ ?_
                            rotate_left
                            ·intro w'
                             go_simp
                             with_reducible rfl
                            rotate_left
                            ·simp only [Act.put, sa_, sz_, ss_, i64_w, i32_w]
                             rfl
                            refine pure_ (i := 13) (N := some 119) (v := ?_) (a' := ?_) #[true, true, true, true, true, true, true, true, true, true, true, true, false, true, false, false, false, false, false, false, false, false, false, false, false, false, false, false, false, false, false, false, false, false, false, false, false] rfl rfl (any_of HT_.out (by kernel_rfl)) (fun _ _ _ h => h) (Or.inl ⟨by rfl, ?_⟩) ?_ ?_
                            rotate_left
                            ·intro w'
                             go_simp
                             with_reducible rfl
                            rotate_left
                            ·simp only [Act.put, sa_, sz_, ss_, i64_w, i32_w]
                             rfl
                            refine take_ (i := 12) (N := some 118) (v := ?_) (a' := ?_) #[true, true, true, true, true, true, true, true, true, true, true, true, true, true, false, false, false, false, false, false, false, false, false, false, false, false, false, false, false, false, false, false, false, false, false, false, false] rfl rfl (take_ofW HT_.out HW_.out (by kernel_rfl)) (fun _ _ _ h => h) (Or.inl ⟨by rfl, ?_⟩) hHeld ?_ ?_
                            rotate_left
                            ·rintro w' ⟨s0, s1, s2, s3, s4, s5, s6, s7⟩
                             go_simp
                             with_reducible rfl
                            rotate_left
                            ·simp only [Act.put, sa_, sz_, ss_, i64_w, i32_w]
                             rfl
                            refine take_ (i := 14) (N := some 120) (v := ?_) (a' := ?_) #[true, true, true, true, true, true, true, true, true, true, true, true, true, true, true, false, false, false, false, false, false, false, false, false, false, false, false, false, false, false, false, false, false, false, false, false, false] rfl rfl (take_ofW HT_.out HW_.out (by kernel_rfl)) (fun _ _ _ h => h) (Or.inl ⟨by rfl, ?_⟩) hHeld ?_ ?_
                            rotate_left
                            ·rintro w' ⟨s0, s1, s2, s3, s4, s5, s6, s7⟩
                             go_simp
                             with_reducible rfl
                            rotate_left
                            ·simp only [Act.put, sa_, sz_, ss_, i64_w, i32_w]
                             rfl
                            refine pure_ (i := 15) (N := some 121) (v := ?_) (a' := ?_) #[true, true, true, true, true, true, true, true, true, true, true, true, true, true, true, true, false, false, false, false, false, false, false, false, false, false, false, false, false, false, false, false, false, false, false, false, false] rfl rfl (any_of HT_.out (by kernel_rfl)) (fun _ _ _ h => h) (Or.inl ⟨by rfl, ?_⟩) ?_ ?_
                            rotate_left
                            ·intro w'
                             go_simp
                             with_reducible rfl
                            rotate_left
                            ·simp only [Act.put, sa_, sz_, ss_, i64_w, i32_w]
                             rfl
                            refine pure_ (i := 16) (N := some 122) (v := ?_) (a' := ?_) #[true, true, true, true, true, true, true, true, true, true, true, true, true, true, true, true, true, false, false, false, false, false, false, false, false, false, false, false, false, false, false, false, false, false, false, false, false] rfl rfl (any_of HT_.out (by kernel_rfl)) (fun _ _ _ h => h) (Or.inl ⟨by rfl, ?_⟩) ?_ ?_
                            rotate_left
                            ·intro w'
                             go_simp
                             with_reducible rfl
                            rotate_left
                            ·simp only [Act.put, sa_, sz_, ss_, i64_w, i32_w]
                             rfl
                            refine pure_ (i := 17) (N := some 123) (v := ?_) (a' := ?_) #[true, true, true, true, true, true, true, true, true, true, true, true, true, true, true, true, true, true, false, false, false, false, false, false, false, false, false, false, false, false, false, false, false, false, false, false, false] rfl rfl (any_of HT_.out (by kernel_rfl)) (fun _ _ _ h => h) (Or.inl ⟨by rfl, ?_⟩) ?_ ?_
                            rotate_left
                            ·intro w'
                             go_simp
                             with_reducible rfl
                            rotate_left
                            ·simp only [Act.put, sa_, sz_, ss_, i64_w, i32_w]
                             rfl
                            refine pure_ (i := 18) (N := some 124) (v := ?_) (a' := ?_) #[true, true, true, true, true, true, true, true, true, true, true, true, true, true, true, true, true, true, true, false, false, false, false, false, false, false, false, false, false, false, false, false, false, false, false, false, false] rfl rfl (any_of HT_.out (by kernel_rfl)) (fun _ _ _ h => h) (Or.inl ⟨by rfl, ?_⟩) ?_ ?_
                            rotate_left
                            ·intro w'
                             go_simp
                             with_reducible rfl
                            rotate_left
                            ·simp only [Act.put, sa_, sz_, ss_, i64_w, i32_w]
                             rfl
                            refine pure_ (i := 19) (N := some 125) (v := ?_) (a' := ?_) #[true, true, true, true, true, true, true, true, true, true, true, true, true, true, true, true, true, true, true, true, false, false, false, false, false, false, false, false, false, false, false, false, false, false, false, false, false] rfl rfl (any_of HT_.out (by kernel_rfl)) (fun _ _ _ h => h) (Or.inl ⟨by rfl, ?_⟩) ?_ ?_
                            rotate_left
                            ·intro w'
                             go_simp
                             with_reducible rfl
                            rotate_left
                            ·simp only [Act.put, sa_, sz_, ss_, i64_w, i32_w]
                             rfl
                            refine pure_ (i := 20) (N := some 126) (v := ?_) (a' := ?_) #[true, true, true, true, true, true, true, true, true, true, true, true, true, true, true, true, true, true, true, true, true, false, false, false, false, false, false, false, false, false, false, false, false, false, false, false, false] rfl rfl (any_of HT_.out (by kernel_rfl)) (fun _ _ _ h => h) (Or.inl ⟨by rfl, ?_⟩) ?_ ?_
                            rotate_left
                            ·intro w'
                             go_simp
                             with_reducible rfl
                            rotate_left
                            ·simp only [Act.put, sa_, sz_, ss_, i64_w, i32_w]
                             rfl
                            refine take_ (i := 21) (N := some 127) (v := ?_) (a' := ?_) #[true, true, true, true, true, true, true, true, true, true, true, true, true, true, true, true, true, true, true, true, true, true, false, false, false, false, false, false, false, false, false, false, false, false, false, false, false] rfl rfl (take_ofW HT_.out HW_.out (by kernel_rfl)) (fun _ _ _ h => h) (Or.inl ⟨by rfl, ?_⟩) hHeld ?_ ?_
                            rotate_left
                            ·rintro w' ⟨s0, s1, s2, s3, s4, s5, s6, s7⟩
                             go_simp
                             with_reducible rfl
                            rotate_left
                            ·simp only [Act.put, sa_, sz_, ss_, i64_w, i32_w]
                             rfl
                            refine pure_ (i := 22) (N := some 128) (v := ?_) (a' := ?_) #[true, true, true, true, true, true, true, true, true, true, true, true, true, true, true, true, true, true, true, true, true, true, true, false, false, false, false, false, false, false, false, false, false, false, false, false, false] rfl rfl (any_of HT_.out (by kernel_rfl)) (fun _ _ _ h => h) (Or.inl ⟨by rfl, ?_⟩) ?_ ?_
                            rotate_left
                            ·intro w'
                             go_simp
                             with_reducible rfl
                            rotate_left
                            ·simp only [Act.put, sa_, sz_, ss_, i64_w, i32_w]
                             rfl
                            refine take_ (i := 23) (N := some 129) (v := ?_) (a' := ?_) #[true, true, true, true, true, true, true, true, true, true, true, true, true, true, true, true, true, true, true, true, true, true, true, true, false, false, false, false, false, false, false, false, false, false, false, false, false] rfl rfl (take_ofW HT_.out HW_.out (by kernel_rfl)) (fun _ _ _ h => h) (Or.inl ⟨by rfl, ?_⟩) hHeld ?_ ?_
                            rotate_left
                            ·rintro w' ⟨s0, s1, s2, s3, s4, s5, s6, s7⟩
                             go_simp
                             with_reducible rfl
                            rotate_left
                            ·simp only [Act.put, sa_, sz_, ss_, i64_w, i32_w]
                             rfl
                            refine pure_ (i := 24) (N := some 130) (v := ?_) (a' := ?_) #[true, true, true, true, true, true, true, true, true, true, true, true, true, true, true, true, true, true, true, true, true, true, true, true, true, false, false, false, false, false, false, false, false, false, false, false, false] rfl rfl (any_of HT_.out (by kernel_rfl)) (fun _ _ _ h => h) (Or.inl ⟨by rfl, ?_⟩) ?_ ?_
                            rotate_left
                            ·intro w'
                             go_simp
                             with_reducible rfl
                            rotate_left
                            ·simp only [Act.put, sa_, sz_, ss_, i64_w, i32_w]
                             rfl
                            refine pure_ (i := 25) (N := some 131) (v := ?_) (a' := ?_) #[true, true, true, true, true, true, true, true, true, true, true, true, true, true, true, true, true, true, true, true, true, true, true, true, true, true, false, false, false, false, false, false, false, false, false, false, false] rfl rfl (any_of HT_.out (by kernel_rfl)) (fun _ _ _ h => h) (Or.inl ⟨by rfl, ?_⟩) ?_ ?_
                            rotate_left
                            ·intro w'
                             go_simp
                             with_reducible rfl
                            rotate_left
                            ·simp only [Act.put, sa_, sz_, ss_, i64_w, i32_w]
                             rfl
                            refine pure_ (i := 26) (N := some 132) (v := ?_) (a' := ?_) #[true, true, true, true, true, true, true, true, true, true, true, true, true, true, true, true, true, true, true, true, true, true, true, true, true, true, true, false, false, false, false, false, false, false, false, false, false] rfl rfl (any_of HT_.out (by kernel_rfl)) (fun _ _ _ h => h) (Or.inl ⟨by rfl, ?_⟩) ?_ ?_
                            rotate_left
                            ·intro w'
                             go_simp
                             with_reducible rfl
                            rotate_left
                            ·simp only [Act.put, sa_, sz_, ss_, i64_w, i32_w]
                             rfl
                            refine pure_ (i := 27) (N := some 133) (v := ?_) (a' := ?_) #[true, true, true, true, true, true, true, true, true, true, true, true, true, true, true, true, true, true, true, true, true, true, true, true, true, true, true, true, false, false, false, false, false, false, false, false, false] rfl rfl (any_of HT_.out (by kernel_rfl)) (fun _ _ _ h => h) (Or.inl ⟨by rfl, ?_⟩) ?_ ?_
                            rotate_left
                            ·intro w'
                             go_simp
                             with_reducible rfl
                            rotate_left
                            ·simp only [Act.put, sa_, sz_, ss_, i64_w, i32_w]
                             rfl
                            refine pure_ (i := 28) (N := some 134) (v := ?_) (a' := ?_) #[true, true, true, true, true, true, true, true, true, true, true, true, true, true, true, true, true, true, true, true, true, true, true, true, true, true, true, true, true, false, false, false, false, false, false, false, false] rfl rfl (any_of HT_.out (by kernel_rfl)) (fun _ _ _ h => h) (Or.inl ⟨by rfl, ?_⟩) ?_ ?_
                            rotate_left
                            ·intro w'
                             go_simp
                             with_reducible rfl
                            rotate_left
                            ·simp only [Act.put, sa_, sz_, ss_, i64_w, i32_w]
                             rfl
                            refine pure_ (i := 32) (N := some 138) (v := ?_) (a' := ?_) #[true, true, true, true, true, true, true, true, true, true, true, true, true, true, true, true, true, true, true, true, true, true, true, true, true, true, true, true, true, false, false, false, true, false, false, false, false] rfl rfl (any_of HT_.out (by kernel_rfl)) (fun _ _ _ h => h) (Or.inl ⟨by rfl, ?_⟩) ?_ ?_
                            rotate_left
                            ·intro w'
                             go_simp
                             with_reducible rfl
                            rotate_left
                            ·simp only [Act.put, sa_, sz_, ss_, i64_w, i32_w]
                             rfl
                            refine take_ (i := 29) (N := some 135) (v := ?_) (a' := ?_) #[true, true, true, true, true, true, true, true, true, true, true, true, true, true, true, true, true, true, true, true, true, true, true, true, true, true, true, true, true, true, false, false, true, false, false, false, false] rfl rfl (take_ofW HT_.out HW_.out (by kernel_rfl)) (fun _ _ _ h => h) (Or.inl ⟨by rfl, ?_⟩) hHeld ?_ ?_
                            rotate_left
                            ·rintro w' ⟨s0, s1, s2, s3, s4, s5, s6, s7⟩
                             go_simp
                             with_reducible rfl
                            rotate_left
                            ·simp only [Act.put, sa_, sz_, ss_, i64_w, i32_w]
                             rfl
                            refine pure_ (i := 30) (N := some 136) (v := ?_) (a' := ?_) #[true, true, true, true, true, true, true, true, true, true, true, true, true, true, true, true, true, true, true, true, true, true, true, true, true, true, true, true, true, true, true, false, true, false, false, false, false] rfl rfl (any_of HT_.out (by kernel_rfl)) (fun _ _ _ h => h) (Or.inl ⟨by rfl, ?_⟩) ?_ ?_
                            rotate_left
                            ·intro w'
                             go_simp
                             with_reducible rfl
                            rotate_left
                            ·simp only [Act.put, sa_, sz_, ss_, i64_w, i32_w]
                             rfl
                            refine take_ (i := 31) (N := some 137) (v := ?_) (a' := ?_) #[true, true, true, true, true, true, true, true, true, true, true, true, true, true, true, true, true, true, true, true, true, true, true, true, true, true, true, true, true, true, true, true, true, false, false, false, false] rfl rfl (take_ofW HT_.out HW_.out (by kernel_rfl)) (fun _ _ _ h => h) (Or.inl ⟨by rfl, ?_⟩) hHeld ?_ ?_
                            rotate_left
                            ·rintro w' ⟨s0, s1, s2, s3, s4, s5, s6, s7⟩
                             go_simp
                             with_reducible rfl
                            rotate_left
                            ·simp only [Act.put, sa_, sz_, ss_, i64_w, i32_w]
                             rfl
                            refine take_ (i := 33) (N := some 139) (v := ?_) (a' := ?_) #[true, true, true, true, true, true, true, true, true, true, true, true, true, true, true, true, true, true, true, true, true, true, true, true, true, true, true, true, true, true, true, true, true, true, false, false, false] rfl rfl (take_ofW HT_.out HW_.out (by kernel_rfl)) (fun _ _ _ h => h) (Or.inl ⟨by rfl, ?_⟩) hHeld ?_ ?_
                            rotate_left
                            ·rintro w' ⟨s0, s1, s2, s3, s4, s5, s6, s7⟩
                             go_simp
                             with_reducible rfl
                            rotate_left
                            ·simp only [Act.put, sa_, sz_, ss_, i64_w, i32_w]
                             rfl
                            refine pure_ (i := 34) (N := some 140) (v := ?_) (a' := ?_) #[true, true, true, true, true, true, true, true, true, true, true, true, true, true, true, true, true, true, true, true, true, true, true, true, true, true, true, true, true, true, true, true, true, true, true, false, false] rfl rfl (any_of HT_.out (by kernel_rfl)) (fun _ _ _ h => h) (Or.inl ⟨by rfl, ?_⟩) ?_ ?_
                            rotate_left
                            ·intro w'
                             go_simp
                             with_reducible rfl
                            rotate_left
                            ·simp only [Act.put, sa_, sz_, ss_, i64_w, i32_w]
                             rfl
                            refine pure_ (i := 35) (N := some 141) (v := ?_) (a' := ?_) #[true, true, true, true, true, true, true, true, true, true, true, true, true, true, true, true, true, true, true, true, true, true, true, true, true, true, true, true, true, true, true, true, true, true, true, true, false] rfl rfl (any_of HT_.out (by kernel_rfl)) (fun _ _ _ h => h) (Or.inl ⟨by rfl, ?_⟩) ?_ ?_
                            rotate_left
                            ·intro w'
                             go_simp
                             with_reducible rfl
                            rotate_left
                            ·simp only [Act.put, sa_, sz_, ss_, i64_w, i32_w]
                             rfl
                            refine pure_ (i := 36) (N := some 142) (v := ?_) (a' := ?_) #[true, true, true, true, true, true, true, true, true, true, true, true, true, true, true, true, true, true, true, true, true, true, true, true, true, true, true, true, true, true, true, true, true, true, true, true, true] rfl rfl (any_of HT_.out (by kernel_rfl)) (fun _ _ _ h => h) (Or.inl ⟨by rfl, ?_⟩) ?_ ?_
                            rotate_left
                            ·intro w'
                             go_simp
                             with_reducible rfl
                            rotate_left
                            ·simp only [Act.put, sa_, sz_, ss_, i64_w, i32_w]
                             rfl
                            refine done_ (done_of HT_.out (by kernel_rfl)) ?_
                            try go_wp2
                            have n0_ := A_ (Kd.R_drew HO_8.out)
                            have n1_ := A_ (Kd.R_drew HO_273001.out)
                            have n2_ := A_ (Kd.R_drew HO293.out)
                            have n3_ := A_ (blk_drew BK261.out)
                            have n4_ := A_ (blk_drew BK272.out)
                            have n5_ := A_ (blk_drew BK277.out)
                            have n6_ := A_ (blk_drew BK296.out)
                            have n7_ := A_ (below_drew1 HB.out)
                            clear HO_8 HO_273001 HO293 BK261 BK272 BK277 BK296 HB
                            have HO_8 := n0_
                            have HO_273001 := n1_
                            have HO293 := n2_
                            have BK261 := n3_
                            have BK272 := n4_
                            have BK277 := n5_
                            have BK296 := n6_
                            have HB := n7_
                            clear n0_ n1_ n2_ n3_ n4_ n5_ n6_ n7_
                            have p299 : 0 ≤ (x278000_4 : Int) := od_
                            have q299 : x278000_4 < (l0_1.length : Int) := od_
                            obtain ⟨ad299, e299, hx299_0, hx299_1, hx299_2, hx299_3⟩ := at_T45 HR0_1.out x278000_4 p299 q299
                            have hw299_3 := hx299_3
                            have hw299_2 := hx299_2
                            have hw299_1 := hx299_1
                            have hw299_0 := hx299_0
                            cases e299
                            replace hx299_0 := lf_ HB.out hx299_0
                            replace hx299_1 := lf_ HB.out hx299_1
                            replace hx299_2 := lf_ HB.out hx299_2
                            replace hx299_3 := lf_ HB.out hx299_3
                            replace p299 := eq_true p299
                            replace q299 := eq_true q299
                            have p300 : 0 ≤ (x278000_4 : Int) := od_
                            have q300 : x278000_4 < (x8_2.length : Int) := od_
                            obtain ⟨ad300, e300, hx300_0⟩ := Kd.at_int (Kd.R_reads' HO_8.out).2.2 x278000_4 p300 q300
                            obtain rfl : ad297 = ad300 := (by injection e300)
                            replace p300 := eq_true p300
                            replace q300 := eq_true q300
                            have p301 : 0 ≤ ((rd x8_2 x278000_4) : Int) := od_
                            have q301 : (rd x8_2 x278000_4) < (t265.length : Int) := od_
                            obtain ⟨ad301, e301, hx301_0, hx301_1, hx301_2, hx301_3⟩ := at_T45 (Kd.R_reads' HO_273001.out).2.2 (rd x8_2 x278000_4) p301 q301
                            cases e301
                            replace p301 := eq_true p301
                            replace q301 := eq_true q301
                            refine start_ (n := 24) (S := fun w' => w'.cell? ⟨gb261, 0, none⟩ = some (.int .i64 a0_0) ∧ w'.cell? ⟨gb261, 1, none⟩ = some (.slice (some ad299) l0_1.length c0_1) ∧ w'.cell? ⟨gb277, 0, none⟩ = some (.int .i64 x278000_4) ∧ w'.cell? ⟨gb277, 1, none⟩ = some (.slice Ao84 x278001_4.length co84) ∧ w'.cell? ⟨gb272, 0, none⟩ = some (.int .i64 t264) ∧ w'.cell? ⟨gb272, 1, none⟩ = some (.slice (some ad301) t265.length co31) ∧ w'.cell? (ad299.add ((x278000_4).toNat * 4)) = some (.int .i64 ((rd_T45 l0_1 x278000_4).f0)) ∧ w'.cell? ⟨(ad299.add ((x278000_4).toNat * 4)).block, (ad299.add ((x278000_4).toNat * 4)).off + 1, none⟩ = some (.int .i64 ((rd_T45 l0_1 x278000_4).f1)) ∧ w'.cell? ⟨(ad299.add ((x278000_4).toNat * 4)).block, (ad299.add ((x278000_4).toNat * 4)).off + 2, none⟩ = some (.int .i64 ((rd_T45 l0_1 x278000_4).f2)) ∧ w'.cell? ⟨(ad299.add ((x278000_4).toNat * 4)).block, (ad299.add ((x278000_4).toNat * 4)).off + 3, none⟩ = some (.int .i64 ((rd_T45 l0_1 x278000_4).f3)) ∧ w'.cell? (ad297.add (x278000_4).toNat) = some (.int .i64 (rd x8_2 x278000_4)) ∧ w'.cell? (ad301.add (((rd x8_2 x278000_4)).toNat * 4)) = some (.int .i64 ((rd_T45 t265 (rd x8_2 x278000_4)).f0)) ∧ w'.cell? ⟨(ad301.add (((rd x8_2 x278000_4)).toNat * 4)).block, (ad301.add (((rd x8_2 x278000_4)).toNat * 4)).off + 1, none⟩ = some (.int .i64 ((rd_T45 t265 (rd x8_2 x278000_4)).f1)) ∧ w'.cell? ⟨(ad301.add (((rd x8_2 x278000_4)).toNat * 4)).block, (ad301.add (((rd x8_2 x278000_4)).toNat * 4)).off + 2, none⟩ = some (.int .i64 ((rd_T45 t265 (rd x8_2 x278000_4)).f2)) ∧ w'.cell? ⟨(ad301.add (((rd x8_2 x278000_4)).toNat * 4)).block, (ad301.add (((rd x8_2 x278000_4)).toNat * 4)).off + 3, none⟩ = some (.int .i64 ((rd_T45 t265 (rd x8_2 x278000_4)).f3))) (ds := []) #[false, false, false, false, false, false, false, false, false, false, false, false, false, false, false, false, false, false, false, false, false, false, false, false] (by kernel_rfl) rfl rfl ⟨(blk_cell BK261.out 0).trans rfl, (blk_cell BK261.out 1).trans rfl, (blk_cell BK277.out 0).trans rfl, (blk_cell BK277.out 1).trans rfl, (blk_cell BK272.out 0).trans rfl, (blk_cell BK272.out 1).trans rfl, ((HB.out.cell (World.block_lt_of_cell? w _ hw299_0)).trans hw299_0), ((HB.out.cell (World.block_lt_of_cell? w _ hw299_1)).trans hw299_1), ((HB.out.cell (World.block_lt_of_cell? w _ hw299_2)).trans hw299_2), ((HB.out.cell (World.block_lt_of_cell? w _ hw299_3)).trans hw299_3), hx300_0, hx301_0, hx301_1, hx301_2, hx301_3⟩ (fun hHeld => ?_); refine with_tabW standstilllaw08_PairRuns.tab23 standstilllaw08_PairRuns.bits23 (fun HT_ HW_ => ?_)
                            generalize w93.drew = w94 at HO_8 HO_273001 HO293 BK261 BK272 BK277 BK296 HB hx299_0 hx299_1 hx299_2 hx299_3 hx300_0 hx301_0 hx301_1 hx301_2 hx301_3 hHeld ⊢
                            refine pure_ (i := 0) (N := some 143) (v := ?_) (a' := ?_) #[true, false, false, false, false, false, false, false, false, false, false, false, false, false, false, false, false, false, false, false, false, false, false, false] rfl rfl (any_of HT_.out (by kernel_rfl)) (fun _ _ _ h => h) (Or.inl ⟨by rfl, ?_⟩) ?_ ?_
                            rotate_left
                            ·intro w'
                             go_simp
                             with_reducible rfl
                            rotate_left
                            ·simp only [Act.put, sa_, sz_, ss_, i64_w, i32_w]
                             rfl
                            refine pure_ (i := 2) (N := some 145) (v := ?_) (a' := ?_) #[true, false, true, false, false, false, false, false, false, false, false, false, false, false, false, false, false, false, false, false, false, false, false, false] rfl rfl (any_of HT_.out (by kernel_rfl)) (fun _ _ _ h => h) (Or.inl ⟨by rfl, ?_⟩) ?_ ?_
                            rotate_left
                            ·intro w'
                             go_simp
                             with_reducible rfl
                            rotate_left
                            ·simp only [Act.put, sa_, sz_, ss_, i64_w, i32_w]
                             rfl
                            refine pure_ (i := 8) (N := some 151) (v := ?_) (a' := ?_) #[true, false, true, false, false, false, false, false, true, false, false, false, false, false, false, false, false, false, false, false, false, false, false, false] rfl rfl (any_of HT_.out (by kernel_rfl)) (fun _ _ _ h => h) (Or.inl ⟨by rfl, ?_⟩) ?_ ?_
                            rotate_left
                            ·intro w'
                             go_simp
                             with_reducible rfl
                            rotate_left
                            ·simp only [Act.put, sa_, sz_, ss_, i64_w, i32_w]
                             rfl
                            refine pure_ (i := 10) (N := some 153) (v := ?_) (a' := ?_) #[true, false, true, false, false, false, false, false, true, false, true, false, false, false, false, false, false, false, false, false, false, false, false, false] rfl rfl (any_of HT_.out (by kernel_rfl)) (fun _ _ _ h => h) (Or.inl ⟨by rfl, ?_⟩) ?_ ?_
                            rotate_left
                            ·intro w'
                             go_simp
                             with_reducible rfl
                            rotate_left
                            ·simp only [Act.put, sa_, sz_, ss_, i64_w, i32_w]
                             rfl
                            refine pure_ (i := 11) (N := some 154) (v := ?_) (a' := ?_) #[true, false, true, false, false, false, false, false, true, false, true, true, false, false, false, false, false, false, false, false, false, false, false, false] rfl rfl (any_of HT_.out (by kernel_rfl)) (fun _ _ _ h => h) (Or.inl ⟨by rfl, ?_⟩) ?_ ?_
                            rotate_left
                            ·intro w'
                             go_simp
                             with_reducible rfl
                            rotate_left
                            ·simp only [Act.put, sa_, sz_, ss_, i64_w, i32_w]
                             rfl
                            refine take_ (i := 1) (N := some 144) (v := ?_) (a' := ?_) #[true, true, true, false, false, false, false, false, true, false, true, true, false, false, false, false, false, false, false, false, false, false, false, false] rfl rfl (take_ofW HT_.out HW_.out (by kernel_rfl)) (fun _ _ _ h => h) (Or.inl ⟨by rfl, ?_⟩) hHeld ?_ ?_
                            rotate_left
                            ·rintro w' ⟨s0, s1, s2, s3, s4, s5, s6, s7, s8, s9, s10, s11, s12, s13, s14⟩
                             go_simp
                             with_reducible rfl
                            rotate_left
                            ·simp only [Act.put, sa_, sz_, ss_, i64_w, i32_w]
                             rfl
                            refine take_ (i := 3) (N := some 146) (v := ?_) (a' := ?_) #[true, true, true, true, false, false, false, false, true, false, true, true, false, false, false, false, false, false, false, false, false, false, false, false] rfl rfl (take_ofW HT_.out HW_.out (by kernel_rfl)) (fun _ _ _ h => h) (Or.inl ⟨by rfl, ?_⟩) hHeld ?_ ?_
                            rotate_left
                            ·rintro w' ⟨s0, s1, s2, s3, s4, s5, s6, s7, s8, s9, s10, s11, s12, s13, s14⟩
                             go_simp
                             with_reducible rfl
                            rotate_left
                            ·simp only [Act.put, sa_, sz_, ss_, i64_w, i32_w]
                             rfl
                            refine pure_ (i := 4) (N := some 147) (v := ?_) (a' := ?_) #[true, true, true, true, true, false, false, false, true, false, true, true, false, false, false, false, false, false, false, false, false, false, false, false] rfl rfl (any_of HT_.out (by kernel_rfl)) (fun _ _ _ h => h) (Or.inl ⟨by rfl, ?_⟩) ?_ ?_
                            rotate_left
                            ·intro w'
                             go_simp
                             with_reducible rfl
                            rotate_left
                            ·simp only [Act.put, sa_, sz_, ss_, i64_w, i32_w]
                             rfl
                            refine pure_ (i := 5) (N := some 148) (v := ?_) (a' := ?_) #[true, true, true, true, true, true, false, false, true, false, true, true, false, false, false, false, false, false, false, false, false, false, false, false] rfl rfl (any_of HT_.out (by kernel_rfl)) (fun _ _ _ h => h) (Or.inl ⟨by rfl, ?_⟩) ?_ ?_
                            rotate_left
                            ·intro w'
                             go_simp
                             with_reducible rfl
                            rotate_left
                            ·simp only [Act.put, sa_, sz_, ss_, i64_w, i32_w]
                             rfl
                            refine take_ (i := 6) (N := some 149) (v := ?_) (a' := ?_) #[true, true, true, true, true, true, true, false, true, false, true, true, false, false, false, false, false, false, false, false, false, false, false, false] rfl rfl (take_ofW HT_.out HW_.out (by kernel_rfl)) (fun _ _ _ h => h) (Or.inl ⟨by rfl, ?_⟩) hHeld ?_ ?_
                            rotate_left
                            ·rintro w' ⟨s0, s1, s2, s3, s4, s5, s6, s7, s8, s9, s10, s11, s12, s13, s14⟩
                             go_simp
                             with_reducible rfl
                            rotate_left
                            ·simp only [Act.put, sa_, sz_, ss_, i64_w, i32_w]
                             rfl
                            refine pure_ (i := 7) (N := some 150) (v := ?_) (a' := ?_) #[true, true, true, true, true, true, true, true, true, false, true, true, false, false, false, false, false, false, false, false, false, false, false, false] rfl rfl (any_of HT_.out (by kernel_rfl)) (fun _ _ _ h => h) (Or.inl ⟨by rfl, ?_⟩) ?_ ?_
                            rotate_left
                            ·intro w'
                             go_simp
                             with_reducible rfl
                            rotate_left
                            ·simp only [Act.put, sa_, sz_, ss_, i64_w, i32_w]
                             rfl
                            refine take_ (i := 9) (N := some 152) (v := ?_) (a' := ?_) #[true, true, true, true, true, true, true, true, true, true, true, true, false, false, false, false, false, false, false, false, false, false, false, false] rfl rfl (take_ofW HT_.out HW_.out (by kernel_rfl)) (fun _ _ _ h => h) (Or.inl ⟨by rfl, ?_⟩) hHeld ?_ ?_
                            rotate_left
                            ·rintro w' ⟨s0, s1, s2, s3, s4, s5, s6, s7, s8, s9, s10, s11, s12, s13, s14⟩
                             go_simp
                             with_reducible rfl
                            rotate_left
                            ·simp only [Act.put, sa_, sz_, ss_, i64_w, i32_w]
                             rfl
                            refine take_ (i := 12) (N := some 155) (v := ?_) (a' := ?_) #[true, true, true, true, true, true, true, true, true, true, true, true, true, false, false, false, false, false, false, false, false, false, false, false] rfl rfl (take_ofW HT_.out HW_.out (by kernel_rfl)) (fun _ _ _ h => h) (Or.inl ⟨by rfl, ?_⟩) hHeld ?_ ?_
                            rotate_left
                            ·rintro w' ⟨s0, s1, s2, s3, s4, s5, s6, s7, s8, s9, s10, s11, s12, s13, s14⟩
                             go_simp
                             with_reducible rfl
                            rotate_left
                            ·simp only [Act.put, sa_, sz_, ss_, i64_w, i32_w]
                             rfl
                            refine pure_ (i := 13) (N := some 156) (v := ?_) (a' := ?_) #[true, true, true, true, true, true, true, true, true, true, true, true, true, true, false, false, false, false, false, false, false, false, false, false] rfl rfl (any_of HT_.out (by kernel_rfl)) (fun _ _ _ h => h) (Or.inl ⟨by rfl, ?_⟩) ?_ ?_
                            rotate_left
                            ·intro w'
                             go_simp
                             with_reducible rfl
                            rotate_left
                            ·simp only [Act.put, sa_, sz_, ss_, i64_w, i32_w]
                             rfl
                            refine take_ (i := 14) (N := some 157) (v := ?_) (a' := ?_) #[true, true, true, true, true, true, true, true, true, true, true, true, true, true, true, false, false, false, false, false, false, false, false, false] rfl rfl (take_ofW HT_.out HW_.out (by kernel_rfl)) (fun _ _ _ h => h) (Or.inl ⟨by rfl, ?_⟩) hHeld ?_ ?_
                            rotate_left
                            ·rintro w' ⟨s0, s1, s2, s3, s4, s5, s6, s7, s8, s9, s10, s11, s12, s13, s14⟩
                             go_simp
                             with_reducible rfl
                            rotate_left
                            ·simp only [Act.put, sa_, sz_, ss_, i64_w, i32_w]
                             rfl
                            refine pure_ (i := 15) (N := some 158) (v := ?_) (a' := ?_) #[true, true, true, true, true, true, true, true, true, true, true, true, true, true, true, true, false, false, false, false, false, false, false, false] rfl rfl (any_of HT_.out (by kernel_rfl)) (fun _ _ _ h => h) (Or.inl ⟨by rfl, ?_⟩) ?_ ?_
                            rotate_left
                            ·intro w'
                             go_simp
                             with_reducible rfl
                            rotate_left
                            ·simp only [Act.put, sa_, sz_, ss_, i64_w, i32_w]
                             rfl
                            refine pure_ (i := 16) (N := some 159) (v := ?_) (a' := ?_) #[true, true, true, true, true, true, true, true, true, true, true, true, true, true, true, true, true, false, false, false, false, false, false, false] rfl rfl (any_of HT_.out (by kernel_rfl)) (fun _ _ _ h => h) (Or.inl ⟨by rfl, ?_⟩) ?_ ?_
                            rotate_left
                            ·intro w'
                             go_simp
                             with_reducible rfl
                            rotate_left
                            ·simp only [Act.put, sa_, sz_, ss_, i64_w, i32_w]
                             rfl
                            refine take_ (i := 17) (N := some 160) (v := ?_) (a' := ?_) #[true, true, true, true, true, true, true, true, true, true, true, true, true, true, true, true, true, true, false, false, false, false, false, false] rfl rfl (take_ofW HT_.out HW_.out (by kernel_rfl)) (fun _ _ _ h => h) (Or.inl ⟨by rfl, ?_⟩) hHeld ?_ ?_
                            rotate_left
                            ·rintro w' ⟨s0, s1, s2, s3, s4, s5, s6, s7, s8, s9, s10, s11, s12, s13, s14⟩
                             go_simp
                             with_reducible rfl
                            rotate_left
                            ·simp only [Act.put, sa_, sz_, ss_, i64_w, i32_w]
                             rfl
                            refine pure_ (i := 18) (N := some 161) (v := ?_) (a' := ?_) #[true, true, true, true, true, true, true, true, true, true, true, true, true, true, true, true, true, true, true, false, false, false, false, false] rfl rfl (any_of HT_.out (by kernel_rfl)) (fun _ _ _ h => h) (Or.inl ⟨by rfl, ?_⟩) ?_ ?_
                            rotate_left
                            ·intro w'
                             go_simp
                             with_reducible rfl
                            rotate_left
                            ·simp only [Act.put, sa_, sz_, ss_, i64_w, i32_w]
                             rfl
                            refine pure_ (i := 19) (N := some 162) (v := ?_) (a' := ?_) #[true, true, true, true, true, true, true, true, true, true, true, true, true, true, true, true, true, true, true, true, false, false, false, false] rfl rfl (any_of HT_.out (by kernel_rfl)) (fun _ _ _ h => h) (Or.inl ⟨by rfl, ?_⟩) ?_ ?_
                            rotate_left
                            ·intro w'
                             go_simp
                             with_reducible rfl
                            rotate_left
                            ·simp only [Act.put, sa_, sz_, ss_, i64_w, i32_w]
                             rfl
                            refine pure_ (i := 20) (N := some 163) (v := ?_) (a' := ?_) #[true, true, true, true, true, true, true, true, true, true, true, true, true, true, true, true, true, true, true, true, true, false, false, false] rfl rfl (any_of HT_.out (by kernel_rfl)) (fun _ _ _ h => h) (Or.inl ⟨by rfl, ?_⟩) ?_ ?_
                            rotate_left
                            ·intro w'
                             go_simp
                             with_reducible rfl
                            rotate_left
                            ·simp only [Act.put, sa_, sz_, ss_, i64_w, i32_w]
                             rfl
                            refine one_ (i := 21) (N := some 164) #[true, true, true, true, true, true, true, true, true, true, true, true, true, true, true, true, true, true, true, true, true, true, false, false] rfl rfl (one_of HT_.out (by kernel_rfl)) (by decide) (fun K hK => ?_)
                            refine goes_ Try.func7 (by kernel_rfl) rfl #[] (by rfl) rfl rfl gl_ ?_
                            with_reducible refine (standstilllaw08_awake.calls k4  t302 _ A76.out).mono ?_
                            rintro e w95 ⟨rfl, hb⟩
                            have HS10_ := (hb.cell (World.block_lt_of_cell? _ _ (hHeld.2.2.2.2.2.2.2.2.2.2.1))).trans (hHeld.2.2.2.2.2.2.2.2.2.2.1)
                            have HS11_ := (hb.cell (World.block_lt_of_cell? _ _ (hHeld.2.2.2.2.2.2.2.2.2.2.2.1))).trans (hHeld.2.2.2.2.2.2.2.2.2.2.2.1)
                            have HS12_ := (hb.cell (World.block_lt_of_cell? _ _ (hHeld.2.2.2.2.2.2.2.2.2.2.2.2.1))).trans (hHeld.2.2.2.2.2.2.2.2.2.2.2.2.1)
                            have HS13_ := (hb.cell (World.block_lt_of_cell? _ _ (hHeld.2.2.2.2.2.2.2.2.2.2.2.2.2.1))).trans (hHeld.2.2.2.2.2.2.2.2.2.2.2.2.2.1)
                            have HS14_ := (hb.cell (World.block_lt_of_cell? _ _ (hHeld.2.2.2.2.2.2.2.2.2.2.2.2.2.2))).trans (hHeld.2.2.2.2.2.2.2.2.2.2.2.2.2.2)
                            refine ⟨_, rfl, ?_⟩
                            have n0_ := A_ (Kd.R_below (rk_ HO_8.out) hb)
                            have n1_ := A_ (Kd.R_below (rk_ HO_273001.out) hb)
                            have n2_ := A_ (Kd.R_below (rk_ HO293.out) hb)
                            have n3_ := A_ (blk_below (pk_ BK261.out) hb)
                            have n4_ := A_ (blk_below (pk_ BK272.out) hb)
                            have n5_ := A_ (blk_below (pk_ BK277.out) hb)
                            have n6_ := A_ (blk_below (pk_ BK296.out) hb)
                            have n7_ := A_ (below_step (bk_ HB.out) hb)
                            clear HO_8 HO_273001 HO293 BK261 BK272 BK277 BK296 HB
                            have HO_8 := n0_
                            have HO_273001 := n1_
                            have HO293 := n2_
                            have BK261 := n3_
                            have BK272 := n4_
                            have BK277 := n5_
                            have BK296 := n6_
                            have HB := n7_
                            clear n0_ n1_ n2_ n3_ n4_ n5_ n6_ n7_
                            (try clear hb)
                            (try clear hb2)
                            (try clear hk)
                            (try clear hi)
                            refine hK.out _ _ ⟨(blk_cell BK261.out 0).trans rfl, (blk_cell BK261.out 1).trans rfl, (blk_cell BK277.out 0).trans rfl, (blk_cell BK277.out 1).trans rfl, (blk_cell BK272.out 0).trans rfl, (blk_cell BK272.out 1).trans rfl, ((HB.out.cell (World.block_lt_of_cell? w _ hw299_0)).trans hw299_0), ((HB.out.cell (World.block_lt_of_cell? w _ hw299_1)).trans hw299_1), ((HB.out.cell (World.block_lt_of_cell? w _ hw299_2)).trans hw299_2), ((HB.out.cell (World.block_lt_of_cell? w _ hw299_3)).trans hw299_3), HS10_, HS11_, HS12_, HS13_, HS14_⟩ (fun hHeld => ?_)
                            clear hK K
                            refine norm_ (a' := ?_) ?_ ?_
                            rotate_left
                            ·show Act.put _ (some 164) _ = _
                             simp only [Act.put, sa_, sz_, ss_, i64_w, i32_w]
                             rfl
                            refine pure_ (i := 22) (N := some 165) (v := ?_) (a' := ?_) #[true, true, true, true, true, true, true, true, true, true, true, true, true, true, true, true, true, true, true, true, true, true, true, false] rfl rfl (any_of HT_.out (by kernel_rfl)) (fun _ _ _ h => h) (Or.inl ⟨by rfl, ?_⟩) ?_ ?_
                            rotate_left
                            ·intro w'
                             go_simp
                             with_reducible rfl
                            rotate_left
                            ·simp only [Act.put, sa_, sz_, ss_, i64_w, i32_w]
                             rfl
                            refine pure_ (i := 23) (N := some 6) (v := ?_) (a' := ?_) #[true, true, true, true, true, true, true, true, true, true, true, true, true, true, true, true, true, true, true, true, true, true, true, true] rfl rfl (any_of HT_.out (by kernel_rfl)) (fun _ _ _ h => h) (Or.inl ⟨by rfl, ?_⟩) ?_ ?_
                            rotate_left
                            ·intro w'
                             go_simp
                             with_reducible rfl
                            rotate_left
                            ·simp only [Act.put, sa_, sz_, ss_, i64_w, i32_w]
                             rfl
                            refine done_ (done_of HT_.out (by kernel_rfl)) ?_
                            try go_wp2
                            go_ret
                            exact ⟨er_, bk_ HB.out⟩
                           ·rw [if_neg c75] at H
                            have c75b0 : ((((rd_T45 l0_1 x278000_4).f0) == 2) == (((rd_T45 t265 (rd x8_2 x278000_4)).f0) == 2)) = false := by simpa using c75
                            (try (have c75b1 : decide ((((rd_T45 l0_1 x278000_4).f0) == 2) = (((rd_T45 t265 (rd x8_2 x278000_4)).f0) == 2)) = false := by simpa using c75))
                            (try (have c75b2 : ((((rd_T45 l0_1 x278000_4).f0) == 2) == (((rd_T45 t265 (rd x8_2 x278000_4)).f0) == 2)) = false := by simpa using c75))
                            (try (have c75b3 : ¬ ((((rd_T45 l0_1 x278000_4).f0) == 2) = (((rd_T45 t265 (rd x8_2 x278000_4)).f0) == 2)) := by simpa using c75))
                            clear c75
                            exact absurd H (by simp)
                          ·rw [if_neg c74] at H
                           exact absurd H (by simp)
                         ·rw [if_neg c73] at H
                          exact absurd H (by simp)
                        ·rw [if_neg c72] at H
                         exact absurd H (by simp)
                     ·rw [if_neg c69] at H
                      exact absurd H (by simp)
                    ·rw [if_neg c68] at H
                     exact absurd H (by simp)
                ·replace c64 := Bool.eq_false_iff.mpr c64
                 subst c64
                 have H1 : (standstilllaw08_PairRuns.l1 k4 a2 x8_2 (wrap64 (x12_4 + 1)) a0_0 l0_1 t264 t265 t290 t291) = some r := by rw [if_neg (show ¬ (false = true) by decide)] at H; exact H
                 clear H
                 have H := H1
                 clear H1
                 have H' := Aside0.mk H
                 clear H
                 have hnb96 := NB261_272.out
                 have hnc96 := NB272_261.out
                 have hnb97 := NB261_277.out
                 have hnc97 := NB277_261.out
                 obtain ⟨hcz98_0, hcz98_1⟩ := bc2_ BK261.out
                 have hfz98_0 := blk_frozen BK261.out 0
                 have hfz98_1 := blk_frozen BK261.out 1
                 have hnb99 := NB272_277.out
                 have hnc99 := NB277_272.out
                 obtain ⟨hcz100_0, hcz100_1⟩ := bc2_ BK272.out
                 have hfz100_0 := blk_frozen BK272.out 0
                 have hfz100_1 := blk_frozen BK272.out 1
                 obtain ⟨hcz101_0, hcz101_1⟩ := bc2_ BK277.out
                 have hfz101_0 := blk_frozen BK277.out 0
                 have hfz101_1 := blk_frozen BK277.out 1
                 obtain ⟨Ao102, co102, eo102⟩ := Kd.R_slice HO_8.out
                 subst eo102
                 obtain ⟨Ao103, co103, eo103⟩ := Kd.R_slice HO_278001.out
                 subst eo103
                 go_wp2_with (first | ((with_reducible refine gate_callee (f := 19) rfl ?_); refine goesL_ (some 98) rfl rfl Try.func19 (by kernel_rfl) rfl #[.agg #[.int .i64 a0_0, .slice A0_1 l0_1.length c0_1], .agg #[.int .i64 t264, .slice Ao31 t265.length co31], .slice Ao102 x8_2.length co102, .agg #[.int .i64 x278000_4, .slice Ao103 x278001_4.length co103], .int .i64 3000] rfl gl_ ?_; (with_reducible refine (standstilllaw08_next.calls k4 a0_0 _ _ l0_1 t264 _ _ t265 _ _ x8_2 x278000_4 (fun k_ => some k_ = (.slice Ao103 x278001_4.length co103 : Value).ownBlock) (.slice Ao103 x278001_4.length co103) x278001_4 3000 t290 t291 false true w _ ?side1 ?side2 ?side3 ?side4 ?side5 ?side6 ?side7 ?side8 A62.out).mono ?_); (case side1 => repeat (first | (with_reducible first | exact HB.out | apply below_alloc | apply pw_below_drewN | apply below_drew1 | refine below_set ?_ GE261.out | refine below_set ?_ GE272.out | refine below_set ?_ GE277.out) | exact HB.out)); (case side2 => exact Kd.C_kept_came (show Kd.Heap k45 from Kd.heap_iso _ (Kd.heap_pair (Kd.heap_int _) (Kd.heap_pair (Kd.heap_int _) (Kd.heap_pair (Kd.heap_int _) (Kd.heap_int _))))) HR0_1.out (bk_ HB.out) (fun k_ hs_ => (fun e_ => Kd.R_base HO_278001.out k_ e_.symm) hs_)); (case side3 => exact HC0_1.out); (case side4 => exact Kd.C_kept_own ((Kd.R_apart' HO_273001.out (Kd.R_typed HO_278001.out) (by decide))) (fun k_ hk_ hs_ => (hk_.2) hs_)); (case side5 => exact (Kd.R_reads' HO_273001.out).2.1); (case side6 => exact Kd.C_kept_own (HO_8.out) (fun k_ hk_ hs_ => (hk_) hs_)); (case side7 => exact (Kd.R_reads' HO_8.out).2.1); (case side8 => exact Kd.R_tight rfl HO_278001.out); rintro e w104 ⟨v292, rfl, ho0, hb, hkp⟩; refine ⟨_, rfl, ?_⟩; have n0_ := A_ (Kd.R_mono (ok' := fun k_ => some k_ ≠ (v292 : Value).ownBlock) (Kd.R_keptB (HO_8.out) hkp (fun k_ hk_ hs_ => (hk_) hs_)) (fun k_ hk_ => fun e_ => Or.elim (ho0.1 k_ e_.symm) (fun hs_ => hk_.2.1 hs_) (fun hn_ => Nat.not_le.2 hk_.2.2 hn_))); have n1_ := A_ (Kd.R_mono (ok' := fun k_ => True) (Kd.R_keptB ((Kd.R_apart' HO_273001.out (Kd.R_typed HO_278001.out) (by decide))) hkp (fun k_ hk_ hs_ => (hk_.2) hs_)) (fun k_ hk_ => trivial)); have n2_ := A_ (blk_kept (pk_ BK261.out) hkp (fun hs_ => (fun e_ => (Kd.R_ne HO_278001.out BK261.out (by decide)) e_) hs_)); have n3_ := A_ (blk_kept (pk_ BK272.out) hkp (fun hs_ => (fun e_ => (Kd.R_ne HO_278001.out BK272.out (by decide)) e_) hs_)); have n4_ := A_ (blk_kept (pk_ BK277.out) hkp (fun hs_ => (fun e_ => (Kd.R_ne HO_278001.out BK277.out (by decide)) e_) hs_)); have n5_ := A_ (Kd.R_mono (ok' := fun k_ => some k_ ≠ (.slice Ao102 x8_2.length co102 : Value).ownBlock) ho0 (fun k_ hk_ => Or.elim hk_ (fun hs_ => fun e_ => (((HO_8.out).1 k_ e_.symm)) hs_) (fun hn_ => (Kd.fresh' (Kd.R_lt (rk_ HO_8.out)) k_ hn_)))); have n6_ := A_ (hb); clear HO_8 HO_273001 BK261 BK272 BK277 HB HO_278001; have HO_8 := n0_; have HO_273001 := n1_; have BK261 := n2_; have BK272 := n3_; have BK277 := n4_; have HO293 := n5_; have HB := n6_; clear n0_ n1_ n2_ n3_ n4_ n5_ n6_; (try clear hb); (try clear hkp); (try clear ho0)) | ((with_reducible refine gate_dst (N := 13) rfl ?_); (try (refine gate_guard (by rfl) ?_; dsimp only)); refine box_event ?hg (N := 13) ?hd (cs := #[.int .i64 0, .slice none 0 0]) (t := 47) ?hr ?_; (case hd => rfl); (case hg => rfl); (case hr => first | (go_simp; done) | (go_simp; rfl)); intro gb296 hg w105 hbox hb; have n0_ := A_ (Kd.R_below (rk_ HO_8.out) hb); have n1_ := A_ (Kd.R_below (rk_ HO_273001.out) hb); have n2_ := A_ (Kd.R_below (rk_ HO293.out) hb); have n3_ := A_ (blk_below (pk_ BK261.out) hb); have n4_ := A_ (blk_below (pk_ BK272.out) hb); have n5_ := A_ (blk_below (pk_ BK277.out) hb); have n6_ := A_ (below_step (bk_ HB.out) hb); have n7_ := A_ (hbox); have n8_ := A_ (bz_ hg (bk_ HB.out)); have n9_ := A_ (bz_ hg (bk_ HB.out)); have n10_ := A_ (nl_ hg (pk_ BK261.out)); have n11_ := A_ (ng_ hg (pk_ BK261.out)); have n12_ := A_ (nl_ hg (pk_ BK272.out)); have n13_ := A_ (ng_ hg (pk_ BK272.out)); have n14_ := A_ (nl_ hg (pk_ BK277.out)); have n15_ := A_ (ng_ hg (pk_ BK277.out)); clear HO_8 HO_273001 HO293 BK261 BK272 BK277 HB; have HO_8 := n0_; have HO_273001 := n1_; have HO293 := n2_; have BK261 := n3_; have BK272 := n4_; have BK277 := n5_; have HB := n6_; have BK296 := n7_; have GW296 := n8_; have GE296 := n9_; have NB261_296 := n10_; have NB296_261 := n11_; have NB272_296 := n12_; have NB296_272 := n13_; have NB277_296 := n14_; have NB296_277 := n15_; clear n0_ n1_ n2_ n3_ n4_ n5_ n6_ n7_ n8_ n9_ n10_ n11_ n12_ n13_ n14_ n15_ hb hbox hg; have hnb106 := NB296_261.out; have hnc106 := NB261_296.out; have hnb107 := NB296_272.out; have hnc107 := NB272_296.out; have hnb108 := NB296_277.out; have hnc108 := NB277_296.out; obtain ⟨hcz109_0, hcz109_1⟩ := bc2_ BK296.out; have hfz109_0 := blk_frozen BK296.out 0; have hfz109_1 := blk_frozen BK296.out 1; obtain ⟨Ao110, co110, eo110⟩ := Kd.R_slice HO293.out; subst eo110; obtain ⟨hcz111_0, hcz111_1⟩ := bc2_ BK277.out; have hfz111_0 := blk_frozen BK277.out 0; have hfz111_1 := blk_frozen BK277.out 1))
                 go_roundg k4
                 case measure => have := HJ3.out; have := HK2.out; have := HJ39.out; have := HK4.out; omega
                 case rel => exact ⟨(wrap64 (x12_4 + 1)), (t290), (t291), (.slice Ao110 t291.length co110), jr_, H', ⟨by have := HJ3.out; have := HK2.out; have := HJ39.out; have := HK4.out; omega⟩, ⟨by (with_reducible repeat (first | apply Kd.R_alloc | apply Kd.R_drewN | apply Kd.R_drew)); exact Kd.R_mono (rf2_ (Kd.R_far (p := ⟨gb296, 1, none⟩) (Kd.R_far (p := ⟨gb296, 0, none⟩) (Kd.R_types (Kd.R_types HO_8.out BK296.out (by decide)) BK277.out (by decide)) (fun _ hk => hk.1.2) (.int .i64 t290)) (fun _ hk => hk.1.2) (.slice Ao110 t291.length co110))) (fun _ hk => hk.1.1)⟩, ⟨by (with_reducible repeat (first | apply Kd.R_alloc | apply Kd.R_drewN | apply Kd.R_drew)); exact Kd.R_mono (rf2_ (Kd.R_far (p := ⟨gb296, 1, none⟩) (Kd.R_far (p := ⟨gb296, 0, none⟩) (Kd.R_types (Kd.R_types HO_273001.out BK296.out (by decide)) BK277.out (by decide)) (fun _ hk => hk.1.2) (.int .i64 t290)) (fun _ hk => hk.1.2) (.slice Ao110 t291.length co110))) (fun _ hk => trivial)⟩, ⟨by (with_reducible repeat (first | apply Kd.R_alloc | apply Kd.R_drewN | apply Kd.R_drew)); exact Kd.R_mono (rf2_ (Kd.R_far (p := ⟨gb296, 1, none⟩) (Kd.R_far (p := ⟨gb296, 0, none⟩) (Kd.R_types (Kd.R_types HO293.out BK296.out (by decide)) BK277.out (by decide)) (fun _ hk => hk.1.2) (.int .i64 t290)) (fun _ hk => hk.1.2) (.slice Ao110 t291.length co110))) (fun _ hk => hk.1.1)⟩, ⟨by (iterate 2 (refine pk_ ?_; refine blk_far ?_ NB261_277.out _)); (iterate 2 (refine pk_ ?_; refine blk_far ?_ NB261_296.out _)); exact pk_ BK261.out⟩, ⟨by (iterate 2 (refine pk_ ?_; refine blk_far ?_ NB272_277.out _)); (iterate 2 (refine pk_ ?_; refine blk_far ?_ NB272_296.out _)); exact pk_ BK272.out⟩, ⟨by refine pk_ ?_; refine blk_put (cs := #[.int .i64 t290, .slice Ao103 x278001_4.length co103]) ?_ 1 _ rfl; refine pk_ ?_; refine blk_put (cs := #[.int .i64 x278000_4, .slice Ao103 x278001_4.length co103]) ?_ 0 _ rfl; (iterate 2 (refine pk_ ?_; refine blk_far ?_ NB277_296.out _)); exact pk_ BK277.out⟩, ⟨bk_ HB.out⟩⟩
               ·replace c63 := Bool.eq_false_iff.mpr c63
                subst c63
                have H1 : (none) = some r := by rw [if_neg (show ¬ (false = true) by decide)] at H; exact H
                clear H
                have H := H1
                clear H1
                exact absurd H (by simp)
              ·rw [if_neg c61] at H
               have c61b0 : decide (x12_4 < (Int.tmod (wrap64 (a2)) 61)) = false := decide_eq_false c61
               clear c61
               by_cases c112 : x278000_4 < 0
               ·rw [if_pos c112] at H
                have c112b0 : decide (x278000_4 < 0) = true := decide_eq_true c112
                clear c112
                exact absurd H (by simp)
               ·rw [if_neg c112] at H
                have c112b0 : decide (x278000_4 < 0) = false := decide_eq_false c112
                clear c112
                by_cases c113 : x278000_4 ≥ (x8_2.length : Int)
                ·rw [if_pos c113] at H
                 have c113b0 : decide ((x8_2.length : Int) ≤ x278000_4) = true := decide_eq_true c113
                 clear c113
                 exact absurd H (by simp)
                ·rw [if_neg c113] at H
                 have c113b0 : decide ((x8_2.length : Int) ≤ x278000_4) = false := decide_eq_false c113
                 clear c113
                 by_cases c114 : x278000_4 ≥ (l0_1.length : Int)
                 ·rw [if_pos c114] at H
                  have c114b0 : decide ((l0_1.length : Int) ≤ x278000_4) = true := decide_eq_true c114
                  clear c114
                  exact absurd H (by simp)
                 ·rw [if_neg c114] at H
                  have c114b0 : decide ((l0_1.length : Int) ≤ x278000_4) = false := decide_eq_false c114
                  clear c114
                  by_cases c115 : 0 ≤ x278000_4
                  ·rw [if_pos c115] at H
                   have c115b0 : decide (0 ≤ x278000_4) = true := decide_eq_true c115
                   clear c115
                   by_cases c116 : x278000_4 < (x8_2.length : Int)
                   ·rw [if_pos c116] at H
                    have c116b0 : decide (x278000_4 < (x8_2.length : Int)) = true := decide_eq_true c116
                    clear c116
                    by_cases c117 : (rd x8_2 x278000_4) < 0
                    ·rw [if_pos c117] at H
                     have c117b0 : decide ((rd x8_2 x278000_4) < 0) = true := decide_eq_true c117
                     clear c117
                     exact absurd H (by simp)
                    ·rw [if_neg c117] at H
                     have c117b0 : decide ((rd x8_2 x278000_4) < 0) = false := decide_eq_false c117
                     clear c117
                     by_cases c118 : (rd x8_2 x278000_4) ≥ (t265.length : Int)
                     ·rw [if_pos c118] at H
                      exact absurd H (by simp)
                     ·rw [if_neg c118] at H
                      have c118b0 : decide ((t265.length : Int) ≤ (rd x8_2 x278000_4)) = false := decide_eq_false c118
                      clear c118
                      by_cases c119 : x278000_4 < (l0_1.length : Int)
                      ·rw [if_pos c119] at H
                       have c119b0 : decide (x278000_4 < (l0_1.length : Int)) = true := decide_eq_true c119
                       clear c119
                       by_cases c120 : 0 ≤ (rd x8_2 x278000_4)
                       ·rw [if_pos c120] at H
                        have c120b0 : decide (0 ≤ (rd x8_2 x278000_4)) = true := decide_eq_true c120
                        clear c120
                        by_cases c121 : (rd x8_2 x278000_4) < (t265.length : Int)
                        ·rw [if_pos c121] at H
                         have c121b0 : decide ((rd x8_2 x278000_4) < (t265.length : Int)) = true := decide_eq_true c121
                         clear c121
                         by_cases c122 : ((((rd_T45 l0_1 x278000_4).f0) == 2) == (((rd_T45 t265 (rd x8_2 x278000_4)).f0) == 2)) = true
                         ·rw [if_pos c122] at H
                          have c122b0 : ((((rd_T45 l0_1 x278000_4).f0) == 2) == (((rd_T45 t265 (rd x8_2 x278000_4)).f0) == 2)) = true := c122
                          (try (have c122b1 : decide ((((rd_T45 l0_1 x278000_4).f0) == 2) = (((rd_T45 t265 (rd x8_2 x278000_4)).f0) == 2)) = true := by simpa using c122))
                          (try (have c122b2 : ((((rd_T45 l0_1 x278000_4).f0) == 2) == (((rd_T45 t265 (rd x8_2 x278000_4)).f0) == 2)) = true := by simpa using c122))
                          clear c122
                          replace H := Option.bind_eq_some_iff.mp H
                          obtain ⟨t289, A1230, H⟩ := H
                          replace H : (some t289) = some r := H
                          have A123 := Aside0.mk A1230
                          clear A1230
                          obtain rfl := Option.some.inj H
                          try go_wp2
                          have n0_ := A_ (Kd.R_drew HO_8.out)
                          have n1_ := A_ (Kd.R_drew HO_273001.out)
                          have n3_ := A_ (blk_drew BK261.out)
                          have n4_ := A_ (blk_drew BK272.out)
                          have n5_ := A_ (blk_drew BK277.out)
                          have n6_ := A_ (below_drew1 HB.out)
                          clear HO_8 HO_273001 BK261 BK272 BK277 HB
                          have HO_8 := n0_
                          have HO_273001 := n1_
                          have BK261 := n3_
                          have BK272 := n4_
                          have BK277 := n5_
                          have HB := n6_
                          clear n0_ n1_ n3_ n4_ n5_ n6_
                          obtain ⟨Ao125, co125, eo125⟩ := Kd.R_slice HO_8.out
                          (first | subst eo125 | (injection eo125 with f1_ f2_ f3_; have f4_ := f1_.symm; have f5_ := f3_.symm; clear f1_ f2_ f3_; subst f4_; subst f5_))
                          have p284 : 0 ≤ (x278000_4 : Int) := od_
                          have q284 : x278000_4 < (x8_2.length : Int) := od_
                          obtain ⟨ad284, e284, hx284_0⟩ := Kd.at_int (Kd.R_reads' HO_8.out).2.2 x278000_4 p284 q284
                          cases e284
                          replace p284 := eq_true p284
                          replace q284 := eq_true q284
                          have p285 : 0 ≤ (x278000_4 : Int) := od_
                          have q285 : x278000_4 < (x8_2.length : Int) := od_
                          obtain ⟨ad285, e285, hx285_0⟩ := Kd.at_int (Kd.R_reads' HO_8.out).2.2 x278000_4 p285 q285
                          obtain rfl : ad284 = ad285 := (by injection e285)
                          replace p285 := eq_true p285
                          replace q285 := eq_true q285
                          refine start_ (n := 37) (S := fun w' => w'.cell? ⟨gb277, 0, none⟩ = some (.int .i64 x278000_4) ∧ w'.cell? ⟨gb277, 1, none⟩ = some (u278001) ∧ w'.cell? ⟨gb261, 0, none⟩ = some (.int .i64 a0_0) ∧ w'.cell? ⟨gb261, 1, none⟩ = some (.slice A0_1 l0_1.length c0_1) ∧ w'.cell? ⟨gb272, 0, none⟩ = some (.int .i64 t264) ∧ w'.cell? ⟨gb272, 1, none⟩ = some (.slice Ao31 t265.length co31) ∧ w'.cell? (ad284.add (x278000_4).toNat) = some (.int .i64 (rd x8_2 x278000_4)) ∧ w'.cell? (ad284.add (x278000_4).toNat) = some (.int .i64 (rd x8_2 x278000_4))) (ds := []) #[false, false, false, false, false, false, false, false, false, false, false, false, false, false, false, false, false, false, false, false, false, false, false, false, false, false, false, false, false, false, false, false, false, false, false, false, false] (by kernel_rfl) rfl rfl ⟨(blk_cell BK277.out 0).trans rfl, (blk_cell BK277.out 1).trans rfl, (blk_cell BK261.out 0).trans rfl, (blk_cell BK261.out 1).trans rfl, (blk_cell BK272.out 0).trans rfl, (blk_cell BK272.out 1).trans rfl, hx284_0, hx285_0⟩ (fun hHeld => ?_); refine with_tabW standstilllaw08_PairRuns.tab21 standstilllaw08_PairRuns.bits21 (fun HT_ HW_ => ?_)
                          generalize wr.drew = w124 at HO_8 HO_273001 BK261 BK272 BK277 HB hx284_0 hx285_0 hHeld ⊢
                          refine pure_ (i := 0) (N := some 106) (v := ?_) (a' := ?_) #[true, false, false, false, false, false, false, false, false, false, false, false, false, false, false, false, false, false, false, false, false, false, false, false, false, false, false, false, false, false, false, false, false, false, false, false, false] rfl rfl (any_of HT_.out (by kernel_rfl)) (fun _ _ _ h => h) (Or.inl ⟨by rfl, ?_⟩) ?_ ?_
                          rotate_left
                          ·intro w'
                           go_simp
                           with_reducible rfl
                          rotate_left
                          ·simp only [Act.put, sa_, sz_, ss_, i64_w, i32_w]
                           rfl
                          refine take_ (i := 1) (N := some 107) (v := ?_) (a' := ?_) #[true, true, false, false, false, false, false, false, false, false, false, false, false, false, false, false, false, false, false, false, false, false, false, false, false, false, false, false, false, false, false, false, false, false, false, false, false] rfl rfl (take_ofW HT_.out HW_.out (by kernel_rfl)) (fun _ _ _ h => h) (Or.inl ⟨by rfl, ?_⟩) hHeld ?_ ?_
                          rotate_left
                          ·rintro w' ⟨s0, s1, s2, s3, s4, s5, s6, s7⟩
                           go_simp
                           with_reducible rfl
                          rotate_left
                          ·simp only [Act.put, sa_, sz_, ss_, i64_w, i32_w]
                           rfl
                          refine pure_ (i := 2) (N := some 108) (v := ?_) (a' := ?_) #[true, true, true, false, false, false, false, false, false, false, false, false, false, false, false, false, false, false, false, false, false, false, false, false, false, false, false, false, false, false, false, false, false, false, false, false, false] rfl rfl (any_of HT_.out (by kernel_rfl)) (fun _ _ _ h => h) (Or.inl ⟨by rfl, ?_⟩) ?_ ?_
                          rotate_left
                          ·intro w'
                           go_simp
                           with_reducible rfl
                          rotate_left
                          ·simp only [Act.put, sa_, sz_, ss_, i64_w, i32_w]
                           rfl
                          refine pure_ (i := 3) (N := some 109) (v := ?_) (a' := ?_) #[true, true, true, true, false, false, false, false, false, false, false, false, false, false, false, false, false, false, false, false, false, false, false, false, false, false, false, false, false, false, false, false, false, false, false, false, false] rfl rfl (any_of HT_.out (by kernel_rfl)) (fun _ _ _ h => h) (Or.inl ⟨by rfl, ?_⟩) ?_ ?_
                          rotate_left
                          ·intro w'
                           go_simp
                           with_reducible rfl
                          rotate_left
                          ·simp only [Act.put, sa_, sz_, ss_, i64_w, i32_w]
                           rfl
                          refine pure_ (i := 4) (N := some 110) (v := ?_) (a' := ?_) #[true, true, true, true, true, false, false, false, false, false, false, false, false, false, false, false, false, false, false, false, false, false, false, false, false, false, false, false, false, false, false, false, false, false, false, false, false] rfl rfl (any_of HT_.out (by kernel_rfl)) (fun _ _ _ h => h) (Or.inl ⟨by rfl, ?_⟩) ?_ ?_
                          rotate_left
                          ·intro w'
                           go_simp
                           with_reducible rfl
                          rotate_left
                          ·simp only [Act.put, sa_, sz_, ss_, i64_w, i32_w]
                           rfl
                          refine pure_ (i := 6) (N := some 112) (v := ?_) (a' := ?_) #[true, true, true, true, true, false, true, false, false, false, false, false, false, false, false, false, false, false, false, false, false, false, false, false, false, false, false, false, false, false, false, false, false, false, false, false, false] rfl rfl (any_of HT_.out (by kernel_rfl)) (fun _ _ _ h => h) (Or.inl ⟨by rfl, ?_⟩) ?_ ?_
                          rotate_left
                          ·intro w'
                           go_simp
                           with_reducible rfl
                          rotate_left
                          ·simp only [Act.put, sa_, sz_, ss_, i64_w, i32_w]
                           rfl
                          refine pure_ (i := 7) (N := some 113) (v := ?_) (a' := ?_) #[true, true, true, true, true, false, true, true, false, false, false, false, false, false, false, false, false, false, false, false, false, false, false, false, false, false, false, false, false, false, false, false, false, false, false, false, false] rfl rfl (any_of HT_.out (by kernel_rfl)) (fun _ _ _ h => h) (Or.inl ⟨by rfl, ?_⟩) ?_ ?_
                          rotate_left
                          ·intro w'
                           go_simp
                           with_reducible rfl
                          rotate_left
                          ·simp only [Act.put, sa_, sz_, ss_, i64_w, i32_w]
                           rfl
                          refine take_ (i := 5) (N := some 111) (v := ?_) (a' := ?_) #[true, true, true, true, true, true, true, true, false, false, false, false, false, false, false, false, false, false, false, false, false, false, false, false, false, false, false, false, false, false, false, false, false, false, false, false, false] rfl rfl (take_ofW HT_.out HW_.out (by kernel_rfl)) (fun _ _ _ h => h) (Or.inl ⟨by rfl, ?_⟩) hHeld ?_ ?_
                          rotate_left
                          ·rintro w' ⟨s0, s1, s2, s3, s4, s5, s6, s7⟩
                           go_simp
                           with_reducible rfl
                          rotate_left
                          ·simp only [Act.put, sa_, sz_, ss_, i64_w, i32_w]
                           rfl
                          refine pure_ (i := 8) (N := some 114) (v := ?_) (a' := ?_) #[true, true, true, true, true, true, true, true, true, false, false, false, false, false, false, false, false, false, false, false, false, false, false, false, false, false, false, false, false, false, false, false, false, false, false, false, false] rfl rfl (any_of HT_.out (by kernel_rfl)) (fun _ _ _ h => h) (Or.inl ⟨by rfl, ?_⟩) ?_ ?_
                          rotate_left
                          ·intro w'
                           go_simp
                           with_reducible rfl
                          rotate_left
                          ·simp only [Act.put, sa_, sz_, ss_, i64_w, i32_w]
                           rfl
                          refine pure_ (i := 9) (N := some 115) (v := ?_) (a' := ?_) #[true, true, true, true, true, true, true, true, true, true, false, false, false, false, false, false, false, false, false, false, false, false, false, false, false, false, false, false, false, false, false, false, false, false, false, false, false] rfl rfl (any_of HT_.out (by kernel_rfl)) (fun _ _ _ h => h) (Or.inl ⟨by rfl, ?_⟩) ?_ ?_
                          rotate_left
                          ·intro w'
                           go_simp
                           with_reducible rfl
                          rotate_left
                          ·simp only [Act.put, sa_, sz_, ss_, i64_w, i32_w]
                           rfl
                          refine pure_ (i := 10) (N := some 116) (v := ?_) (a' := ?_) #[true, true, true, true, true, true, true, true, true, true, true, false, false, false, false, false, false, false, false, false, false, false, false, false, false, false, false, false, false, false, false, false, false, false, false, false, false] rfl rfl (any_of HT_.out (by kernel_rfl)) (fun _ _ _ h => h) (Or.inl ⟨by rfl, ?_⟩) ?_ ?_
                          rotate_left
                          ·intro w'
                           go_simp
                           with_reducible rfl
                          rotate_left
                          ·simp only [Act.put, sa_, sz_, ss_, i64_w, i32_w]
                           rfl
                          refine pure_ (i := 11) (N := some 117) (v := ?_) (a' := ?_) #[true, true, true, true, true, true, true, true, true, true, true, true, false, false, false, false, false, false, false, false, false, false, false, false, false, false, false, false, false, false, false, false, false, false, false, false, false] rfl rfl (any_of HT_.out (by kernel_rfl)) (fun _ _ _ h => h) (Or.inl ⟨by rfl, ?_⟩) ?_ ?_
                          rotate_left
                          ·intro w'
                           go_simp
                           with_reducible rfl
                          rotate_left
                          ·simp only [Act.put, sa_, sz_, ss_, i64_w, i32_w]
                           rfl
                          refine pure_ (i := 13) (N := some 119) (v := ?_) (a' := ?_) #[true, true, true, true, true, true, true, true, true, true, true, true, false, true, false, false, false, false, false, false, false, false, false, false, false, false, false, false, false, false, false, false, false, false, false, false, false] rfl rfl (any_of HT_.out (by kernel_rfl)) (fun _ _ _ h => h) (Or.inl ⟨by rfl, ?_⟩) ?_ ?_
                          rotate_left
                          ·intro w'
                           go_simp
                           with_reducible rfl
                          rotate_left
                          ·simp only [Act.put, sa_, sz_, ss_, i64_w, i32_w]
                           rfl
                          refine take_ (i := 12) (N := some 118) (v := ?_) (a' := ?_) #[true, true, true, true, true, true, true, true, true, true, true, true, true, true, false, false, false, false, false, false, false, false, false, false, false, false, false, false, false, false, false, false, false, false, false, false, false] rfl rfl (take_ofW HT_.out HW_.out (by kernel_rfl)) (fun _ _ _ h => h) (Or.inl ⟨by rfl, ?_⟩) hHeld ?_ ?_
                          rotate_left
                          ·rintro w' ⟨s0, s1, s2, s3, s4, s5, s6, s7⟩
                           go_simp
                           with_reducible rfl
                          rotate_left
                          ·simp only [Act.put, sa_, sz_, ss_, i64_w, i32_w]
                           rfl
                          refine take_ (i := 14) (N := some 120) (v := ?_) (a' := ?_) #[true, true, true, true, true, true, true, true, true, true, true, true, true, true, true, false, false, false, false, false, false, false, false, false, false, false, false, false, false, false, false, false, false, false, false, false, false] rfl rfl (take_ofW HT_.out HW_.out (by kernel_rfl)) (fun _ _ _ h => h) (Or.inl ⟨by rfl, ?_⟩) hHeld ?_ ?_
                          rotate_left
                          ·rintro w' ⟨s0, s1, s2, s3, s4, s5, s6, s7⟩
                           go_simp
                           with_reducible rfl
                          rotate_left
                          ·simp only [Act.put, sa_, sz_, ss_, i64_w, i32_w]
                           rfl
                          refine pure_ (i := 15) (N := some 121) (v := ?_) (a' := ?_) #[true, true, true, true, true, true, true, true, true, true, true, true, true, true, true, true, false, false, false, false, false, false, false, false, false, false, false, false, false, false, false, false, false, false, false, false, false] rfl rfl (any_of HT_.out (by kernel_rfl)) (fun _ _ _ h => h) (Or.inl ⟨by rfl, ?_⟩) ?_ ?_
                          rotate_left
                          ·intro w'
                           go_simp
                           with_reducible rfl
                          rotate_left
                          ·simp only [Act.put, sa_, sz_, ss_, i64_w, i32_w]
                           rfl
                          refine pure_ (i := 16) (N := some 122) (v := ?_) (a' := ?_) #[true, true, true, true, true, true, true, true, true, true, true, true, true, true, true, true, true, false, false, false, false, false, false, false, false, false, false, false, false, false, false, false, false, false, false, false, false] rfl rfl (any_of HT_.out (by kernel_rfl)) (fun _ _ _ h => h) (Or.inl ⟨by rfl, ?_⟩) ?_ ?_
                          rotate_left
                          ·intro w'
                           go_simp
                           with_reducible rfl
                          rotate_left
                          ·simp only [Act.put, sa_, sz_, ss_, i64_w, i32_w]
                           rfl
                          refine pure_ (i := 17) (N := some 123) (v := ?_) (a' := ?_) #[true, true, true, true, true, true, true, true, true, true, true, true, true, true, true, true, true, true, false, false, false, false, false, false, false, false, false, false, false, false, false, false, false, false, false, false, false] rfl rfl (any_of HT_.out (by kernel_rfl)) (fun _ _ _ h => h) (Or.inl ⟨by rfl, ?_⟩) ?_ ?_
                          rotate_left
                          ·intro w'
                           go_simp
                           with_reducible rfl
                          rotate_left
                          ·simp only [Act.put, sa_, sz_, ss_, i64_w, i32_w]
                           rfl
                          refine pure_ (i := 18) (N := some 124) (v := ?_) (a' := ?_) #[true, true, true, true, true, true, true, true, true, true, true, true, true, true, true, true, true, true, true, false, false, false, false, false, false, false, false, false, false, false, false, false, false, false, false, false, false] rfl rfl (any_of HT_.out (by kernel_rfl)) (fun _ _ _ h => h) (Or.inl ⟨by rfl, ?_⟩) ?_ ?_
                          rotate_left
                          ·intro w'
                           go_simp
                           with_reducible rfl
                          rotate_left
                          ·simp only [Act.put, sa_, sz_, ss_, i64_w, i32_w]
                           rfl
                          refine pure_ (i := 19) (N := some 125) (v := ?_) (a' := ?_) #[true, true, true, true, true, true, true, true, true, true, true, true, true, true, true, true, true, true, true, true, false, false, false, false, false, false, false, false, false, false, false, false, false, false, false, false, false] rfl rfl (any_of HT_.out (by kernel_rfl)) (fun _ _ _ h => h) (Or.inl ⟨by rfl, ?_⟩) ?_ ?_
                          rotate_left
                          ·intro w'
                           go_simp
                           with_reducible rfl
                          rotate_left
                          ·simp only [Act.put, sa_, sz_, ss_, i64_w, i32_w]
                           rfl
                          refine pure_ (i := 20) (N := some 126) (v := ?_) (a' := ?_) #[true, true, true, true, true, true, true, true, true, true, true, true, true, true, true, true, true, true, true, true, true, false, false, false, false, false, false, false, false, false, false, false, false, false, false, false, false] rfl rfl (any_of HT_.out (by kernel_rfl)) (fun _ _ _ h => h) (Or.inl ⟨by rfl, ?_⟩) ?_ ?_
                          rotate_left
                          ·intro w'
                           go_simp
                           with_reducible rfl
                          rotate_left
                          ·simp only [Act.put, sa_, sz_, ss_, i64_w, i32_w]
                           rfl
                          refine take_ (i := 21) (N := some 127) (v := ?_) (a' := ?_) #[true, true, true, true, true, true, true, true, true, true, true, true, true, true, true, true, true, true, true, true, true, true, false, false, false, false, false, false, false, false, false, false, false, false, false, false, false] rfl rfl (take_ofW HT_.out HW_.out (by kernel_rfl)) (fun _ _ _ h => h) (Or.inl ⟨by rfl, ?_⟩) hHeld ?_ ?_
                          rotate_left
                          ·rintro w' ⟨s0, s1, s2, s3, s4, s5, s6, s7⟩
                           go_simp
                           with_reducible rfl
                          rotate_left
                          ·simp only [Act.put, sa_, sz_, ss_, i64_w, i32_w]
                           rfl
                          refine pure_ (i := 22) (N := some 128) (v := ?_) (a' := ?_) #[true, true, true, true, true, true, true, true, true, true, true, true, true, true, true, true, true, true, true, true, true, true, true, false, false, false, false, false, false, false, false, false, false, false, false, false, false] rfl rfl (any_of HT_.out (by kernel_rfl)) (fun _ _ _ h => h) (Or.inl ⟨by rfl, ?_⟩) ?_ ?_
                          rotate_left
                          ·intro w'
                           go_simp
                           with_reducible rfl
                          rotate_left
                          ·simp only [Act.put, sa_, sz_, ss_, i64_w, i32_w]
                           rfl
                          refine take_ (i := 23) (N := some 129) (v := ?_) (a' := ?_) #[true, true, true, true, true, true, true, true, true, true, true, true, true, true, true, true, true, true, true, true, true, true, true, true, false, false, false, false, false, false, false, false, false, false, false, false, false] rfl rfl (take_ofW HT_.out HW_.out (by kernel_rfl)) (fun _ _ _ h => h) (Or.inl ⟨by rfl, ?_⟩) hHeld ?_ ?_
                          rotate_left
                          ·rintro w' ⟨s0, s1, s2, s3, s4, s5, s6, s7⟩
                           go_simp
                           with_reducible rfl
                          rotate_left
                          ·simp only [Act.put, sa_, sz_, ss_, i64_w, i32_w]
                           rfl
                          refine pure_ (i := 24) (N := some 130) (v := ?_) (a' := ?_) #[true, true, true, true, true, true, true, true, true, true, true, true, true, true, true, true, true, true, true, true, true, true, true, true, true, false, false, false, false, false, false, false, false, false, false, false, false] rfl rfl (any_of HT_.out (by kernel_rfl)) (fun _ _ _ h => h) (Or.inl ⟨by rfl, ?_⟩) ?_ ?_
                          rotate_left
                          ·intro w'
                           go_simp
                           with_reducible rfl
                          rotate_left
                          ·simp only [Act.put, sa_, sz_, ss_, i64_w, i32_w]
                           rfl
                          refine pure_ (i := 25) (N := some 131) (v := ?_) (a' := ?_) #[true, true, true, true, true, true, true, true, true, true, true, true, true, true, true, true, true, true, true, true, true, true, true, true, true, true, false, false, false, false, false, false, false, false, false, false, false] rfl rfl (any_of HT_.out (by kernel_rfl)) (fun _ _ _ h => h) (Or.inl ⟨by rfl, ?_⟩) ?_ ?_
                          rotate_left
                          ·intro w'
                           go_simp
                           with_reducible rfl
                          rotate_left
                          ·simp only [Act.put, sa_, sz_, ss_, i64_w, i32_w]
                           rfl
                          refine pure_ (i := 26) (N := some 132) (v := ?_) (a' := ?_) #[true, true, true, true, true, true, true, true, true, true, true, true, true, true, true, true, true, true, true, true, true, true, true, true, true, true, true, false, false, false, false, false, false, false, false, false, false] rfl rfl (any_of HT_.out (by kernel_rfl)) (fun _ _ _ h => h) (Or.inl ⟨by rfl, ?_⟩) ?_ ?_
                          rotate_left
                          ·intro w'
                           go_simp
                           with_reducible rfl
                          rotate_left
                          ·simp only [Act.put, sa_, sz_, ss_, i64_w, i32_w]
                           rfl
                          refine pure_ (i := 27) (N := some 133) (v := ?_) (a' := ?_) #[true, true, true, true, true, true, true, true, true, true, true, true, true, true, true, true, true, true, true, true, true, true, true, true, true, true, true, true, false, false, false, false, false, false, false, false, false] rfl rfl (any_of HT_.out (by kernel_rfl)) (fun _ _ _ h => h) (Or.inl ⟨by rfl, ?_⟩) ?_ ?_
                          rotate_left
                          ·intro w'
                           go_simp
                           with_reducible rfl
                          rotate_left
                          ·simp only [Act.put, sa_, sz_, ss_, i64_w, i32_w]
                           rfl
                          refine pure_ (i := 28) (N := some 134) (v := ?_) (a' := ?_) #[true, true, true, true, true, true, true, true, true, true, true, true, true, true, true, true, true, true, true, true, true, true, true, true, true, true, true, true, true, false, false, false, false, false, false, false, false] rfl rfl (any_of HT_.out (by kernel_rfl)) (fun _ _ _ h => h) (Or.inl ⟨by rfl, ?_⟩) ?_ ?_
                          rotate_left
                          ·intro w'
                           go_simp
                           with_reducible rfl
                          rotate_left
                          ·simp only [Act.put, sa_, sz_, ss_, i64_w, i32_w]
                           rfl
                          refine pure_ (i := 32) (N := some 138) (v := ?_) (a' := ?_) #[true, true, true, true, true, true, true, true, true, true, true, true, true, true, true, true, true, true, true, true, true, true, true, true, true, true, true, true, true, false, false, false, true, false, false, false, false] rfl rfl (any_of HT_.out (by kernel_rfl)) (fun _ _ _ h => h) (Or.inl ⟨by rfl, ?_⟩) ?_ ?_
                          rotate_left
                          ·intro w'
                           go_simp
                           with_reducible rfl
                          rotate_left
                          ·simp only [Act.put, sa_, sz_, ss_, i64_w, i32_w]
                           rfl
                          refine take_ (i := 29) (N := some 135) (v := ?_) (a' := ?_) #[true, true, true, true, true, true, true, true, true, true, true, true, true, true, true, true, true, true, true, true, true, true, true, true, true, true, true, true, true, true, false, false, true, false, false, false, false] rfl rfl (take_ofW HT_.out HW_.out (by kernel_rfl)) (fun _ _ _ h => h) (Or.inl ⟨by rfl, ?_⟩) hHeld ?_ ?_
                          rotate_left
                          ·rintro w' ⟨s0, s1, s2, s3, s4, s5, s6, s7⟩
                           go_simp
                           with_reducible rfl
                          rotate_left
                          ·simp only [Act.put, sa_, sz_, ss_, i64_w, i32_w]
                           rfl
                          refine pure_ (i := 30) (N := some 136) (v := ?_) (a' := ?_) #[true, true, true, true, true, true, true, true, true, true, true, true, true, true, true, true, true, true, true, true, true, true, true, true, true, true, true, true, true, true, true, false, true, false, false, false, false] rfl rfl (any_of HT_.out (by kernel_rfl)) (fun _ _ _ h => h) (Or.inl ⟨by rfl, ?_⟩) ?_ ?_
                          rotate_left
                          ·intro w'
                           go_simp
                           with_reducible rfl
                          rotate_left
                          ·simp only [Act.put, sa_, sz_, ss_, i64_w, i32_w]
                           rfl
                          refine take_ (i := 31) (N := some 137) (v := ?_) (a' := ?_) #[true, true, true, true, true, true, true, true, true, true, true, true, true, true, true, true, true, true, true, true, true, true, true, true, true, true, true, true, true, true, true, true, true, false, false, false, false] rfl rfl (take_ofW HT_.out HW_.out (by kernel_rfl)) (fun _ _ _ h => h) (Or.inl ⟨by rfl, ?_⟩) hHeld ?_ ?_
                          rotate_left
                          ·rintro w' ⟨s0, s1, s2, s3, s4, s5, s6, s7⟩
                           go_simp
                           with_reducible rfl
                          rotate_left
                          ·simp only [Act.put, sa_, sz_, ss_, i64_w, i32_w]
                           rfl
                          refine take_ (i := 33) (N := some 139) (v := ?_) (a' := ?_) #[true, true, true, true, true, true, true, true, true, true, true, true, true, true, true, true, true, true, true, true, true, true, true, true, true, true, true, true, true, true, true, true, true, true, false, false, false] rfl rfl (take_ofW HT_.out HW_.out (by kernel_rfl)) (fun _ _ _ h => h) (Or.inl ⟨by rfl, ?_⟩) hHeld ?_ ?_
                          rotate_left
                          ·rintro w' ⟨s0, s1, s2, s3, s4, s5, s6, s7⟩
                           go_simp
                           with_reducible rfl
                          rotate_left
                          ·simp only [Act.put, sa_, sz_, ss_, i64_w, i32_w]
                           rfl
                          refine pure_ (i := 34) (N := some 140) (v := ?_) (a' := ?_) #[true, true, true, true, true, true, true, true, true, true, true, true, true, true, true, true, true, true, true, true, true, true, true, true, true, true, true, true, true, true, true, true, true, true, true, false, false] rfl rfl (any_of HT_.out (by kernel_rfl)) (fun _ _ _ h => h) (Or.inl ⟨by rfl, ?_⟩) ?_ ?_
                          rotate_left
                          ·intro w'
                           go_simp
                           with_reducible rfl
                          rotate_left
                          ·simp only [Act.put, sa_, sz_, ss_, i64_w, i32_w]
                           rfl
                          refine pure_ (i := 35) (N := some 141) (v := ?_) (a' := ?_) #[true, true, true, true, true, true, true, true, true, true, true, true, true, true, true, true, true, true, true, true, true, true, true, true, true, true, true, true, true, true, true, true, true, true, true, true, false] rfl rfl (any_of HT_.out (by kernel_rfl)) (fun _ _ _ h => h) (Or.inl ⟨by rfl, ?_⟩) ?_ ?_
                          rotate_left
                          ·intro w'
                           go_simp
                           with_reducible rfl
                          rotate_left
                          ·simp only [Act.put, sa_, sz_, ss_, i64_w, i32_w]
                           rfl
                          refine pure_ (i := 36) (N := some 142) (v := ?_) (a' := ?_) #[true, true, true, true, true, true, true, true, true, true, true, true, true, true, true, true, true, true, true, true, true, true, true, true, true, true, true, true, true, true, true, true, true, true, true, true, true] rfl rfl (any_of HT_.out (by kernel_rfl)) (fun _ _ _ h => h) (Or.inl ⟨by rfl, ?_⟩) ?_ ?_
                          rotate_left
                          ·intro w'
                           go_simp
                           with_reducible rfl
                          rotate_left
                          ·simp only [Act.put, sa_, sz_, ss_, i64_w, i32_w]
                           rfl
                          refine done_ (done_of HT_.out (by kernel_rfl)) ?_
                          try go_wp2
                          have n0_ := A_ (Kd.R_drew HO_8.out)
                          have n1_ := A_ (Kd.R_drew HO_273001.out)
                          have n3_ := A_ (blk_drew BK261.out)
                          have n4_ := A_ (blk_drew BK272.out)
                          have n5_ := A_ (blk_drew BK277.out)
                          have n6_ := A_ (below_drew1 HB.out)
                          clear HO_8 HO_273001 BK261 BK272 BK277 HB
                          have HO_8 := n0_
                          have HO_273001 := n1_
                          have BK261 := n3_
                          have BK272 := n4_
                          have BK277 := n5_
                          have HB := n6_
                          clear n0_ n1_ n3_ n4_ n5_ n6_
                          have p286 : 0 ≤ (x278000_4 : Int) := od_
                          have q286 : x278000_4 < (l0_1.length : Int) := od_
                          obtain ⟨ad286, e286, hx286_0, hx286_1, hx286_2, hx286_3⟩ := at_T45 HR0_1.out x278000_4 p286 q286
                          have hw286_3 := hx286_3
                          have hw286_2 := hx286_2
                          have hw286_1 := hx286_1
                          have hw286_0 := hx286_0
                          cases e286
                          replace hx286_0 := lf_ HB.out hx286_0
                          replace hx286_1 := lf_ HB.out hx286_1
                          replace hx286_2 := lf_ HB.out hx286_2
                          replace hx286_3 := lf_ HB.out hx286_3
                          replace p286 := eq_true p286
                          replace q286 := eq_true q286
                          have p287 : 0 ≤ (x278000_4 : Int) := od_
                          have q287 : x278000_4 < (x8_2.length : Int) := od_
                          obtain ⟨ad287, e287, hx287_0⟩ := Kd.at_int (Kd.R_reads' HO_8.out).2.2 x278000_4 p287 q287
                          obtain rfl : ad284 = ad287 := (by injection e287)
                          replace p287 := eq_true p287
                          replace q287 := eq_true q287
                          have p288 : 0 ≤ ((rd x8_2 x278000_4) : Int) := od_
                          have q288 : (rd x8_2 x278000_4) < (t265.length : Int) := od_
                          obtain ⟨ad288, e288, hx288_0, hx288_1, hx288_2, hx288_3⟩ := at_T45 (Kd.R_reads' HO_273001.out).2.2 (rd x8_2 x278000_4) p288 q288
                          cases e288
                          replace p288 := eq_true p288
                          replace q288 := eq_true q288
                          refine start_ (n := 24) (S := fun w' => w'.cell? ⟨gb261, 0, none⟩ = some (.int .i64 a0_0) ∧ w'.cell? ⟨gb261, 1, none⟩ = some (.slice (some ad286) l0_1.length c0_1) ∧ w'.cell? ⟨gb277, 0, none⟩ = some (.int .i64 x278000_4) ∧ w'.cell? ⟨gb277, 1, none⟩ = some (u278001) ∧ w'.cell? ⟨gb272, 0, none⟩ = some (.int .i64 t264) ∧ w'.cell? ⟨gb272, 1, none⟩ = some (.slice (some ad288) t265.length co31) ∧ w'.cell? (ad286.add ((x278000_4).toNat * 4)) = some (.int .i64 ((rd_T45 l0_1 x278000_4).f0)) ∧ w'.cell? ⟨(ad286.add ((x278000_4).toNat * 4)).block, (ad286.add ((x278000_4).toNat * 4)).off + 1, none⟩ = some (.int .i64 ((rd_T45 l0_1 x278000_4).f1)) ∧ w'.cell? ⟨(ad286.add ((x278000_4).toNat * 4)).block, (ad286.add ((x278000_4).toNat * 4)).off + 2, none⟩ = some (.int .i64 ((rd_T45 l0_1 x278000_4).f2)) ∧ w'.cell? ⟨(ad286.add ((x278000_4).toNat * 4)).block, (ad286.add ((x278000_4).toNat * 4)).off + 3, none⟩ = some (.int .i64 ((rd_T45 l0_1 x278000_4).f3)) ∧ w'.cell? (ad284.add (x278000_4).toNat) = some (.int .i64 (rd x8_2 x278000_4)) ∧ w'.cell? (ad288.add (((rd x8_2 x278000_4)).toNat * 4)) = some (.int .i64 ((rd_T45 t265 (rd x8_2 x278000_4)).f0)) ∧ w'.cell? ⟨(ad288.add (((rd x8_2 x278000_4)).toNat * 4)).block, (ad288.add (((rd x8_2 x278000_4)).toNat * 4)).off + 1, none⟩ = some (.int .i64 ((rd_T45 t265 (rd x8_2 x278000_4)).f1)) ∧ w'.cell? ⟨(ad288.add (((rd x8_2 x278000_4)).toNat * 4)).block, (ad288.add (((rd x8_2 x278000_4)).toNat * 4)).off + 2, none⟩ = some (.int .i64 ((rd_T45 t265 (rd x8_2 x278000_4)).f2)) ∧ w'.cell? ⟨(ad288.add (((rd x8_2 x278000_4)).toNat * 4)).block, (ad288.add (((rd x8_2 x278000_4)).toNat * 4)).off + 3, none⟩ = some (.int .i64 ((rd_T45 t265 (rd x8_2 x278000_4)).f3))) (ds := []) #[false, false, false, false, false, false, false, false, false, false, false, false, false, false, false, false, false, false, false, false, false, false, false, false] (by kernel_rfl) rfl rfl ⟨(blk_cell BK261.out 0).trans rfl, (blk_cell BK261.out 1).trans rfl, (blk_cell BK277.out 0).trans rfl, (blk_cell BK277.out 1).trans rfl, (blk_cell BK272.out 0).trans rfl, (blk_cell BK272.out 1).trans rfl, ((HB.out.cell (World.block_lt_of_cell? w _ hw286_0)).trans hw286_0), ((HB.out.cell (World.block_lt_of_cell? w _ hw286_1)).trans hw286_1), ((HB.out.cell (World.block_lt_of_cell? w _ hw286_2)).trans hw286_2), ((HB.out.cell (World.block_lt_of_cell? w _ hw286_3)).trans hw286_3), hx287_0, hx288_0, hx288_1, hx288_2, hx288_3⟩ (fun hHeld => ?_); refine with_tabW standstilllaw08_PairRuns.tab23 standstilllaw08_PairRuns.bits23 (fun HT_ HW_ => ?_)
                          generalize w124.drew = w126 at BK261 BK272 BK277 HB hx286_0 hx286_1 hx286_2 hx286_3 hx287_0 hx288_0 hx288_1 hx288_2 hx288_3 hHeld ⊢
                          refine pure_ (i := 0) (N := some 143) (v := ?_) (a' := ?_) #[true, false, false, false, false, false, false, false, false, false, false, false, false, false, false, false, false, false, false, false, false, false, false, false] rfl rfl (any_of HT_.out (by kernel_rfl)) (fun _ _ _ h => h) (Or.inl ⟨by rfl, ?_⟩) ?_ ?_
                          rotate_left
                          ·intro w'
                           go_simp
                           with_reducible rfl
                          rotate_left
                          ·simp only [Act.put, sa_, sz_, ss_, i64_w, i32_w]
                           rfl
                          refine pure_ (i := 2) (N := some 145) (v := ?_) (a' := ?_) #[true, false, true, false, false, false, false, false, false, false, false, false, false, false, false, false, false, false, false, false, false, false, false, false] rfl rfl (any_of HT_.out (by kernel_rfl)) (fun _ _ _ h => h) (Or.inl ⟨by rfl, ?_⟩) ?_ ?_
                          rotate_left
                          ·intro w'
                           go_simp
                           with_reducible rfl
                          rotate_left
                          ·simp only [Act.put, sa_, sz_, ss_, i64_w, i32_w]
                           rfl
                          refine pure_ (i := 8) (N := some 151) (v := ?_) (a' := ?_) #[true, false, true, false, false, false, false, false, true, false, false, false, false, false, false, false, false, false, false, false, false, false, false, false] rfl rfl (any_of HT_.out (by kernel_rfl)) (fun _ _ _ h => h) (Or.inl ⟨by rfl, ?_⟩) ?_ ?_
                          rotate_left
                          ·intro w'
                           go_simp
                           with_reducible rfl
                          rotate_left
                          ·simp only [Act.put, sa_, sz_, ss_, i64_w, i32_w]
                           rfl
                          refine pure_ (i := 10) (N := some 153) (v := ?_) (a' := ?_) #[true, false, true, false, false, false, false, false, true, false, true, false, false, false, false, false, false, false, false, false, false, false, false, false] rfl rfl (any_of HT_.out (by kernel_rfl)) (fun _ _ _ h => h) (Or.inl ⟨by rfl, ?_⟩) ?_ ?_
                          rotate_left
                          ·intro w'
                           go_simp
                           with_reducible rfl
                          rotate_left
                          ·simp only [Act.put, sa_, sz_, ss_, i64_w, i32_w]
                           rfl
                          refine pure_ (i := 11) (N := some 154) (v := ?_) (a' := ?_) #[true, false, true, false, false, false, false, false, true, false, true, true, false, false, false, false, false, false, false, false, false, false, false, false] rfl rfl (any_of HT_.out (by kernel_rfl)) (fun _ _ _ h => h) (Or.inl ⟨by rfl, ?_⟩) ?_ ?_
                          rotate_left
                          ·intro w'
                           go_simp
                           with_reducible rfl
                          rotate_left
                          ·simp only [Act.put, sa_, sz_, ss_, i64_w, i32_w]
                           rfl
                          refine take_ (i := 1) (N := some 144) (v := ?_) (a' := ?_) #[true, true, true, false, false, false, false, false, true, false, true, true, false, false, false, false, false, false, false, false, false, false, false, false] rfl rfl (take_ofW HT_.out HW_.out (by kernel_rfl)) (fun _ _ _ h => h) (Or.inl ⟨by rfl, ?_⟩) hHeld ?_ ?_
                          rotate_left
                          ·rintro w' ⟨s0, s1, s2, s3, s4, s5, s6, s7, s8, s9, s10, s11, s12, s13, s14⟩
                           go_simp
                           with_reducible rfl
                          rotate_left
                          ·simp only [Act.put, sa_, sz_, ss_, i64_w, i32_w]
                           rfl
                          refine take_ (i := 3) (N := some 146) (v := ?_) (a' := ?_) #[true, true, true, true, false, false, false, false, true, false, true, true, false, false, false, false, false, false, false, false, false, false, false, false] rfl rfl (take_ofW HT_.out HW_.out (by kernel_rfl)) (fun _ _ _ h => h) (Or.inl ⟨by rfl, ?_⟩) hHeld ?_ ?_
                          rotate_left
                          ·rintro w' ⟨s0, s1, s2, s3, s4, s5, s6, s7, s8, s9, s10, s11, s12, s13, s14⟩
                           go_simp
                           with_reducible rfl
                          rotate_left
                          ·simp only [Act.put, sa_, sz_, ss_, i64_w, i32_w]
                           rfl
                          refine pure_ (i := 4) (N := some 147) (v := ?_) (a' := ?_) #[true, true, true, true, true, false, false, false, true, false, true, true, false, false, false, false, false, false, false, false, false, false, false, false] rfl rfl (any_of HT_.out (by kernel_rfl)) (fun _ _ _ h => h) (Or.inl ⟨by rfl, ?_⟩) ?_ ?_
                          rotate_left
                          ·intro w'
                           go_simp
                           with_reducible rfl
                          rotate_left
                          ·simp only [Act.put, sa_, sz_, ss_, i64_w, i32_w]
                           rfl
                          refine pure_ (i := 5) (N := some 148) (v := ?_) (a' := ?_) #[true, true, true, true, true, true, false, false, true, false, true, true, false, false, false, false, false, false, false, false, false, false, false, false] rfl rfl (any_of HT_.out (by kernel_rfl)) (fun _ _ _ h => h) (Or.inl ⟨by rfl, ?_⟩) ?_ ?_
                          rotate_left
                          ·intro w'
                           go_simp
                           with_reducible rfl
                          rotate_left
                          ·simp only [Act.put, sa_, sz_, ss_, i64_w, i32_w]
                           rfl
                          refine take_ (i := 6) (N := some 149) (v := ?_) (a' := ?_) #[true, true, true, true, true, true, true, false, true, false, true, true, false, false, false, false, false, false, false, false, false, false, false, false] rfl rfl (take_ofW HT_.out HW_.out (by kernel_rfl)) (fun _ _ _ h => h) (Or.inl ⟨by rfl, ?_⟩) hHeld ?_ ?_
                          rotate_left
                          ·rintro w' ⟨s0, s1, s2, s3, s4, s5, s6, s7, s8, s9, s10, s11, s12, s13, s14⟩
                           go_simp
                           with_reducible rfl
                          rotate_left
                          ·simp only [Act.put, sa_, sz_, ss_, i64_w, i32_w]
                           rfl
                          refine pure_ (i := 7) (N := some 150) (v := ?_) (a' := ?_) #[true, true, true, true, true, true, true, true, true, false, true, true, false, false, false, false, false, false, false, false, false, false, false, false] rfl rfl (any_of HT_.out (by kernel_rfl)) (fun _ _ _ h => h) (Or.inl ⟨by rfl, ?_⟩) ?_ ?_
                          rotate_left
                          ·intro w'
                           go_simp
                           with_reducible rfl
                          rotate_left
                          ·simp only [Act.put, sa_, sz_, ss_, i64_w, i32_w]
                           rfl
                          refine take_ (i := 9) (N := some 152) (v := ?_) (a' := ?_) #[true, true, true, true, true, true, true, true, true, true, true, true, false, false, false, false, false, false, false, false, false, false, false, false] rfl rfl (take_ofW HT_.out HW_.out (by kernel_rfl)) (fun _ _ _ h => h) (Or.inl ⟨by rfl, ?_⟩) hHeld ?_ ?_
                          rotate_left
                          ·rintro w' ⟨s0, s1, s2, s3, s4, s5, s6, s7, s8, s9, s10, s11, s12, s13, s14⟩
                           go_simp
                           with_reducible rfl
                          rotate_left
                          ·simp only [Act.put, sa_, sz_, ss_, i64_w, i32_w]
                           rfl
                          refine take_ (i := 12) (N := some 155) (v := ?_) (a' := ?_) #[true, true, true, true, true, true, true, true, true, true, true, true, true, false, false, false, false, false, false, false, false, false, false, false] rfl rfl (take_ofW HT_.out HW_.out (by kernel_rfl)) (fun _ _ _ h => h) (Or.inl ⟨by rfl, ?_⟩) hHeld ?_ ?_
                          rotate_left
                          ·rintro w' ⟨s0, s1, s2, s3, s4, s5, s6, s7, s8, s9, s10, s11, s12, s13, s14⟩
                           go_simp
                           with_reducible rfl
                          rotate_left
                          ·simp only [Act.put, sa_, sz_, ss_, i64_w, i32_w]
                           rfl
                          refine pure_ (i := 13) (N := some 156) (v := ?_) (a' := ?_) #[true, true, true, true, true, true, true, true, true, true, true, true, true, true, false, false, false, false, false, false, false, false, false, false] rfl rfl (any_of HT_.out (by kernel_rfl)) (fun _ _ _ h => h) (Or.inl ⟨by rfl, ?_⟩) ?_ ?_
                          rotate_left
                          ·intro w'
                           go_simp
                           with_reducible rfl
                          rotate_left
                          ·simp only [Act.put, sa_, sz_, ss_, i64_w, i32_w]
                           rfl
                          refine take_ (i := 14) (N := some 157) (v := ?_) (a' := ?_) #[true, true, true, true, true, true, true, true, true, true, true, true, true, true, true, false, false, false, false, false, false, false, false, false] rfl rfl (take_ofW HT_.out HW_.out (by kernel_rfl)) (fun _ _ _ h => h) (Or.inl ⟨by rfl, ?_⟩) hHeld ?_ ?_
                          rotate_left
                          ·rintro w' ⟨s0, s1, s2, s3, s4, s5, s6, s7, s8, s9, s10, s11, s12, s13, s14⟩
                           go_simp
                           with_reducible rfl
                          rotate_left
                          ·simp only [Act.put, sa_, sz_, ss_, i64_w, i32_w]
                           rfl
                          refine pure_ (i := 15) (N := some 158) (v := ?_) (a' := ?_) #[true, true, true, true, true, true, true, true, true, true, true, true, true, true, true, true, false, false, false, false, false, false, false, false] rfl rfl (any_of HT_.out (by kernel_rfl)) (fun _ _ _ h => h) (Or.inl ⟨by rfl, ?_⟩) ?_ ?_
                          rotate_left
                          ·intro w'
                           go_simp
                           with_reducible rfl
                          rotate_left
                          ·simp only [Act.put, sa_, sz_, ss_, i64_w, i32_w]
                           rfl
                          refine pure_ (i := 16) (N := some 159) (v := ?_) (a' := ?_) #[true, true, true, true, true, true, true, true, true, true, true, true, true, true, true, true, true, false, false, false, false, false, false, false] rfl rfl (any_of HT_.out (by kernel_rfl)) (fun _ _ _ h => h) (Or.inl ⟨by rfl, ?_⟩) ?_ ?_
                          rotate_left
                          ·intro w'
                           go_simp
                           with_reducible rfl
                          rotate_left
                          ·simp only [Act.put, sa_, sz_, ss_, i64_w, i32_w]
                           rfl
                          refine take_ (i := 17) (N := some 160) (v := ?_) (a' := ?_) #[true, true, true, true, true, true, true, true, true, true, true, true, true, true, true, true, true, true, false, false, false, false, false, false] rfl rfl (take_ofW HT_.out HW_.out (by kernel_rfl)) (fun _ _ _ h => h) (Or.inl ⟨by rfl, ?_⟩) hHeld ?_ ?_
                          rotate_left
                          ·rintro w' ⟨s0, s1, s2, s3, s4, s5, s6, s7, s8, s9, s10, s11, s12, s13, s14⟩
                           go_simp
                           with_reducible rfl
                          rotate_left
                          ·simp only [Act.put, sa_, sz_, ss_, i64_w, i32_w]
                           rfl
                          refine pure_ (i := 18) (N := some 161) (v := ?_) (a' := ?_) #[true, true, true, true, true, true, true, true, true, true, true, true, true, true, true, true, true, true, true, false, false, false, false, false] rfl rfl (any_of HT_.out (by kernel_rfl)) (fun _ _ _ h => h) (Or.inl ⟨by rfl, ?_⟩) ?_ ?_
                          rotate_left
                          ·intro w'
                           go_simp
                           with_reducible rfl
                          rotate_left
                          ·simp only [Act.put, sa_, sz_, ss_, i64_w, i32_w]
                           rfl
                          refine pure_ (i := 19) (N := some 162) (v := ?_) (a' := ?_) #[true, true, true, true, true, true, true, true, true, true, true, true, true, true, true, true, true, true, true, true, false, false, false, false] rfl rfl (any_of HT_.out (by kernel_rfl)) (fun _ _ _ h => h) (Or.inl ⟨by rfl, ?_⟩) ?_ ?_
                          rotate_left
                          ·intro w'
                           go_simp
                           with_reducible rfl
                          rotate_left
                          ·simp only [Act.put, sa_, sz_, ss_, i64_w, i32_w]
                           rfl
                          refine pure_ (i := 20) (N := some 163) (v := ?_) (a' := ?_) #[true, true, true, true, true, true, true, true, true, true, true, true, true, true, true, true, true, true, true, true, true, false, false, false] rfl rfl (any_of HT_.out (by kernel_rfl)) (fun _ _ _ h => h) (Or.inl ⟨by rfl, ?_⟩) ?_ ?_
                          rotate_left
                          ·intro w'
                           go_simp
                           with_reducible rfl
                          rotate_left
                          ·simp only [Act.put, sa_, sz_, ss_, i64_w, i32_w]
                           rfl
                          refine one_ (i := 21) (N := some 164) #[true, true, true, true, true, true, true, true, true, true, true, true, true, true, true, true, true, true, true, true, true, true, false, false] rfl rfl (one_of HT_.out (by kernel_rfl)) (by decide) (fun K hK => ?_)
                          refine goes_ Try.func7 (by kernel_rfl) rfl #[] (by rfl) rfl rfl gl_ ?_
                          with_reducible refine (standstilllaw08_awake.calls k4  t289 _ A123.out).mono ?_
                          rintro e w127 ⟨rfl, hb⟩
                          have HS10_ := (hb.cell (World.block_lt_of_cell? _ _ (hHeld.2.2.2.2.2.2.2.2.2.2.1))).trans (hHeld.2.2.2.2.2.2.2.2.2.2.1)
                          have HS11_ := (hb.cell (World.block_lt_of_cell? _ _ (hHeld.2.2.2.2.2.2.2.2.2.2.2.1))).trans (hHeld.2.2.2.2.2.2.2.2.2.2.2.1)
                          have HS12_ := (hb.cell (World.block_lt_of_cell? _ _ (hHeld.2.2.2.2.2.2.2.2.2.2.2.2.1))).trans (hHeld.2.2.2.2.2.2.2.2.2.2.2.2.1)
                          have HS13_ := (hb.cell (World.block_lt_of_cell? _ _ (hHeld.2.2.2.2.2.2.2.2.2.2.2.2.2.1))).trans (hHeld.2.2.2.2.2.2.2.2.2.2.2.2.2.1)
                          have HS14_ := (hb.cell (World.block_lt_of_cell? _ _ (hHeld.2.2.2.2.2.2.2.2.2.2.2.2.2.2))).trans (hHeld.2.2.2.2.2.2.2.2.2.2.2.2.2.2)
                          refine ⟨_, rfl, ?_⟩
                          have n3_ := A_ (blk_below (pk_ BK261.out) hb)
                          have n4_ := A_ (blk_below (pk_ BK272.out) hb)
                          have n5_ := A_ (blk_below (pk_ BK277.out) hb)
                          have n6_ := A_ (below_step (bk_ HB.out) hb)
                          clear BK261 BK272 BK277 HB
                          have BK261 := n3_
                          have BK272 := n4_
                          have BK277 := n5_
                          have HB := n6_
                          clear n3_ n4_ n5_ n6_
                          (try clear hb)
                          (try clear hb2)
                          (try clear hk)
                          (try clear hi)
                          refine hK.out _ _ ⟨(blk_cell BK261.out 0).trans rfl, (blk_cell BK261.out 1).trans rfl, (blk_cell BK277.out 0).trans rfl, (blk_cell BK277.out 1).trans rfl, (blk_cell BK272.out 0).trans rfl, (blk_cell BK272.out 1).trans rfl, ((HB.out.cell (World.block_lt_of_cell? w _ hw286_0)).trans hw286_0), ((HB.out.cell (World.block_lt_of_cell? w _ hw286_1)).trans hw286_1), ((HB.out.cell (World.block_lt_of_cell? w _ hw286_2)).trans hw286_2), ((HB.out.cell (World.block_lt_of_cell? w _ hw286_3)).trans hw286_3), HS10_, HS11_, HS12_, HS13_, HS14_⟩ (fun hHeld => ?_)
                          clear hK K
                          refine norm_ (a' := ?_) ?_ ?_
                          rotate_left
                          ·show Act.put _ (some 164) _ = _
                           simp only [Act.put, sa_, sz_, ss_, i64_w, i32_w]
                           rfl
                          refine pure_ (i := 22) (N := some 165) (v := ?_) (a' := ?_) #[true, true, true, true, true, true, true, true, true, true, true, true, true, true, true, true, true, true, true, true, true, true, true, false] rfl rfl (any_of HT_.out (by kernel_rfl)) (fun _ _ _ h => h) (Or.inl ⟨by rfl, ?_⟩) ?_ ?_
                          rotate_left
                          ·intro w'
                           go_simp
                           with_reducible rfl
                          rotate_left
                          ·simp only [Act.put, sa_, sz_, ss_, i64_w, i32_w]
                           rfl
                          refine pure_ (i := 23) (N := some 6) (v := ?_) (a' := ?_) #[true, true, true, true, true, true, true, true, true, true, true, true, true, true, true, true, true, true, true, true, true, true, true, true] rfl rfl (any_of HT_.out (by kernel_rfl)) (fun _ _ _ h => h) (Or.inl ⟨by rfl, ?_⟩) ?_ ?_
                          rotate_left
                          ·intro w'
                           go_simp
                           with_reducible rfl
                          rotate_left
                          ·simp only [Act.put, sa_, sz_, ss_, i64_w, i32_w]
                           rfl
                          refine done_ (done_of HT_.out (by kernel_rfl)) ?_
                          try go_wp2
                          go_ret
                          exact ⟨er_, bk_ HB.out⟩
                         ·rw [if_neg c122] at H
                          have c122b0 : ((((rd_T45 l0_1 x278000_4).f0) == 2) == (((rd_T45 t265 (rd x8_2 x278000_4)).f0) == 2)) = false := by simpa using c122
                          (try (have c122b1 : decide ((((rd_T45 l0_1 x278000_4).f0) == 2) = (((rd_T45 t265 (rd x8_2 x278000_4)).f0) == 2)) = false := by simpa using c122))
                          (try (have c122b2 : ((((rd_T45 l0_1 x278000_4).f0) == 2) == (((rd_T45 t265 (rd x8_2 x278000_4)).f0) == 2)) = false := by simpa using c122))
                          (try (have c122b3 : ¬ ((((rd_T45 l0_1 x278000_4).f0) == 2) = (((rd_T45 t265 (rd x8_2 x278000_4)).f0) == 2)) := by simpa using c122))
                          clear c122
                          exact absurd H (by simp)
                        ·rw [if_neg c121] at H
                         exact absurd H (by simp)
                       ·rw [if_neg c120] at H
                        exact absurd H (by simp)
                      ·rw [if_neg c119] at H
                       exact absurd H (by simp)
                   ·rw [if_neg c116] at H
                    exact absurd H (by simp)
                  ·rw [if_neg c115] at H
                   exact absurd H (by simp)
      ·rw [if_neg c25] at H
       exact absurd H (by simp)
     ·rw [if_neg c24] at H
      exact absurd H (by simp)
    ·rw [if_neg c23] at H
     have c23b0 : (t271 == 0) = false := beq_eq_false_iff_ne.mpr c23
     have c23b1 : (t271 != 0) = true := bne_iff_ne.mpr c23
     by_cases c128 : t271 = 4
     ·rw [if_pos c128] at H
      have c128b0 : (t271 == 4) = true := beq_iff_eq.mpr c128
      have c128b1 : (t271 != 4) = false := bne_eq_false_iff_eq.mpr c128
      clear c128
      replace H := Option.bind_eq_some_iff.mp H
      obtain ⟨t273, A1290, H⟩ := H
      replace H : (some t273) = some r := H
      have A129 := Aside0.mk A1290
      clear A1290
      obtain rfl := Option.some.inj H
      obtain ⟨hcz130_0, hcz130_1⟩ := bc2_ BK261.out
      have hfz130_0 := blk_frozen BK261.out 0
      have hfz130_1 := blk_frozen BK261.out 1
      go_wp2_with (first | ((with_reducible refine gate_callee (f := 14) rfl ?_); refine goesL_ (some 38) rfl rfl Try.func14 (by kernel_rfl) rfl #[.agg #[.int .i64 a0_0, .slice A0_1 l0_1.length c0_1]] rfl gl_ ?_; (with_reducible refine (pair_Two.calls kj3 a0_0 _ _ l0_1 t264 t265 t268 t271 _ ?side1 ?side2 A22.out).mono ?_); (case side1 => exact ck_ (Kd.C_below HR0_1.out HB.out)); (case side2 => exact HC0_1.out); rintro e w131 ⟨v266, v269, rfl, ho0, ho1, hb⟩; refine ⟨_, rfl, ?_⟩; have n0_ := A_ (Kd.R_lower ho0 (below_size (bk_ HB.out))); have n3_ := A_ (below_step (bk_ HB.out) hb); clear HB; have HO267 := n0_; have HB := n3_; clear n0_ n3_; (try clear hb); (try clear hb2); (try clear hk); (try clear hi); (try clear ho0); (try clear ho1)) | ((with_reducible refine gate_dst (N := 7) rfl ?_); (try (refine gate_guard (by rfl) ?_; dsimp only)); refine box_event ?hg (N := 7) ?hd (cs := #[.int .i64 0, .slice none 0 0]) (t := 38) ?hr ?_; (case hd => rfl); (case hg => rfl); (case hr => first | (go_simp; done) | (go_simp; rfl)); intro gb272 hg w132 hbox hb; have n0_ := A_ (Kd.R_below (rk_ HO267.out) hb); have n3_ := A_ (below_step (bk_ HB.out) hb); have n4_ := A_ (hbox); have n5_ := A_ (bz_ hg (bk_ HB.out)); have n6_ := A_ (bz_ hg (bk_ HB.out)); clear HO267 HB; have HO267 := n0_; have HB := n3_; have BK272 := n4_; have GW272 := n5_; have GE272 := n6_; clear n0_ n3_ n4_ n5_ n6_ hb hbox hg; obtain ⟨hcz134_0, hcz134_1⟩ := bc2_ BK272.out; have hfz134_0 := blk_frozen BK272.out 0; have hfz134_1 := blk_frozen BK272.out 1; obtain ⟨Ao135, co135, eo135⟩ := Kd.R_slice HO267.out; subst eo135) | (go_at_call 7; (with_reducible refine (standstilllaw08_awake.calls kj3  t273 _ A129.out).mono ?_); rintro e w136 ⟨rfl, hb⟩; have n4_ := A_ (below_step (bk_ HB.out) hb); clear HB; have HB := n4_; clear n4_; (try clear hb); (try clear hb2); (try clear hk); (try clear hi)))
      go_ret
      exact ⟨er_, bk_ HB.out⟩
     ·rw [if_neg c128] at H
      exact absurd H (by simp)

/-- THE ONE PURE STATEMENT of standstilllaw08_PairRuns. -/
def standstilllaw08_PairRuns.Pure : Prop := ∀ (a0_0 : Int) (l0_1 : List (S45)) (l1 : List Int) (a2 : Int), ((Lit.int .i64 a0_0).wf = true) → (l0_1.length * 32 ≤ 140737488351232 ∧ ∀ y_ ∈ l0_1, inv45 y_) → (l1.length * 8 ≤ 140737488351232 ∧ ∀ y_ ∈ l1, (Lit.int .i64 y_).wf = true) → ((Lit.int .u8 a2).wf = true) → ∃ k, standstilllaw08_PairRuns.f k a0_0 l0_1 l1 a2 = some true

end Go.Proofs.Ytkbekdjoaibhbaa.PPairRuns
