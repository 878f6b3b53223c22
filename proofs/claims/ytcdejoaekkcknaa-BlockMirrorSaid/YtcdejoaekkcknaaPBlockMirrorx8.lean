-- out of a turned copy of the print, by a program of this session; Lean checks it
import Derived.Test.YtcdejoaekkcknaaPBlockMirrorx0
import Derived.Test.YtcdejoaekkcknaaPBlockMirrorx1
import Derived.Test.YtcdejoaekkcknaaPBlockMirrorx2
import Derived.Test.YtcdejoaekkcknaaPBlockMirrorx3
import Derived.Test.YtcdejoaekkcknaaPBlockMirrorx4
import Derived.Test.YtcdejoaekkcknaaPBlockMirrorx7
namespace Go.Proofs.Ytcdejoaekkcknaa.PBlockMirror
open Go.RowKit Go.Proofs.YtcdejoaekkcknaaW.PrintWords Go.Proofs.YtcdejoaekkcknaaW.PrintLast Go.Proofs.YtcdejoaekkcknaaW.PrintMore
attribute [local go_sem] max2_int min2_int max_two min_two max_three min_three max_four min_four   -- for this text's walks alone
set_option linter.unusedVariables false
set_option linter.unusedSimpArgs false

attribute [local go_sem] isSome_put_
/-! ### standstilllaw05_BlockMirror: function 5 -/
mutual
def standstilllaw05_BlockMirror.j0 : Nat → Int → Int → List Int → Bool → Int → Int → List (List (S57)) → Option (Bool)
 | 0, _, _, _, _, _, _, _ => none
 | k + 1, x1, x2, x3, x27, x231000, x231001, x231002 => if x27 = true then ((standstilllaw05_awake.f k).bind fun t233 => (some t233)) else ((tape_Mirror.f k x231000 x231001 x231002).bind fun bt234 => ((block_Cross.f k x231000 x231001 x231002 x1 x2 x3).bind fun bt241 => ((standstillref01_Turned.f k x3).bind fun t250 => ((block_Cross.f k bt234.1 bt234.2.1 bt234.2.2.1 x1 (wrap64 ((wrap64 ((x3.length : Int) - 1)) - x2)) t250).bind fun bt253 => (if bt234.2.2.2 = 0 then (standstilllaw05_BlockMirror.j1 k x3 bt241.2.2.2.2.2 (bt241.2.2.2.2.2 != bt253.2.2.2.2.2) bt241.1 bt241.2.1 bt241.2.2.1 bt241.2.2.2.1 bt241.2.2.2.2.1 bt253.1 bt253.2.1 bt253.2.2.1 bt253.2.2.2.1 bt253.2.2.2.2.1) else (standstilllaw05_BlockMirror.j1 k x3 bt241.2.2.2.2.2 true bt241.1 bt241.2.1 bt241.2.2.1 bt241.2.2.2.1 bt241.2.2.2.2.1 bt253.1 bt253.2.1 bt253.2.2.1 bt253.2.2.2.1 bt253.2.2.2.2.1))))))
def standstilllaw05_BlockMirror.j1 : Nat → List Int → Int → Bool → Int → Int → Int → Int → List Int → Int → Int → Int → Int → List Int → Option (Bool)
 | 0, _, _, _, _, _, _, _, _, _, _, _, _, _ => none
 | k + 1, x3, x12, x61, x250000, x250001, x250002, x250003, x250004, x262000, x262001, x262002, x262003, x262004 => if x61 = true then (none) else (if x12 = 0 then (standstilllaw05_BlockMirror.j2 k x3 x12 (x250000 == 3) x250000 x250001 x250002 x250003 x250004 x262000 x262001 x262002 x262003 x262004) else (standstilllaw05_BlockMirror.j2 k x3 x12 true x250000 x250001 x250002 x250003 x250004 x262000 x262001 x262002 x262003 x262004))
def standstilllaw05_BlockMirror.j2 : Nat → List Int → Int → Bool → Int → Int → Int → Int → List Int → Int → Int → Int → Int → List Int → Option (Bool)
 | 0, _, _, _, _, _, _, _, _, _, _, _, _, _ => none
 | k + 1, x3, x12, x68, x250000, x250001, x250002, x250003, x250004, x262000, x262001, x262002, x262003, x262004 => if x68 = true then (if x12 = 2 then ((standstilllaw05_awake.f k).bind fun t262 => (some t262)) else (if x12 = 0 then (if x262000 = 3 then ((standstilllaw05_awake.f k).bind fun t263 => (some t263)) else (none)) else (none))) else ((some (([1, 0, 2] : List Int) : List Int)).bind fun y264 => (if x250000 < 0 then (standstilllaw05_BlockMirror.j3 k x3 y264 true x250000 x250001 x250002 x250003 x250004 x262000 x262001 x262002 x262003 x262004) else (standstilllaw05_BlockMirror.j3 k x3 y264 (decide (x250000 > 2)) x250000 x250001 x250002 x250003 x250004 x262000 x262001 x262002 x262003 x262004)))
def standstilllaw05_BlockMirror.j3 : Nat → List Int → List Int → Bool → Int → Int → Int → Int → List Int → Int → Int → Int → Int → List Int → Option (Bool)
 | 0, _, _, _, _, _, _, _, _, _, _, _, _, _ => none
 | k + 1, x3, x15, x91, x250000, x250001, x250002, x250003, x250004, x262000, x262001, x262002, x262003, x262004 => if x91 = true then (none) else (if 0 ≤ x250000 then (if x250000 < (x15.length : Int) then (if x262000 = (rd x15 x250000) then (if x262001 = x250001 then (if x262002 = x250002 then (if x262003 = (wrap64 ((wrap64 ((x3.length : Int) - 1)) - x250003)) then ((standstillref01_Turned.f k x250004).bind fun t268 => ((standstillref01_SameInts.f k x262004 t268).bind fun t271 => (if t271 = true then ((standstilllaw05_awake.f k).bind fun t272 => (some t272)) else (none)))) else (none)) else (none)) else (none)) else (none)) else (none)) else (none))
end
def standstilllaw05_BlockMirror.f (k : Nat) (a0_0 : Int) (a0_1 : Int) (l0_2 : List (List (S57))) (a1 : Int) (a2 : Int) (l3 : List Int) : Option (Bool) := (standstilllaw05_wide.f k a0_0 a0_1 l0_2).bind fun t231 => (if t231 = true then (standstilllaw05_BlockMirror.j0 k a1 a2 l3 true a0_0 a0_1 l0_2) else (if (l3.length : Int) > 1000 then (standstilllaw05_BlockMirror.j0 k a1 a2 l3 true a0_0 a0_1 l0_2) else ((standstillref01_Valid.f k a0_0 a0_1 l0_2).bind fun t232 => (standstilllaw05_BlockMirror.j0 k a1 a2 l3 (!t232) a0_0 a0_1 l0_2))))
theorem standstilllaw05_BlockMirror.mono_l : ∀ k, (∀ y0 y1 y2 y3 y4 y5 y6, LeO (standstilllaw05_BlockMirror.j0 k y0 y1 y2 y3 y4 y5 y6) (standstilllaw05_BlockMirror.j0 (k + 1) y0 y1 y2 y3 y4 y5 y6)) ∧ (∀ y0 y1 y2 y3 y4 y5 y6 y7 y8 y9 y10 y11 y12, LeO (standstilllaw05_BlockMirror.j1 k y0 y1 y2 y3 y4 y5 y6 y7 y8 y9 y10 y11 y12) (standstilllaw05_BlockMirror.j1 (k + 1) y0 y1 y2 y3 y4 y5 y6 y7 y8 y9 y10 y11 y12)) ∧ (∀ y0 y1 y2 y3 y4 y5 y6 y7 y8 y9 y10 y11 y12, LeO (standstilllaw05_BlockMirror.j2 k y0 y1 y2 y3 y4 y5 y6 y7 y8 y9 y10 y11 y12) (standstilllaw05_BlockMirror.j2 (k + 1) y0 y1 y2 y3 y4 y5 y6 y7 y8 y9 y10 y11 y12)) ∧ (∀ y0 y1 y2 y3 y4 y5 y6 y7 y8 y9 y10 y11 y12, LeO (standstilllaw05_BlockMirror.j3 k y0 y1 y2 y3 y4 y5 y6 y7 y8 y9 y10 y11 y12) (standstilllaw05_BlockMirror.j3 (k + 1) y0 y1 y2 y3 y4 y5 y6 y7 y8 y9 y10 y11 y12))
 | 0 => ⟨fun _ _ _ _ _ _ _ r h => by simp [standstilllaw05_BlockMirror.j0] at h, fun _ _ _ _ _ _ _ _ _ _ _ _ _ r h => by simp [standstilllaw05_BlockMirror.j1] at h, fun _ _ _ _ _ _ _ _ _ _ _ _ _ r h => by simp [standstilllaw05_BlockMirror.j2] at h, fun _ _ _ _ _ _ _ _ _ _ _ _ _ r h => by simp [standstilllaw05_BlockMirror.j3] at h⟩
 | k + 1 => by
  obtain ⟨ih0, ih1, ih2, ih3⟩ := standstilllaw05_BlockMirror.mono_l k
  refine ⟨?_, ?_, ?_, ?_⟩
  ·intro y0 y1 y2 y3 y4 y5 y6
   unfold standstilllaw05_BlockMirror.j0
   repeat' first
   | (with_reducible exact ih0 _ _ _ _ _ _ _)
   | (with_reducible exact ih1 _ _ _ _ _ _ _ _ _ _ _ _ _)
   | (with_reducible exact ih2 _ _ _ _ _ _ _ _ _ _ _ _ _)
   | (with_reducible exact ih3 _ _ _ _ _ _ _ _ _ _ _ _ _)
   | (with_reducible exact block_Cross.mono _ _ _ _ _ _ _)
   | (with_reducible exact standstilllaw05_awake.mono _)
   | (with_reducible exact standstilllaw05_wide.mono _ _ _ _)
   | (with_reducible exact standstillref01_SameInts.mono _ _ _)
   | (with_reducible exact standstillref01_Turned.mono _ _)
   | (with_reducible exact standstillref01_Valid.mono _ _ _ _)
   | (with_reducible exact tape_Mirror.mono _ _ _ _)
   | (with_reducible exact LeO.refl _)
   | (with_reducible exact LeO.none _)
   | (with_reducible refine LeO.ite ?_ ?_)
   | (with_reducible refine LeO.bind ?_ (fun _ => ?_))
   | exact ih0 _ _ _ _ _ _ _
   | exact ih1 _ _ _ _ _ _ _ _ _ _ _ _ _
   | exact ih2 _ _ _ _ _ _ _ _ _ _ _ _ _
   | exact ih3 _ _ _ _ _ _ _ _ _ _ _ _ _
   | exact block_Cross.mono _ _ _ _ _ _ _
   | exact standstilllaw05_awake.mono _
   | exact standstilllaw05_wide.mono _ _ _ _
   | exact standstillref01_SameInts.mono _ _ _
   | exact standstillref01_Turned.mono _ _
   | exact standstillref01_Valid.mono _ _ _ _
   | exact tape_Mirror.mono _ _ _ _
   | exact LeO.none _
   | refine LeO.ite ?_ ?_
   | refine LeO.bind ?_ (fun _ => ?_)
  ·intro y0 y1 y2 y3 y4 y5 y6 y7 y8 y9 y10 y11 y12
   unfold standstilllaw05_BlockMirror.j1
   repeat' first
   | (with_reducible exact ih0 _ _ _ _ _ _ _)
   | (with_reducible exact ih1 _ _ _ _ _ _ _ _ _ _ _ _ _)
   | (with_reducible exact ih2 _ _ _ _ _ _ _ _ _ _ _ _ _)
   | (with_reducible exact ih3 _ _ _ _ _ _ _ _ _ _ _ _ _)
   | (with_reducible exact block_Cross.mono _ _ _ _ _ _ _)
   | (with_reducible exact standstilllaw05_awake.mono _)
   | (with_reducible exact standstilllaw05_wide.mono _ _ _ _)
   | (with_reducible exact standstillref01_SameInts.mono _ _ _)
   | (with_reducible exact standstillref01_Turned.mono _ _)
   | (with_reducible exact standstillref01_Valid.mono _ _ _ _)
   | (with_reducible exact tape_Mirror.mono _ _ _ _)
   | (with_reducible exact LeO.refl _)
   | (with_reducible exact LeO.none _)
   | (with_reducible refine LeO.ite ?_ ?_)
   | (with_reducible refine LeO.bind ?_ (fun _ => ?_))
   | exact ih0 _ _ _ _ _ _ _
   | exact ih1 _ _ _ _ _ _ _ _ _ _ _ _ _
   | exact ih2 _ _ _ _ _ _ _ _ _ _ _ _ _
   | exact ih3 _ _ _ _ _ _ _ _ _ _ _ _ _
   | exact block_Cross.mono _ _ _ _ _ _ _
   | exact standstilllaw05_awake.mono _
   | exact standstilllaw05_wide.mono _ _ _ _
   | exact standstillref01_SameInts.mono _ _ _
   | exact standstillref01_Turned.mono _ _
   | exact standstillref01_Valid.mono _ _ _ _
   | exact tape_Mirror.mono _ _ _ _
   | exact LeO.none _
   | refine LeO.ite ?_ ?_
   | refine LeO.bind ?_ (fun _ => ?_)
  ·intro y0 y1 y2 y3 y4 y5 y6 y7 y8 y9 y10 y11 y12
   unfold standstilllaw05_BlockMirror.j2
   repeat' first
   | (with_reducible exact ih0 _ _ _ _ _ _ _)
   | (with_reducible exact ih1 _ _ _ _ _ _ _ _ _ _ _ _ _)
   | (with_reducible exact ih2 _ _ _ _ _ _ _ _ _ _ _ _ _)
   | (with_reducible exact ih3 _ _ _ _ _ _ _ _ _ _ _ _ _)
   | (with_reducible exact block_Cross.mono _ _ _ _ _ _ _)
   | (with_reducible exact standstilllaw05_awake.mono _)
   | (with_reducible exact standstilllaw05_wide.mono _ _ _ _)
   | (with_reducible exact standstillref01_SameInts.mono _ _ _)
   | (with_reducible exact standstillref01_Turned.mono _ _)
   | (with_reducible exact standstillref01_Valid.mono _ _ _ _)
   | (with_reducible exact tape_Mirror.mono _ _ _ _)
   | (with_reducible exact LeO.refl _)
   | (with_reducible exact LeO.none _)
   | (with_reducible refine LeO.ite ?_ ?_)
   | (with_reducible refine LeO.bind ?_ (fun _ => ?_))
   | exact ih0 _ _ _ _ _ _ _
   | exact ih1 _ _ _ _ _ _ _ _ _ _ _ _ _
   | exact ih2 _ _ _ _ _ _ _ _ _ _ _ _ _
   | exact ih3 _ _ _ _ _ _ _ _ _ _ _ _ _
   | exact block_Cross.mono _ _ _ _ _ _ _
   | exact standstilllaw05_awake.mono _
   | exact standstilllaw05_wide.mono _ _ _ _
   | exact standstillref01_SameInts.mono _ _ _
   | exact standstillref01_Turned.mono _ _
   | exact standstillref01_Valid.mono _ _ _ _
   | exact tape_Mirror.mono _ _ _ _
   | exact LeO.none _
   | refine LeO.ite ?_ ?_
   | refine LeO.bind ?_ (fun _ => ?_)
  ·intro y0 y1 y2 y3 y4 y5 y6 y7 y8 y9 y10 y11 y12
   unfold standstilllaw05_BlockMirror.j3
   repeat' first
   | (with_reducible exact ih0 _ _ _ _ _ _ _)
   | (with_reducible exact ih1 _ _ _ _ _ _ _ _ _ _ _ _ _)
   | (with_reducible exact ih2 _ _ _ _ _ _ _ _ _ _ _ _ _)
   | (with_reducible exact ih3 _ _ _ _ _ _ _ _ _ _ _ _ _)
   | (with_reducible exact block_Cross.mono _ _ _ _ _ _ _)
   | (with_reducible exact standstilllaw05_awake.mono _)
   | (with_reducible exact standstilllaw05_wide.mono _ _ _ _)
   | (with_reducible exact standstillref01_SameInts.mono _ _ _)
   | (with_reducible exact standstillref01_Turned.mono _ _)
   | (with_reducible exact standstillref01_Valid.mono _ _ _ _)
   | (with_reducible exact tape_Mirror.mono _ _ _ _)
   | (with_reducible exact LeO.refl _)
   | (with_reducible exact LeO.none _)
   | (with_reducible refine LeO.ite ?_ ?_)
   | (with_reducible refine LeO.bind ?_ (fun _ => ?_))
   | exact ih0 _ _ _ _ _ _ _
   | exact ih1 _ _ _ _ _ _ _ _ _ _ _ _ _
   | exact ih2 _ _ _ _ _ _ _ _ _ _ _ _ _
   | exact ih3 _ _ _ _ _ _ _ _ _ _ _ _ _
   | exact block_Cross.mono _ _ _ _ _ _ _
   | exact standstilllaw05_awake.mono _
   | exact standstilllaw05_wide.mono _ _ _ _
   | exact standstillref01_SameInts.mono _ _ _
   | exact standstillref01_Turned.mono _ _
   | exact standstillref01_Valid.mono _ _ _ _
   | exact tape_Mirror.mono _ _ _ _
   | exact LeO.none _
   | refine LeO.ite ?_ ?_
   | refine LeO.bind ?_ (fun _ => ?_)
theorem standstilllaw05_BlockMirror.mono : ∀ a0 a1 a2 a3 a4 a5 k, LeO (standstilllaw05_BlockMirror.f k a0 a1 a2 a3 a4 a5) (standstilllaw05_BlockMirror.f (k + 1) a0 a1 a2 a3 a4 a5) := by
 intro a0 a1 a2 a3 a4 a5 k
 obtain ⟨ih0, ih1, ih2, ih3⟩ := standstilllaw05_BlockMirror.mono_l k
 unfold standstilllaw05_BlockMirror.f
 repeat' first
   | (with_reducible exact ih0 _ _ _ _ _ _ _)
   | (with_reducible exact ih1 _ _ _ _ _ _ _ _ _ _ _ _ _)
   | (with_reducible exact ih2 _ _ _ _ _ _ _ _ _ _ _ _ _)
   | (with_reducible exact ih3 _ _ _ _ _ _ _ _ _ _ _ _ _)
   | (with_reducible exact block_Cross.mono _ _ _ _ _ _ _)
   | (with_reducible exact standstilllaw05_awake.mono _)
   | (with_reducible exact standstilllaw05_wide.mono _ _ _ _)
   | (with_reducible exact standstillref01_SameInts.mono _ _ _)
   | (with_reducible exact standstillref01_Turned.mono _ _)
   | (with_reducible exact standstillref01_Valid.mono _ _ _ _)
   | (with_reducible exact tape_Mirror.mono _ _ _ _)
   | (with_reducible exact LeO.refl _)
   | (with_reducible exact LeO.none _)
   | (with_reducible refine LeO.ite ?_ ?_)
   | (with_reducible refine LeO.bind ?_ (fun _ => ?_))
   | exact ih0 _ _ _ _ _ _ _
   | exact ih1 _ _ _ _ _ _ _ _ _ _ _ _ _
   | exact ih2 _ _ _ _ _ _ _ _ _ _ _ _ _
   | exact ih3 _ _ _ _ _ _ _ _ _ _ _ _ _
   | exact block_Cross.mono _ _ _ _ _ _ _
   | exact standstilllaw05_awake.mono _
   | exact standstilllaw05_wide.mono _ _ _ _
   | exact standstillref01_SameInts.mono _ _ _
   | exact standstillref01_Turned.mono _ _
   | exact standstillref01_Valid.mono _ _ _ _
   | exact tape_Mirror.mono _ _ _ _
   | exact LeO.none _
   | refine LeO.ite ?_ ?_
   | refine LeO.bind ?_ (fun _ => ?_)
def standstilllaw05_BlockMirror.T5 : Bool × List (List Nat × List Nat) := (true, [([], []), ([], []), ([], []), ([2], [2]), ([3], [3]), ([], []), ([4, 5], [4, 5]), ([], []), ([7], [7]), ([0, 1, 6, 8, 8], [0, 1, 6, 8]), ([9], [9]), ([10], [10]), ([10], [10]), ([], []), ([13, 11, 9, 0, 1, 2, 3, 4, 5, 6, 7, 8, 9, 10, 11, 13], [11, 13]), ([12, 14, 0, 1, 2, 3, 4, 5, 6, 7, 8, 9, 10, 11, 12, 13, 14], [12])])
def standstilllaw05_BlockMirror.B5 : List Nat := [0, 0, 0, 4, 12, 0, 60, 0, 128, 511, 1023, 2047, 2047, 0, 12287, 32767]
theorem standstilllaw05_BlockMirror.tab5 : rtab .any (opsOf Try.f5 5) = standstilllaw05_BlockMirror.T5 := by kernel_rfl
theorem standstilllaw05_BlockMirror.bits5 : waitsOk standstilllaw05_BlockMirror.T5.2 standstilllaw05_BlockMirror.B5 = true := by kernel_rfl
def standstilllaw05_BlockMirror.T13 : Bool × List (List Nat × List Nat) := (true, [([], []), ([0], [0]), ([], []), ([], []), ([3], [3]), ([2, 4], [2, 4]), ([5], [5]), ([1, 6], [1, 6]), ([7], [7]), ([8], [8]), ([9, 8], [8, 9]), ([8], [8]), ([11, 8], [8, 11]), ([10, 12, 8], [8, 10, 12]), ([8, 13], [8, 13]), ([14, 8], [14]), ([15], [15]), ([16, 15], [15, 16]), ([15], [15]), ([18, 15], [15, 18]), ([17, 19, 15], [15, 17, 19]), ([15, 20], [15, 20]), ([21, 15], [21]), ([22], [22]), ([23, 22], [22, 23]), ([22], [22]), ([25, 22], [22, 25]), ([26, 22], [22, 26]), ([22], [22]), ([28, 22], [22, 28]), ([27, 29, 22], [22, 27, 29]), ([24, 30, 22], [22, 24, 30]), ([22, 31], [22, 31]), ([32, 22], [32]), ([33], [33]), ([34, 33], [33, 34]), ([33], [33]), ([36, 33], [33, 36]), ([37, 33, 33], [33, 37]), ([35, 38, 38, 33], [33, 35, 38]), ([33, 39], [33, 39]), ([40, 39], [40]), ([41, 41], [41]), ([41, 42], [41, 42]), ([43, 42, 0, 1, 2, 3, 4, 5, 6, 7, 8, 9, 10, 11, 12, 13, 14, 15, 16, 17, 18, 19, 20, 21, 22, 23, 24, 25, 26, 27, 28, 29, 30, 31, 32, 33, 34, 35, 36, 37, 38, 39, 40, 41, 42, 43], [43])])
def standstilllaw05_BlockMirror.B13 : List Nat := [0, 1, 0, 0, 8, 28, 60, 127, 255, 511, 1023, 511, 2559, 8191, 16383, 32767, 65535, 131071, 65535, 327679, 1048575, 2097151, 4194303, 8388607, 16777215, 8388607, 41943039, 109051903, 8388607, 276824063, 1048575999, 2147483647, 4294967295, 8589934591, 17179869183, 34359738367, 17179869183, 85899345919, 223338299391, 549755813887, 1099511627775, 2199023255551, 4398046511103, 8796093022207, 17592186044415]
theorem standstilllaw05_BlockMirror.tab13 : rtab .any (opsOf Try.f5 13) = standstilllaw05_BlockMirror.T13 := by kernel_rfl
theorem standstilllaw05_BlockMirror.bits13 : waitsOk standstilllaw05_BlockMirror.T13.2 standstilllaw05_BlockMirror.B13 = true := by kernel_rfl
set_option maxHeartbeats 8000000 in
set_option maxRecDepth 100000 in
theorem standstilllaw05_BlockMirror.calls (k : Nat) (a0_0 : Int) (a0_1 : Int) (A0_2 : Option Addr) (c0_2 : Nat) (l0_2 : List (List (S57))) (a1 : Int) (a2 : Int) (A3 : Option Addr) (c3 : Nat) (l3 : List Int) (r : Bool) (w : World) (hr0_2 : Kd.C (Kd.slice 57 k57) w A0_2 l0_2.length l0_2) (hc0_2 : l0_2.length ≤ c0_2) (hr3 : Kd.C (Kd.int .i64) w A3 l3.length l3) (hc3 : l3.length ≤ c3) (h : standstilllaw05_BlockMirror.f k a0_0 a0_1 l0_2 a1 a2 l3 = some r) :
  Calls Try.prog 5 #[.agg #[.int .i64 a0_0, .int .i64 a0_1, .slice A0_2 l0_2.length c0_2], .int .i64 a1, .int .i64 a2, .slice A3 l3.length c3] w fun e w' => e = .returned (.bool r) ∧ Below w.heap.size w w' := by
 have hu24 := Try.underlying24
 have hu29 := Try.underlying29
 have HR0_2 := Aside0.mk hr0_2
 have HC0_2 := Aside0.mk hc0_2
 clear hr0_2 hc0_2
 have HR3 := Aside0.mk hr3
 have HC3 := Aside0.mk hc3
 clear hr3 hc3
 have HB := A_ (Below.refl w.heap.size w)
 have H : ((standstilllaw05_wide.f k a0_0 a0_1 l0_2).bind fun t231 => (if t231 = true then (standstilllaw05_BlockMirror.j0 k a1 a2 l3 true a0_0 a0_1 l0_2) else (if (l3.length : Int) > 1000 then (standstilllaw05_BlockMirror.j0 k a1 a2 l3 true a0_0 a0_1 l0_2) else ((standstillref01_Valid.f k a0_0 a0_1 l0_2).bind fun t232 => (standstilllaw05_BlockMirror.j0 k a1 a2 l3 (!t232) a0_0 a0_1 l0_2))))) = some r := h
 clear h
 have HC5 := Aside0.mk H
 clear H
 go_enter Try.func5, Try.ntmps5
 go_upto_region 1 with (first | ((with_reducible refine gate_dst (N := 4) rfl ?_); (try (refine gate_guard (by rfl) ?_; dsimp only)); refine box_event ?hg (N := 4) ?hd (cs := #[.int .i64 a0_0, .int .i64 a0_1, .slice A0_2 l0_2.length c0_2]) (t := 24) ?hr ?_; (case hd => rfl); (case hg => rfl); (case hr => first | (go_simp; done) | (go_simp; rfl)); intro gb230 hg w6 hbox hb; have n0_ := A_ (below_step (bk_ HB.out) hb); have n1_ := A_ (hbox); have n2_ := A_ ((by rw [hg]; exact (below_size (bk_ HB.out)) : w.heap.size ≤ gb230)); have n3_ := A_ ((by rw [hg]; exact (below_size (bk_ HB.out)) : w.heap.size ≤ gb230)); clear HB; have HB := n0_; have BK230 := n1_; have GW230 := n2_; have GE230 := n3_; clear n0_ n1_ n2_ n3_ hb hbox hg))
 (try simp only [Act.put, List.setIfInBounds_toArray, List.set_cons_zero, List.set_cons_succ])
 go_cut [27] (fun v27 wc => ∃ (kq : Nat) (x27_4 : Bool), v27 = .bool x27_4 ∧ Aside0 (standstilllaw05_BlockMirror.j0 kq a1 a2 l3 x27_4 a0_0 a0_1 l0_2 = some r) ∧ Aside0 (kq ≤ k) ∧ Aside0 (wc.heap[gb230]? = some (.cells #[.int .i64 a0_0, .int .i64 a0_1, (.slice A0_2 l0_2.length c0_2)] 24 (0, 0))) ∧ Aside0 (Below w.heap.size w wc))
 case first => as_aux_lemma =>
  have H := HC5.out
  clear HC5
  replace H := Option.bind_eq_some_iff.mp H
  obtain ⟨t231, A70, H⟩ := H
  replace H : (if t231 = true then (standstilllaw05_BlockMirror.j0 k a1 a2 l3 true a0_0 a0_1 l0_2) else (if (l3.length : Int) > 1000 then (standstilllaw05_BlockMirror.j0 k a1 a2 l3 true a0_0 a0_1 l0_2) else ((standstillref01_Valid.f k a0_0 a0_1 l0_2).bind fun t232 => (standstilllaw05_BlockMirror.j0 k a1 a2 l3 (!t232) a0_0 a0_1 l0_2)))) = some r := H
  have A7 := Aside0.mk A70
  clear A70
  by_cases c8 : t231 = true
  ·subst c8
   have H1 : (standstilllaw05_BlockMirror.j0 k a1 a2 l3 true a0_0 a0_1 l0_2) = some r := by rw [if_pos rfl] at H; exact H
   clear H
   have H := H1
   clear H1
   have H' := Aside0.mk H
   clear H
   have hcz9_0 : w6.cell? ⟨gb230, 0, none⟩ = some (.int .i64 a0_0) := (blk_cell BK230.out 0).trans rfl
   have hcz9_1 : w6.cell? ⟨gb230, 1, none⟩ = some (.int .i64 a0_1) := (blk_cell BK230.out 1).trans rfl
   have hcz9_2 : w6.cell? ⟨gb230, 2, none⟩ = some (.slice A0_2 l0_2.length c0_2) := (blk_cell BK230.out 2).trans rfl
   have hfz9_0 := blk_frozen BK230.out 0
   have hfz9_1 := blk_frozen BK230.out 1
   have hfz9_2 := blk_frozen BK230.out 2
   go_wp2_with (first | ((with_reducible refine gate_callee (f := 7) rfl ?_); refine goesL_ (some 17) rfl rfl Try.func7 (by kernel_rfl) rfl #[.agg #[.int .i64 a0_0, .int .i64 a0_1, .slice A0_2 l0_2.length c0_2]] rfl gl_ ?_; (with_reducible refine (standstilllaw05_wide.calls k a0_0 a0_1 _ _ l0_2 true _ ?side1 ?side2 A7.out).mono ?_); (case side1 => exact ck_ (Kd.C_below HR0_2.out HB.out)); (case side2 => exact HC0_2.out); rintro e w10 ⟨rfl, hb⟩; refine ⟨_, rfl, ?_⟩; have n0_ := A_ (blk_below (pk_ BK230.out) hb); have n1_ := A_ (below_step (bk_ HB.out) hb); clear BK230 HB; have BK230 := n0_; have HB := n1_; clear n0_ n1_; (try clear hb); (try clear hb2); (try clear hk); (try clear hi)))
   go_meet
   case rel => exact ⟨_, (true), jr_, H', ⟨by first | omega | exact Nat.le_refl _⟩, ⟨pk_ BK230.out⟩, ⟨bk_ HB.out⟩⟩
  ·replace c8 := Bool.eq_false_iff.mpr c8
   subst c8
   have H1 : (if (l3.length : Int) > 1000 then (standstilllaw05_BlockMirror.j0 k a1 a2 l3 true a0_0 a0_1 l0_2) else ((standstillref01_Valid.f k a0_0 a0_1 l0_2).bind fun t232 => (standstilllaw05_BlockMirror.j0 k a1 a2 l3 (!t232) a0_0 a0_1 l0_2))) = some r := by rw [if_neg (show ¬ (false = true) by decide)] at H; exact H
   clear H
   have H := H1
   clear H1
   by_cases c11 : (l3.length : Int) > 1000
   ·rw [if_pos c11] at H
    have c11b0 : decide (1000 < (l3.length : Int)) = true := decide_eq_true c11
    have c11b1 : decide (1000 < l3.length) = true := decide_eq_true (by omega)
    clear c11
    (first | rw [c11b0] | (simp only [i64_w, i32_w]; rw [c11b0]) | skip)
    have H' := Aside0.mk H
    clear H
    have hcz12_0 : w6.cell? ⟨gb230, 0, none⟩ = some (.int .i64 a0_0) := (blk_cell BK230.out 0).trans rfl
    have hcz12_1 : w6.cell? ⟨gb230, 1, none⟩ = some (.int .i64 a0_1) := (blk_cell BK230.out 1).trans rfl
    have hcz12_2 : w6.cell? ⟨gb230, 2, none⟩ = some (.slice A0_2 l0_2.length c0_2) := (blk_cell BK230.out 2).trans rfl
    have hfz12_0 := blk_frozen BK230.out 0
    have hfz12_1 := blk_frozen BK230.out 1
    have hfz12_2 := blk_frozen BK230.out 2
    go_wp2_with (first | ((with_reducible refine gate_callee (f := 7) rfl ?_); refine goesL_ (some 17) rfl rfl Try.func7 (by kernel_rfl) rfl #[.agg #[.int .i64 a0_0, .int .i64 a0_1, .slice A0_2 l0_2.length c0_2]] rfl gl_ ?_; (with_reducible refine (standstilllaw05_wide.calls k a0_0 a0_1 _ _ l0_2 false _ ?side1 ?side2 A7.out).mono ?_); (case side1 => exact ck_ (Kd.C_below HR0_2.out HB.out)); (case side2 => exact HC0_2.out); rintro e w13 ⟨rfl, hb⟩; refine ⟨_, rfl, ?_⟩; have n0_ := A_ (blk_below (pk_ BK230.out) hb); have n1_ := A_ (below_step (bk_ HB.out) hb); clear BK230 HB; have BK230 := n0_; have HB := n1_; clear n0_ n1_; (try clear hb); (try clear hb2); (try clear hk); (try clear hi)))
    go_meet
    case rel => exact ⟨_, (true), jr_, H', ⟨by first | omega | exact Nat.le_refl _⟩, ⟨pk_ BK230.out⟩, ⟨bk_ HB.out⟩⟩
   ·rw [if_neg c11] at H
    have c11b0 : decide (1000 < (l3.length : Int)) = false := decide_eq_false c11
    have c11b1 : decide (1000 < l3.length) = false := decide_eq_false (by omega)
    clear c11
    (first | rw [c11b0] | (simp only [i64_w, i32_w]; rw [c11b0]) | skip)
    replace H := Option.bind_eq_some_iff.mp H
    obtain ⟨t232, A140, H⟩ := H
    replace H : (standstilllaw05_BlockMirror.j0 k a1 a2 l3 (!t232) a0_0 a0_1 l0_2) = some r := H
    have A14 := Aside0.mk A140
    clear A140
    have H' := Aside0.mk H
    clear H
    have hcz15_0 : w6.cell? ⟨gb230, 0, none⟩ = some (.int .i64 a0_0) := (blk_cell BK230.out 0).trans rfl
    have hcz15_1 : w6.cell? ⟨gb230, 1, none⟩ = some (.int .i64 a0_1) := (blk_cell BK230.out 1).trans rfl
    have hcz15_2 : w6.cell? ⟨gb230, 2, none⟩ = some (.slice A0_2 l0_2.length c0_2) := (blk_cell BK230.out 2).trans rfl
    have hfz15_0 := blk_frozen BK230.out 0
    have hfz15_1 := blk_frozen BK230.out 1
    have hfz15_2 := blk_frozen BK230.out 2
    go_wp2_with (first | ((with_reducible refine gate_callee (f := 7) rfl ?_); refine goesL_ (some 17) rfl rfl Try.func7 (by kernel_rfl) rfl #[.agg #[.int .i64 a0_0, .int .i64 a0_1, .slice A0_2 l0_2.length c0_2]] rfl gl_ ?_; (with_reducible refine (standstilllaw05_wide.calls k a0_0 a0_1 _ _ l0_2 false _ ?side1 ?side2 A7.out).mono ?_); (case side1 => exact ck_ (Kd.C_below HR0_2.out HB.out)); (case side2 => exact HC0_2.out); rintro e w16 ⟨rfl, hb⟩; refine ⟨_, rfl, ?_⟩; have n0_ := A_ (blk_below (pk_ BK230.out) hb); have n1_ := A_ (below_step (bk_ HB.out) hb); clear BK230 HB; have BK230 := n0_; have HB := n1_; clear n0_ n1_; (try clear hb); (try clear hb2); (try clear hk); (try clear hi); have hcz17_0 : w16.cell? ⟨gb230, 0, none⟩ = some (.int .i64 a0_0) := (blk_cell BK230.out 0).trans rfl; have hcz17_1 : w16.cell? ⟨gb230, 1, none⟩ = some (.int .i64 a0_1) := (blk_cell BK230.out 1).trans rfl; have hcz17_2 : w16.cell? ⟨gb230, 2, none⟩ = some (.slice A0_2 l0_2.length c0_2) := (blk_cell BK230.out 2).trans rfl; have hfz17_0 := blk_frozen BK230.out 0; have hfz17_1 := blk_frozen BK230.out 1; have hfz17_2 := blk_frozen BK230.out 2) | (go_at_call 10; (with_reducible refine (standstillref01_Valid.calls k a0_0 a0_1 _ _ l0_2 t232 _ ?side1 ?side2 A14.out).mono ?_); (case side1 => exact ck_ (Kd.C_below HR0_2.out HB.out)); (case side2 => exact HC0_2.out); rintro e w18 ⟨rfl, hb⟩; have n0_ := A_ (blk_below (pk_ BK230.out) hb); have n1_ := A_ (below_step (bk_ HB.out) hb); clear BK230 HB; have BK230 := n0_; have HB := n1_; clear n0_ n1_; (try clear hb); (try clear hb2); (try clear hk); (try clear hi)))
    go_meet
    case rel => exact ⟨_, (!t232), jr_, H', ⟨by first | omega | exact Nat.le_refl _⟩, ⟨pk_ BK230.out⟩, ⟨bk_ HB.out⟩⟩
 case rest => as_aux_lemma =>
  clear HC5
  (try clear c3)
  obtain ⟨kq, x27_4, rfl, HA, HJ4, BK230, HB⟩ := hcut
  cases kq with
  | zero => exact absurd HA.out (by simp [standstilllaw05_BlockMirror.j0])
  | succ kj4 =>
   have H := HA.out
   clear HA
   simp only [standstilllaw05_BlockMirror.j0] at H
   by_cases c19 : x27_4 = true
   ·subst c19
    have H1 : ((standstilllaw05_awake.f kj4).bind fun t233 => (some t233)) = some r := by rw [if_pos rfl] at H; exact H
    clear H
    have H := H1
    clear H1
    replace H := Option.bind_eq_some_iff.mp H
    obtain ⟨t233, A200, H⟩ := H
    replace H : (some t233) = some r := H
    have A20 := Aside0.mk A200
    clear A200
    obtain rfl := Option.some.inj H
    go_wp2_with (first | ((with_reducible refine gate_callee (f := 8) rfl ?_); refine goesL_ (some 28) rfl rfl Try.func8 (by kernel_rfl) rfl #[] rfl gl_ ?_; (with_reducible refine (standstilllaw05_awake.calls kj4  t233 _ A20.out).mono ?_); rintro e w21 ⟨rfl, hb⟩; refine ⟨_, rfl, ?_⟩; have n0_ := A_ (blk_below (pk_ BK230.out) hb); have n1_ := A_ (below_step (bk_ HB.out) hb); clear BK230 HB; have BK230 := n0_; have HB := n1_; clear n0_ n1_; (try clear hb); (try clear hb2); (try clear hk); (try clear hi)))
    go_ret
    exact ⟨er_, bk_ HB.out⟩
   ·replace c19 := Bool.eq_false_iff.mpr c19
    subst c19
    have H1 : ((tape_Mirror.f kj4 a0_0 a0_1 l0_2).bind fun bt234 => ((block_Cross.f kj4 a0_0 a0_1 l0_2 a1 a2 l3).bind fun bt241 => ((standstillref01_Turned.f kj4 l3).bind fun t250 => ((block_Cross.f kj4 bt234.1 bt234.2.1 bt234.2.2.1 a1 (wrap64 ((wrap64 ((l3.length : Int) - 1)) - a2)) t250).bind fun bt253 => (if bt234.2.2.2 = 0 then (standstilllaw05_BlockMirror.j1 kj4 l3 bt241.2.2.2.2.2 (bt241.2.2.2.2.2 != bt253.2.2.2.2.2) bt241.1 bt241.2.1 bt241.2.2.1 bt241.2.2.2.1 bt241.2.2.2.2.1 bt253.1 bt253.2.1 bt253.2.2.1 bt253.2.2.2.1 bt253.2.2.2.2.1) else (standstilllaw05_BlockMirror.j1 kj4 l3 bt241.2.2.2.2.2 true bt241.1 bt241.2.1 bt241.2.2.1 bt241.2.2.2.1 bt241.2.2.2.2.1 bt253.1 bt253.2.1 bt253.2.2.1 bt253.2.2.2.1 bt253.2.2.2.2.1)))))) = some r := by rw [if_neg (show ¬ (false = true) by decide)] at H; exact H
    clear H
    have H := H1
    clear H1
    replace H := Option.bind_eq_some_iff.mp H
    obtain ⟨⟨t234, t235, t236, t239⟩, A220, H⟩ := H
    replace H : ((block_Cross.f kj4 a0_0 a0_1 l0_2 a1 a2 l3).bind fun bt241 => ((standstillref01_Turned.f kj4 l3).bind fun t250 => ((block_Cross.f kj4 t234 t235 t236 a1 (wrap64 ((wrap64 ((l3.length : Int) - 1)) - a2)) t250).bind fun bt253 => (if t239 = 0 then (standstilllaw05_BlockMirror.j1 kj4 l3 bt241.2.2.2.2.2 (bt241.2.2.2.2.2 != bt253.2.2.2.2.2) bt241.1 bt241.2.1 bt241.2.2.1 bt241.2.2.2.1 bt241.2.2.2.2.1 bt253.1 bt253.2.1 bt253.2.2.1 bt253.2.2.2.1 bt253.2.2.2.2.1) else (standstilllaw05_BlockMirror.j1 kj4 l3 bt241.2.2.2.2.2 true bt241.1 bt241.2.1 bt241.2.2.1 bt241.2.2.2.1 bt241.2.2.2.2.1 bt253.1 bt253.2.1 bt253.2.2.1 bt253.2.2.2.1 bt253.2.2.2.2.1))))) = some r := H
    have A22 := Aside0.mk A220
    clear A220
    replace H := Option.bind_eq_some_iff.mp H
    obtain ⟨⟨t241, t242, t243, t244, t245, t248⟩, A230, H⟩ := H
    replace H : ((standstillref01_Turned.f kj4 l3).bind fun t250 => ((block_Cross.f kj4 t234 t235 t236 a1 (wrap64 ((wrap64 ((l3.length : Int) - 1)) - a2)) t250).bind fun bt253 => (if t239 = 0 then (standstilllaw05_BlockMirror.j1 kj4 l3 t248 (t248 != bt253.2.2.2.2.2) t241 t242 t243 t244 t245 bt253.1 bt253.2.1 bt253.2.2.1 bt253.2.2.2.1 bt253.2.2.2.2.1) else (standstilllaw05_BlockMirror.j1 kj4 l3 t248 true t241 t242 t243 t244 t245 bt253.1 bt253.2.1 bt253.2.2.1 bt253.2.2.2.1 bt253.2.2.2.2.1)))) = some r := H
    have A23 := Aside0.mk A230
    clear A230
    replace H := Option.bind_eq_some_iff.mp H
    obtain ⟨t250, A240, H⟩ := H
    replace H : ((block_Cross.f kj4 t234 t235 t236 a1 (wrap64 ((wrap64 ((l3.length : Int) - 1)) - a2)) t250).bind fun bt253 => (if t239 = 0 then (standstilllaw05_BlockMirror.j1 kj4 l3 t248 (t248 != bt253.2.2.2.2.2) t241 t242 t243 t244 t245 bt253.1 bt253.2.1 bt253.2.2.1 bt253.2.2.2.1 bt253.2.2.2.2.1) else (standstilllaw05_BlockMirror.j1 kj4 l3 t248 true t241 t242 t243 t244 t245 bt253.1 bt253.2.1 bt253.2.2.1 bt253.2.2.2.1 bt253.2.2.2.2.1))) = some r := H
    have A24 := Aside0.mk A240
    clear A240
    replace H := Option.bind_eq_some_iff.mp H
    obtain ⟨⟨t253, t254, t255, t256, t257, t260⟩, A250, H⟩ := H
    replace H : (if t239 = 0 then (standstilllaw05_BlockMirror.j1 kj4 l3 t248 (t248 != t260) t241 t242 t243 t244 t245 t253 t254 t255 t256 t257) else (standstilllaw05_BlockMirror.j1 kj4 l3 t248 true t241 t242 t243 t244 t245 t253 t254 t255 t256 t257)) = some r := H
    have A25 := Aside0.mk A250
    clear A250
    have HC26 := Aside0.mk H
    clear H
    have hcz27_0 : wc.cell? ⟨gb230, 0, none⟩ = some (.int .i64 a0_0) := (blk_cell BK230.out 0).trans rfl
    have hcz27_1 : wc.cell? ⟨gb230, 1, none⟩ = some (.int .i64 a0_1) := (blk_cell BK230.out 1).trans rfl
    have hcz27_2 : wc.cell? ⟨gb230, 2, none⟩ = some (.slice A0_2 l0_2.length c0_2) := (blk_cell BK230.out 2).trans rfl
    have hfz27_0 := blk_frozen BK230.out 0
    have hfz27_1 := blk_frozen BK230.out 1
    have hfz27_2 := blk_frozen BK230.out 2
    try go_wp2_with (first | ((with_reducible refine gate_callee (f := 15) rfl ?_); refine goesL_ (some 31) rfl rfl Try.func15 (by kernel_rfl) rfl #[.agg #[.int .i64 a0_0, .int .i64 a0_1, .slice A0_2 l0_2.length c0_2]] rfl gl_ ?_; (with_reducible refine (tape_Mirror.calls kj4 a0_0 a0_1 _ _ l0_2 t234 t235 t236 t239 _ ?side1 ?side2 A22.out).mono ?_); (case side1 => exact ck_ (Kd.C_below HR0_2.out HB.out)); (case side2 => exact HC0_2.out); rintro e w28 ⟨v237, rfl, ho0, hb⟩; refine ⟨_, rfl, ?_⟩; have n0_ := A_ (Kd.S_lower ho0 (below_size (bk_ HB.out))); have n1_ := A_ (blk_below (pk_ BK230.out) hb); have n2_ := A_ (below_step (bk_ HB.out) hb); clear BK230 HB; have HO238 := n0_; have BK230 := n1_; have HB := n2_; clear n0_ n1_ n2_; (try clear hb); (try clear hb2); (try clear hk); (try clear hi); (try clear ho0)) | ((with_reducible refine gate_dst (N := 9) rfl ?_); (try (refine gate_guard (by rfl) ?_; dsimp only)); refine box_event ?hg (N := 9) ?hd (cs := #[.int .i64 0, .int .i64 0, .slice none 0 0]) (t := 24) ?hr ?_; (case hd => rfl); (case hg => rfl); (case hr => first | (go_simp; done) | (go_simp; rfl)); intro gb240 hg w29 hbox hb; have n0_ := A_ (Kd.S_below (by (with_reducible repeat (first | apply Kd.S_alloc | apply Kd.S_drewN | apply Kd.S_drew)); exact HO238.out) hb); have n1_ := A_ (blk_below (pk_ BK230.out) hb); have n2_ := A_ (below_step (bk_ HB.out) hb); have n3_ := A_ (hbox); have n4_ := A_ ((by rw [hg]; exact (below_size (bk_ HB.out)) : w.heap.size ≤ gb240)); have n5_ := A_ ((by rw [hg]; exact (below_size (bk_ HB.out)) : w.heap.size ≤ gb240)); have n6_ := A_ ((by rw [hg]; exact Nat.ne_of_lt (blk_lt (pk_ BK230.out)) : gb230 ≠ gb240)); have n7_ := A_ ((by rw [hg]; exact Nat.ne_of_gt (blk_lt (pk_ BK230.out)) : gb240 ≠ gb230)); clear HO238 BK230 HB; have HO238 := n0_; have BK230 := n1_; have HB := n2_; have BK240 := n3_; have GW240 := n4_; have GE240 := n5_; have NB230_240 := n6_; have NB240_230 := n7_; clear n0_ n1_ n2_ n3_ n4_ n5_ n6_ n7_ hb hbox hg; have hnb30 := NB240_230.out; have hnc30 := NB230_240.out; have hcz31_0 : w29.cell? ⟨gb240, 0, none⟩ = some (.int .i64 0) := (blk_cell BK240.out 0).trans rfl; have hcz31_1 : w29.cell? ⟨gb240, 1, none⟩ = some (.int .i64 0) := (blk_cell BK240.out 1).trans rfl; have hcz31_2 : w29.cell? ⟨gb240, 2, none⟩ = some (.slice none 0 0) := (blk_cell BK240.out 2).trans rfl; have hfz31_0 := blk_frozen BK240.out 0; have hfz31_1 := blk_frozen BK240.out 1; have hfz31_2 := blk_frozen BK240.out 2; obtain ⟨Ao32, co32, eo32⟩ := Kd.S_slice HO238.out; subst eo32; have hcz33_0 : w29.cell? ⟨gb230, 0, none⟩ = some (.int .i64 a0_0) := (blk_cell BK230.out 0).trans rfl; have hcz33_1 : w29.cell? ⟨gb230, 1, none⟩ = some (.int .i64 a0_1) := (blk_cell BK230.out 1).trans rfl; have hcz33_2 : w29.cell? ⟨gb230, 2, none⟩ = some (.slice A0_2 l0_2.length c0_2) := (blk_cell BK230.out 2).trans rfl; have hfz33_0 := blk_frozen BK230.out 0; have hfz33_1 := blk_frozen BK230.out 1; have hfz33_2 := blk_frozen BK230.out 2) | ((with_reducible refine gate_callee (f := 9) rfl ?_); refine goesL_ (some 39) rfl rfl Try.func9 (by kernel_rfl) rfl #[.agg #[.int .i64 a0_0, .int .i64 a0_1, .slice A0_2 l0_2.length c0_2], .int .i64 a1, .int .i64 a2, .slice A3 l3.length c3] rfl gl_ ?_; (with_reducible refine (block_Cross.calls kj4 a0_0 a0_1 _ _ l0_2 a1 a2 _ _ l3 t241 t242 t243 t244 t245 t248 _ ?side1 ?side2 ?side3 ?side4 A23.out).mono ?_); (case side1 => exact Kd.C_below HR0_2.out (bk_ HB.out)); (case side2 => exact HC0_2.out); (case side3 => exact Kd.C_below HR3.out (bk_ HB.out)); (case side4 => exact HC3.out); rintro e w34 ⟨v246, rfl, ho0, hb⟩; refine ⟨_, rfl, ?_⟩; have n0_ := A_ (Kd.S_below (by (with_reducible repeat (first | apply Kd.S_alloc | apply Kd.S_drewN | apply Kd.S_drew)); exact (Kd.S_mono (Kd.S_far (p := ⟨gb240, 2, none⟩) (Kd.S_far (p := ⟨gb240, 1, none⟩) (Kd.S_far (p := ⟨gb240, 0, none⟩) (Kd.S_types HO238.out BK240.out (by decide)) (fun _ hk => hk.2) (.int .i64 t234)) (fun _ hk => hk.2) (.int .i64 t235)) (fun _ hk => hk.2) (.slice Ao32 t236.length co32)) (fun _ h_ => h_.1))) hb); have n1_ := A_ (Kd.R_lower ho0 (below_size (bk_ HB.out))); have n2_ := A_ (blk_below (g := gb230) (o := .cells #[.int .i64 a0_0, .int .i64 a0_1, .slice A0_2 l0_2.length c0_2] 24 (0, 0)) (by refine pk_ ?_; refine blk_far ?_ NB230_240.out _; refine pk_ ?_; refine blk_far ?_ NB230_240.out _; refine pk_ ?_; refine blk_far ?_ NB230_240.out _; exact pk_ BK230.out) hb); have n3_ := A_ (blk_below (g := gb240) (o := .cells #[.int .i64 t234, .int .i64 t235, .slice Ao32 t236.length co32] 24 (0, 0)) (by refine pk_ ?_; refine blk_put (cs := #[.int .i64 t234, .int .i64 t235, .slice none 0 0]) ?_ 2 _ rfl; refine pk_ ?_; refine blk_put (cs := #[.int .i64 t234, .int .i64 0, .slice none 0 0]) ?_ 1 _ rfl; refine pk_ ?_; refine blk_put (cs := #[.int .i64 0, .int .i64 0, .slice none 0 0]) ?_ 0 _ rfl; exact pk_ BK240.out) hb); have n4_ := A_ (below_step (bk_ HB.out) hb); clear HO238 BK230 BK240 HB; have HO238 := n0_; have HO247 := n1_; have BK230 := n2_; have BK240 := n3_; have HB := n4_; clear n0_ n1_ n2_ n3_ n4_; (try clear hb); (try clear hb2); (try clear hk); (try clear hi); (try clear ho0)) | ((with_reducible refine gate_dst (N := 11) rfl ?_); (try (refine gate_guard (by rfl) ?_; dsimp only)); refine box_event ?hg (N := 11) ?hd (cs := #[.int .i64 0, .int .i64 0, .int .i64 0, .int .i64 0, .slice none 0 0]) (t := 29) ?hr ?_; (case hd => rfl); (case hg => rfl); (case hr => first | (go_simp; done) | (go_simp; rfl)); intro gb249 hg w35 hbox hb; have n0_ := A_ (Kd.S_below (by (with_reducible repeat (first | apply Kd.S_alloc | apply Kd.S_drewN | apply Kd.S_drew)); exact HO238.out) hb); have n1_ := A_ (Kd.R_below (rk_ HO247.out) hb); have n2_ := A_ (blk_below (pk_ BK230.out) hb); have n3_ := A_ (blk_below (pk_ BK240.out) hb); have n4_ := A_ (below_step (bk_ HB.out) hb); have n5_ := A_ (hbox); have n6_ := A_ ((by rw [hg]; exact (below_size (bk_ HB.out)) : w.heap.size ≤ gb249)); have n7_ := A_ ((by rw [hg]; exact (below_size (bk_ HB.out)) : w.heap.size ≤ gb249)); have n8_ := A_ ((by rw [hg]; exact Nat.ne_of_lt (blk_lt (pk_ BK230.out)) : gb230 ≠ gb249)); have n9_ := A_ ((by rw [hg]; exact Nat.ne_of_gt (blk_lt (pk_ BK230.out)) : gb249 ≠ gb230)); have n10_ := A_ ((by rw [hg]; exact Nat.ne_of_lt (blk_lt (pk_ BK240.out)) : gb240 ≠ gb249)); have n11_ := A_ ((by rw [hg]; exact Nat.ne_of_gt (blk_lt (pk_ BK240.out)) : gb249 ≠ gb240)); clear HO238 HO247 BK230 BK240 HB; have HO238 := n0_; have HO247 := n1_; have BK230 := n2_; have BK240 := n3_; have HB := n4_; have BK249 := n5_; have GW249 := n6_; have GE249 := n7_; have NB230_249 := n8_; have NB249_230 := n9_; have NB240_249 := n10_; have NB249_240 := n11_; clear n0_ n1_ n2_ n3_ n4_ n5_ n6_ n7_ n8_ n9_ n10_ n11_ hb hbox hg; have hnb36 := NB249_230.out; have hnc36 := NB230_249.out; have hnb37 := NB249_240.out; have hnc37 := NB240_249.out; have hcz38_0 : w35.cell? ⟨gb249, 0, none⟩ = some (.int .i64 0) := (blk_cell BK249.out 0).trans rfl; have hcz38_1 : w35.cell? ⟨gb249, 1, none⟩ = some (.int .i64 0) := (blk_cell BK249.out 1).trans rfl; have hcz38_2 : w35.cell? ⟨gb249, 2, none⟩ = some (.int .i64 0) := (blk_cell BK249.out 2).trans rfl; have hcz38_3 : w35.cell? ⟨gb249, 3, none⟩ = some (.int .i64 0) := (blk_cell BK249.out 3).trans rfl; have hcz38_4 : w35.cell? ⟨gb249, 4, none⟩ = some (.slice none 0 0) := (blk_cell BK249.out 4).trans rfl; have hfz38_0 := blk_frozen BK249.out 0; have hfz38_1 := blk_frozen BK249.out 1; have hfz38_2 := blk_frozen BK249.out 2; have hfz38_3 := blk_frozen BK249.out 3; have hfz38_4 := blk_frozen BK249.out 4; obtain ⟨Ao39, co39, eo39⟩ := Kd.R_slice HO247.out; subst eo39))
    have n0_ : Aside0 (Kd.S (Kd.slice 57 k57) 54 (((((w35.setCell ⟨gb249, 0, none⟩ (.int .i64 t241)).setCell ⟨gb249, 1, none⟩ (.int .i64 t242)).setCell ⟨gb249, 2, none⟩ (.int .i64 t243)).setCell ⟨gb249, 3, none⟩ (.int .i64 t244)).setCell ⟨gb249, 4, none⟩ (.slice Ao39 t245.length co39)) w.heap.size (fun _ => True) (.slice Ao32 t236.length co32) t236) := ⟨by (with_reducible repeat (first | apply Kd.S_alloc | apply Kd.S_drewN | apply Kd.S_drew)); exact Kd.S_mono (Kd.S_far (p := ⟨gb249, 4, none⟩) (Kd.S_far (p := ⟨gb249, 3, none⟩) (Kd.S_far (p := ⟨gb249, 2, none⟩) (Kd.S_far (p := ⟨gb249, 1, none⟩) (Kd.S_far (p := ⟨gb249, 0, none⟩) (Kd.S_types HO238.out BK249.out (by decide)) (fun _ hk => hk.2) (.int .i64 t241)) (fun _ hk => hk.2) (.int .i64 t242)) (fun _ hk => hk.2) (.int .i64 t243)) (fun _ hk => hk.2) (.int .i64 t244)) (fun _ hk => hk.2) (.slice Ao39 t245.length co39)) (fun _ hk => trivial)⟩
    have n1_ : Aside0 (Kd.R (Kd.int .i64) 3 (((((w35.setCell ⟨gb249, 0, none⟩ (.int .i64 t241)).setCell ⟨gb249, 1, none⟩ (.int .i64 t242)).setCell ⟨gb249, 2, none⟩ (.int .i64 t243)).setCell ⟨gb249, 3, none⟩ (.int .i64 t244)).setCell ⟨gb249, 4, none⟩ (.slice Ao39 t245.length co39)) w.heap.size (fun _ => True) (.slice Ao39 t245.length co39) t245) := ⟨by (with_reducible repeat (first | apply Kd.R_alloc | apply Kd.R_drewN | apply Kd.R_drew)); exact Kd.R_mono (Kd.R_far (p := ⟨gb249, 4, none⟩) (Kd.R_far (p := ⟨gb249, 3, none⟩) (Kd.R_far (p := ⟨gb249, 2, none⟩) (Kd.R_far (p := ⟨gb249, 1, none⟩) (Kd.R_far (p := ⟨gb249, 0, none⟩) (Kd.R_types HO247.out BK249.out (by decide)) (fun _ hk => hk.2) (.int .i64 t241)) (fun _ hk => hk.2) (.int .i64 t242)) (fun _ hk => hk.2) (.int .i64 t243)) (fun _ hk => hk.2) (.int .i64 t244)) (fun _ hk => hk.2) (.slice Ao39 t245.length co39)) (fun _ hk => trivial)⟩
    have n2_ : Aside0 ((((((w35.setCell ⟨gb249, 0, none⟩ (.int .i64 t241)).setCell ⟨gb249, 1, none⟩ (.int .i64 t242)).setCell ⟨gb249, 2, none⟩ (.int .i64 t243)).setCell ⟨gb249, 3, none⟩ (.int .i64 t244)).setCell ⟨gb249, 4, none⟩ (.slice Ao39 t245.length co39)).heap[gb230]? = some (.cells #[.int .i64 a0_0, .int .i64 a0_1, .slice A0_2 l0_2.length c0_2] 24 (0, 0))) := ⟨by refine pk_ ?_; refine blk_far ?_ NB230_249.out _; refine pk_ ?_; refine blk_far ?_ NB230_249.out _; refine pk_ ?_; refine blk_far ?_ NB230_249.out _; refine pk_ ?_; refine blk_far ?_ NB230_249.out _; refine pk_ ?_; refine blk_far ?_ NB230_249.out _; exact pk_ BK230.out⟩
    have n3_ : Aside0 ((((((w35.setCell ⟨gb249, 0, none⟩ (.int .i64 t241)).setCell ⟨gb249, 1, none⟩ (.int .i64 t242)).setCell ⟨gb249, 2, none⟩ (.int .i64 t243)).setCell ⟨gb249, 3, none⟩ (.int .i64 t244)).setCell ⟨gb249, 4, none⟩ (.slice Ao39 t245.length co39)).heap[gb240]? = some (.cells #[.int .i64 t234, .int .i64 t235, .slice Ao32 t236.length co32] 24 (0, 0))) := ⟨by refine pk_ ?_; refine blk_far ?_ NB240_249.out _; refine pk_ ?_; refine blk_far ?_ NB240_249.out _; refine pk_ ?_; refine blk_far ?_ NB240_249.out _; refine pk_ ?_; refine blk_far ?_ NB240_249.out _; refine pk_ ?_; refine blk_far ?_ NB240_249.out _; exact pk_ BK240.out⟩
    have n4_ : Aside0 ((((((w35.setCell ⟨gb249, 0, none⟩ (.int .i64 t241)).setCell ⟨gb249, 1, none⟩ (.int .i64 t242)).setCell ⟨gb249, 2, none⟩ (.int .i64 t243)).setCell ⟨gb249, 3, none⟩ (.int .i64 t244)).setCell ⟨gb249, 4, none⟩ (.slice Ao39 t245.length co39)).heap[gb249]? = some (.cells #[.int .i64 t241, .int .i64 t242, .int .i64 t243, .int .i64 t244, .slice Ao39 t245.length co39] 29 (0, 0))) := ⟨by refine pk_ ?_; refine blk_put (cs := #[.int .i64 t241, .int .i64 t242, .int .i64 t243, .int .i64 t244, .slice none 0 0]) ?_ 4 _ rfl; refine pk_ ?_; refine blk_put (cs := #[.int .i64 t241, .int .i64 t242, .int .i64 t243, .int .i64 0, .slice none 0 0]) ?_ 3 _ rfl; refine pk_ ?_; refine blk_put (cs := #[.int .i64 t241, .int .i64 t242, .int .i64 0, .int .i64 0, .slice none 0 0]) ?_ 2 _ rfl; refine pk_ ?_; refine blk_put (cs := #[.int .i64 t241, .int .i64 0, .int .i64 0, .int .i64 0, .slice none 0 0]) ?_ 1 _ rfl; refine pk_ ?_; refine blk_put (cs := #[.int .i64 0, .int .i64 0, .int .i64 0, .int .i64 0, .slice none 0 0]) ?_ 0 _ rfl; exact pk_ BK249.out⟩
    have n5_ : Aside0 (Below w.heap.size w (((((w35.setCell ⟨gb249, 0, none⟩ (.int .i64 t241)).setCell ⟨gb249, 1, none⟩ (.int .i64 t242)).setCell ⟨gb249, 2, none⟩ (.int .i64 t243)).setCell ⟨gb249, 3, none⟩ (.int .i64 t244)).setCell ⟨gb249, 4, none⟩ (.slice Ao39 t245.length co39))) := ⟨bk_ HB.out⟩
    (try clear HO238)
    (try clear HO247)
    (try clear BK230)
    (try clear BK240)
    (try clear BK249)
    (try clear HB)
    generalize (((((w35.setCell ⟨gb249, 0, none⟩ (.int .i64 t241)).setCell ⟨gb249, 1, none⟩ (.int .i64 t242)).setCell ⟨gb249, 2, none⟩ (.int .i64 t243)).setCell ⟨gb249, 3, none⟩ (.int .i64 t244)).setCell ⟨gb249, 4, none⟩ (.slice Ao39 t245.length co39)) = w40 at n0_ n1_ n2_ n3_ n4_ n5_ ⊢
    have HO238 := n0_
    have HO247 := n1_
    have BK230 := n2_
    have BK240 := n3_
    have BK249 := n4_
    have HB := n5_
    clear n0_ n1_ n2_ n3_ n4_ n5_
    have n0_ := A_ (Kd.S_drew HO238.out)
    have n1_ := A_ (Kd.R_drew HO247.out)
    have n2_ := A_ (blk_drew BK230.out)
    have n3_ := A_ (blk_drew BK240.out)
    have n4_ := A_ (blk_drew BK249.out)
    have n5_ := A_ (below_drew1 HB.out)
    clear HO238 HO247 BK230 BK240 BK249 HB
    have HO238 := n0_
    have HO247 := n1_
    have BK230 := n2_
    have BK240 := n3_
    have BK249 := n4_
    have HB := n5_
    clear n0_ n1_ n2_ n3_ n4_ n5_
    refine start_ (n := 16) (S := fun w' => w'.cell? ⟨gb240, 0, none⟩ = some (.int .i64 t234) ∧ w'.cell? ⟨gb240, 1, none⟩ = some (.int .i64 t235) ∧ w'.cell? ⟨gb240, 2, none⟩ = some (.slice Ao32 t236.length co32)) (ds := []) #[false, false, false, false, false, false, false, false, false, false, false, false, false, false, false, false] (by kernel_rfl) rfl rfl ⟨(blk_cell BK240.out 0).trans rfl, (blk_cell BK240.out 1).trans rfl, (blk_cell BK240.out 2).trans rfl⟩ (fun hHeld => ?_); refine with_tabW standstilllaw05_BlockMirror.tab5 standstilllaw05_BlockMirror.bits5 (fun HT_ HW_ => ?_)
    generalize w40.drew = w41 at HO238 HO247 BK230 BK240 BK249 HB hHeld ⊢
    refine pure_ (i := 1) (N := some 44) (v := ?_) (a' := ?_) #[false, true, false, false, false, false, false, false, false, false, false, false, false, false, false, false] rfl rfl (any_of HT_.out (by kernel_rfl)) (fun _ _ _ h => h) (Or.inl ⟨by rfl, ?_⟩) ?_ ?_
    rotate_left
    ·intro w'
     go_simp
     with_reducible rfl
    rotate_left
    ·simp only [Act.put, sa_, sz_, ss_, i64_w, i32_w]
     rfl
    refine pure_ (i := 2) (N := some 45) (v := ?_) (a' := ?_) #[false, true, true, false, false, false, false, false, false, false, false, false, false, false, false, false] rfl rfl (any_of HT_.out (by kernel_rfl)) (fun _ _ _ h => h) (Or.inl ⟨by rfl, ?_⟩) ?_ ?_
    rotate_left
    ·intro w'
     go_simp
     with_reducible rfl
    rotate_left
    ·simp only [Act.put, sa_, sz_, ss_, i64_w, i32_w]
     rfl
    refine pure_ (i := 3) (N := some 46) (v := ?_) (a' := ?_) #[false, true, true, true, false, false, false, false, false, false, false, false, false, false, false, false] rfl rfl (any_of HT_.out (by kernel_rfl)) (fun _ _ _ h => h) (Or.inl ⟨by rfl, ?_⟩) ?_ ?_
    rotate_left
    ·intro w'
     go_simp
     with_reducible rfl
    rotate_left
    ·simp only [Act.put, sa_, sz_, ss_, i64_w, i32_w]
     rfl
    refine pure_ (i := 4) (N := some 47) (v := ?_) (a' := ?_) #[false, true, true, true, true, false, false, false, false, false, false, false, false, false, false, false] rfl rfl (any_of HT_.out (by kernel_rfl)) (fun _ _ _ h => h) (Or.inl ⟨by rfl, ?_⟩) ?_ ?_
    rotate_left
    ·intro w'
     go_simp
     with_reducible rfl
    rotate_left
    ·simp only [Act.put, sa_, sz_, ss_, i64_w, i32_w]
     rfl
    refine pure_ (i := 5) (N := some 48) (v := ?_) (a' := ?_) #[false, true, true, true, true, true, false, false, false, false, false, false, false, false, false, false] rfl rfl (any_of HT_.out (by kernel_rfl)) (fun _ _ _ h => h) (Or.inl ⟨by rfl, ?_⟩) ?_ ?_
    rotate_left
    ·intro w'
     go_simp
     with_reducible rfl
    rotate_left
    ·simp only [Act.put, sa_, sz_, ss_, i64_w, i32_w]
     rfl
    refine pure_ (i := 6) (N := some 49) (v := ?_) (a' := ?_) #[false, true, true, true, true, true, true, false, false, false, false, false, false, false, false, false] rfl rfl (any_of HT_.out (by kernel_rfl)) (fun _ _ _ h => h) (Or.inl ⟨by rfl, ?_⟩) ?_ ?_
    rotate_left
    ·intro w'
     go_simp
     with_reducible rfl
    rotate_left
    ·simp only [Act.put, sa_, sz_, ss_, i64_w, i32_w]
     rfl
    refine pure_ (i := 7) (N := some 50) (v := ?_) (a' := ?_) #[false, true, true, true, true, true, true, true, false, false, false, false, false, false, false, false] rfl rfl (any_of HT_.out (by kernel_rfl)) (fun _ _ _ h => h) (Or.inl ⟨by rfl, ?_⟩) ?_ ?_
    rotate_left
    ·intro w'
     go_simp
     with_reducible rfl
    rotate_left
    ·simp only [Act.put, sa_, sz_, ss_, i64_w, i32_w]
     rfl
    refine take_ (i := 0) (N := some 43) (v := ?_) (a' := ?_) #[true, true, true, true, true, true, true, true, false, false, false, false, false, false, false, false] rfl rfl (take_ofW HT_.out HW_.out (by kernel_rfl)) (fun _ _ _ h => h) (Or.inl ⟨by rfl, ?_⟩) hHeld ?_ ?_
    rotate_left
    ·rintro w' ⟨s0, s1, s2⟩
     go_simp
     with_reducible rfl
    rotate_left
    ·simp only [Act.put, sa_, sz_, ss_, i64_w, i32_w]
     rfl
    refine join_ (σ := Value × Value × Nat) 2 #[true, true, true, true, true, true, true, true, true, true, true, true, true, true, false, false] (fun s_ => [(51, s_.1), (52, .tuple #[.agg #[.int .i64 t253, .int .i64 t254, .int .i64 t255, .int .i64 t256, s_.2.1], .int .i64 t260]), (13, .pointer (some ⟨s_.2.2, 0, none⟩)), (42, .tuple #[.agg #[.int .i64 t253, .int .i64 t254, .int .i64 t255, .int .i64 t256, s_.2.1], .int .i64 t260]), (53, .agg #[.int .i64 t253, .int .i64 t254, .int .i64 t255, .int .i64 t256, s_.2.1]), (54, .int .i64 t260)]) (fun s_ w' => (w'.cell? ⟨gb240, 0, none⟩ = some (.int .i64 t234) ∧ w'.cell? ⟨gb240, 1, none⟩ = some (.int .i64 t235) ∧ w'.cell? ⟨gb240, 2, none⟩ = some (.slice Ao32 t236.length co32)) ∧ (Kd.S (Kd.slice 57 k57) 54 w' w.heap.size (fun _ => True) (.slice Ao32 t236.length co32) t236) ∧ (Kd.R (Kd.int .i64) 3 w' w.heap.size (fun k_ => some k_ ≠ (s_.1 : Value).ownBlock ∧ some k_ ≠ (s_.2.1 : Value).ownBlock) (.slice Ao39 t245.length co39) t245) ∧ (Kd.R (Kd.int .i64) 3 w' w.heap.size (fun k_ => some k_ ≠ (.slice Ao39 t245.length co39 : Value).ownBlock ∧ some k_ ≠ (s_.2.1 : Value).ownBlock) s_.1 t250) ∧ (Kd.R (Kd.int .i64) 3 w' w.heap.size (fun k_ => some k_ ≠ (.slice Ao39 t245.length co39 : Value).ownBlock ∧ some k_ ≠ (s_.1 : Value).ownBlock) s_.2.1 t257) ∧ (w'.heap[gb230]? = some (.cells #[.int .i64 a0_0, .int .i64 a0_1, .slice A0_2 l0_2.length c0_2] 24 (0, 0))) ∧ (w'.heap[gb240]? = some (.cells #[.int .i64 t234, .int .i64 t235, .slice Ao32 t236.length co32] 24 (0, 0))) ∧ (w'.heap[gb249]? = some (.cells #[.int .i64 t241, .int .i64 t242, .int .i64 t243, .int .i64 t244, .slice Ao39 t245.length co39] 29 (0, 0))) ∧ (w'.heap[s_.2.2]? = some (.cells #[.int .i64 0, .int .i64 0, .int .i64 0, .int .i64 0, .slice none 0 0] 29 (0, 0))) ∧ (w.heap.size ≤ s_.2.2) ∧ (w.heap.size ≤ s_.2.2) ∧ (gb230 ≠ s_.2.2) ∧ (s_.2.2 ≠ gb230) ∧ (gb240 ≠ s_.2.2) ∧ (s_.2.2 ≠ gb240) ∧ (gb249 ≠ s_.2.2) ∧ (s_.2.2 ≠ gb249) ∧ (Below w.heap.size w w')) ?_ ?_
    rotate_left
    ·intro hCont
     refine two_ (i := 8) (j := 13) (Ni := some 51) (Nj := some 13) #[true, true, true, true, true, true, true, true, true, false, false, false, false, false, false, false] #[true, true, true, true, true, true, true, true, false, false, false, false, false, true, false, false] rfl rfl rfl rfl (two_of HT_.out (by kernel_rfl)) (by decide) (by decide) (fun K hK => ?_) (fun K hK => ?_)
     ·skip
      refine goes_ Try.func16 (by kernel_rfl) rfl #[.slice A3 l3.length c3] (by rfl) rfl rfl gl_ ?_
      with_reducible refine (standstillref01_Turned.calls kj4 _ _ l3 t250 _ ?side1 ?side2 A24.out).mono ?_
      (case side1 => exact ck_ (Kd.C_below HR3.out HB.out))
      (case side2 => exact HC3.out)
      rintro e w42 ⟨v251, rfl, ho0, hb⟩
      refine ⟨_, rfl, ?_⟩
      have n0_ := A_ (Kd.S_below (by (with_reducible repeat (first | apply Kd.S_alloc | apply Kd.S_drewN | apply Kd.S_drew)); exact HO238.out) hb)
      have n1_ := A_ (Kd.R_elder' (rk_ HO247.out) (Kd.R_base ho0) hb)
      have n2_ := A_ (Kd.R_lower (Kd.R_new' ho0 (Kd.R_lt (rk_ HO247.out))) (below_size (bk_ HB.out)))
      have n3_ := A_ (blk_below (pk_ BK230.out) hb)
      have n4_ := A_ (blk_below (pk_ BK240.out) hb)
      have n5_ := A_ (blk_below (pk_ BK249.out) hb)
      have n6_ := A_ (below_step (bk_ HB.out) hb)
      clear HO238 HO247 BK230 BK240 BK249 HB
      have HO238 := n0_
      have HO247 := n1_
      have HO252 := n2_
      have BK230 := n3_
      have BK240 := n4_
      have BK249 := n5_
      have HB := n6_
      clear n0_ n1_ n2_ n3_ n4_ n5_ n6_
      (try clear hb)
      (try clear hb2)
      (try clear hk)
      (try clear hi)
      (try clear ho0)
      obtain ⟨Ao43, co43, eo43⟩ := Kd.R_slice HO252.out
      (first | subst eo43 | (injection eo43 with f1_ f2_ f3_; have f4_ := f1_.symm; have f5_ := f3_.symm; clear f1_ f2_ f3_; subst f4_; subst f5_))
      refine hK.out _ _ ⟨(blk_cell BK240.out 0).trans rfl, (blk_cell BK240.out 1).trans rfl, (blk_cell BK240.out 2).trans rfl⟩ (fun hHeld => ?_)
      clear hK K
      refine norm_ (a' := ?_) ?_ ?_
      rotate_left
      ·show Act.put _ (some 51) _ = _
       simp only [Act.put, sa_, sz_, ss_, i64_w, i32_w]
       rfl
      refine two_ (i := 9) (j := 13) (Ni := some 52) (Nj := some 13) #[true, true, true, true, true, true, true, true, true, true, false, false, false, false, false, false] #[true, true, true, true, true, true, true, true, true, false, false, false, false, true, false, false] rfl rfl rfl rfl (two_of HT_.out (by kernel_rfl)) (by decide) (by decide) (fun K hK => ?_) (fun K hK => ?_)
      ·skip
       refine goes_ Try.func9 (by kernel_rfl) rfl #[.agg #[.int .i64 t234, .int .i64 t235, .slice Ao32 t236.length co32], .int .i64 a1, .int .i64 (wrap64 ((wrap64 ((l3.length : Int) - 1)) - a2)), .slice Ao43 t250.length co43] (by rfl) rfl rfl gl_ ?_
       with_reducible refine (block_Cross.calls kj4 t234 t235 _ _ t236 a1 (wrap64 ((wrap64 ((l3.length : Int) - 1)) - a2)) _ _ t250 t253 t254 t255 t256 t257 t260 _ ?side1 ?side2 ?side3 ?side4 A25.out).mono ?_
       (case side1 => repeat (first | exact (Kd.S_reads' HO238.out).2.2 | (with_reducible refine Kd.C_alloc ?_ _) | (with_reducible refine Kd.C_drewN ?_ _) | (with_reducible refine Kd.C_drew ?_)))
       (case side2 => exact (Kd.S_reads' HO238.out).2.1)
       (case side3 => repeat (first | exact (Kd.R_reads' HO252.out).2.2 | (with_reducible refine Kd.C_alloc ?_ _) | (with_reducible refine Kd.C_drewN ?_ _) | (with_reducible refine Kd.C_drew ?_)))
       (case side4 => exact (Kd.R_reads' HO252.out).2.1)
       rintro e w44 ⟨v258, rfl, ho0, hb⟩
       refine ⟨_, rfl, ?_⟩
       have n0_ := A_ (Kd.S_below (by (with_reducible repeat (first | apply Kd.S_alloc | apply Kd.S_drewN | apply Kd.S_drew)); exact HO238.out) hb)
       have n1_ := A_ (Kd.R_elder' (rk_ HO247.out) (Kd.R_base ho0) hb)
       have n2_ := A_ (Kd.R_elder' (rk_ HO252.out) (Kd.R_base ho0) hb)
       have n3_ := A_ (Kd.R_lower (Kd.R_new' (Kd.R_new' ho0 (Kd.R_lt (rk_ HO247.out))) (Kd.R_lt (rk_ HO252.out))) (below_size (bk_ HB.out)))
       have n4_ := A_ (blk_below (pk_ BK230.out) hb)
       have n5_ := A_ (blk_below (pk_ BK240.out) hb)
       have n6_ := A_ (blk_below (pk_ BK249.out) hb)
       have n7_ := A_ (below_step (bk_ HB.out) hb)
       clear HO238 HO247 HO252 BK230 BK240 BK249 HB
       have HO238 := n0_
       have HO247 := n1_
       have HO252 := n2_
       have HO259 := n3_
       have BK230 := n4_
       have BK240 := n5_
       have BK249 := n6_
       have HB := n7_
       clear n0_ n1_ n2_ n3_ n4_ n5_ n6_ n7_
       (try clear hb)
       (try clear hb2)
       (try clear hk)
       (try clear hi)
       (try clear ho0)
       refine hK.out _ _ ⟨(blk_cell BK240.out 0).trans rfl, (blk_cell BK240.out 1).trans rfl, (blk_cell BK240.out 2).trans rfl⟩ (fun hHeld => ?_)
       clear hK K
       refine norm_ (a' := ?_) ?_ ?_
       rotate_left
       ·show Act.put _ (some 52) _ = _
        simp only [Act.put, sa_, sz_, ss_, i64_w, i32_w]
        rfl
       refine pure_ (i := 10) (N := some 42) (v := ?_) (a' := ?_) #[true, true, true, true, true, true, true, true, true, true, true, false, false, false, false, false] rfl rfl (any_of HT_.out (by kernel_rfl)) (fun _ _ _ h => h) (Or.inl ⟨by rfl, ?_⟩) ?_ ?_
       rotate_left
       ·intro w'
        go_simp
        with_reducible rfl
       rotate_left
       ·simp only [Act.put, sa_, sz_, ss_, i64_w, i32_w]
        rfl
       refine pure_ (i := 11) (N := some 53) (v := ?_) (a' := ?_) #[true, true, true, true, true, true, true, true, true, true, true, true, false, false, false, false] rfl rfl (any_of HT_.out (by kernel_rfl)) (fun _ _ _ h => h) (Or.inl ⟨by rfl, ?_⟩) ?_ ?_
       rotate_left
       ·intro w'
        go_simp
        with_reducible rfl
       rotate_left
       ·simp only [Act.put, sa_, sz_, ss_, i64_w, i32_w]
        rfl
       refine pure_ (i := 12) (N := some 54) (v := ?_) (a' := ?_) #[true, true, true, true, true, true, true, true, true, true, true, true, true, false, false, false] rfl rfl (any_of HT_.out (by kernel_rfl)) (fun _ _ _ h => h) (Or.inl ⟨by rfl, ?_⟩) ?_ ?_
       rotate_left
       ·intro w'
        go_simp
        with_reducible rfl
       rotate_left
       ·simp only [Act.put, sa_, sz_, ss_, i64_w, i32_w]
        rfl
       refine one_ (i := 13) (N := some 13) #[true, true, true, true, true, true, true, true, true, true, true, true, true, true, false, false] rfl rfl (one_of HT_.out (by kernel_rfl)) (by decide) (fun K hK => ?_)
       refine box_step ?hg (N := 13) ?hd (cs := #[.int .i64 0, .int .i64 0, .int .i64 0, .int .i64 0, .slice none 0 0]) (t := 29) ?hr ?_; (case hd => rfl); (case hg => rfl); (case hr => first | (go_simp; done) | (go_simp; rfl))
       intro gb261 hg w45 hbox hb
       have n0_ := A_ (Kd.S_below (by (with_reducible repeat (first | apply Kd.S_alloc | apply Kd.S_drewN | apply Kd.S_drew)); exact HO238.out) hb)
       have n1_ := A_ (Kd.R_below (rk_ HO247.out) hb)
       have n2_ := A_ (Kd.R_below (rk_ HO252.out) hb)
       have n3_ := A_ (Kd.R_below (rk_ HO259.out) hb)
       have n4_ := A_ (blk_below (pk_ BK230.out) hb)
       have n5_ := A_ (blk_below (pk_ BK240.out) hb)
       have n6_ := A_ (blk_below (pk_ BK249.out) hb)
       have n7_ := A_ (below_step (bk_ HB.out) hb)
       have n8_ := A_ (hbox)
       have n9_ := A_ ((by rw [hg]; exact (below_size (bk_ HB.out)) : w.heap.size ≤ gb261))
       have n10_ := A_ ((by rw [hg]; exact (below_size (bk_ HB.out)) : w.heap.size ≤ gb261))
       have n11_ := A_ ((by rw [hg]; exact Nat.ne_of_lt (blk_lt (pk_ BK230.out)) : gb230 ≠ gb261))
       have n12_ := A_ ((by rw [hg]; exact Nat.ne_of_gt (blk_lt (pk_ BK230.out)) : gb261 ≠ gb230))
       have n13_ := A_ ((by rw [hg]; exact Nat.ne_of_lt (blk_lt (pk_ BK240.out)) : gb240 ≠ gb261))
       have n14_ := A_ ((by rw [hg]; exact Nat.ne_of_gt (blk_lt (pk_ BK240.out)) : gb261 ≠ gb240))
       have n15_ := A_ ((by rw [hg]; exact Nat.ne_of_lt (blk_lt (pk_ BK249.out)) : gb249 ≠ gb261))
       have n16_ := A_ ((by rw [hg]; exact Nat.ne_of_gt (blk_lt (pk_ BK249.out)) : gb261 ≠ gb249))
       clear HO238 HO247 HO252 HO259 BK230 BK240 BK249 HB
       have HO238 := n0_
       have HO247 := n1_
       have HO252 := n2_
       have HO259 := n3_
       have BK230 := n4_
       have BK240 := n5_
       have BK249 := n6_
       have HB := n7_
       have BK261 := n8_
       have GW261 := n9_
       have GE261 := n10_
       have NB230_261 := n11_
       have NB261_230 := n12_
       have NB240_261 := n13_
       have NB261_240 := n14_
       have NB249_261 := n15_
       have NB261_249 := n16_
       clear n0_ n1_ n2_ n3_ n4_ n5_ n6_ n7_ n8_ n9_ n10_ n11_ n12_ n13_ n14_ n15_ n16_ hb hbox hg
       refine hK.out _ _ ⟨(blk_cell BK240.out 0).trans rfl, (blk_cell BK240.out 1).trans rfl, (blk_cell BK240.out 2).trans rfl⟩ (fun hHeld => ?_)
       clear hK K
       refine norm_ (a' := ?_) ?_ ?_
       rotate_left
       ·show Act.put _ (some 13) _ = _
        simp only [Act.put, sa_, sz_, ss_, i64_w, i32_w]
        rfl
       exact norm_ (by simp only [putAll, Act.put, List.setIfInBounds_toArray, List.set_cons_zero, List.set_cons_succ]) (hCont (.slice Ao43 t250.length co43, v258, gb261) _ ⟨hHeld, (by (with_reducible repeat (first | apply Kd.S_alloc | apply Kd.S_drewN | apply Kd.S_drew)); exact HO238.out), (by (with_reducible repeat (first | apply Kd.R_alloc | apply Kd.R_drewN | apply Kd.R_drew)); exact Kd.R_mono HO247.out (fun _ hk => ⟨hk.1.2, hk.2⟩)), (by (with_reducible repeat (first | apply Kd.R_alloc | apply Kd.R_drewN | apply Kd.R_drew)); exact Kd.R_mono HO252.out (fun _ hk => ⟨hk.1.2, hk.2⟩)), (by (with_reducible repeat (first | apply Kd.R_alloc | apply Kd.R_drewN | apply Kd.R_drew)); exact Kd.R_mono HO259.out (fun _ hk => ⟨hk.1.2, hk.2⟩)), (pk_ BK230.out), (pk_ BK240.out), (pk_ BK249.out), (pk_ BK261.out), GW261.out, GE261.out, NB230_261.out, NB261_230.out, NB240_261.out, NB261_240.out, NB249_261.out, NB261_249.out, (bk_ HB.out)⟩)
      ·skip
       refine box_step ?hg (N := 13) ?hd (cs := #[.int .i64 0, .int .i64 0, .int .i64 0, .int .i64 0, .slice none 0 0]) (t := 29) ?hr ?_; (case hd => rfl); (case hg => rfl); (case hr => first | (go_simp; done) | (go_simp; rfl))
       intro gb261 hg w43 hbox hb
       have n0_ := A_ (Kd.S_below (by (with_reducible repeat (first | apply Kd.S_alloc | apply Kd.S_drewN | apply Kd.S_drew)); exact HO238.out) hb)
       have n1_ := A_ (Kd.R_below (rk_ HO247.out) hb)
       have n2_ := A_ (Kd.R_below (rk_ HO252.out) hb)
       have n3_ := A_ (blk_below (pk_ BK230.out) hb)
       have n4_ := A_ (blk_below (pk_ BK240.out) hb)
       have n5_ := A_ (blk_below (pk_ BK249.out) hb)
       have n6_ := A_ (below_step (bk_ HB.out) hb)
       have n7_ := A_ (hbox)
       have n8_ := A_ ((by rw [hg]; exact (below_size (bk_ HB.out)) : w.heap.size ≤ gb261))
       have n9_ := A_ ((by rw [hg]; exact (below_size (bk_ HB.out)) : w.heap.size ≤ gb261))
       have n10_ := A_ ((by rw [hg]; exact Nat.ne_of_lt (blk_lt (pk_ BK230.out)) : gb230 ≠ gb261))
       have n11_ := A_ ((by rw [hg]; exact Nat.ne_of_gt (blk_lt (pk_ BK230.out)) : gb261 ≠ gb230))
       have n12_ := A_ ((by rw [hg]; exact Nat.ne_of_lt (blk_lt (pk_ BK240.out)) : gb240 ≠ gb261))
       have n13_ := A_ ((by rw [hg]; exact Nat.ne_of_gt (blk_lt (pk_ BK240.out)) : gb261 ≠ gb240))
       have n14_ := A_ ((by rw [hg]; exact Nat.ne_of_lt (blk_lt (pk_ BK249.out)) : gb249 ≠ gb261))
       have n15_ := A_ ((by rw [hg]; exact Nat.ne_of_gt (blk_lt (pk_ BK249.out)) : gb261 ≠ gb249))
       clear HO238 HO247 HO252 BK230 BK240 BK249 HB
       have HO238 := n0_
       have HO247 := n1_
       have HO252 := n2_
       have BK230 := n3_
       have BK240 := n4_
       have BK249 := n5_
       have HB := n6_
       have BK261 := n7_
       have GW261 := n8_
       have GE261 := n9_
       have NB230_261 := n10_
       have NB261_230 := n11_
       have NB240_261 := n12_
       have NB261_240 := n13_
       have NB249_261 := n14_
       have NB261_249 := n15_
       clear n0_ n1_ n2_ n3_ n4_ n5_ n6_ n7_ n8_ n9_ n10_ n11_ n12_ n13_ n14_ n15_ hb hbox hg
       obtain ⟨Ao44, co44, eo44⟩ := Kd.R_slice HO252.out
       (first | subst eo44 | (injection eo44 with f1_ f2_ f3_; have f4_ := f1_.symm; have f5_ := f3_.symm; clear f1_ f2_ f3_; subst f4_; subst f5_))
       refine hK.out _ _ ⟨(blk_cell BK240.out 0).trans rfl, (blk_cell BK240.out 1).trans rfl, (blk_cell BK240.out 2).trans rfl⟩ (fun hHeld => ?_)
       clear hK K
       refine norm_ (a' := ?_) ?_ ?_
       rotate_left
       ·show Act.put _ (some 13) _ = _
        simp only [Act.put, sa_, sz_, ss_, i64_w, i32_w]
        rfl
       refine one_ (i := 9) (N := some 52) #[true, true, true, true, true, true, true, true, true, true, false, false, false, true, false, false] rfl rfl (one_of HT_.out (by kernel_rfl)) (by decide) (fun K hK => ?_)
       refine goes_ Try.func9 (by kernel_rfl) rfl #[.agg #[.int .i64 t234, .int .i64 t235, .slice Ao32 t236.length co32], .int .i64 a1, .int .i64 (wrap64 ((wrap64 ((l3.length : Int) - 1)) - a2)), .slice Ao44 t250.length co44] (by rfl) rfl rfl gl_ ?_
       with_reducible refine (block_Cross.calls kj4 t234 t235 _ _ t236 a1 (wrap64 ((wrap64 ((l3.length : Int) - 1)) - a2)) _ _ t250 t253 t254 t255 t256 t257 t260 _ ?side1 ?side2 ?side3 ?side4 A25.out).mono ?_
       (case side1 => repeat (first | exact (Kd.S_reads' HO238.out).2.2 | (with_reducible refine Kd.C_alloc ?_ _) | (with_reducible refine Kd.C_drewN ?_ _) | (with_reducible refine Kd.C_drew ?_)))
       (case side2 => exact (Kd.S_reads' HO238.out).2.1)
       (case side3 => repeat (first | exact (Kd.R_reads' HO252.out).2.2 | (with_reducible refine Kd.C_alloc ?_ _) | (with_reducible refine Kd.C_drewN ?_ _) | (with_reducible refine Kd.C_drew ?_)))
       (case side4 => exact (Kd.R_reads' HO252.out).2.1)
       rintro e w45 ⟨v258, rfl, ho0, hb⟩
       refine ⟨_, rfl, ?_⟩
       have n0_ := A_ (Kd.S_below (by (with_reducible repeat (first | apply Kd.S_alloc | apply Kd.S_drewN | apply Kd.S_drew)); exact HO238.out) hb)
       have n1_ := A_ (Kd.R_elder' (rk_ HO247.out) (Kd.R_base ho0) hb)
       have n2_ := A_ (Kd.R_elder' (rk_ HO252.out) (Kd.R_base ho0) hb)
       have n3_ := A_ (Kd.R_lower (Kd.R_new' (Kd.R_new' ho0 (Kd.R_lt (rk_ HO247.out))) (Kd.R_lt (rk_ HO252.out))) (below_size (bk_ HB.out)))
       have n4_ := A_ (blk_below (pk_ BK230.out) hb)
       have n5_ := A_ (blk_below (pk_ BK240.out) hb)
       have n6_ := A_ (blk_below (pk_ BK249.out) hb)
       have n7_ := A_ (blk_below (pk_ BK261.out) hb)
       have n8_ := A_ (below_step (bk_ HB.out) hb)
       clear HO238 HO247 HO252 BK230 BK240 BK249 BK261 HB
       have HO238 := n0_
       have HO247 := n1_
       have HO252 := n2_
       have HO259 := n3_
       have BK230 := n4_
       have BK240 := n5_
       have BK249 := n6_
       have BK261 := n7_
       have HB := n8_
       clear n0_ n1_ n2_ n3_ n4_ n5_ n6_ n7_ n8_
       (try clear hb)
       (try clear hb2)
       (try clear hk)
       (try clear hi)
       (try clear ho0)
       refine hK.out _ _ ⟨(blk_cell BK240.out 0).trans rfl, (blk_cell BK240.out 1).trans rfl, (blk_cell BK240.out 2).trans rfl⟩ (fun hHeld => ?_)
       clear hK K
       refine norm_ (a' := ?_) ?_ ?_
       rotate_left
       ·show Act.put _ (some 52) _ = _
        simp only [Act.put, sa_, sz_, ss_, i64_w, i32_w]
        rfl
       refine pure_ (i := 10) (N := some 42) (v := ?_) (a' := ?_) #[true, true, true, true, true, true, true, true, true, true, true, false, false, true, false, false] rfl rfl (any_of HT_.out (by kernel_rfl)) (fun _ _ _ h => h) (Or.inl ⟨by rfl, ?_⟩) ?_ ?_
       rotate_left
       ·intro w'
        go_simp
        with_reducible rfl
       rotate_left
       ·simp only [Act.put, sa_, sz_, ss_, i64_w, i32_w]
        rfl
       refine pure_ (i := 11) (N := some 53) (v := ?_) (a' := ?_) #[true, true, true, true, true, true, true, true, true, true, true, true, false, true, false, false] rfl rfl (any_of HT_.out (by kernel_rfl)) (fun _ _ _ h => h) (Or.inl ⟨by rfl, ?_⟩) ?_ ?_
       rotate_left
       ·intro w'
        go_simp
        with_reducible rfl
       rotate_left
       ·simp only [Act.put, sa_, sz_, ss_, i64_w, i32_w]
        rfl
       refine pure_ (i := 12) (N := some 54) (v := ?_) (a' := ?_) #[true, true, true, true, true, true, true, true, true, true, true, true, true, true, false, false] rfl rfl (any_of HT_.out (by kernel_rfl)) (fun _ _ _ h => h) (Or.inl ⟨by rfl, ?_⟩) ?_ ?_
       rotate_left
       ·intro w'
        go_simp
        with_reducible rfl
       rotate_left
       ·simp only [Act.put, sa_, sz_, ss_, i64_w, i32_w]
        rfl
       exact norm_ (by simp only [putAll, Act.put, List.setIfInBounds_toArray, List.set_cons_zero, List.set_cons_succ]) (hCont (.slice Ao44 t250.length co44, v258, gb261) _ ⟨hHeld, (by (with_reducible repeat (first | apply Kd.S_alloc | apply Kd.S_drewN | apply Kd.S_drew)); exact HO238.out), (by (with_reducible repeat (first | apply Kd.R_alloc | apply Kd.R_drewN | apply Kd.R_drew)); exact Kd.R_mono HO247.out (fun _ hk => ⟨hk.1.2, hk.2⟩)), (by (with_reducible repeat (first | apply Kd.R_alloc | apply Kd.R_drewN | apply Kd.R_drew)); exact Kd.R_mono HO252.out (fun _ hk => ⟨hk.1.2, hk.2⟩)), (by (with_reducible repeat (first | apply Kd.R_alloc | apply Kd.R_drewN | apply Kd.R_drew)); exact Kd.R_mono HO259.out (fun _ hk => ⟨hk.1.2, hk.2⟩)), (pk_ BK230.out), (pk_ BK240.out), (pk_ BK249.out), (pk_ BK261.out), GW261.out, GE261.out, NB230_261.out, NB261_230.out, NB240_261.out, NB261_240.out, NB249_261.out, NB261_249.out, (bk_ HB.out)⟩)
     ·skip
      refine box_step ?hg (N := 13) ?hd (cs := #[.int .i64 0, .int .i64 0, .int .i64 0, .int .i64 0, .slice none 0 0]) (t := 29) ?hr ?_; (case hd => rfl); (case hg => rfl); (case hr => first | (go_simp; done) | (go_simp; rfl))
      intro gb261 hg w42 hbox hb
      have n0_ := A_ (Kd.S_below (by (with_reducible repeat (first | apply Kd.S_alloc | apply Kd.S_drewN | apply Kd.S_drew)); exact HO238.out) hb)
      have n1_ := A_ (Kd.R_below (rk_ HO247.out) hb)
      have n2_ := A_ (blk_below (pk_ BK230.out) hb)
      have n3_ := A_ (blk_below (pk_ BK240.out) hb)
      have n4_ := A_ (blk_below (pk_ BK249.out) hb)
      have n5_ := A_ (below_step (bk_ HB.out) hb)
      have n6_ := A_ (hbox)
      have n7_ := A_ ((by rw [hg]; exact (below_size (bk_ HB.out)) : w.heap.size ≤ gb261))
      have n8_ := A_ ((by rw [hg]; exact (below_size (bk_ HB.out)) : w.heap.size ≤ gb261))
      have n9_ := A_ ((by rw [hg]; exact Nat.ne_of_lt (blk_lt (pk_ BK230.out)) : gb230 ≠ gb261))
      have n10_ := A_ ((by rw [hg]; exact Nat.ne_of_gt (blk_lt (pk_ BK230.out)) : gb261 ≠ gb230))
      have n11_ := A_ ((by rw [hg]; exact Nat.ne_of_lt (blk_lt (pk_ BK240.out)) : gb240 ≠ gb261))
      have n12_ := A_ ((by rw [hg]; exact Nat.ne_of_gt (blk_lt (pk_ BK240.out)) : gb261 ≠ gb240))
      have n13_ := A_ ((by rw [hg]; exact Nat.ne_of_lt (blk_lt (pk_ BK249.out)) : gb249 ≠ gb261))
      have n14_ := A_ ((by rw [hg]; exact Nat.ne_of_gt (blk_lt (pk_ BK249.out)) : gb261 ≠ gb249))
      clear HO238 HO247 BK230 BK240 BK249 HB
      have HO238 := n0_
      have HO247 := n1_
      have BK230 := n2_
      have BK240 := n3_
      have BK249 := n4_
      have HB := n5_
      have BK261 := n6_
      have GW261 := n7_
      have GE261 := n8_
      have NB230_261 := n9_
      have NB261_230 := n10_
      have NB240_261 := n11_
      have NB261_240 := n12_
      have NB249_261 := n13_
      have NB261_249 := n14_
      clear n0_ n1_ n2_ n3_ n4_ n5_ n6_ n7_ n8_ n9_ n10_ n11_ n12_ n13_ n14_ hb hbox hg
      refine hK.out _ _ ⟨(blk_cell BK240.out 0).trans rfl, (blk_cell BK240.out 1).trans rfl, (blk_cell BK240.out 2).trans rfl⟩ (fun hHeld => ?_)
      clear hK K
      refine norm_ (a' := ?_) ?_ ?_
      rotate_left
      ·show Act.put _ (some 13) _ = _
       simp only [Act.put, sa_, sz_, ss_, i64_w, i32_w]
       rfl
      refine one_ (i := 8) (N := some 51) #[true, true, true, true, true, true, true, true, true, false, false, false, false, true, false, false] rfl rfl (one_of HT_.out (by kernel_rfl)) (by decide) (fun K hK => ?_)
      refine goes_ Try.func16 (by kernel_rfl) rfl #[.slice A3 l3.length c3] (by rfl) rfl rfl gl_ ?_
      with_reducible refine (standstillref01_Turned.calls kj4 _ _ l3 t250 _ ?side1 ?side2 A24.out).mono ?_
      (case side1 => exact ck_ (Kd.C_below HR3.out HB.out))
      (case side2 => exact HC3.out)
      rintro e w43 ⟨v251, rfl, ho0, hb⟩
      refine ⟨_, rfl, ?_⟩
      have n0_ := A_ (Kd.S_below (by (with_reducible repeat (first | apply Kd.S_alloc | apply Kd.S_drewN | apply Kd.S_drew)); exact HO238.out) hb)
      have n1_ := A_ (Kd.R_elder' (rk_ HO247.out) (Kd.R_base ho0) hb)
      have n2_ := A_ (Kd.R_lower (Kd.R_new' ho0 (Kd.R_lt (rk_ HO247.out))) (below_size (bk_ HB.out)))
      have n3_ := A_ (blk_below (pk_ BK230.out) hb)
      have n4_ := A_ (blk_below (pk_ BK240.out) hb)
      have n5_ := A_ (blk_below (pk_ BK249.out) hb)
      have n6_ := A_ (blk_below (pk_ BK261.out) hb)
      have n7_ := A_ (below_step (bk_ HB.out) hb)
      clear HO238 HO247 BK230 BK240 BK249 BK261 HB
      have HO238 := n0_
      have HO247 := n1_
      have HO252 := n2_
      have BK230 := n3_
      have BK240 := n4_
      have BK249 := n5_
      have BK261 := n6_
      have HB := n7_
      clear n0_ n1_ n2_ n3_ n4_ n5_ n6_ n7_
      (try clear hb)
      (try clear hb2)
      (try clear hk)
      (try clear hi)
      (try clear ho0)
      obtain ⟨Ao44, co44, eo44⟩ := Kd.R_slice HO252.out
      (first | subst eo44 | (injection eo44 with f1_ f2_ f3_; have f4_ := f1_.symm; have f5_ := f3_.symm; clear f1_ f2_ f3_; subst f4_; subst f5_))
      refine hK.out _ _ ⟨(blk_cell BK240.out 0).trans rfl, (blk_cell BK240.out 1).trans rfl, (blk_cell BK240.out 2).trans rfl⟩ (fun hHeld => ?_)
      clear hK K
      refine norm_ (a' := ?_) ?_ ?_
      rotate_left
      ·show Act.put _ (some 51) _ = _
       simp only [Act.put, sa_, sz_, ss_, i64_w, i32_w]
       rfl
      refine one_ (i := 9) (N := some 52) #[true, true, true, true, true, true, true, true, true, true, false, false, false, true, false, false] rfl rfl (one_of HT_.out (by kernel_rfl)) (by decide) (fun K hK => ?_)
      refine goes_ Try.func9 (by kernel_rfl) rfl #[.agg #[.int .i64 t234, .int .i64 t235, .slice Ao32 t236.length co32], .int .i64 a1, .int .i64 (wrap64 ((wrap64 ((l3.length : Int) - 1)) - a2)), .slice Ao44 t250.length co44] (by rfl) rfl rfl gl_ ?_
      with_reducible refine (block_Cross.calls kj4 t234 t235 _ _ t236 a1 (wrap64 ((wrap64 ((l3.length : Int) - 1)) - a2)) _ _ t250 t253 t254 t255 t256 t257 t260 _ ?side1 ?side2 ?side3 ?side4 A25.out).mono ?_
      (case side1 => repeat (first | exact (Kd.S_reads' HO238.out).2.2 | (with_reducible refine Kd.C_alloc ?_ _) | (with_reducible refine Kd.C_drewN ?_ _) | (with_reducible refine Kd.C_drew ?_)))
      (case side2 => exact (Kd.S_reads' HO238.out).2.1)
      (case side3 => repeat (first | exact (Kd.R_reads' HO252.out).2.2 | (with_reducible refine Kd.C_alloc ?_ _) | (with_reducible refine Kd.C_drewN ?_ _) | (with_reducible refine Kd.C_drew ?_)))
      (case side4 => exact (Kd.R_reads' HO252.out).2.1)
      rintro e w45 ⟨v258, rfl, ho0, hb⟩
      refine ⟨_, rfl, ?_⟩
      have n0_ := A_ (Kd.S_below (by (with_reducible repeat (first | apply Kd.S_alloc | apply Kd.S_drewN | apply Kd.S_drew)); exact HO238.out) hb)
      have n1_ := A_ (Kd.R_elder' (rk_ HO247.out) (Kd.R_base ho0) hb)
      have n2_ := A_ (Kd.R_elder' (rk_ HO252.out) (Kd.R_base ho0) hb)
      have n3_ := A_ (Kd.R_lower (Kd.R_new' (Kd.R_new' ho0 (Kd.R_lt (rk_ HO247.out))) (Kd.R_lt (rk_ HO252.out))) (below_size (bk_ HB.out)))
      have n4_ := A_ (blk_below (pk_ BK230.out) hb)
      have n5_ := A_ (blk_below (pk_ BK240.out) hb)
      have n6_ := A_ (blk_below (pk_ BK249.out) hb)
      have n7_ := A_ (blk_below (pk_ BK261.out) hb)
      have n8_ := A_ (below_step (bk_ HB.out) hb)
      clear HO238 HO247 HO252 BK230 BK240 BK249 BK261 HB
      have HO238 := n0_
      have HO247 := n1_
      have HO252 := n2_
      have HO259 := n3_
      have BK230 := n4_
      have BK240 := n5_
      have BK249 := n6_
      have BK261 := n7_
      have HB := n8_
      clear n0_ n1_ n2_ n3_ n4_ n5_ n6_ n7_ n8_
      (try clear hb)
      (try clear hb2)
      (try clear hk)
      (try clear hi)
      (try clear ho0)
      refine hK.out _ _ ⟨(blk_cell BK240.out 0).trans rfl, (blk_cell BK240.out 1).trans rfl, (blk_cell BK240.out 2).trans rfl⟩ (fun hHeld => ?_)
      clear hK K
      refine norm_ (a' := ?_) ?_ ?_
      rotate_left
      ·show Act.put _ (some 52) _ = _
       simp only [Act.put, sa_, sz_, ss_, i64_w, i32_w]
       rfl
      refine pure_ (i := 10) (N := some 42) (v := ?_) (a' := ?_) #[true, true, true, true, true, true, true, true, true, true, true, false, false, true, false, false] rfl rfl (any_of HT_.out (by kernel_rfl)) (fun _ _ _ h => h) (Or.inl ⟨by rfl, ?_⟩) ?_ ?_
      rotate_left
      ·intro w'
       go_simp
       with_reducible rfl
      rotate_left
      ·simp only [Act.put, sa_, sz_, ss_, i64_w, i32_w]
       rfl
      refine pure_ (i := 11) (N := some 53) (v := ?_) (a' := ?_) #[true, true, true, true, true, true, true, true, true, true, true, true, false, true, false, false] rfl rfl (any_of HT_.out (by kernel_rfl)) (fun _ _ _ h => h) (Or.inl ⟨by rfl, ?_⟩) ?_ ?_
      rotate_left
      ·intro w'
       go_simp
       with_reducible rfl
      rotate_left
      ·simp only [Act.put, sa_, sz_, ss_, i64_w, i32_w]
       rfl
      refine pure_ (i := 12) (N := some 54) (v := ?_) (a' := ?_) #[true, true, true, true, true, true, true, true, true, true, true, true, true, true, false, false] rfl rfl (any_of HT_.out (by kernel_rfl)) (fun _ _ _ h => h) (Or.inl ⟨by rfl, ?_⟩) ?_ ?_
      rotate_left
      ·intro w'
       go_simp
       with_reducible rfl
      rotate_left
      ·simp only [Act.put, sa_, sz_, ss_, i64_w, i32_w]
       rfl
      exact norm_ (by simp only [putAll, Act.put, List.setIfInBounds_toArray, List.set_cons_zero, List.set_cons_succ]) (hCont (.slice Ao44 t250.length co44, v258, gb261) _ ⟨hHeld, (by (with_reducible repeat (first | apply Kd.S_alloc | apply Kd.S_drewN | apply Kd.S_drew)); exact HO238.out), (by (with_reducible repeat (first | apply Kd.R_alloc | apply Kd.R_drewN | apply Kd.R_drew)); exact Kd.R_mono HO247.out (fun _ hk => ⟨hk.1.2, hk.2⟩)), (by (with_reducible repeat (first | apply Kd.R_alloc | apply Kd.R_drewN | apply Kd.R_drew)); exact Kd.R_mono HO252.out (fun _ hk => ⟨hk.1.2, hk.2⟩)), (by (with_reducible repeat (first | apply Kd.R_alloc | apply Kd.R_drewN | apply Kd.R_drew)); exact Kd.R_mono HO259.out (fun _ hk => ⟨hk.1.2, hk.2⟩)), (pk_ BK230.out), (pk_ BK240.out), (pk_ BK249.out), (pk_ BK261.out), GW261.out, GE261.out, NB230_261.out, NB261_230.out, NB240_261.out, NB261_240.out, NB249_261.out, NB261_249.out, (bk_ HB.out)⟩)
    rintro ⟨v251, v258, gb261⟩ w46 ⟨hS_, h0_, h1_, h2_, h3_, h4_, h5_, h6_, h7_, h8_, h9_, h10_, h11_, h12_, h13_, h14_, h15_, h16_⟩
    have n0_ : Aside0 (Kd.S (Kd.slice 57 k57) 54 w46 w.heap.size (fun _ => True) (.slice Ao32 t236.length co32) t236) := ⟨h0_⟩
    have n1_ : Aside0 (Kd.R (Kd.int .i64) 3 w46 w.heap.size (fun k_ => some k_ ≠ (v251 : Value).ownBlock ∧ some k_ ≠ (v258 : Value).ownBlock) (.slice Ao39 t245.length co39) t245) := ⟨h1_⟩
    have n2_ : Aside0 (Kd.R (Kd.int .i64) 3 w46 w.heap.size (fun k_ => some k_ ≠ (.slice Ao39 t245.length co39 : Value).ownBlock ∧ some k_ ≠ (v258 : Value).ownBlock) v251 t250) := ⟨h2_⟩
    have n3_ : Aside0 (Kd.R (Kd.int .i64) 3 w46 w.heap.size (fun k_ => some k_ ≠ (.slice Ao39 t245.length co39 : Value).ownBlock ∧ some k_ ≠ (v251 : Value).ownBlock) v258 t257) := ⟨h3_⟩
    have n4_ : Aside0 (w46.heap[gb230]? = some (.cells #[.int .i64 a0_0, .int .i64 a0_1, .slice A0_2 l0_2.length c0_2] 24 (0, 0))) := ⟨h4_⟩
    have n5_ : Aside0 (w46.heap[gb240]? = some (.cells #[.int .i64 t234, .int .i64 t235, .slice Ao32 t236.length co32] 24 (0, 0))) := ⟨h5_⟩
    have n6_ : Aside0 (w46.heap[gb249]? = some (.cells #[.int .i64 t241, .int .i64 t242, .int .i64 t243, .int .i64 t244, .slice Ao39 t245.length co39] 29 (0, 0))) := ⟨h6_⟩
    have n7_ : Aside0 (w46.heap[gb261]? = some (.cells #[.int .i64 0, .int .i64 0, .int .i64 0, .int .i64 0, .slice none 0 0] 29 (0, 0))) := ⟨h7_⟩
    have n8_ : Aside0 (w.heap.size ≤ gb261) := ⟨h8_⟩
    have n9_ : Aside0 (w.heap.size ≤ gb261) := ⟨h9_⟩
    have n10_ : Aside0 (gb230 ≠ gb261) := ⟨h10_⟩
    have n11_ : Aside0 (gb261 ≠ gb230) := ⟨h11_⟩
    have n12_ : Aside0 (gb240 ≠ gb261) := ⟨h12_⟩
    have n13_ : Aside0 (gb261 ≠ gb240) := ⟨h13_⟩
    have n14_ : Aside0 (gb249 ≠ gb261) := ⟨h14_⟩
    have n15_ : Aside0 (gb261 ≠ gb249) := ⟨h15_⟩
    have n16_ : Aside0 (Below w.heap.size w w46) := ⟨h16_⟩
    clear HO238 HO247 BK230 BK240 BK249 HB h0_ h1_ h2_ h3_ h4_ h5_ h6_ h7_ h8_ h9_ h10_ h11_ h12_ h13_ h14_ h15_ h16_
    have HO238 := n0_
    have HO247 := n1_
    have HO252 := n2_
    have HO259 := n3_
    have BK230 := n4_
    have BK240 := n5_
    have BK249 := n6_
    have BK261 := n7_
    have GW261 := n8_
    have GE261 := n9_
    have NB230_261 := n10_
    have NB261_230 := n11_
    have NB240_261 := n12_
    have NB261_240 := n13_
    have NB249_261 := n14_
    have NB261_249 := n15_
    have HB := n16_
    clear n0_ n1_ n2_ n3_ n4_ n5_ n6_ n7_ n8_ n9_ n10_ n11_ n12_ n13_ n14_ n15_ n16_
    have hHeld : w46.cell? ⟨gb240, 0, none⟩ = some (.int .i64 t234) ∧ w46.cell? ⟨gb240, 1, none⟩ = some (.int .i64 t235) ∧ w46.cell? ⟨gb240, 2, none⟩ = some (.slice Ao32 t236.length co32) := hS_
    obtain ⟨Ao51, co51, eo51⟩ := Kd.R_slice HO259.out
    (first | subst eo51 | (injection eo51 with f1_ f2_ f3_; have f4_ := f1_.symm; have f5_ := f3_.symm; clear f1_ f2_ f3_; subst f4_; subst f5_))
    refine norm_ (a' := ?_) ?_ ?_
    rotate_left
    ·simp only [putAll, Act.put, List.setIfInBounds_toArray, List.set_cons_zero, List.set_cons_succ]
     rfl
    refine one_ (i := 14) (N := none) #[true, true, true, true, true, true, true, true, true, true, true, true, true, true, true, false] rfl rfl (one_of HT_.out (by kernel_rfl)) (by decide) (fun K hK => ?_)
    have hs47 : w46.cell? ⟨gb261, 0, none⟩ = some (.int .i64 0) := (blk_cell BK261.out 0).trans rfl
    have hfs47 := blk_frozen BK261.out 0
    have hns47_0 := NB230_261.out
    have hns47_1 := NB240_261.out
    have hns47_2 := NB249_261.out
    have hms47_0 := NB261_230.out
    have hms47_1 := NB261_240.out
    have hms47_2 := NB261_249.out
    have hs48 : w46.cell? ⟨gb261, 1, none⟩ = some (.int .i64 0) := (blk_cell BK261.out 1).trans rfl
    have hfs48 := blk_frozen BK261.out 1
    have hns48_0 := NB230_261.out
    have hns48_1 := NB240_261.out
    have hns48_2 := NB249_261.out
    have hms48_0 := NB261_230.out
    have hms48_1 := NB261_240.out
    have hms48_2 := NB261_249.out
    have hs49 : w46.cell? ⟨gb261, 2, none⟩ = some (.int .i64 0) := (blk_cell BK261.out 2).trans rfl
    have hfs49 := blk_frozen BK261.out 2
    have hns49_0 := NB230_261.out
    have hns49_1 := NB240_261.out
    have hns49_2 := NB249_261.out
    have hms49_0 := NB261_230.out
    have hms49_1 := NB261_240.out
    have hms49_2 := NB261_249.out
    have hs50 : w46.cell? ⟨gb261, 3, none⟩ = some (.int .i64 0) := (blk_cell BK261.out 3).trans rfl
    have hfs50 := blk_frozen BK261.out 3
    have hns50_0 := NB230_261.out
    have hns50_1 := NB240_261.out
    have hns50_2 := NB249_261.out
    have hms50_0 := NB261_230.out
    have hms50_1 := NB261_240.out
    have hms50_2 := NB261_249.out
    have hs52 : w46.cell? ⟨gb261, 4, none⟩ = some (.slice none 0 0) := (blk_cell BK261.out 4).trans rfl
    have hfs52 := blk_frozen BK261.out 4
    have hns52_0 := NB230_261.out
    have hns52_1 := NB240_261.out
    have hns52_2 := NB249_261.out
    have hms52_0 := NB261_230.out
    have hms52_1 := NB261_240.out
    have hms52_2 := NB261_249.out
    refine skip_ (w1 := ?_) (by rfl) rfl ?_ ?_
    rotate_left
    ·go_simp
     rfl
    refine hK.out _ _ ⟨((cell_far (p := ⟨gb261, _, none⟩) NB240_261.out _).trans (((cell_far (p := ⟨gb261, _, none⟩) NB240_261.out _).trans (((cell_far (p := ⟨gb261, _, none⟩) NB240_261.out _).trans (((cell_far (p := ⟨gb261, _, none⟩) NB240_261.out _).trans (((cell_far (p := ⟨gb261, _, none⟩) NB240_261.out _).trans (hHeld.1)))))))))), ((cell_far (p := ⟨gb261, _, none⟩) NB240_261.out _).trans (((cell_far (p := ⟨gb261, _, none⟩) NB240_261.out _).trans (((cell_far (p := ⟨gb261, _, none⟩) NB240_261.out _).trans (((cell_far (p := ⟨gb261, _, none⟩) NB240_261.out _).trans (((cell_far (p := ⟨gb261, _, none⟩) NB240_261.out _).trans (hHeld.2.1)))))))))), ((cell_far (p := ⟨gb261, _, none⟩) NB240_261.out _).trans (((cell_far (p := ⟨gb261, _, none⟩) NB240_261.out _).trans (((cell_far (p := ⟨gb261, _, none⟩) NB240_261.out _).trans (((cell_far (p := ⟨gb261, _, none⟩) NB240_261.out _).trans (((cell_far (p := ⟨gb261, _, none⟩) NB240_261.out _).trans (hHeld.2.2))))))))))⟩ (fun hHeld => ?_)
    clear hK K
    refine pure_ (i := 15) (N := some 14) (v := ?_) (a' := ?_) #[true, true, true, true, true, true, true, true, true, true, true, true, true, true, true, true] rfl rfl (any_of HT_.out (by kernel_rfl)) (fun _ _ _ h => h) (Or.inl ⟨by rfl, ?_⟩) ?_ ?_
    rotate_left
    ·intro w'
     go_simp
     with_reducible rfl
    rotate_left
    ·simp only [Act.put, sa_, sz_, ss_, i64_w, i32_w]
     rfl
    refine done_ (done_of HT_.out (by kernel_rfl)) ?_
    go_upto_region 6 with (fail)
    go_cut [61] (fun v61 wc => ∃ (kq : Nat) (x61_25 : Bool), v61 = .bool x61_25 ∧ Aside0 (standstilllaw05_BlockMirror.j1 kq l3 t248 x61_25 t241 t242 t243 t244 t245 t253 t254 t255 t256 t257 = some r) ∧ Aside0 (kq ≤ kj4) ∧ Aside0 (Kd.S (Kd.slice 57 k57) 54 wc w.heap.size (fun _ => True) (.slice Ao32 t236.length co32) t236) ∧ Aside0 (Kd.R (Kd.int .i64) 3 wc w.heap.size (fun k_ => some k_ ≠ ((.slice Ao51 t257.length co51) : Value).ownBlock) (.slice Ao39 t245.length co39) t245) ∧ Aside0 (Kd.R (Kd.int .i64) 3 wc w.heap.size (fun k_ => some k_ ≠ ((.slice Ao39 t245.length co39) : Value).ownBlock) (.slice Ao51 t257.length co51) t257) ∧ Aside0 (wc.heap[gb230]? = some (.cells #[.int .i64 a0_0, .int .i64 a0_1, (.slice A0_2 l0_2.length c0_2)] 24 (0, 0))) ∧ Aside0 (wc.heap[gb240]? = some (.cells #[.int .i64 t234, .int .i64 t235, (.slice Ao32 t236.length co32)] 24 (0, 0))) ∧ Aside0 (wc.heap[gb249]? = some (.cells #[.int .i64 t241, .int .i64 t242, .int .i64 t243, .int .i64 t244, (.slice Ao39 t245.length co39)] 29 (0, 0))) ∧ Aside0 (wc.heap[gb261]? = some (.cells #[.int .i64 t253, .int .i64 t254, .int .i64 t255, .int .i64 t256, (.slice Ao51 t257.length co51)] 29 (0, 0))) ∧ Aside0 (Below w.heap.size w wc))
    case first => as_aux_lemma =>
     have H := HC26.out
     clear HC26
     by_cases c53 : t239 = 0
     ·rw [if_pos c53] at H
      have c53b0 : (t239 == 0) = true := beq_iff_eq.mpr c53
      have c53b1 : (t239 != 0) = false := bne_eq_false_iff_eq.mpr c53
      clear c53
      (first | rw [c53b0] | (simp only [i64_w, i32_w]; rw [c53b0]) | skip)
      have H' := Aside0.mk H
      clear H
      go_wp2
      go_meet
      case rel => exact ⟨_, ((t248 != t260)), jr_, H', ⟨by have := HJ4.out; first | omega | exact Nat.le_refl _⟩, ⟨by (with_reducible repeat (first | apply Kd.S_alloc | apply Kd.S_drewN | apply Kd.S_drew)); exact Kd.S_mono (Kd.S_far (p := ⟨gb261, 4, none⟩) (Kd.S_far (p := ⟨gb261, 3, none⟩) (Kd.S_far (p := ⟨gb261, 2, none⟩) (Kd.S_far (p := ⟨gb261, 1, none⟩) (Kd.S_far (p := ⟨gb261, 0, none⟩) (Kd.S_types HO238.out BK261.out (by decide)) (fun _ hk => hk.2) (.int .i64 t253)) (fun _ hk => hk.2) (.int .i64 t254)) (fun _ hk => hk.2) (.int .i64 t255)) (fun _ hk => hk.2) (.int .i64 t256)) (fun _ hk => hk.2) (.slice Ao51 t257.length co51)) (fun _ hk => trivial)⟩, ⟨by (with_reducible repeat (first | apply Kd.R_alloc | apply Kd.R_drewN | apply Kd.R_drew)); exact Kd.R_mono (Kd.R_far (p := ⟨gb261, 4, none⟩) (Kd.R_far (p := ⟨gb261, 3, none⟩) (Kd.R_far (p := ⟨gb261, 2, none⟩) (Kd.R_far (p := ⟨gb261, 1, none⟩) (Kd.R_far (p := ⟨gb261, 0, none⟩) (Kd.R_types HO247.out BK261.out (by decide)) (fun _ hk => hk.2) (.int .i64 t253)) (fun _ hk => hk.2) (.int .i64 t254)) (fun _ hk => hk.2) (.int .i64 t255)) (fun _ hk => hk.2) (.int .i64 t256)) (fun _ hk => hk.2) (.slice Ao51 t257.length co51)) (fun _ hk => hk.1.2)⟩, ⟨by (with_reducible repeat (first | apply Kd.R_alloc | apply Kd.R_drewN | apply Kd.R_drew)); exact Kd.R_mono (Kd.R_far (p := ⟨gb261, 4, none⟩) (Kd.R_far (p := ⟨gb261, 3, none⟩) (Kd.R_far (p := ⟨gb261, 2, none⟩) (Kd.R_far (p := ⟨gb261, 1, none⟩) (Kd.R_far (p := ⟨gb261, 0, none⟩) (Kd.R_types HO259.out BK261.out (by decide)) (fun _ hk => hk.2) (.int .i64 t253)) (fun _ hk => hk.2) (.int .i64 t254)) (fun _ hk => hk.2) (.int .i64 t255)) (fun _ hk => hk.2) (.int .i64 t256)) (fun _ hk => hk.2) (.slice Ao51 t257.length co51)) (fun _ hk => hk.1.1)⟩, ⟨by refine pk_ ?_; refine blk_far ?_ NB230_261.out _; refine pk_ ?_; refine blk_far ?_ NB230_261.out _; refine pk_ ?_; refine blk_far ?_ NB230_261.out _; refine pk_ ?_; refine blk_far ?_ NB230_261.out _; refine pk_ ?_; refine blk_far ?_ NB230_261.out _; exact pk_ BK230.out⟩, ⟨by refine pk_ ?_; refine blk_far ?_ NB240_261.out _; refine pk_ ?_; refine blk_far ?_ NB240_261.out _; refine pk_ ?_; refine blk_far ?_ NB240_261.out _; refine pk_ ?_; refine blk_far ?_ NB240_261.out _; refine pk_ ?_; refine blk_far ?_ NB240_261.out _; exact pk_ BK240.out⟩, ⟨by refine pk_ ?_; refine blk_far ?_ NB249_261.out _; refine pk_ ?_; refine blk_far ?_ NB249_261.out _; refine pk_ ?_; refine blk_far ?_ NB249_261.out _; refine pk_ ?_; refine blk_far ?_ NB249_261.out _; refine pk_ ?_; refine blk_far ?_ NB249_261.out _; exact pk_ BK249.out⟩, ⟨by refine pk_ ?_; refine blk_put (cs := #[.int .i64 t253, .int .i64 t254, .int .i64 t255, .int .i64 t256, .slice none 0 0]) ?_ 4 _ rfl; refine pk_ ?_; refine blk_put (cs := #[.int .i64 t253, .int .i64 t254, .int .i64 t255, .int .i64 0, .slice none 0 0]) ?_ 3 _ rfl; refine pk_ ?_; refine blk_put (cs := #[.int .i64 t253, .int .i64 t254, .int .i64 0, .int .i64 0, .slice none 0 0]) ?_ 2 _ rfl; refine pk_ ?_; refine blk_put (cs := #[.int .i64 t253, .int .i64 0, .int .i64 0, .int .i64 0, .slice none 0 0]) ?_ 1 _ rfl; refine pk_ ?_; refine blk_put (cs := #[.int .i64 0, .int .i64 0, .int .i64 0, .int .i64 0, .slice none 0 0]) ?_ 0 _ rfl; exact pk_ BK261.out⟩, ⟨bk_ HB.out⟩⟩
     ·rw [if_neg c53] at H
      have c53b0 : (t239 == 0) = false := beq_eq_false_iff_ne.mpr c53
      have c53b1 : (t239 != 0) = true := bne_iff_ne.mpr c53
      (first | rw [c53b0] | (simp only [i64_w, i32_w]; rw [c53b0]) | skip)
      have H' := Aside0.mk H
      clear H
      go_wp2
      go_meet
      case rel => exact ⟨_, (true), jr_, H', ⟨by have := HJ4.out; first | omega | exact Nat.le_refl _⟩, ⟨by (with_reducible repeat (first | apply Kd.S_alloc | apply Kd.S_drewN | apply Kd.S_drew)); exact Kd.S_mono (Kd.S_far (p := ⟨gb261, 4, none⟩) (Kd.S_far (p := ⟨gb261, 3, none⟩) (Kd.S_far (p := ⟨gb261, 2, none⟩) (Kd.S_far (p := ⟨gb261, 1, none⟩) (Kd.S_far (p := ⟨gb261, 0, none⟩) (Kd.S_types HO238.out BK261.out (by decide)) (fun _ hk => hk.2) (.int .i64 t253)) (fun _ hk => hk.2) (.int .i64 t254)) (fun _ hk => hk.2) (.int .i64 t255)) (fun _ hk => hk.2) (.int .i64 t256)) (fun _ hk => hk.2) (.slice Ao51 t257.length co51)) (fun _ hk => trivial)⟩, ⟨by (with_reducible repeat (first | apply Kd.R_alloc | apply Kd.R_drewN | apply Kd.R_drew)); exact Kd.R_mono (Kd.R_far (p := ⟨gb261, 4, none⟩) (Kd.R_far (p := ⟨gb261, 3, none⟩) (Kd.R_far (p := ⟨gb261, 2, none⟩) (Kd.R_far (p := ⟨gb261, 1, none⟩) (Kd.R_far (p := ⟨gb261, 0, none⟩) (Kd.R_types HO247.out BK261.out (by decide)) (fun _ hk => hk.2) (.int .i64 t253)) (fun _ hk => hk.2) (.int .i64 t254)) (fun _ hk => hk.2) (.int .i64 t255)) (fun _ hk => hk.2) (.int .i64 t256)) (fun _ hk => hk.2) (.slice Ao51 t257.length co51)) (fun _ hk => hk.1.2)⟩, ⟨by (with_reducible repeat (first | apply Kd.R_alloc | apply Kd.R_drewN | apply Kd.R_drew)); exact Kd.R_mono (Kd.R_far (p := ⟨gb261, 4, none⟩) (Kd.R_far (p := ⟨gb261, 3, none⟩) (Kd.R_far (p := ⟨gb261, 2, none⟩) (Kd.R_far (p := ⟨gb261, 1, none⟩) (Kd.R_far (p := ⟨gb261, 0, none⟩) (Kd.R_types HO259.out BK261.out (by decide)) (fun _ hk => hk.2) (.int .i64 t253)) (fun _ hk => hk.2) (.int .i64 t254)) (fun _ hk => hk.2) (.int .i64 t255)) (fun _ hk => hk.2) (.int .i64 t256)) (fun _ hk => hk.2) (.slice Ao51 t257.length co51)) (fun _ hk => hk.1.1)⟩, ⟨by refine pk_ ?_; refine blk_far ?_ NB230_261.out _; refine pk_ ?_; refine blk_far ?_ NB230_261.out _; refine pk_ ?_; refine blk_far ?_ NB230_261.out _; refine pk_ ?_; refine blk_far ?_ NB230_261.out _; refine pk_ ?_; refine blk_far ?_ NB230_261.out _; exact pk_ BK230.out⟩, ⟨by refine pk_ ?_; refine blk_far ?_ NB240_261.out _; refine pk_ ?_; refine blk_far ?_ NB240_261.out _; refine pk_ ?_; refine blk_far ?_ NB240_261.out _; refine pk_ ?_; refine blk_far ?_ NB240_261.out _; refine pk_ ?_; refine blk_far ?_ NB240_261.out _; exact pk_ BK240.out⟩, ⟨by refine pk_ ?_; refine blk_far ?_ NB249_261.out _; refine pk_ ?_; refine blk_far ?_ NB249_261.out _; refine pk_ ?_; refine blk_far ?_ NB249_261.out _; refine pk_ ?_; refine blk_far ?_ NB249_261.out _; refine pk_ ?_; refine blk_far ?_ NB249_261.out _; exact pk_ BK249.out⟩, ⟨by refine pk_ ?_; refine blk_put (cs := #[.int .i64 t253, .int .i64 t254, .int .i64 t255, .int .i64 t256, .slice none 0 0]) ?_ 4 _ rfl; refine pk_ ?_; refine blk_put (cs := #[.int .i64 t253, .int .i64 t254, .int .i64 t255, .int .i64 0, .slice none 0 0]) ?_ 3 _ rfl; refine pk_ ?_; refine blk_put (cs := #[.int .i64 t253, .int .i64 t254, .int .i64 0, .int .i64 0, .slice none 0 0]) ?_ 2 _ rfl; refine pk_ ?_; refine blk_put (cs := #[.int .i64 t253, .int .i64 0, .int .i64 0, .int .i64 0, .slice none 0 0]) ?_ 1 _ rfl; refine pk_ ?_; refine blk_put (cs := #[.int .i64 0, .int .i64 0, .int .i64 0, .int .i64 0, .slice none 0 0]) ?_ 0 _ rfl; exact pk_ BK261.out⟩, ⟨bk_ HB.out⟩⟩
    case rest => as_aux_lemma =>
     clear HC26
     (try clear c3)
     obtain ⟨kq, x61_25, rfl, HA, HJ25, HO_241002, HO_250004, HO_262004, BK230, BK240, BK249, BK261, HB⟩ := hcut
     cases kq with
     | zero => exact absurd HA.out (by simp [standstilllaw05_BlockMirror.j1])
     | succ kj25 =>
      have H := HA.out
      clear HA
      simp only [standstilllaw05_BlockMirror.j1] at H
      by_cases c54 : x61_25 = true
      ·subst c54
       have H1 : (none) = some r := by rw [if_pos rfl] at H; exact H
       clear H
       have H := H1
       clear H1
       exact absurd H (by simp)
      ·replace c54 := Bool.eq_false_iff.mpr c54
       subst c54
       have H1 : (if t248 = 0 then (standstilllaw05_BlockMirror.j2 kj25 l3 t248 (t241 == 3) t241 t242 t243 t244 t245 t253 t254 t255 t256 t257) else (standstilllaw05_BlockMirror.j2 kj25 l3 t248 true t241 t242 t243 t244 t245 t253 t254 t255 t256 t257)) = some r := by rw [if_neg (show ¬ (false = true) by decide)] at H; exact H
       clear H
       have H := H1
       clear H1
       have HC55 := Aside0.mk H
       clear H
       go_upto_region 8 with (fail)
       go_cut [68] (fun v68 wc => ∃ (kq : Nat) (x68_54 : Bool), v68 = .bool x68_54 ∧ Aside0 (standstilllaw05_BlockMirror.j2 kq l3 t248 x68_54 t241 t242 t243 t244 t245 t253 t254 t255 t256 t257 = some r) ∧ Aside0 (kq ≤ kj25) ∧ Aside0 (Kd.S (Kd.slice 57 k57) 54 wc w.heap.size (fun _ => True) (.slice Ao32 t236.length co32) t236) ∧ Aside0 (Kd.R (Kd.int .i64) 3 wc w.heap.size (fun k_ => some k_ ≠ ((.slice Ao51 t257.length co51) : Value).ownBlock) (.slice Ao39 t245.length co39) t245) ∧ Aside0 (Kd.R (Kd.int .i64) 3 wc w.heap.size (fun k_ => some k_ ≠ ((.slice Ao39 t245.length co39) : Value).ownBlock) (.slice Ao51 t257.length co51) t257) ∧ Aside0 (wc.heap[gb230]? = some (.cells #[.int .i64 a0_0, .int .i64 a0_1, (.slice A0_2 l0_2.length c0_2)] 24 (0, 0))) ∧ Aside0 (wc.heap[gb240]? = some (.cells #[.int .i64 t234, .int .i64 t235, (.slice Ao32 t236.length co32)] 24 (0, 0))) ∧ Aside0 (wc.heap[gb249]? = some (.cells #[.int .i64 t241, .int .i64 t242, .int .i64 t243, .int .i64 t244, (.slice Ao39 t245.length co39)] 29 (0, 0))) ∧ Aside0 (wc.heap[gb261]? = some (.cells #[.int .i64 t253, .int .i64 t254, .int .i64 t255, .int .i64 t256, (.slice Ao51 t257.length co51)] 29 (0, 0))) ∧ Aside0 (Below w.heap.size w wc))
       case first => as_aux_lemma =>
        have H := HC55.out
        clear HC55
        by_cases c56 : t248 = 0
        ·rw [if_pos c56] at H
         have c56b0 : (t248 == 0) = true := beq_iff_eq.mpr c56
         have c56b1 : (t248 != 0) = false := bne_eq_false_iff_eq.mpr c56
         clear c56
         (first | rw [c56b0] | (simp only [i64_w, i32_w]; rw [c56b0]) | skip)
         have H' := Aside0.mk H
         clear H
         have hnb57 := NB249_230.out
         have hnc57 := NB230_249.out
         have hnb58 := NB249_240.out
         have hnc58 := NB240_249.out
         have hnb59 := NB249_261.out
         have hnc59 := NB261_249.out
         have hcz60_0 : wc.cell? ⟨gb249, 0, none⟩ = some (.int .i64 t241) := (blk_cell BK249.out 0).trans rfl
         have hcz60_1 : wc.cell? ⟨gb249, 1, none⟩ = some (.int .i64 t242) := (blk_cell BK249.out 1).trans rfl
         have hcz60_2 : wc.cell? ⟨gb249, 2, none⟩ = some (.int .i64 t243) := (blk_cell BK249.out 2).trans rfl
         have hcz60_3 : wc.cell? ⟨gb249, 3, none⟩ = some (.int .i64 t244) := (blk_cell BK249.out 3).trans rfl
         have hcz60_4 : wc.cell? ⟨gb249, 4, none⟩ = some (.slice Ao39 t245.length co39) := (blk_cell BK249.out 4).trans rfl
         have hfz60_0 := blk_frozen BK249.out 0
         have hfz60_1 := blk_frozen BK249.out 1
         have hfz60_2 := blk_frozen BK249.out 2
         have hfz60_3 := blk_frozen BK249.out 3
         have hfz60_4 := blk_frozen BK249.out 4
         go_wp2
         go_meet
         case rel => exact ⟨_, ((t241 == 3)), jr_, H', ⟨by have := HJ4.out; have := HJ25.out; first | omega | exact Nat.le_refl _⟩, ⟨by (with_reducible repeat (first | apply Kd.S_alloc | apply Kd.S_drewN | apply Kd.S_drew)); exact HO_241002.out⟩, ⟨rk_ HO_250004.out⟩, ⟨rk_ HO_262004.out⟩, ⟨pk_ BK230.out⟩, ⟨pk_ BK240.out⟩, ⟨pk_ BK249.out⟩, ⟨pk_ BK261.out⟩, ⟨bk_ HB.out⟩⟩
        ·rw [if_neg c56] at H
         have c56b0 : (t248 == 0) = false := beq_eq_false_iff_ne.mpr c56
         have c56b1 : (t248 != 0) = true := bne_iff_ne.mpr c56
         (first | rw [c56b0] | (simp only [i64_w, i32_w]; rw [c56b0]) | skip)
         have H' := Aside0.mk H
         clear H
         go_wp2
         go_meet
         case rel => exact ⟨_, (true), jr_, H', ⟨by have := HJ4.out; have := HJ25.out; first | omega | exact Nat.le_refl _⟩, ⟨by (with_reducible repeat (first | apply Kd.S_alloc | apply Kd.S_drewN | apply Kd.S_drew)); exact HO_241002.out⟩, ⟨rk_ HO_250004.out⟩, ⟨rk_ HO_262004.out⟩, ⟨pk_ BK230.out⟩, ⟨pk_ BK240.out⟩, ⟨pk_ BK249.out⟩, ⟨pk_ BK261.out⟩, ⟨bk_ HB.out⟩⟩
       case rest => as_aux_lemma =>
        clear HC55
        (try clear c3); (try clear c54)
        obtain ⟨kq, x68_54, rfl, HA, HJ54, HO_241002, HO_250004, HO_262004, BK230, BK240, BK249, BK261, HB⟩ := hcut
        cases kq with
        | zero => exact absurd HA.out (by simp [standstilllaw05_BlockMirror.j2])
        | succ kj54 =>
         have H := HA.out
         clear HA
         simp only [standstilllaw05_BlockMirror.j2] at H
         by_cases c61 : x68_54 = true
         ·subst c61
          have H1 : (if t248 = 2 then ((standstilllaw05_awake.f kj54).bind fun t262 => (some t262)) else (if t248 = 0 then (if t253 = 3 then ((standstilllaw05_awake.f kj54).bind fun t263 => (some t263)) else (none)) else (none))) = some r := by rw [if_pos rfl] at H; exact H
          clear H
          have H := H1
          clear H1
          by_cases c62 : t248 = 2
          ·rw [if_pos c62] at H
           have c62b0 : (t248 == 2) = true := beq_iff_eq.mpr c62
           have c62b1 : (t248 != 2) = false := bne_eq_false_iff_eq.mpr c62
           clear c62
           replace H := Option.bind_eq_some_iff.mp H
           obtain ⟨t262, A630, H⟩ := H
           replace H : (some t262) = some r := H
           have A63 := Aside0.mk A630
           clear A630
           obtain rfl := Option.some.inj H
           go_wp2_with (first | (go_at_call 8; (with_reducible refine (standstilllaw05_awake.calls kj54  t262 _ A63.out).mono ?_); rintro e w64 ⟨rfl, hb⟩; have n0_ := A_ (Kd.S_below (by (with_reducible repeat (first | apply Kd.S_alloc | apply Kd.S_drewN | apply Kd.S_drew)); exact HO_241002.out) hb); have n1_ := A_ (Kd.R_below (rk_ HO_250004.out) hb); have n2_ := A_ (Kd.R_below (rk_ HO_262004.out) hb); have n3_ := A_ (blk_below (pk_ BK230.out) hb); have n4_ := A_ (blk_below (pk_ BK240.out) hb); have n5_ := A_ (blk_below (pk_ BK249.out) hb); have n6_ := A_ (blk_below (pk_ BK261.out) hb); have n7_ := A_ (below_step (bk_ HB.out) hb); clear HO_241002 HO_250004 HO_262004 BK230 BK240 BK249 BK261 HB; have HO_241002 := n0_; have HO_250004 := n1_; have HO_262004 := n2_; have BK230 := n3_; have BK240 := n4_; have BK249 := n5_; have BK261 := n6_; have HB := n7_; clear n0_ n1_ n2_ n3_ n4_ n5_ n6_ n7_; (try clear hb); (try clear hb2); (try clear hk); (try clear hi)))
           go_ret
           exact ⟨er_, bk_ HB.out⟩
          ·rw [if_neg c62] at H
           have c62b0 : (t248 == 2) = false := beq_eq_false_iff_ne.mpr c62
           have c62b1 : (t248 != 2) = true := bne_iff_ne.mpr c62
           by_cases c65 : t248 = 0
           ·rw [if_pos c65] at H
            have c65b0 : (t248 == 0) = true := beq_iff_eq.mpr c65
            have c65b1 : (t248 != 0) = false := bne_eq_false_iff_eq.mpr c65
            clear c65
            by_cases c66 : t253 = 3
            ·rw [if_pos c66] at H
             have c66b0 : (t253 == 3) = true := beq_iff_eq.mpr c66
             have c66b1 : (t253 != 3) = false := bne_eq_false_iff_eq.mpr c66
             clear c66
             replace H := Option.bind_eq_some_iff.mp H
             obtain ⟨t263, A670, H⟩ := H
             replace H : (some t263) = some r := H
             have A67 := Aside0.mk A670
             clear A670
             obtain rfl := Option.some.inj H
             have hnb68 := NB261_230.out
             have hnc68 := NB230_261.out
             have hnb69 := NB261_240.out
             have hnc69 := NB240_261.out
             have hnb70 := NB261_249.out
             have hnc70 := NB249_261.out
             have hcz71_0 : wc.cell? ⟨gb261, 0, none⟩ = some (.int .i64 t253) := (blk_cell BK261.out 0).trans rfl
             have hcz71_1 : wc.cell? ⟨gb261, 1, none⟩ = some (.int .i64 t254) := (blk_cell BK261.out 1).trans rfl
             have hcz71_2 : wc.cell? ⟨gb261, 2, none⟩ = some (.int .i64 t255) := (blk_cell BK261.out 2).trans rfl
             have hcz71_3 : wc.cell? ⟨gb261, 3, none⟩ = some (.int .i64 t256) := (blk_cell BK261.out 3).trans rfl
             have hcz71_4 : wc.cell? ⟨gb261, 4, none⟩ = some (.slice Ao51 t257.length co51) := (blk_cell BK261.out 4).trans rfl
             have hfz71_0 := blk_frozen BK261.out 0
             have hfz71_1 := blk_frozen BK261.out 1
             have hfz71_2 := blk_frozen BK261.out 2
             have hfz71_3 := blk_frozen BK261.out 3
             have hfz71_4 := blk_frozen BK261.out 4
             go_wp2_with (first | (go_at_call 8; (with_reducible refine (standstilllaw05_awake.calls kj54  t263 _ A67.out).mono ?_); rintro e w72 ⟨rfl, hb⟩; have n0_ := A_ (Kd.S_below (by (with_reducible repeat (first | apply Kd.S_alloc | apply Kd.S_drewN | apply Kd.S_drew)); exact HO_241002.out) hb); have n1_ := A_ (Kd.R_below (rk_ HO_250004.out) hb); have n2_ := A_ (Kd.R_below (rk_ HO_262004.out) hb); have n3_ := A_ (blk_below (pk_ BK230.out) hb); have n4_ := A_ (blk_below (pk_ BK240.out) hb); have n5_ := A_ (blk_below (pk_ BK249.out) hb); have n6_ := A_ (blk_below (pk_ BK261.out) hb); have n7_ := A_ (below_step (bk_ HB.out) hb); clear HO_241002 HO_250004 HO_262004 BK230 BK240 BK249 BK261 HB; have HO_241002 := n0_; have HO_250004 := n1_; have HO_262004 := n2_; have BK230 := n3_; have BK240 := n4_; have BK249 := n5_; have BK261 := n6_; have HB := n7_; clear n0_ n1_ n2_ n3_ n4_ n5_ n6_ n7_; (try clear hb); (try clear hb2); (try clear hk); (try clear hi)))
             go_ret
             exact ⟨er_, bk_ HB.out⟩
            ·rw [if_neg c66] at H
             exact absurd H (by simp)
           ·rw [if_neg c65] at H
            exact absurd H (by simp)
         ·replace c61 := Bool.eq_false_iff.mpr c61
          subst c61
          have H1 : ((some (([1, 0, 2] : List Int) : List Int)).bind fun y264 => (if t241 < 0 then (standstilllaw05_BlockMirror.j3 kj54 l3 y264 true t241 t242 t243 t244 t245 t253 t254 t255 t256 t257) else (standstilllaw05_BlockMirror.j3 kj54 l3 y264 (decide (t241 > 2)) t241 t242 t243 t244 t245 t253 t254 t255 t256 t257))) = some r := by rw [if_neg (show ¬ (false = true) by decide)] at H; exact H
          clear H
          have H := H1
          clear H1
          obtain ⟨y264, hy264⟩ : ∃ y_ : List Int, y_ = (([1, 0, 2] : List Int)) := ⟨_, rfl⟩
          replace H : (if t241 < 0 then (standstilllaw05_BlockMirror.j3 kj54 l3 y264 true t241 t242 t243 t244 t245 t253 t254 t255 t256 t257) else (standstilllaw05_BlockMirror.j3 kj54 l3 y264 (decide (t241 > 2)) t241 t242 t243 t244 t245 t253 t254 t255 t256 t257)) = some r := by first | (rw [hy264]; with_reducible exact H) | (have H2_ := (Option.bind_some _ _).symm.trans H; rw [hy264]; with_reducible exact H2_) | (have H2_ := (Option.bind_some _ _).symm.trans H; with_reducible exact H2_) | with_reducible exact H | (rw [hy264]; exact H) | exact H
          have Ny264 := Aside0.mk hy264
          clear hy264
          have HC73 := Aside0.mk H
          clear H
          go_upto_region 11 with (first | ((with_reducible refine gate_dst (N := 83) rfl ?_); (try (refine gate_guard (by rfl) ?_; dsimp only)); refine Kd.R_lit (Kd.int .i64) _ 3 ?hg (N := 83) ?hd (xs := ([1, 0, 2] : List Int)) (inner := [.int .i64 1, .int .i64 0, .int .i64 2]) (ok := fun _ => True) (okp := fun _ => True) ?hr ?hp (fun _ hk => hk) trivial (Below.refl _ _) (Nat.le_refl _) (by simp) ?_; (case hd => rfl); (case hg => rfl); (case hr => first | (go_simp; done) | (go_simp; rfl)); (case hp => exact (Reps.one (show Kd.M (Kd.int .i64) _ _ _ 1 [.int .i64 1] from rfl) (Reps.one (show Kd.M (Kd.int .i64) _ _ _ 0 [.int .i64 0] from rfl) (Reps.one (show Kd.M (Kd.int .i64) _ _ _ 2 [.int .i64 2] from rfl) (Reps.none _ _))))); intro v265 w74 ho75 hb hg_ hnew_; clear hg_ hnew_; (first | rw [← Ny264.out] at ho75 | (simp only [Int.reduceToNat] at ho75; rw [← Ny264.out] at ho75)); have n0_ := A_ (Kd.S_below (by (with_reducible repeat (first | apply Kd.S_alloc | apply Kd.S_drewN | apply Kd.S_drew)); exact HO_241002.out) hb); have n1_ := A_ (Kd.R_elder' (rk_ HO_250004.out) (Kd.R_base ho75) hb); have n2_ := A_ (Kd.R_elder' (rk_ HO_262004.out) (Kd.R_base ho75) hb); have n3_ := A_ (Kd.R_lower (Kd.R_new' (Kd.R_new' ho75 (Kd.R_lt (rk_ HO_250004.out))) (Kd.R_lt (rk_ HO_262004.out))) (below_size (bk_ HB.out))); have n4_ := A_ (blk_below (pk_ BK230.out) hb); have n5_ := A_ (blk_below (pk_ BK240.out) hb); have n6_ := A_ (blk_below (pk_ BK249.out) hb); have n7_ := A_ (blk_below (pk_ BK261.out) hb); have n8_ := A_ (below_step (bk_ HB.out) hb); clear HO_241002 HO_250004 HO_262004 BK230 BK240 BK249 BK261 HB; have HO_241002 := n0_; have HO_250004 := n1_; have HO_262004 := n2_; have HO266 := n3_; have BK230 := n4_; have BK240 := n5_; have BK249 := n6_; have BK261 := n7_; have HB := n8_; clear n0_ n1_ n2_ n3_ n4_ n5_ n6_ n7_ n8_ hb ho75))
          (try simp only [Act.put, List.setIfInBounds_toArray, List.set_cons_zero, List.set_cons_succ])
          go_cut [91] (fun v91 wc => ∃ (kq : Nat) (x91_72 : Bool), v91 = .bool x91_72 ∧ Aside0 (standstilllaw05_BlockMirror.j3 kq l3 y264 x91_72 t241 t242 t243 t244 t245 t253 t254 t255 t256 t257 = some r) ∧ Aside0 (kq ≤ kj54) ∧ Aside0 (Kd.R (Kd.int .i64) 3 wc w.heap.size (fun k_ => some k_ ≠ ((.slice Ao39 t245.length co39) : Value).ownBlock ∧ some k_ ≠ ((.slice Ao51 t257.length co51) : Value).ownBlock) v265 y264) ∧ Aside0 (Kd.S (Kd.slice 57 k57) 54 wc w.heap.size (fun _ => True) (.slice Ao32 t236.length co32) t236) ∧ Aside0 (Kd.R (Kd.int .i64) 3 wc w.heap.size (fun k_ => some k_ ≠ (v265 : Value).ownBlock ∧ some k_ ≠ ((.slice Ao51 t257.length co51) : Value).ownBlock) (.slice Ao39 t245.length co39) t245) ∧ Aside0 (Kd.R (Kd.int .i64) 3 wc w.heap.size (fun k_ => some k_ ≠ (v265 : Value).ownBlock ∧ some k_ ≠ ((.slice Ao39 t245.length co39) : Value).ownBlock) (.slice Ao51 t257.length co51) t257) ∧ Aside0 (wc.heap[gb230]? = some (.cells #[.int .i64 a0_0, .int .i64 a0_1, (.slice A0_2 l0_2.length c0_2)] 24 (0, 0))) ∧ Aside0 (wc.heap[gb240]? = some (.cells #[.int .i64 t234, .int .i64 t235, (.slice Ao32 t236.length co32)] 24 (0, 0))) ∧ Aside0 (wc.heap[gb249]? = some (.cells #[.int .i64 t241, .int .i64 t242, .int .i64 t243, .int .i64 t244, (.slice Ao39 t245.length co39)] 29 (0, 0))) ∧ Aside0 (wc.heap[gb261]? = some (.cells #[.int .i64 t253, .int .i64 t254, .int .i64 t255, .int .i64 t256, (.slice Ao51 t257.length co51)] 29 (0, 0))) ∧ Aside0 (Below w.heap.size w wc))
          case first => as_aux_lemma =>
           have H := HC73.out
           clear HC73
           by_cases c76 : t241 < 0
           ·rw [if_pos c76] at H
            have c76b0 : decide (t241 < 0) = true := decide_eq_true c76
            clear c76
            (first | rw [c76b0] | (simp only [i64_w, i32_w]; rw [c76b0]) | skip)
            have H' := Aside0.mk H
            clear H
            have hnb77 := NB249_230.out
            have hnc77 := NB230_249.out
            have hnb78 := NB249_240.out
            have hnc78 := NB240_249.out
            have hnb79 := NB249_261.out
            have hnc79 := NB261_249.out
            have hcz80_0 : w74.cell? ⟨gb249, 0, none⟩ = some (.int .i64 t241) := (blk_cell BK249.out 0).trans rfl
            have hcz80_1 : w74.cell? ⟨gb249, 1, none⟩ = some (.int .i64 t242) := (blk_cell BK249.out 1).trans rfl
            have hcz80_2 : w74.cell? ⟨gb249, 2, none⟩ = some (.int .i64 t243) := (blk_cell BK249.out 2).trans rfl
            have hcz80_3 : w74.cell? ⟨gb249, 3, none⟩ = some (.int .i64 t244) := (blk_cell BK249.out 3).trans rfl
            have hcz80_4 : w74.cell? ⟨gb249, 4, none⟩ = some (.slice Ao39 t245.length co39) := (blk_cell BK249.out 4).trans rfl
            have hfz80_0 := blk_frozen BK249.out 0
            have hfz80_1 := blk_frozen BK249.out 1
            have hfz80_2 := blk_frozen BK249.out 2
            have hfz80_3 := blk_frozen BK249.out 3
            have hfz80_4 := blk_frozen BK249.out 4
            go_wp2
            go_meet
            case rel => exact ⟨_, (true), jr_, H', ⟨by have := HJ4.out; have := HJ25.out; have := HJ54.out; first | omega | exact Nat.le_refl _⟩, ⟨by (with_reducible repeat (first | apply Kd.R_alloc | apply Kd.R_drewN | apply Kd.R_drew)); exact Kd.R_mono HO266.out (fun _ hk => ⟨hk.1.2, hk.2⟩)⟩, ⟨by (with_reducible repeat (first | apply Kd.S_alloc | apply Kd.S_drewN | apply Kd.S_drew)); exact HO_241002.out⟩, ⟨by (with_reducible repeat (first | apply Kd.R_alloc | apply Kd.R_drewN | apply Kd.R_drew)); exact Kd.R_mono HO_250004.out (fun _ hk => ⟨hk.2, hk.1⟩)⟩, ⟨by (with_reducible repeat (first | apply Kd.R_alloc | apply Kd.R_drewN | apply Kd.R_drew)); exact Kd.R_mono HO_262004.out (fun _ hk => ⟨hk.2, hk.1⟩)⟩, ⟨pk_ BK230.out⟩, ⟨pk_ BK240.out⟩, ⟨pk_ BK249.out⟩, ⟨pk_ BK261.out⟩, ⟨bk_ HB.out⟩⟩
           ·rw [if_neg c76] at H
            have c76b0 : decide (t241 < 0) = false := decide_eq_false c76
            clear c76
            (first | rw [c76b0] | (simp only [i64_w, i32_w]; rw [c76b0]) | skip)
            have H' := Aside0.mk H
            clear H
            have hnb81 := NB249_230.out
            have hnc81 := NB230_249.out
            have hnb82 := NB249_240.out
            have hnc82 := NB240_249.out
            have hnb83 := NB249_261.out
            have hnc83 := NB261_249.out
            have hcz84_0 : w74.cell? ⟨gb249, 0, none⟩ = some (.int .i64 t241) := (blk_cell BK249.out 0).trans rfl
            have hcz84_1 : w74.cell? ⟨gb249, 1, none⟩ = some (.int .i64 t242) := (blk_cell BK249.out 1).trans rfl
            have hcz84_2 : w74.cell? ⟨gb249, 2, none⟩ = some (.int .i64 t243) := (blk_cell BK249.out 2).trans rfl
            have hcz84_3 : w74.cell? ⟨gb249, 3, none⟩ = some (.int .i64 t244) := (blk_cell BK249.out 3).trans rfl
            have hcz84_4 : w74.cell? ⟨gb249, 4, none⟩ = some (.slice Ao39 t245.length co39) := (blk_cell BK249.out 4).trans rfl
            have hfz84_0 := blk_frozen BK249.out 0
            have hfz84_1 := blk_frozen BK249.out 1
            have hfz84_2 := blk_frozen BK249.out 2
            have hfz84_3 := blk_frozen BK249.out 3
            have hfz84_4 := blk_frozen BK249.out 4
            go_wp2
            go_meet
            case rel => exact ⟨_, (decide (t241 > 2)), jr_, H', ⟨by have := HJ4.out; have := HJ25.out; have := HJ54.out; first | omega | exact Nat.le_refl _⟩, ⟨by (with_reducible repeat (first | apply Kd.R_alloc | apply Kd.R_drewN | apply Kd.R_drew)); exact Kd.R_mono HO266.out (fun _ hk => ⟨hk.1.2, hk.2⟩)⟩, ⟨by (with_reducible repeat (first | apply Kd.S_alloc | apply Kd.S_drewN | apply Kd.S_drew)); exact HO_241002.out⟩, ⟨by (with_reducible repeat (first | apply Kd.R_alloc | apply Kd.R_drewN | apply Kd.R_drew)); exact Kd.R_mono HO_250004.out (fun _ hk => ⟨hk.2, hk.1⟩)⟩, ⟨by (with_reducible repeat (first | apply Kd.R_alloc | apply Kd.R_drewN | apply Kd.R_drew)); exact Kd.R_mono HO_262004.out (fun _ hk => ⟨hk.2, hk.1⟩)⟩, ⟨pk_ BK230.out⟩, ⟨pk_ BK240.out⟩, ⟨pk_ BK249.out⟩, ⟨pk_ BK261.out⟩, ⟨bk_ HB.out⟩⟩
          case rest => as_aux_lemma =>
           clear HC73
           (try clear c3); (try clear c54); (try clear c61)
           obtain ⟨kq, x91_72, rfl, HA, HJ72, HO_15, HO_241002, HO_250004, HO_262004, BK230, BK240, BK249, BK261, HB⟩ := hcut
           cases kq with
           | zero => exact absurd HA.out (by simp [standstilllaw05_BlockMirror.j3])
           | succ kj72 =>
            have H := HA.out
            clear HA
            simp only [standstilllaw05_BlockMirror.j3] at H
            by_cases c85 : x91_72 = true
            ·subst c85
             have H1 : (none) = some r := by rw [if_pos rfl] at H; exact H
             clear H
             have H := H1
             clear H1
             exact absurd H (by simp)
            ·replace c85 := Bool.eq_false_iff.mpr c85
             subst c85
             have H1 : (if 0 ≤ t241 then (if t241 < (y264.length : Int) then (if t253 = (rd y264 t241) then (if t254 = t242 then (if t255 = t243 then (if t256 = (wrap64 ((wrap64 ((l3.length : Int) - 1)) - t244)) then ((standstillref01_Turned.f kj72 t245).bind fun t268 => ((standstillref01_SameInts.f kj72 t257 t268).bind fun t271 => (if t271 = true then ((standstilllaw05_awake.f kj72).bind fun t272 => (some t272)) else (none)))) else (none)) else (none)) else (none)) else (none)) else (none)) else (none)) = some r := by rw [if_neg (show ¬ (false = true) by decide)] at H; exact H
             clear H
             have H := H1
             clear H1
             by_cases c86 : 0 ≤ t241
             ·rw [if_pos c86] at H
              have c86b0 : decide (0 ≤ t241) = true := decide_eq_true c86
              clear c86
              by_cases c87 : t241 < (y264.length : Int)
              ·rw [if_pos c87] at H
               have c87b0 : decide (t241 < (y264.length : Int)) = true := decide_eq_true c87
               clear c87
               by_cases c88 : t253 = (rd y264 t241)
               ·rw [if_pos c88] at H
                have c88b0 : (t253 == (rd y264 t241)) = true := beq_iff_eq.mpr c88
                have c88b1 : (t253 != (rd y264 t241)) = false := bne_eq_false_iff_eq.mpr c88
                clear c88
                by_cases c89 : t254 = t242
                ·rw [if_pos c89] at H
                 have c89b0 : (t254 == t242) = true := beq_iff_eq.mpr c89
                 have c89b1 : (t254 != t242) = false := bne_eq_false_iff_eq.mpr c89
                 clear c89
                 by_cases c90 : t255 = t243
                 ·rw [if_pos c90] at H
                  have c90b0 : (t255 == t243) = true := beq_iff_eq.mpr c90
                  have c90b1 : (t255 != t243) = false := bne_eq_false_iff_eq.mpr c90
                  clear c90
                  by_cases c91 : t256 = (wrap64 ((wrap64 ((l3.length : Int) - 1)) - t244))
                  ·rw [if_pos c91] at H
                   have c91b0 : (t256 == (wrap64 ((wrap64 ((l3.length : Int) - 1)) - t244))) = true := beq_iff_eq.mpr c91
                   have c91b1 : (t256 != (wrap64 ((wrap64 ((l3.length : Int) - 1)) - t244))) = false := bne_eq_false_iff_eq.mpr c91
                   clear c91
                   replace H := Option.bind_eq_some_iff.mp H
                   obtain ⟨t268, A920, H⟩ := H
                   replace H : ((standstillref01_SameInts.f kj72 t257 t268).bind fun t271 => (if t271 = true then ((standstilllaw05_awake.f kj72).bind fun t272 => (some t272)) else (none))) = some r := H
                   have A92 := Aside0.mk A920
                   clear A920
                   replace H := Option.bind_eq_some_iff.mp H
                   obtain ⟨t271, A930, H⟩ := H
                   replace H : (if t271 = true then ((standstilllaw05_awake.f kj72).bind fun t272 => (some t272)) else (none)) = some r := H
                   have A93 := Aside0.mk A930
                   clear A930
                   by_cases c94 : t271 = true
                   ·subst c94
                    have H1 : ((standstilllaw05_awake.f kj72).bind fun t272 => (some t272)) = some r := by rw [if_pos rfl] at H; exact H
                    clear H
                    have H := H1
                    clear H1
                    replace H := Option.bind_eq_some_iff.mp H
                    obtain ⟨t272, A950, H⟩ := H
                    replace H : (some t272) = some r := H
                    have A95 := Aside0.mk A950
                    clear A950
                    obtain rfl := Option.some.inj H
                    try go_wp2
                    have n0_ := A_ (Kd.R_drew HO_15.out)
                    have n1_ := A_ (Kd.S_drew HO_241002.out)
                    have n2_ := A_ (Kd.R_drew HO_250004.out)
                    have n3_ := A_ (Kd.R_drew HO_262004.out)
                    have n4_ := A_ (blk_drew BK230.out)
                    have n5_ := A_ (blk_drew BK240.out)
                    have n6_ := A_ (blk_drew BK249.out)
                    have n7_ := A_ (blk_drew BK261.out)
                    have n8_ := A_ (below_drew1 HB.out)
                    clear HO_15 HO_241002 HO_250004 HO_262004 BK230 BK240 BK249 BK261 HB
                    have HO_15 := n0_
                    have HO_241002 := n1_
                    have HO_250004 := n2_
                    have HO_262004 := n3_
                    have BK230 := n4_
                    have BK240 := n5_
                    have BK249 := n6_
                    have BK261 := n7_
                    have HB := n8_
                    clear n0_ n1_ n2_ n3_ n4_ n5_ n6_ n7_ n8_
                    obtain ⟨Ao97, co97, eo97⟩ := Kd.R_slice HO_15.out
                    (first | subst eo97 | (injection eo97 with f1_ f2_ f3_; have f4_ := f1_.symm; have f5_ := f3_.symm; clear f1_ f2_ f3_; subst f4_; subst f5_))
                    have p267 : 0 ≤ (t241 : Int) := od_
                    have q267 : t241 < (y264.length : Int) := od_
                    obtain ⟨ad267, e267, hx267_0⟩ := Kd.at_int (Kd.R_reads' HO_15.out).2.2 t241 p267 q267
                    cases e267
                    replace p267 := eq_true p267
                    replace q267 := eq_true q267
                    refine start_ (n := 45) (S := fun w' => w'.cell? ⟨gb261, 0, none⟩ = some (.int .i64 t253) ∧ w'.cell? ⟨gb261, 1, none⟩ = some (.int .i64 t254) ∧ w'.cell? ⟨gb261, 2, none⟩ = some (.int .i64 t255) ∧ w'.cell? ⟨gb261, 3, none⟩ = some (.int .i64 t256) ∧ w'.cell? ⟨gb261, 4, none⟩ = some (.slice Ao51 t257.length co51) ∧ w'.cell? ⟨gb249, 0, none⟩ = some (.int .i64 t241) ∧ w'.cell? ⟨gb249, 1, none⟩ = some (.int .i64 t242) ∧ w'.cell? ⟨gb249, 2, none⟩ = some (.int .i64 t243) ∧ w'.cell? ⟨gb249, 3, none⟩ = some (.int .i64 t244) ∧ w'.cell? ⟨gb249, 4, none⟩ = some (.slice Ao39 t245.length co39) ∧ w'.cell? (ad267.add (t241).toNat) = some (.int .i64 (rd y264 t241))) (ds := []) #[false, false, false, false, false, false, false, false, false, false, false, false, false, false, false, false, false, false, false, false, false, false, false, false, false, false, false, false, false, false, false, false, false, false, false, false, false, false, false, false, false, false, false, false, false] (by kernel_rfl) rfl rfl ⟨(blk_cell BK261.out 0).trans rfl, (blk_cell BK261.out 1).trans rfl, (blk_cell BK261.out 2).trans rfl, (blk_cell BK261.out 3).trans rfl, (blk_cell BK261.out 4).trans rfl, (blk_cell BK249.out 0).trans rfl, (blk_cell BK249.out 1).trans rfl, (blk_cell BK249.out 2).trans rfl, (blk_cell BK249.out 3).trans rfl, (blk_cell BK249.out 4).trans rfl, hx267_0⟩ (fun hHeld => ?_); refine with_tabW standstilllaw05_BlockMirror.tab13 standstilllaw05_BlockMirror.bits13 (fun HT_ HW_ => ?_)
                    generalize wc.drew = w96 at HO_15 HO_241002 HO_250004 HO_262004 BK230 BK240 BK249 BK261 HB hx267_0 hHeld ⊢
                    refine pure_ (i := 0) (N := some 92) (v := ?_) (a' := ?_) #[true, false, false, false, false, false, false, false, false, false, false, false, false, false, false, false, false, false, false, false, false, false, false, false, false, false, false, false, false, false, false, false, false, false, false, false, false, false, false, false, false, false, false, false, false] rfl rfl (any_of HT_.out (by kernel_rfl)) (fun _ _ _ h => h) (Or.inl ⟨by rfl, ?_⟩) ?_ ?_
                    rotate_left
                    ·intro w'
                     go_simp
                     with_reducible rfl
                    rotate_left
                    ·simp only [Act.put, sa_, sz_, ss_, i64_w, i32_w]
                     rfl
                    refine pure_ (i := 2) (N := some 94) (v := ?_) (a' := ?_) #[true, false, true, false, false, false, false, false, false, false, false, false, false, false, false, false, false, false, false, false, false, false, false, false, false, false, false, false, false, false, false, false, false, false, false, false, false, false, false, false, false, false, false, false, false] rfl rfl (any_of HT_.out (by kernel_rfl)) (fun _ _ _ h => h) (Or.inl ⟨by rfl, ?_⟩) ?_ ?_
                    rotate_left
                    ·intro w'
                     go_simp
                     with_reducible rfl
                    rotate_left
                    ·simp only [Act.put, sa_, sz_, ss_, i64_w, i32_w]
                     rfl
                    refine pure_ (i := 3) (N := some 95) (v := ?_) (a' := ?_) #[true, false, true, true, false, false, false, false, false, false, false, false, false, false, false, false, false, false, false, false, false, false, false, false, false, false, false, false, false, false, false, false, false, false, false, false, false, false, false, false, false, false, false, false, false] rfl rfl (any_of HT_.out (by kernel_rfl)) (fun _ _ _ h => h) (Or.inl ⟨by rfl, ?_⟩) ?_ ?_
                    rotate_left
                    ·intro w'
                     go_simp
                     with_reducible rfl
                    rotate_left
                    ·simp only [Act.put, sa_, sz_, ss_, i64_w, i32_w]
                     rfl
                    refine take_ (i := 1) (N := some 93) (v := ?_) (a' := ?_) #[true, true, true, true, false, false, false, false, false, false, false, false, false, false, false, false, false, false, false, false, false, false, false, false, false, false, false, false, false, false, false, false, false, false, false, false, false, false, false, false, false, false, false, false, false] rfl rfl (take_ofW HT_.out HW_.out (by kernel_rfl)) (fun _ _ _ h => h) (Or.inl ⟨by rfl, ?_⟩) hHeld ?_ ?_
                    rotate_left
                    ·rintro w' ⟨s0, s1, s2, s3, s4, s5, s6, s7, s8, s9, s10⟩
                     go_simp
                     with_reducible rfl
                    rotate_left
                    ·simp only [Act.put, sa_, sz_, ss_, i64_w, i32_w]
                     rfl
                    refine take_ (i := 4) (N := some 96) (v := ?_) (a' := ?_) #[true, true, true, true, true, false, false, false, false, false, false, false, false, false, false, false, false, false, false, false, false, false, false, false, false, false, false, false, false, false, false, false, false, false, false, false, false, false, false, false, false, false, false, false, false] rfl rfl (take_ofW HT_.out HW_.out (by kernel_rfl)) (fun _ _ _ h => h) (Or.inl ⟨by rfl, ?_⟩) hHeld ?_ ?_
                    rotate_left
                    ·rintro w' ⟨s0, s1, s2, s3, s4, s5, s6, s7, s8, s9, s10⟩
                     go_simp
                     with_reducible rfl
                    rotate_left
                    ·simp only [Act.put, sa_, sz_, ss_, i64_w, i32_w]
                     rfl
                    refine pure_ (i := 5) (N := some 97) (v := ?_) (a' := ?_) #[true, true, true, true, true, true, false, false, false, false, false, false, false, false, false, false, false, false, false, false, false, false, false, false, false, false, false, false, false, false, false, false, false, false, false, false, false, false, false, false, false, false, false, false, false] rfl rfl (any_of HT_.out (by kernel_rfl)) (fun _ _ _ h => h) (Or.inl ⟨by rfl, ?_⟩) ?_ ?_
                    rotate_left
                    ·intro w'
                     go_simp
                     with_reducible rfl
                    rotate_left
                    ·simp only [Act.put, sa_, sz_, ss_, i64_w, i32_w]
                     rfl
                    refine take_ (i := 6) (N := some 98) (v := ?_) (a' := ?_) #[true, true, true, true, true, true, true, false, false, false, false, false, false, false, false, false, false, false, false, false, false, false, false, false, false, false, false, false, false, false, false, false, false, false, false, false, false, false, false, false, false, false, false, false, false] rfl rfl (take_ofW HT_.out HW_.out (by kernel_rfl)) (fun _ _ _ h => h) (Or.inl ⟨by rfl, ?_⟩) hHeld ?_ ?_
                    rotate_left
                    ·rintro w' ⟨s0, s1, s2, s3, s4, s5, s6, s7, s8, s9, s10⟩
                     go_simp
                     with_reducible rfl
                    rotate_left
                    ·simp only [Act.put, sa_, sz_, ss_, i64_w, i32_w]
                     rfl
                    refine pure_ (i := 7) (N := some 99) (v := ?_) (a' := ?_) #[true, true, true, true, true, true, true, true, false, false, false, false, false, false, false, false, false, false, false, false, false, false, false, false, false, false, false, false, false, false, false, false, false, false, false, false, false, false, false, false, false, false, false, false, false] rfl rfl (any_of HT_.out (by kernel_rfl)) (fun _ _ _ h => h) (Or.inl ⟨by rfl, ?_⟩) ?_ ?_
                    rotate_left
                    ·intro w'
                     go_simp
                     with_reducible rfl
                    rotate_left
                    ·simp only [Act.put, sa_, sz_, ss_, i64_w, i32_w]
                     rfl
                    refine pure_ (i := 8) (N := some 100) (v := ?_) (a' := ?_) #[true, true, true, true, true, true, true, true, true, false, false, false, false, false, false, false, false, false, false, false, false, false, false, false, false, false, false, false, false, false, false, false, false, false, false, false, false, false, false, false, false, false, false, false, false] rfl rfl (any_of HT_.out (by kernel_rfl)) (fun _ _ _ h => h) (Or.inl ⟨by rfl, ?_⟩) ?_ ?_
                    rotate_left
                    ·intro w'
                     go_simp
                     with_reducible rfl
                    rotate_left
                    ·simp only [Act.put, sa_, sz_, ss_, i64_w, i32_w]
                     rfl
                    refine pure_ (i := 9) (N := some 101) (v := ?_) (a' := ?_) #[true, true, true, true, true, true, true, true, true, true, false, false, false, false, false, false, false, false, false, false, false, false, false, false, false, false, false, false, false, false, false, false, false, false, false, false, false, false, false, false, false, false, false, false, false] rfl rfl (any_of HT_.out (by kernel_rfl)) (fun _ _ _ h => h) (Or.inl ⟨by rfl, ?_⟩) ?_ ?_
                    rotate_left
                    ·intro w'
                     go_simp
                     with_reducible rfl
                    rotate_left
                    ·simp only [Act.put, sa_, sz_, ss_, i64_w, i32_w]
                     rfl
                    refine pure_ (i := 11) (N := some 103) (v := ?_) (a' := ?_) #[true, true, true, true, true, true, true, true, true, true, false, true, false, false, false, false, false, false, false, false, false, false, false, false, false, false, false, false, false, false, false, false, false, false, false, false, false, false, false, false, false, false, false, false, false] rfl rfl (any_of HT_.out (by kernel_rfl)) (fun _ _ _ h => h) (Or.inl ⟨by rfl, ?_⟩) ?_ ?_
                    rotate_left
                    ·intro w'
                     go_simp
                     with_reducible rfl
                    rotate_left
                    ·simp only [Act.put, sa_, sz_, ss_, i64_w, i32_w]
                     rfl
                    refine take_ (i := 10) (N := some 102) (v := ?_) (a' := ?_) #[true, true, true, true, true, true, true, true, true, true, true, true, false, false, false, false, false, false, false, false, false, false, false, false, false, false, false, false, false, false, false, false, false, false, false, false, false, false, false, false, false, false, false, false, false] rfl rfl (take_ofW HT_.out HW_.out (by kernel_rfl)) (fun _ _ _ h => h) (Or.inl ⟨by rfl, ?_⟩) hHeld ?_ ?_
                    rotate_left
                    ·rintro w' ⟨s0, s1, s2, s3, s4, s5, s6, s7, s8, s9, s10⟩
                     go_simp
                     with_reducible rfl
                    rotate_left
                    ·simp only [Act.put, sa_, sz_, ss_, i64_w, i32_w]
                     rfl
                    refine take_ (i := 12) (N := some 104) (v := ?_) (a' := ?_) #[true, true, true, true, true, true, true, true, true, true, true, true, true, false, false, false, false, false, false, false, false, false, false, false, false, false, false, false, false, false, false, false, false, false, false, false, false, false, false, false, false, false, false, false, false] rfl rfl (take_ofW HT_.out HW_.out (by kernel_rfl)) (fun _ _ _ h => h) (Or.inl ⟨by rfl, ?_⟩) hHeld ?_ ?_
                    rotate_left
                    ·rintro w' ⟨s0, s1, s2, s3, s4, s5, s6, s7, s8, s9, s10⟩
                     go_simp
                     with_reducible rfl
                    rotate_left
                    ·simp only [Act.put, sa_, sz_, ss_, i64_w, i32_w]
                     rfl
                    refine pure_ (i := 13) (N := some 105) (v := ?_) (a' := ?_) #[true, true, true, true, true, true, true, true, true, true, true, true, true, true, false, false, false, false, false, false, false, false, false, false, false, false, false, false, false, false, false, false, false, false, false, false, false, false, false, false, false, false, false, false, false] rfl rfl (any_of HT_.out (by kernel_rfl)) (fun _ _ _ h => h) (Or.inl ⟨by rfl, ?_⟩) ?_ ?_
                    rotate_left
                    ·intro w'
                     go_simp
                     with_reducible rfl
                    rotate_left
                    ·simp only [Act.put, sa_, sz_, ss_, i64_w, i32_w]
                     rfl
                    refine pure_ (i := 14) (N := some 106) (v := ?_) (a' := ?_) #[true, true, true, true, true, true, true, true, true, true, true, true, true, true, true, false, false, false, false, false, false, false, false, false, false, false, false, false, false, false, false, false, false, false, false, false, false, false, false, false, false, false, false, false, false] rfl rfl (any_of HT_.out (by kernel_rfl)) (fun _ _ _ h => h) (Or.inl ⟨by rfl, ?_⟩) ?_ ?_
                    rotate_left
                    ·intro w'
                     go_simp
                     with_reducible rfl
                    rotate_left
                    ·simp only [Act.put, sa_, sz_, ss_, i64_w, i32_w]
                     rfl
                    refine pure_ (i := 15) (N := some 107) (v := ?_) (a' := ?_) #[true, true, true, true, true, true, true, true, true, true, true, true, true, true, true, true, false, false, false, false, false, false, false, false, false, false, false, false, false, false, false, false, false, false, false, false, false, false, false, false, false, false, false, false, false] rfl rfl (any_of HT_.out (by kernel_rfl)) (fun _ _ _ h => h) (Or.inl ⟨by rfl, ?_⟩) ?_ ?_
                    rotate_left
                    ·intro w'
                     go_simp
                     with_reducible rfl
                    rotate_left
                    ·simp only [Act.put, sa_, sz_, ss_, i64_w, i32_w]
                     rfl
                    refine pure_ (i := 16) (N := some 108) (v := ?_) (a' := ?_) #[true, true, true, true, true, true, true, true, true, true, true, true, true, true, true, true, true, false, false, false, false, false, false, false, false, false, false, false, false, false, false, false, false, false, false, false, false, false, false, false, false, false, false, false, false] rfl rfl (any_of HT_.out (by kernel_rfl)) (fun _ _ _ h => h) (Or.inl ⟨by rfl, ?_⟩) ?_ ?_
                    rotate_left
                    ·intro w'
                     go_simp
                     with_reducible rfl
                    rotate_left
                    ·simp only [Act.put, sa_, sz_, ss_, i64_w, i32_w]
                     rfl
                    refine pure_ (i := 18) (N := some 110) (v := ?_) (a' := ?_) #[true, true, true, true, true, true, true, true, true, true, true, true, true, true, true, true, true, false, true, false, false, false, false, false, false, false, false, false, false, false, false, false, false, false, false, false, false, false, false, false, false, false, false, false, false] rfl rfl (any_of HT_.out (by kernel_rfl)) (fun _ _ _ h => h) (Or.inl ⟨by rfl, ?_⟩) ?_ ?_
                    rotate_left
                    ·intro w'
                     go_simp
                     with_reducible rfl
                    rotate_left
                    ·simp only [Act.put, sa_, sz_, ss_, i64_w, i32_w]
                     rfl
                    refine take_ (i := 17) (N := some 109) (v := ?_) (a' := ?_) #[true, true, true, true, true, true, true, true, true, true, true, true, true, true, true, true, true, true, true, false, false, false, false, false, false, false, false, false, false, false, false, false, false, false, false, false, false, false, false, false, false, false, false, false, false] rfl rfl (take_ofW HT_.out HW_.out (by kernel_rfl)) (fun _ _ _ h => h) (Or.inl ⟨by rfl, ?_⟩) hHeld ?_ ?_
                    rotate_left
                    ·rintro w' ⟨s0, s1, s2, s3, s4, s5, s6, s7, s8, s9, s10⟩
                     go_simp
                     with_reducible rfl
                    rotate_left
                    ·simp only [Act.put, sa_, sz_, ss_, i64_w, i32_w]
                     rfl
                    refine take_ (i := 19) (N := some 111) (v := ?_) (a' := ?_) #[true, true, true, true, true, true, true, true, true, true, true, true, true, true, true, true, true, true, true, true, false, false, false, false, false, false, false, false, false, false, false, false, false, false, false, false, false, false, false, false, false, false, false, false, false] rfl rfl (take_ofW HT_.out HW_.out (by kernel_rfl)) (fun _ _ _ h => h) (Or.inl ⟨by rfl, ?_⟩) hHeld ?_ ?_
                    rotate_left
                    ·rintro w' ⟨s0, s1, s2, s3, s4, s5, s6, s7, s8, s9, s10⟩
                     go_simp
                     with_reducible rfl
                    rotate_left
                    ·simp only [Act.put, sa_, sz_, ss_, i64_w, i32_w]
                     rfl
                    refine pure_ (i := 20) (N := some 112) (v := ?_) (a' := ?_) #[true, true, true, true, true, true, true, true, true, true, true, true, true, true, true, true, true, true, true, true, true, false, false, false, false, false, false, false, false, false, false, false, false, false, false, false, false, false, false, false, false, false, false, false, false] rfl rfl (any_of HT_.out (by kernel_rfl)) (fun _ _ _ h => h) (Or.inl ⟨by rfl, ?_⟩) ?_ ?_
                    rotate_left
                    ·intro w'
                     go_simp
                     with_reducible rfl
                    rotate_left
                    ·simp only [Act.put, sa_, sz_, ss_, i64_w, i32_w]
                     rfl
                    refine pure_ (i := 21) (N := some 113) (v := ?_) (a' := ?_) #[true, true, true, true, true, true, true, true, true, true, true, true, true, true, true, true, true, true, true, true, true, true, false, false, false, false, false, false, false, false, false, false, false, false, false, false, false, false, false, false, false, false, false, false, false] rfl rfl (any_of HT_.out (by kernel_rfl)) (fun _ _ _ h => h) (Or.inl ⟨by rfl, ?_⟩) ?_ ?_
                    rotate_left
                    ·intro w'
                     go_simp
                     with_reducible rfl
                    rotate_left
                    ·simp only [Act.put, sa_, sz_, ss_, i64_w, i32_w]
                     rfl
                    refine pure_ (i := 22) (N := some 114) (v := ?_) (a' := ?_) #[true, true, true, true, true, true, true, true, true, true, true, true, true, true, true, true, true, true, true, true, true, true, true, false, false, false, false, false, false, false, false, false, false, false, false, false, false, false, false, false, false, false, false, false, false] rfl rfl (any_of HT_.out (by kernel_rfl)) (fun _ _ _ h => h) (Or.inl ⟨by rfl, ?_⟩) ?_ ?_
                    rotate_left
                    ·intro w'
                     go_simp
                     with_reducible rfl
                    rotate_left
                    ·simp only [Act.put, sa_, sz_, ss_, i64_w, i32_w]
                     rfl
                    refine pure_ (i := 23) (N := some 115) (v := ?_) (a' := ?_) #[true, true, true, true, true, true, true, true, true, true, true, true, true, true, true, true, true, true, true, true, true, true, true, true, false, false, false, false, false, false, false, false, false, false, false, false, false, false, false, false, false, false, false, false, false] rfl rfl (any_of HT_.out (by kernel_rfl)) (fun _ _ _ h => h) (Or.inl ⟨by rfl, ?_⟩) ?_ ?_
                    rotate_left
                    ·intro w'
                     go_simp
                     with_reducible rfl
                    rotate_left
                    ·simp only [Act.put, sa_, sz_, ss_, i64_w, i32_w]
                     rfl
                    refine pure_ (i := 25) (N := some 117) (v := ?_) (a' := ?_) #[true, true, true, true, true, true, true, true, true, true, true, true, true, true, true, true, true, true, true, true, true, true, true, true, false, true, false, false, false, false, false, false, false, false, false, false, false, false, false, false, false, false, false, false, false] rfl rfl (any_of HT_.out (by kernel_rfl)) (fun _ _ _ h => h) (Or.inl ⟨by rfl, ?_⟩) ?_ ?_
                    rotate_left
                    ·intro w'
                     go_simp
                     with_reducible rfl
                    rotate_left
                    ·simp only [Act.put, sa_, sz_, ss_, i64_w, i32_w]
                     rfl
                    refine pure_ (i := 26) (N := some 118) (v := ?_) (a' := ?_) #[true, true, true, true, true, true, true, true, true, true, true, true, true, true, true, true, true, true, true, true, true, true, true, true, false, true, true, false, false, false, false, false, false, false, false, false, false, false, false, false, false, false, false, false, false] rfl rfl (any_of HT_.out (by kernel_rfl)) (fun _ _ _ h => h) (Or.inl ⟨by rfl, ?_⟩) ?_ ?_
                    rotate_left
                    ·intro w'
                     go_simp
                     with_reducible rfl
                    rotate_left
                    ·simp only [Act.put, sa_, sz_, ss_, i64_w, i32_w]
                     rfl
                    refine pure_ (i := 27) (N := some 119) (v := ?_) (a' := ?_) #[true, true, true, true, true, true, true, true, true, true, true, true, true, true, true, true, true, true, true, true, true, true, true, true, false, true, true, true, false, false, false, false, false, false, false, false, false, false, false, false, false, false, false, false, false] rfl rfl (any_of HT_.out (by kernel_rfl)) (fun _ _ _ h => h) (Or.inl ⟨by rfl, ?_⟩) ?_ ?_
                    rotate_left
                    ·intro w'
                     go_simp
                     with_reducible rfl
                    rotate_left
                    ·simp only [Act.put, sa_, sz_, ss_, i64_w, i32_w]
                     rfl
                    refine pure_ (i := 28) (N := some 120) (v := ?_) (a' := ?_) #[true, true, true, true, true, true, true, true, true, true, true, true, true, true, true, true, true, true, true, true, true, true, true, true, false, true, true, true, true, false, false, false, false, false, false, false, false, false, false, false, false, false, false, false, false] rfl rfl (any_of HT_.out (by kernel_rfl)) (fun _ _ _ h => h) (Or.inl ⟨by rfl, ?_⟩) ?_ ?_
                    rotate_left
                    ·intro w'
                     go_simp
                     with_reducible rfl
                    rotate_left
                    ·simp only [Act.put, sa_, sz_, ss_, i64_w, i32_w]
                     rfl
                    refine take_ (i := 24) (N := some 116) (v := ?_) (a' := ?_) #[true, true, true, true, true, true, true, true, true, true, true, true, true, true, true, true, true, true, true, true, true, true, true, true, true, true, true, true, true, false, false, false, false, false, false, false, false, false, false, false, false, false, false, false, false] rfl rfl (take_ofW HT_.out HW_.out (by kernel_rfl)) (fun _ _ _ h => h) (Or.inl ⟨by rfl, ?_⟩) hHeld ?_ ?_
                    rotate_left
                    ·rintro w' ⟨s0, s1, s2, s3, s4, s5, s6, s7, s8, s9, s10⟩
                     go_simp
                     with_reducible rfl
                    rotate_left
                    ·simp only [Act.put, sa_, sz_, ss_, i64_w, i32_w]
                     rfl
                    refine take_ (i := 29) (N := some 121) (v := ?_) (a' := ?_) #[true, true, true, true, true, true, true, true, true, true, true, true, true, true, true, true, true, true, true, true, true, true, true, true, true, true, true, true, true, true, false, false, false, false, false, false, false, false, false, false, false, false, false, false, false] rfl rfl (take_ofW HT_.out HW_.out (by kernel_rfl)) (fun _ _ _ h => h) (Or.inl ⟨by rfl, ?_⟩) hHeld ?_ ?_
                    rotate_left
                    ·rintro w' ⟨s0, s1, s2, s3, s4, s5, s6, s7, s8, s9, s10⟩
                     go_simp
                     with_reducible rfl
                    rotate_left
                    ·simp only [Act.put, sa_, sz_, ss_, i64_w, i32_w]
                     rfl
                    refine pure_ (i := 30) (N := some 122) (v := ?_) (a' := ?_) #[true, true, true, true, true, true, true, true, true, true, true, true, true, true, true, true, true, true, true, true, true, true, true, true, true, true, true, true, true, true, true, false, false, false, false, false, false, false, false, false, false, false, false, false, false] rfl rfl (any_of HT_.out (by kernel_rfl)) (fun _ _ _ h => h) (Or.inl ⟨by rfl, ?_⟩) ?_ ?_
                    rotate_left
                    ·intro w'
                     go_simp
                     with_reducible rfl
                    rotate_left
                    ·simp only [Act.put, sa_, sz_, ss_, i64_w, i32_w]
                     rfl
                    refine pure_ (i := 31) (N := some 123) (v := ?_) (a' := ?_) #[true, true, true, true, true, true, true, true, true, true, true, true, true, true, true, true, true, true, true, true, true, true, true, true, true, true, true, true, true, true, true, true, false, false, false, false, false, false, false, false, false, false, false, false, false] rfl rfl (any_of HT_.out (by kernel_rfl)) (fun _ _ _ h => h) (Or.inl ⟨by rfl, ?_⟩) ?_ ?_
                    rotate_left
                    ·intro w'
                     go_simp
                     with_reducible rfl
                    rotate_left
                    ·simp only [Act.put, sa_, sz_, ss_, i64_w, i32_w]
                     rfl
                    refine pure_ (i := 32) (N := some 124) (v := ?_) (a' := ?_) #[true, true, true, true, true, true, true, true, true, true, true, true, true, true, true, true, true, true, true, true, true, true, true, true, true, true, true, true, true, true, true, true, true, false, false, false, false, false, false, false, false, false, false, false, false] rfl rfl (any_of HT_.out (by kernel_rfl)) (fun _ _ _ h => h) (Or.inl ⟨by rfl, ?_⟩) ?_ ?_
                    rotate_left
                    ·intro w'
                     go_simp
                     with_reducible rfl
                    rotate_left
                    ·simp only [Act.put, sa_, sz_, ss_, i64_w, i32_w]
                     rfl
                    refine pure_ (i := 33) (N := some 125) (v := ?_) (a' := ?_) #[true, true, true, true, true, true, true, true, true, true, true, true, true, true, true, true, true, true, true, true, true, true, true, true, true, true, true, true, true, true, true, true, true, true, false, false, false, false, false, false, false, false, false, false, false] rfl rfl (any_of HT_.out (by kernel_rfl)) (fun _ _ _ h => h) (Or.inl ⟨by rfl, ?_⟩) ?_ ?_
                    rotate_left
                    ·intro w'
                     go_simp
                     with_reducible rfl
                    rotate_left
                    ·simp only [Act.put, sa_, sz_, ss_, i64_w, i32_w]
                     rfl
                    refine pure_ (i := 34) (N := some 126) (v := ?_) (a' := ?_) #[true, true, true, true, true, true, true, true, true, true, true, true, true, true, true, true, true, true, true, true, true, true, true, true, true, true, true, true, true, true, true, true, true, true, true, false, false, false, false, false, false, false, false, false, false] rfl rfl (any_of HT_.out (by kernel_rfl)) (fun _ _ _ h => h) (Or.inl ⟨by rfl, ?_⟩) ?_ ?_
                    rotate_left
                    ·intro w'
                     go_simp
                     with_reducible rfl
                    rotate_left
                    ·simp only [Act.put, sa_, sz_, ss_, i64_w, i32_w]
                     rfl
                    refine pure_ (i := 36) (N := some 128) (v := ?_) (a' := ?_) #[true, true, true, true, true, true, true, true, true, true, true, true, true, true, true, true, true, true, true, true, true, true, true, true, true, true, true, true, true, true, true, true, true, true, true, false, true, false, false, false, false, false, false, false, false] rfl rfl (any_of HT_.out (by kernel_rfl)) (fun _ _ _ h => h) (Or.inl ⟨by rfl, ?_⟩) ?_ ?_
                    rotate_left
                    ·intro w'
                     go_simp
                     with_reducible rfl
                    rotate_left
                    ·simp only [Act.put, sa_, sz_, ss_, i64_w, i32_w]
                     rfl
                    refine take_ (i := 35) (N := some 127) (v := ?_) (a' := ?_) #[true, true, true, true, true, true, true, true, true, true, true, true, true, true, true, true, true, true, true, true, true, true, true, true, true, true, true, true, true, true, true, true, true, true, true, true, true, false, false, false, false, false, false, false, false] rfl rfl (take_ofW HT_.out HW_.out (by kernel_rfl)) (fun _ _ _ h => h) (Or.inl ⟨by rfl, ?_⟩) hHeld ?_ ?_
                    rotate_left
                    ·rintro w' ⟨s0, s1, s2, s3, s4, s5, s6, s7, s8, s9, s10⟩
                     go_simp
                     with_reducible rfl
                    rotate_left
                    ·simp only [Act.put, sa_, sz_, ss_, i64_w, i32_w]
                     rfl
                    refine take_ (i := 37) (N := some 129) (v := ?_) (a' := ?_) #[true, true, true, true, true, true, true, true, true, true, true, true, true, true, true, true, true, true, true, true, true, true, true, true, true, true, true, true, true, true, true, true, true, true, true, true, true, true, false, false, false, false, false, false, false] rfl rfl (take_ofW HT_.out HW_.out (by kernel_rfl)) (fun _ _ _ h => h) (Or.inl ⟨by rfl, ?_⟩) hHeld ?_ ?_
                    rotate_left
                    ·rintro w' ⟨s0, s1, s2, s3, s4, s5, s6, s7, s8, s9, s10⟩
                     go_simp
                     with_reducible rfl
                    rotate_left
                    ·simp only [Act.put, sa_, sz_, ss_, i64_w, i32_w]
                     rfl
                    refine one_ (i := 38) (N := some 130) #[true, true, true, true, true, true, true, true, true, true, true, true, true, true, true, true, true, true, true, true, true, true, true, true, true, true, true, true, true, true, true, true, true, true, true, true, true, true, true, false, false, false, false, false, false] rfl rfl (one_of HT_.out (by kernel_rfl)) (by decide) (fun K hK => ?_)
                    refine goes_ Try.func16 (by kernel_rfl) rfl #[.slice Ao39 t245.length co39] (by rfl) rfl rfl gl_ ?_
                    with_reducible refine (standstillref01_Turned.calls kj72 _ _ t245 t268 _ ?side1 ?side2 A92.out).mono ?_
                    (case side1 => repeat (first | exact (Kd.R_reads' HO_250004.out).2.2 | (with_reducible refine Kd.C_alloc ?_ _) | (with_reducible refine Kd.C_drewN ?_ _) | (with_reducible refine Kd.C_drew ?_)))
                    (case side2 => exact (Kd.R_reads' HO_250004.out).2.1)
                    rintro e w98 ⟨v269, rfl, ho0, hb⟩
                    have HS10_ := (hb.cell (World.block_lt_of_cell? _ _ (hHeld.2.2.2.2.2.2.2.2.2.2))).trans (hHeld.2.2.2.2.2.2.2.2.2.2)
                    refine ⟨_, rfl, ?_⟩
                    have n0_ := A_ (Kd.R_elder' (rk_ HO_15.out) (Kd.R_base ho0) hb)
                    have n1_ := A_ (Kd.S_below (by (with_reducible repeat (first | apply Kd.S_alloc | apply Kd.S_drewN | apply Kd.S_drew)); exact HO_241002.out) hb)
                    have n2_ := A_ (Kd.R_elder' (rk_ HO_250004.out) (Kd.R_base ho0) hb)
                    have n3_ := A_ (Kd.R_elder' (rk_ HO_262004.out) (Kd.R_base ho0) hb)
                    have n4_ := A_ (Kd.R_lower (Kd.R_new' (Kd.R_new' (Kd.R_new' ho0 (Kd.R_lt (rk_ HO_15.out))) (Kd.R_lt (rk_ HO_250004.out))) (Kd.R_lt (rk_ HO_262004.out))) (below_size (bk_ HB.out)))
                    have n5_ := A_ (blk_below (pk_ BK230.out) hb)
                    have n6_ := A_ (blk_below (pk_ BK240.out) hb)
                    have n7_ := A_ (blk_below (pk_ BK249.out) hb)
                    have n8_ := A_ (blk_below (pk_ BK261.out) hb)
                    have n9_ := A_ (below_step (bk_ HB.out) hb)
                    clear HO_15 HO_241002 HO_250004 HO_262004 BK230 BK240 BK249 BK261 HB
                    have HO_15 := n0_
                    have HO_241002 := n1_
                    have HO_250004 := n2_
                    have HO_262004 := n3_
                    have HO270 := n4_
                    have BK230 := n5_
                    have BK240 := n6_
                    have BK249 := n7_
                    have BK261 := n8_
                    have HB := n9_
                    clear n0_ n1_ n2_ n3_ n4_ n5_ n6_ n7_ n8_ n9_
                    (try clear hb)
                    (try clear hb2)
                    (try clear hk)
                    (try clear hi)
                    (try clear ho0)
                    obtain ⟨Ao99, co99, eo99⟩ := Kd.R_slice HO270.out
                    (first | subst eo99 | (injection eo99 with f1_ f2_ f3_; have f4_ := f1_.symm; have f5_ := f3_.symm; clear f1_ f2_ f3_; subst f4_; subst f5_))
                    refine hK.out _ _ ⟨(blk_cell BK261.out 0).trans rfl, (blk_cell BK261.out 1).trans rfl, (blk_cell BK261.out 2).trans rfl, (blk_cell BK261.out 3).trans rfl, (blk_cell BK261.out 4).trans rfl, (blk_cell BK249.out 0).trans rfl, (blk_cell BK249.out 1).trans rfl, (blk_cell BK249.out 2).trans rfl, (blk_cell BK249.out 3).trans rfl, (blk_cell BK249.out 4).trans rfl, HS10_⟩ (fun hHeld => ?_)
                    clear hK K
                    refine norm_ (a' := ?_) ?_ ?_
                    rotate_left
                    ·show Act.put _ (some 130) _ = _
                     simp only [Act.put, sa_, sz_, ss_, i64_w, i32_w]
                     rfl
                    refine one_ (i := 39) (N := some 131) #[true, true, true, true, true, true, true, true, true, true, true, true, true, true, true, true, true, true, true, true, true, true, true, true, true, true, true, true, true, true, true, true, true, true, true, true, true, true, true, true, false, false, false, false, false] rfl rfl (one_of HT_.out (by kernel_rfl)) (by decide) (fun K hK => ?_)
                    refine goes_ Try.func14 (by kernel_rfl) rfl #[.slice Ao51 t257.length co51, .slice Ao99 t268.length co99] (by rfl) rfl rfl gl_ ?_
                    with_reducible refine (standstillref01_SameInts.calls kj72 _ _ t257 _ _ t268 true _ ?side1 ?side2 ?side3 ?side4 A93.out).mono ?_
                    (case side1 => repeat (first | exact (Kd.R_reads' HO_262004.out).2.2 | (with_reducible refine Kd.C_alloc ?_ _) | (with_reducible refine Kd.C_drewN ?_ _) | (with_reducible refine Kd.C_drew ?_)))
                    (case side2 => exact (Kd.R_reads' HO_262004.out).2.1)
                    (case side3 => repeat (first | exact (Kd.R_reads' HO270.out).2.2 | (with_reducible refine Kd.C_alloc ?_ _) | (with_reducible refine Kd.C_drewN ?_ _) | (with_reducible refine Kd.C_drew ?_)))
                    (case side4 => exact (Kd.R_reads' HO270.out).2.1)
                    rintro e w' ⟨rfl, ⟨nd, rfl⟩⟩
                    refine ⟨_, rfl, ?_⟩
                    refine hK.out _ _ ⟨(blk_cell BK261.out 0).trans rfl, (blk_cell BK261.out 1).trans rfl, (blk_cell BK261.out 2).trans rfl, (blk_cell BK261.out 3).trans rfl, (blk_cell BK261.out 4).trans rfl, (blk_cell BK249.out 0).trans rfl, (blk_cell BK249.out 1).trans rfl, (blk_cell BK249.out 2).trans rfl, (blk_cell BK249.out 3).trans rfl, (blk_cell BK249.out 4).trans rfl, hHeld.2.2.2.2.2.2.2.2.2.2⟩ (fun hHeld => ?_)
                    clear hK K
                    refine norm_ (a' := ?_) ?_ ?_
                    rotate_left
                    ·show Act.put _ (some 131) _ = _
                     simp only [Act.put, sa_, sz_, ss_, i64_w, i32_w]
                     rfl
                    refine pure_ (i := 40) (N := some 132) (v := ?_) (a' := ?_) #[true, true, true, true, true, true, true, true, true, true, true, true, true, true, true, true, true, true, true, true, true, true, true, true, true, true, true, true, true, true, true, true, true, true, true, true, true, true, true, true, true, false, false, false, false] rfl rfl (any_of HT_.out (by kernel_rfl)) (fun _ _ _ h => h) (Or.inl ⟨by rfl, ?_⟩) ?_ ?_
                    rotate_left
                    ·intro w'
                     go_simp
                     with_reducible rfl
                    rotate_left
                    ·simp only [Act.put, sa_, sz_, ss_, i64_w, i32_w]
                     rfl
                    refine pure_ (i := 41) (N := some 133) (v := ?_) (a' := ?_) #[true, true, true, true, true, true, true, true, true, true, true, true, true, true, true, true, true, true, true, true, true, true, true, true, true, true, true, true, true, true, true, true, true, true, true, true, true, true, true, true, true, true, false, false, false] rfl rfl (any_of HT_.out (by kernel_rfl)) (fun _ _ _ h => h) (Or.inl ⟨by rfl, ?_⟩) ?_ ?_
                    rotate_left
                    ·intro w'
                     go_simp
                     with_reducible rfl
                    rotate_left
                    ·simp only [Act.put, sa_, sz_, ss_, i64_w, i32_w]
                     rfl
                    refine one_ (i := 42) (N := some 134) #[true, true, true, true, true, true, true, true, true, true, true, true, true, true, true, true, true, true, true, true, true, true, true, true, true, true, true, true, true, true, true, true, true, true, true, true, true, true, true, true, true, true, true, false, false] rfl rfl (one_of HT_.out (by kernel_rfl)) (by decide) (fun K hK => ?_)
                    refine goes_ Try.func8 (by kernel_rfl) rfl #[] (by rfl) rfl rfl gl_ ?_
                    with_reducible refine (standstilllaw05_awake.calls kj72  t272 _ A95.out).mono ?_
                    rintro e w100 ⟨rfl, hb⟩
                    have HS10_ := (hb.cell (World.block_lt_of_cell? _ _ (hHeld.2.2.2.2.2.2.2.2.2.2))).trans (hHeld.2.2.2.2.2.2.2.2.2.2)
                    refine ⟨_, rfl, ?_⟩
                    have n0_ := A_ (Kd.R_below (rk_ HO_15.out) hb)
                    have n1_ := A_ (Kd.S_below (by (with_reducible repeat (first | apply Kd.S_alloc | apply Kd.S_drewN | apply Kd.S_drew)); exact HO_241002.out) hb)
                    have n2_ := A_ (Kd.R_below (rk_ HO_250004.out) hb)
                    have n3_ := A_ (Kd.R_below (rk_ HO_262004.out) hb)
                    have n4_ := A_ (Kd.R_below (rk_ HO270.out) hb)
                    have n5_ := A_ (blk_below (pk_ BK230.out) hb)
                    have n6_ := A_ (blk_below (pk_ BK240.out) hb)
                    have n7_ := A_ (blk_below (pk_ BK249.out) hb)
                    have n8_ := A_ (blk_below (pk_ BK261.out) hb)
                    have n9_ := A_ (below_step (bk_ HB.out) hb)
                    clear HO_15 HO_241002 HO_250004 HO_262004 HO270 BK230 BK240 BK249 BK261 HB
                    have HO_15 := n0_
                    have HO_241002 := n1_
                    have HO_250004 := n2_
                    have HO_262004 := n3_
                    have HO270 := n4_
                    have BK230 := n5_
                    have BK240 := n6_
                    have BK249 := n7_
                    have BK261 := n8_
                    have HB := n9_
                    clear n0_ n1_ n2_ n3_ n4_ n5_ n6_ n7_ n8_ n9_
                    (try clear hb)
                    (try clear hb2)
                    (try clear hk)
                    (try clear hi)
                    refine hK.out _ _ ⟨(blk_cell BK261.out 0).trans rfl, (blk_cell BK261.out 1).trans rfl, (blk_cell BK261.out 2).trans rfl, (blk_cell BK261.out 3).trans rfl, (blk_cell BK261.out 4).trans rfl, (blk_cell BK249.out 0).trans rfl, (blk_cell BK249.out 1).trans rfl, (blk_cell BK249.out 2).trans rfl, (blk_cell BK249.out 3).trans rfl, (blk_cell BK249.out 4).trans rfl, HS10_⟩ (fun hHeld => ?_)
                    clear hK K
                    refine norm_ (a' := ?_) ?_ ?_
                    rotate_left
                    ·show Act.put _ (some 134) _ = _
                     simp only [Act.put, sa_, sz_, ss_, i64_w, i32_w]
                     rfl
                    refine pure_ (i := 43) (N := some 135) (v := ?_) (a' := ?_) #[true, true, true, true, true, true, true, true, true, true, true, true, true, true, true, true, true, true, true, true, true, true, true, true, true, true, true, true, true, true, true, true, true, true, true, true, true, true, true, true, true, true, true, true, false] rfl rfl (any_of HT_.out (by kernel_rfl)) (fun _ _ _ h => h) (Or.inl ⟨by rfl, ?_⟩) ?_ ?_
                    rotate_left
                    ·intro w'
                     go_simp
                     with_reducible rfl
                    rotate_left
                    ·simp only [Act.put, sa_, sz_, ss_, i64_w, i32_w]
                     rfl
                    refine pure_ (i := 44) (N := some 8) (v := ?_) (a' := ?_) #[true, true, true, true, true, true, true, true, true, true, true, true, true, true, true, true, true, true, true, true, true, true, true, true, true, true, true, true, true, true, true, true, true, true, true, true, true, true, true, true, true, true, true, true, true] rfl rfl (any_of HT_.out (by kernel_rfl)) (fun _ _ _ h => h) (Or.inl ⟨by rfl, ?_⟩) ?_ ?_
                    rotate_left
                    ·intro w'
                     go_simp
                     with_reducible rfl
                    rotate_left
                    ·simp only [Act.put, sa_, sz_, ss_, i64_w, i32_w]
                     rfl
                    refine done_ (done_of HT_.out (by kernel_rfl)) ?_
                    try go_wp2
                    go_ret
                    exact ⟨er_, bk_ HB.out⟩
                   ·replace c94 := Bool.eq_false_iff.mpr c94
                    subst c94
                    have H1 : (none) = some r := by rw [if_neg (show ¬ (false = true) by decide)] at H; exact H
                    clear H
                    have H := H1
                    clear H1
                    exact absurd H (by simp)
                  ·rw [if_neg c91] at H
                   have c91b0 : (t256 == (wrap64 ((wrap64 ((l3.length : Int) - 1)) - t244))) = false := beq_eq_false_iff_ne.mpr c91
                   have c91b1 : (t256 != (wrap64 ((wrap64 ((l3.length : Int) - 1)) - t244))) = true := bne_iff_ne.mpr c91
                   exact absurd H (by simp)
                 ·rw [if_neg c90] at H
                  have c90b0 : (t255 == t243) = false := beq_eq_false_iff_ne.mpr c90
                  have c90b1 : (t255 != t243) = true := bne_iff_ne.mpr c90
                  exact absurd H (by simp)
                ·rw [if_neg c89] at H
                 have c89b0 : (t254 == t242) = false := beq_eq_false_iff_ne.mpr c89
                 have c89b1 : (t254 != t242) = true := bne_iff_ne.mpr c89
                 exact absurd H (by simp)
               ·rw [if_neg c88] at H
                have c88b0 : (t253 == (rd y264 t241)) = false := beq_eq_false_iff_ne.mpr c88
                have c88b1 : (t253 != (rd y264 t241)) = true := bne_iff_ne.mpr c88
                exact absurd H (by simp)
              ·rw [if_neg c87] at H
               exact absurd H (by simp)
             ·rw [if_neg c86] at H
              exact absurd H (by simp)

/-- THE ONE PURE STATEMENT of standstilllaw05_BlockMirror. -/
def standstilllaw05_BlockMirror.Pure : Prop := ∀ (a0_0 : Int) (a0_1 : Int) (l0_2 : List (List (S57))) (a1 : Int) (a2 : Int) (l3 : List Int), ((Lit.int .i64 a0_0).wf = true) → ((Lit.int .i64 a0_1).wf = true) → (l0_2.length * 24 ≤ 140737488351232 ∧ ∀ y_ ∈ l0_2, (y_.length * 24 ≤ 140737488351232 ∧ ∀ y__ ∈ y_, inv57 y__)) → ((Lit.int .i64 a1).wf = true) → ((Lit.int .i64 a2).wf = true) → (l3.length * 8 ≤ 140737488351232 ∧ ∀ y_ ∈ l3, (Lit.int .i64 y_).wf = true) → ∃ k, standstilllaw05_BlockMirror.f k a0_0 a0_1 l0_2 a1 a2 l3 = some true

end Go.Proofs.Ytcdejoaekkcknaa.PBlockMirror
