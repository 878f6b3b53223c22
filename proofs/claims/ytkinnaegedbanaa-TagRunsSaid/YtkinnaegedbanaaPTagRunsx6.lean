-- out of a turned copy of the print, by a program of this session; Lean checks it
import Derived.Test.YtkinnaegedbanaaPTagRunsx0
import Derived.Test.YtkinnaegedbanaaPTagRunsx1
import Derived.Test.YtkinnaegedbanaaPTagRunsx2
import Derived.Test.YtkinnaegedbanaaPTagRunsx3
import Derived.Test.YtkinnaegedbanaaPTagRunsx4
import Derived.Test.YtkinnaegedbanaaPTagRunsx5
namespace Go.Proofs.Ytkinnaegedbanaa.PTagRuns
open Go.RowKit Go.Proofs.YtkinnaegedbanaaW.PrintWords Go.Proofs.YtkinnaegedbanaaW.PrintLast Go.Proofs.YtkinnaegedbanaaW.PrintMore
attribute [local go_sem] max2_int min2_int max_two min_two max_three min_three max_four min_four   -- for this text's walks alone
set_option linter.unusedVariables false
set_option linter.unusedSimpArgs false

attribute [local go_sem] isSome_put_
/-! ### standstilllaw07_TagRuns: function 4 -/
mutual
def standstilllaw07_TagRuns.j0 : Nat → List Int → Int → Bool → Int → List (List Int) → List Bool → Option (Bool)
 | 0, _, _, _, _, _, _ => none
 | k + 1, x1, x2, x27, x221000, x221001, x221002 => if x27 = true then ((standstilllaw07_awake.f k).bind fun t222 => (some t222)) else ((tag_Valid.f k x221000 x221001 x221002).bind fun t223 => ((standstillref07_Valid.f k x221000 x221001 x221002).bind fun t224 => (if (t223 != t224) = true then (standstilllaw07_TagRuns.j1 k x1 x2 true x221000 x221001 x221002) else ((tag_Fits.f k x221000 x221001 x221002 x1).bind fun t225 => ((standstillref07_Fits.f k x221000 x221001 x221002 x1).bind fun t226 => (standstilllaw07_TagRuns.j1 k x1 x2 (t225 != t226) x221000 x221001 x221002))))))
def standstilllaw07_TagRuns.j1 : Nat → List Int → Int → Bool → Int → List (List Int) → List Bool → Option (Bool)
 | 0, _, _, _, _, _, _ => none
 | k + 1, x1, x2, x42, x221000, x221001, x221002 => if x42 = true then (none) else ((tag_Step.f k x221000 x221001 x221002 x1).bind fun bt227 => ((tag_Run.f k x221000 x221001 x221002 x1 x2).bind fun bt231 => ((standstillref07_Fits.f k x221000 x221001 x221002 x1).bind fun t236 => (if t236 = true then ((standstillref07_Stopped.f x221000 x221001 x221002 x1).bind fun t238 => (if t238 = true then (if bt227.2 = 5 then (if (bt227.1.length : Int) > 0 then (none) else (standstilllaw07_TagRuns.j2 k x1 x2 bt231.1 bt231.2.1 bt231.2.2 x221000 x221001 x221002)) else (none)) else ((standstillref07_Step.f x221000 x221001 x221002 x1).bind fun bt239 => ((standstilllaw07_size.f bt239.2).bind fun t243 => (if bt227.2 = t243 then ((standstillref07_Same.f k bt227.1 bt239.1).bind fun t244 => (if t244 = true then (standstilllaw07_TagRuns.j2 k x1 x2 bt231.1 bt231.2.1 bt231.2.2 x221000 x221001 x221002) else (none))) else (none)))))) else (if bt227.2 = 1 then (if bt231.2.2 = 1 then (if (wrap64 ((wrap64 ((bt227.1.length : Int) + (bt231.1.length : Int))) + bt231.2.1)) = 0 then ((standstilllaw07_awake.f k).bind fun t237 => (some t237)) else (none)) else (none)) else (none))))))
def standstilllaw07_TagRuns.j2 : Nat → List Int → Int → List Int → Int → Int → Int → List (List Int) → List Bool → Option (Bool)
 | 0, _, _, _, _, _, _, _, _ => none
 | k + 1, x1, x2, x9, x10, x11, x221000, x221001, x221002 => if x2 < 0 then (standstilllaw07_TagRuns.j3 k x1 x2 x9 x10 x11 true x221000 x221001 x221002) else (standstilllaw07_TagRuns.j3 k x1 x2 x9 x10 x11 (decide (x2 > 1000000)) x221000 x221001 x221002)
def standstilllaw07_TagRuns.j3 : Nat → List Int → Int → List Int → Int → Int → Bool → Int → List (List Int) → List Bool → Option (Bool)
 | 0, _, _, _, _, _, _, _, _, _ => none
 | k + 1, x1, x2, x9, x10, x11, x111, x221000, x221001, x221002 => if x111 = true then (if x11 = 2 then (if (x9.length : Int) = 0 then (if x10 = 0 then ((standstilllaw07_awake.f k).bind fun t245 => (some t245)) else (none)) else (none)) else (none)) else ((standstillref07_Run.f k x221000 x221001 x221002 x1 x2).bind fun bt246 => ((standstilllaw07_size.f bt246.2.2).bind fun t251 => (if x11 = t251 then (if x10 = bt246.2.1 then ((standstillref07_Same.f k x9 bt246.1).bind fun t252 => (if t252 = true then ((standstilllaw07_awake.f k).bind fun t253 => (some t253)) else (none))) else (none)) else (none))))
end
def standstilllaw07_TagRuns.f (k : Nat) (a0_0 : Int) (l0_1 : List (List Int)) (l0_2 : List Bool) (l1 : List Int) (a2 : Int) : Option (Bool) := (standstilllaw07_wide.f k a0_0 l0_1 l0_2 l1).bind fun t221 => (if t221 = true then (standstilllaw07_TagRuns.j0 k l1 a2 true a0_0 l0_1 l0_2) else (if a2 > 300 then (standstilllaw07_TagRuns.j0 k l1 a2 (decide (a2 ≤ 1000000)) a0_0 l0_1 l0_2) else (standstilllaw07_TagRuns.j0 k l1 a2 false a0_0 l0_1 l0_2)))
theorem standstilllaw07_TagRuns.mono_l : ∀ k, (∀ y0 y1 y2 y3 y4 y5, LeO (standstilllaw07_TagRuns.j0 k y0 y1 y2 y3 y4 y5) (standstilllaw07_TagRuns.j0 (k + 1) y0 y1 y2 y3 y4 y5)) ∧ (∀ y0 y1 y2 y3 y4 y5, LeO (standstilllaw07_TagRuns.j1 k y0 y1 y2 y3 y4 y5) (standstilllaw07_TagRuns.j1 (k + 1) y0 y1 y2 y3 y4 y5)) ∧ (∀ y0 y1 y2 y3 y4 y5 y6 y7, LeO (standstilllaw07_TagRuns.j2 k y0 y1 y2 y3 y4 y5 y6 y7) (standstilllaw07_TagRuns.j2 (k + 1) y0 y1 y2 y3 y4 y5 y6 y7)) ∧ (∀ y0 y1 y2 y3 y4 y5 y6 y7 y8, LeO (standstilllaw07_TagRuns.j3 k y0 y1 y2 y3 y4 y5 y6 y7 y8) (standstilllaw07_TagRuns.j3 (k + 1) y0 y1 y2 y3 y4 y5 y6 y7 y8))
 | 0 => ⟨fun _ _ _ _ _ _ r h => by simp [standstilllaw07_TagRuns.j0] at h, fun _ _ _ _ _ _ r h => by simp [standstilllaw07_TagRuns.j1] at h, fun _ _ _ _ _ _ _ _ r h => by simp [standstilllaw07_TagRuns.j2] at h, fun _ _ _ _ _ _ _ _ _ r h => by simp [standstilllaw07_TagRuns.j3] at h⟩
 | k + 1 => by
  obtain ⟨ih0, ih1, ih2, ih3⟩ := standstilllaw07_TagRuns.mono_l k
  refine ⟨?_, ?_, ?_, ?_⟩
  ·intro y0 y1 y2 y3 y4 y5
   unfold standstilllaw07_TagRuns.j0
   repeat' first
   | (with_reducible exact ih0 _ _ _ _ _ _)
   | (with_reducible exact ih1 _ _ _ _ _ _)
   | (with_reducible exact ih2 _ _ _ _ _ _ _ _)
   | (with_reducible exact ih3 _ _ _ _ _ _ _ _ _)
   | (with_reducible exact standstilllaw07_awake.mono _)
   | (with_reducible exact standstilllaw07_wide.mono _ _ _ _ _)
   | (with_reducible exact standstillref07_Fits.mono _ _ _ _ _)
   | (with_reducible exact standstillref07_Run.mono _ _ _ _ _ _)
   | (with_reducible exact standstillref07_Same.mono _ _ _)
   | (with_reducible exact standstillref07_Valid.mono _ _ _ _)
   | (with_reducible exact tag_Fits.mono _ _ _ _ _)
   | (with_reducible exact tag_Run.mono _ _ _ _ _ _)
   | (with_reducible exact tag_Step.mono _ _ _ _ _)
   | (with_reducible exact tag_Valid.mono _ _ _ _)
   | (with_reducible exact LeO.refl _)
   | (with_reducible exact LeO.none _)
   | (with_reducible refine LeO.ite ?_ ?_)
   | (with_reducible refine LeO.bind ?_ (fun _ => ?_))
   | exact ih0 _ _ _ _ _ _
   | exact ih1 _ _ _ _ _ _
   | exact ih2 _ _ _ _ _ _ _ _
   | exact ih3 _ _ _ _ _ _ _ _ _
   | exact standstilllaw07_awake.mono _
   | exact standstilllaw07_wide.mono _ _ _ _ _
   | exact standstillref07_Fits.mono _ _ _ _ _
   | exact standstillref07_Run.mono _ _ _ _ _ _
   | exact standstillref07_Same.mono _ _ _
   | exact standstillref07_Valid.mono _ _ _ _
   | exact tag_Fits.mono _ _ _ _ _
   | exact tag_Run.mono _ _ _ _ _ _
   | exact tag_Step.mono _ _ _ _ _
   | exact tag_Valid.mono _ _ _ _
   | exact LeO.none _
   | refine LeO.ite ?_ ?_
   | refine LeO.bind ?_ (fun _ => ?_)
  ·intro y0 y1 y2 y3 y4 y5
   unfold standstilllaw07_TagRuns.j1
   repeat' first
   | (with_reducible exact ih0 _ _ _ _ _ _)
   | (with_reducible exact ih1 _ _ _ _ _ _)
   | (with_reducible exact ih2 _ _ _ _ _ _ _ _)
   | (with_reducible exact ih3 _ _ _ _ _ _ _ _ _)
   | (with_reducible exact standstilllaw07_awake.mono _)
   | (with_reducible exact standstilllaw07_wide.mono _ _ _ _ _)
   | (with_reducible exact standstillref07_Fits.mono _ _ _ _ _)
   | (with_reducible exact standstillref07_Run.mono _ _ _ _ _ _)
   | (with_reducible exact standstillref07_Same.mono _ _ _)
   | (with_reducible exact standstillref07_Valid.mono _ _ _ _)
   | (with_reducible exact tag_Fits.mono _ _ _ _ _)
   | (with_reducible exact tag_Run.mono _ _ _ _ _ _)
   | (with_reducible exact tag_Step.mono _ _ _ _ _)
   | (with_reducible exact tag_Valid.mono _ _ _ _)
   | (with_reducible exact LeO.refl _)
   | (with_reducible exact LeO.none _)
   | (with_reducible refine LeO.ite ?_ ?_)
   | (with_reducible refine LeO.bind ?_ (fun _ => ?_))
   | exact ih0 _ _ _ _ _ _
   | exact ih1 _ _ _ _ _ _
   | exact ih2 _ _ _ _ _ _ _ _
   | exact ih3 _ _ _ _ _ _ _ _ _
   | exact standstilllaw07_awake.mono _
   | exact standstilllaw07_wide.mono _ _ _ _ _
   | exact standstillref07_Fits.mono _ _ _ _ _
   | exact standstillref07_Run.mono _ _ _ _ _ _
   | exact standstillref07_Same.mono _ _ _
   | exact standstillref07_Valid.mono _ _ _ _
   | exact tag_Fits.mono _ _ _ _ _
   | exact tag_Run.mono _ _ _ _ _ _
   | exact tag_Step.mono _ _ _ _ _
   | exact tag_Valid.mono _ _ _ _
   | exact LeO.none _
   | refine LeO.ite ?_ ?_
   | refine LeO.bind ?_ (fun _ => ?_)
  ·intro y0 y1 y2 y3 y4 y5 y6 y7
   unfold standstilllaw07_TagRuns.j2
   repeat' first
   | (with_reducible exact ih0 _ _ _ _ _ _)
   | (with_reducible exact ih1 _ _ _ _ _ _)
   | (with_reducible exact ih2 _ _ _ _ _ _ _ _)
   | (with_reducible exact ih3 _ _ _ _ _ _ _ _ _)
   | (with_reducible exact standstilllaw07_awake.mono _)
   | (with_reducible exact standstilllaw07_wide.mono _ _ _ _ _)
   | (with_reducible exact standstillref07_Fits.mono _ _ _ _ _)
   | (with_reducible exact standstillref07_Run.mono _ _ _ _ _ _)
   | (with_reducible exact standstillref07_Same.mono _ _ _)
   | (with_reducible exact standstillref07_Valid.mono _ _ _ _)
   | (with_reducible exact tag_Fits.mono _ _ _ _ _)
   | (with_reducible exact tag_Run.mono _ _ _ _ _ _)
   | (with_reducible exact tag_Step.mono _ _ _ _ _)
   | (with_reducible exact tag_Valid.mono _ _ _ _)
   | (with_reducible exact LeO.refl _)
   | (with_reducible exact LeO.none _)
   | (with_reducible refine LeO.ite ?_ ?_)
   | (with_reducible refine LeO.bind ?_ (fun _ => ?_))
   | exact ih0 _ _ _ _ _ _
   | exact ih1 _ _ _ _ _ _
   | exact ih2 _ _ _ _ _ _ _ _
   | exact ih3 _ _ _ _ _ _ _ _ _
   | exact standstilllaw07_awake.mono _
   | exact standstilllaw07_wide.mono _ _ _ _ _
   | exact standstillref07_Fits.mono _ _ _ _ _
   | exact standstillref07_Run.mono _ _ _ _ _ _
   | exact standstillref07_Same.mono _ _ _
   | exact standstillref07_Valid.mono _ _ _ _
   | exact tag_Fits.mono _ _ _ _ _
   | exact tag_Run.mono _ _ _ _ _ _
   | exact tag_Step.mono _ _ _ _ _
   | exact tag_Valid.mono _ _ _ _
   | exact LeO.none _
   | refine LeO.ite ?_ ?_
   | refine LeO.bind ?_ (fun _ => ?_)
  ·intro y0 y1 y2 y3 y4 y5 y6 y7 y8
   unfold standstilllaw07_TagRuns.j3
   repeat' first
   | (with_reducible exact ih0 _ _ _ _ _ _)
   | (with_reducible exact ih1 _ _ _ _ _ _)
   | (with_reducible exact ih2 _ _ _ _ _ _ _ _)
   | (with_reducible exact ih3 _ _ _ _ _ _ _ _ _)
   | (with_reducible exact standstilllaw07_awake.mono _)
   | (with_reducible exact standstilllaw07_wide.mono _ _ _ _ _)
   | (with_reducible exact standstillref07_Fits.mono _ _ _ _ _)
   | (with_reducible exact standstillref07_Run.mono _ _ _ _ _ _)
   | (with_reducible exact standstillref07_Same.mono _ _ _)
   | (with_reducible exact standstillref07_Valid.mono _ _ _ _)
   | (with_reducible exact tag_Fits.mono _ _ _ _ _)
   | (with_reducible exact tag_Run.mono _ _ _ _ _ _)
   | (with_reducible exact tag_Step.mono _ _ _ _ _)
   | (with_reducible exact tag_Valid.mono _ _ _ _)
   | (with_reducible exact LeO.refl _)
   | (with_reducible exact LeO.none _)
   | (with_reducible refine LeO.ite ?_ ?_)
   | (with_reducible refine LeO.bind ?_ (fun _ => ?_))
   | exact ih0 _ _ _ _ _ _
   | exact ih1 _ _ _ _ _ _
   | exact ih2 _ _ _ _ _ _ _ _
   | exact ih3 _ _ _ _ _ _ _ _ _
   | exact standstilllaw07_awake.mono _
   | exact standstilllaw07_wide.mono _ _ _ _ _
   | exact standstillref07_Fits.mono _ _ _ _ _
   | exact standstillref07_Run.mono _ _ _ _ _ _
   | exact standstillref07_Same.mono _ _ _
   | exact standstillref07_Valid.mono _ _ _ _
   | exact tag_Fits.mono _ _ _ _ _
   | exact tag_Run.mono _ _ _ _ _ _
   | exact tag_Step.mono _ _ _ _ _
   | exact tag_Valid.mono _ _ _ _
   | exact LeO.none _
   | refine LeO.ite ?_ ?_
   | refine LeO.bind ?_ (fun _ => ?_)
theorem standstilllaw07_TagRuns.mono : ∀ a0 a1 a2 a3 a4 k, LeO (standstilllaw07_TagRuns.f k a0 a1 a2 a3 a4) (standstilllaw07_TagRuns.f (k + 1) a0 a1 a2 a3 a4) := by
 intro a0 a1 a2 a3 a4 k
 obtain ⟨ih0, ih1, ih2, ih3⟩ := standstilllaw07_TagRuns.mono_l k
 unfold standstilllaw07_TagRuns.f
 repeat' first
   | (with_reducible exact ih0 _ _ _ _ _ _)
   | (with_reducible exact ih1 _ _ _ _ _ _)
   | (with_reducible exact ih2 _ _ _ _ _ _ _ _)
   | (with_reducible exact ih3 _ _ _ _ _ _ _ _ _)
   | (with_reducible exact standstilllaw07_awake.mono _)
   | (with_reducible exact standstilllaw07_wide.mono _ _ _ _ _)
   | (with_reducible exact standstillref07_Fits.mono _ _ _ _ _)
   | (with_reducible exact standstillref07_Run.mono _ _ _ _ _ _)
   | (with_reducible exact standstillref07_Same.mono _ _ _)
   | (with_reducible exact standstillref07_Valid.mono _ _ _ _)
   | (with_reducible exact tag_Fits.mono _ _ _ _ _)
   | (with_reducible exact tag_Run.mono _ _ _ _ _ _)
   | (with_reducible exact tag_Step.mono _ _ _ _ _)
   | (with_reducible exact tag_Valid.mono _ _ _ _)
   | (with_reducible exact LeO.refl _)
   | (with_reducible exact LeO.none _)
   | (with_reducible refine LeO.ite ?_ ?_)
   | (with_reducible refine LeO.bind ?_ (fun _ => ?_))
   | exact ih0 _ _ _ _ _ _
   | exact ih1 _ _ _ _ _ _
   | exact ih2 _ _ _ _ _ _ _ _
   | exact ih3 _ _ _ _ _ _ _ _ _
   | exact standstilllaw07_awake.mono _
   | exact standstilllaw07_wide.mono _ _ _ _ _
   | exact standstillref07_Fits.mono _ _ _ _ _
   | exact standstillref07_Run.mono _ _ _ _ _ _
   | exact standstillref07_Same.mono _ _ _
   | exact standstillref07_Valid.mono _ _ _ _
   | exact tag_Fits.mono _ _ _ _ _
   | exact tag_Run.mono _ _ _ _ _ _
   | exact tag_Step.mono _ _ _ _ _
   | exact tag_Valid.mono _ _ _ _
   | exact LeO.none _
   | refine LeO.ite ?_ ?_
   | refine LeO.bind ?_ (fun _ => ?_)
def standstilllaw07_TagRuns.T3 : Bool × List (List Nat × List Nat) := (true, [([], []), ([0], [0]), ([], []), ([2, 1], [2]), ([1, 3], [1, 3]), ([4, 3], [4]), ([5], [5]), ([5], [5]), ([6, 7, 5, 5], [5, 6, 7]), ([5], [5]), ([5], [5]), ([9, 10, 8, 5], [5, 9, 10]), ([8, 11, 5], [5, 8, 11]), ([5, 12], [5, 12])])
def standstilllaw07_TagRuns.B3 : List Nat := [0, 1, 0, 7, 15, 31, 63, 63, 255, 63, 63, 2047, 4095, 8191]
theorem standstilllaw07_TagRuns.tab3 : rtab .any (opsOf Try.f4 3) = standstilllaw07_TagRuns.T3 := by kernel_rfl
theorem standstilllaw07_TagRuns.bits3 : waitsOk standstilllaw07_TagRuns.T3.2 standstilllaw07_TagRuns.B3 = true := by kernel_rfl
set_option maxHeartbeats 8000000 in
set_option maxRecDepth 100000 in
theorem standstilllaw07_TagRuns.calls (k : Nat) (a0_0 : Int) (A0_1 : Option Addr) (c0_1 : Nat) (l0_1 : List (List Int)) (A0_2 : Option Addr) (c0_2 : Nat) (l0_2 : List Bool) (A1 : Option Addr) (c1 : Nat) (l1 : List Int) (a2 : Int) (r : Bool) (w : World) (hr0_1 : Kd.C (Kd.slice 3 (Kd.int .i64)) w A0_1 l0_1.length l0_1) (hc0_1 : l0_1.length ≤ c0_1) (hr0_2 : Kd.C Kd.bool w A0_2 l0_2.length l0_2) (hc0_2 : l0_2.length ≤ c0_2) (hr1 : Kd.C (Kd.int .i64) w A1 l1.length l1) (hc1 : l1.length ≤ c1) (h : standstilllaw07_TagRuns.f k a0_0 l0_1 l0_2 l1 a2 = some r) :
  Calls Try.prog 4 #[.agg #[.int .i64 a0_0, .slice A0_1 l0_1.length c0_1, .slice A0_2 l0_2.length c0_2], .slice A1 l1.length c1, .int .i64 a2] w fun e w' => e = .returned (.bool r) ∧ Below w.heap.size w w' := by
 have hu25 := Try.underlying25
 have HR0_1 := Aside0.mk hr0_1
 have HC0_1 := Aside0.mk hc0_1
 clear hr0_1 hc0_1
 have HR0_2 := Aside0.mk hr0_2
 have HC0_2 := Aside0.mk hc0_2
 clear hr0_2 hc0_2
 have HR1 := Aside0.mk hr1
 have HC1 := Aside0.mk hc1
 clear hr1 hc1
 have HB := A_ (Below.refl w.heap.size w)
 have H : ((standstilllaw07_wide.f k a0_0 l0_1 l0_2 l1).bind fun t221 => (if t221 = true then (standstilllaw07_TagRuns.j0 k l1 a2 true a0_0 l0_1 l0_2) else (if a2 > 300 then (standstilllaw07_TagRuns.j0 k l1 a2 (decide (a2 ≤ 1000000)) a0_0 l0_1 l0_2) else (standstilllaw07_TagRuns.j0 k l1 a2 false a0_0 l0_1 l0_2)))) = some r := h
 clear h
 have HC4 := Aside0.mk H
 clear H
 go_enter Try.func4, Try.ntmps4
 go_upto_region 1 with (first | ((with_reducible refine gate_dst (N := 3) rfl ?_); (try (refine gate_guard (by rfl) ?_; dsimp only)); refine box_event ?hg (N := 3) ?hd (cs := #[.int .i64 a0_0, .slice A0_1 l0_1.length c0_1, .slice A0_2 l0_2.length c0_2]) (t := 25) ?hr ?_; (case hd => rfl); (case hg => rfl); (case hr => first | (go_simp; done) | (go_simp; rfl)); intro gb220 hg w5 hbox hb; have n0_ := A_ (below_step (bk_ HB.out) hb); have n1_ := A_ (hbox); have n2_ := A_ ((by rw [hg]; exact (below_size (bk_ HB.out)) : w.heap.size ≤ gb220)); have n3_ := A_ ((by rw [hg]; exact (below_size (bk_ HB.out)) : w.heap.size ≤ gb220)); clear HB; have HB := n0_; have BK220 := n1_; have GW220 := n2_; have GE220 := n3_; clear n0_ n1_ n2_ n3_ hb hbox hg))
 (try simp only [Act.put, List.setIfInBounds_toArray, List.set_cons_zero, List.set_cons_succ])
 go_cut [27] (fun v27 wc => ∃ (kq : Nat) (x27_3 : Bool), v27 = .bool x27_3 ∧ Aside0 (standstilllaw07_TagRuns.j0 kq l1 a2 x27_3 a0_0 l0_1 l0_2 = some r) ∧ Aside0 (kq ≤ k) ∧ Aside0 (wc.heap[gb220]? = some (.cells #[.int .i64 a0_0, (.slice A0_1 l0_1.length c0_1), (.slice A0_2 l0_2.length c0_2)] 25 (0, 0))) ∧ Aside0 (Below w.heap.size w wc))
 case first =>
  have H := HC4.out
  clear HC4
  replace H := Option.bind_eq_some_iff.mp H
  obtain ⟨t221, A60, H⟩ := H
  replace H : (if t221 = true then (standstilllaw07_TagRuns.j0 k l1 a2 true a0_0 l0_1 l0_2) else (if a2 > 300 then (standstilllaw07_TagRuns.j0 k l1 a2 (decide (a2 ≤ 1000000)) a0_0 l0_1 l0_2) else (standstilllaw07_TagRuns.j0 k l1 a2 false a0_0 l0_1 l0_2))) = some r := H
  have A6 := Aside0.mk A60
  clear A60
  by_cases c7 : t221 = true
  ·subst c7
   have H1 : (standstilllaw07_TagRuns.j0 k l1 a2 true a0_0 l0_1 l0_2) = some r := by rw [if_pos rfl] at H; exact H
   clear H
   have H := H1
   clear H1
   have H' := Aside0.mk H
   clear H
   have hcz8_0 : w5.cell? ⟨gb220, 0, none⟩ = some (.int .i64 a0_0) := (blk_cell BK220.out 0).trans rfl
   have hcz8_1 : w5.cell? ⟨gb220, 1, none⟩ = some (.slice A0_1 l0_1.length c0_1) := (blk_cell BK220.out 1).trans rfl
   have hcz8_2 : w5.cell? ⟨gb220, 2, none⟩ = some (.slice A0_2 l0_2.length c0_2) := (blk_cell BK220.out 2).trans rfl
   have hfz8_0 := blk_frozen BK220.out 0
   have hfz8_1 := blk_frozen BK220.out 1
   have hfz8_2 := blk_frozen BK220.out 2
   go_wp2_with (first | ((with_reducible refine gate_callee (f := 9) rfl ?_); refine goesL_ (some 19) rfl rfl Try.func9 (by kernel_rfl) rfl #[.agg #[.int .i64 a0_0, .slice A0_1 l0_1.length c0_1, .slice A0_2 l0_2.length c0_2], .slice A1 l1.length c1] rfl gl_ ?_; (with_reducible refine (standstilllaw07_wide.calls k a0_0 _ _ l0_1 _ _ l0_2 _ _ l1 true _ ?side1 ?side2 ?side3 ?side4 ?side5 ?side6 A6.out).mono ?_); (case side1 => exact ck_ (Kd.C_below HR0_1.out HB.out)); (case side2 => exact HC0_1.out); (case side3 => exact ck_ (Kd.C_below HR0_2.out HB.out)); (case side4 => exact HC0_2.out); (case side5 => exact ck_ (Kd.C_below HR1.out HB.out)); (case side6 => exact HC1.out); rintro e w9 ⟨rfl, hb⟩; refine ⟨_, rfl, ?_⟩; have n0_ := A_ (blk_below (pk_ BK220.out) hb); have n1_ := A_ (below_step (bk_ HB.out) hb); clear BK220 HB; have BK220 := n0_; have HB := n1_; clear n0_ n1_; (try clear hb); (try clear hb2); (try clear hk); (try clear hi)))
   go_meet
   case rel => exact ⟨_, (true), jr_, H', ⟨by first | omega | exact Nat.le_refl _⟩, ⟨pk_ BK220.out⟩, ⟨bk_ HB.out⟩⟩
  ·replace c7 := Bool.eq_false_iff.mpr c7
   subst c7
   have H1 : (if a2 > 300 then (standstilllaw07_TagRuns.j0 k l1 a2 (decide (a2 ≤ 1000000)) a0_0 l0_1 l0_2) else (standstilllaw07_TagRuns.j0 k l1 a2 false a0_0 l0_1 l0_2)) = some r := by rw [if_neg (show ¬ (false = true) by decide)] at H; exact H
   clear H
   have H := H1
   clear H1
   by_cases c10 : a2 > 300
   ·rw [if_pos c10] at H
    have c10b0 : decide (300 < a2) = true := decide_eq_true c10
    clear c10
    (first | rw [c10b0] | (simp only [i64_w, i32_w]; rw [c10b0]) | skip)
    have H' := Aside0.mk H
    clear H
    have hcz11_0 : w5.cell? ⟨gb220, 0, none⟩ = some (.int .i64 a0_0) := (blk_cell BK220.out 0).trans rfl
    have hcz11_1 : w5.cell? ⟨gb220, 1, none⟩ = some (.slice A0_1 l0_1.length c0_1) := (blk_cell BK220.out 1).trans rfl
    have hcz11_2 : w5.cell? ⟨gb220, 2, none⟩ = some (.slice A0_2 l0_2.length c0_2) := (blk_cell BK220.out 2).trans rfl
    have hfz11_0 := blk_frozen BK220.out 0
    have hfz11_1 := blk_frozen BK220.out 1
    have hfz11_2 := blk_frozen BK220.out 2
    go_wp2_with (first | ((with_reducible refine gate_callee (f := 9) rfl ?_); refine goesL_ (some 19) rfl rfl Try.func9 (by kernel_rfl) rfl #[.agg #[.int .i64 a0_0, .slice A0_1 l0_1.length c0_1, .slice A0_2 l0_2.length c0_2], .slice A1 l1.length c1] rfl gl_ ?_; (with_reducible refine (standstilllaw07_wide.calls k a0_0 _ _ l0_1 _ _ l0_2 _ _ l1 false _ ?side1 ?side2 ?side3 ?side4 ?side5 ?side6 A6.out).mono ?_); (case side1 => exact ck_ (Kd.C_below HR0_1.out HB.out)); (case side2 => exact HC0_1.out); (case side3 => exact ck_ (Kd.C_below HR0_2.out HB.out)); (case side4 => exact HC0_2.out); (case side5 => exact ck_ (Kd.C_below HR1.out HB.out)); (case side6 => exact HC1.out); rintro e w12 ⟨rfl, hb⟩; refine ⟨_, rfl, ?_⟩; have n0_ := A_ (blk_below (pk_ BK220.out) hb); have n1_ := A_ (below_step (bk_ HB.out) hb); clear BK220 HB; have BK220 := n0_; have HB := n1_; clear n0_ n1_; (try clear hb); (try clear hb2); (try clear hk); (try clear hi)))
    go_meet
    case rel => exact ⟨_, (decide (a2 ≤ 1000000)), jr_, H', ⟨by first | omega | exact Nat.le_refl _⟩, ⟨pk_ BK220.out⟩, ⟨bk_ HB.out⟩⟩
   ·rw [if_neg c10] at H
    have c10b0 : decide (300 < a2) = false := decide_eq_false c10
    clear c10
    (first | rw [c10b0] | (simp only [i64_w, i32_w]; rw [c10b0]) | skip)
    have H' := Aside0.mk H
    clear H
    have hcz13_0 : w5.cell? ⟨gb220, 0, none⟩ = some (.int .i64 a0_0) := (blk_cell BK220.out 0).trans rfl
    have hcz13_1 : w5.cell? ⟨gb220, 1, none⟩ = some (.slice A0_1 l0_1.length c0_1) := (blk_cell BK220.out 1).trans rfl
    have hcz13_2 : w5.cell? ⟨gb220, 2, none⟩ = some (.slice A0_2 l0_2.length c0_2) := (blk_cell BK220.out 2).trans rfl
    have hfz13_0 := blk_frozen BK220.out 0
    have hfz13_1 := blk_frozen BK220.out 1
    have hfz13_2 := blk_frozen BK220.out 2
    go_wp2_with (first | ((with_reducible refine gate_callee (f := 9) rfl ?_); refine goesL_ (some 19) rfl rfl Try.func9 (by kernel_rfl) rfl #[.agg #[.int .i64 a0_0, .slice A0_1 l0_1.length c0_1, .slice A0_2 l0_2.length c0_2], .slice A1 l1.length c1] rfl gl_ ?_; (with_reducible refine (standstilllaw07_wide.calls k a0_0 _ _ l0_1 _ _ l0_2 _ _ l1 false _ ?side1 ?side2 ?side3 ?side4 ?side5 ?side6 A6.out).mono ?_); (case side1 => exact ck_ (Kd.C_below HR0_1.out HB.out)); (case side2 => exact HC0_1.out); (case side3 => exact ck_ (Kd.C_below HR0_2.out HB.out)); (case side4 => exact HC0_2.out); (case side5 => exact ck_ (Kd.C_below HR1.out HB.out)); (case side6 => exact HC1.out); rintro e w14 ⟨rfl, hb⟩; refine ⟨_, rfl, ?_⟩; have n0_ := A_ (blk_below (pk_ BK220.out) hb); have n1_ := A_ (below_step (bk_ HB.out) hb); clear BK220 HB; have BK220 := n0_; have HB := n1_; clear n0_ n1_; (try clear hb); (try clear hb2); (try clear hk); (try clear hi)))
    go_meet
    case rel => exact ⟨_, (false), jr_, H', ⟨by first | omega | exact Nat.le_refl _⟩, ⟨pk_ BK220.out⟩, ⟨bk_ HB.out⟩⟩
 case rest =>
  clear HC4
  (try clear c1)
  obtain ⟨kq, x27_3, rfl, HA, HJ3, BK220, HB⟩ := hcut
  cases kq with
  | zero => exact absurd HA.out (by simp [standstilllaw07_TagRuns.j0])
  | succ kj3 =>
   have H := HA.out
   clear HA
   simp only [standstilllaw07_TagRuns.j0] at H
   by_cases c15 : x27_3 = true
   ·subst c15
    have H1 : ((standstilllaw07_awake.f kj3).bind fun t222 => (some t222)) = some r := by rw [if_pos rfl] at H; exact H
    clear H
    have H := H1
    clear H1
    replace H := Option.bind_eq_some_iff.mp H
    obtain ⟨t222, A160, H⟩ := H
    replace H : (some t222) = some r := H
    have A16 := Aside0.mk A160
    clear A160
    obtain rfl := Option.some.inj H
    go_wp2_with (first | ((with_reducible refine gate_callee (f := 11) rfl ?_); refine goesL_ (some 28) rfl rfl Try.func11 (by kernel_rfl) rfl #[] rfl gl_ ?_; (with_reducible refine (standstilllaw07_awake.calls kj3  t222 _ A16.out).mono ?_); rintro e w17 ⟨rfl, hb⟩; refine ⟨_, rfl, ?_⟩; have n0_ := A_ (blk_below (pk_ BK220.out) hb); have n1_ := A_ (below_step (bk_ HB.out) hb); clear BK220 HB; have BK220 := n0_; have HB := n1_; clear n0_ n1_; (try clear hb); (try clear hb2); (try clear hk); (try clear hi)))
    go_ret
    exact ⟨er_, bk_ HB.out⟩
   ·replace c15 := Bool.eq_false_iff.mpr c15
    subst c15
    have H1 : ((tag_Valid.f kj3 a0_0 l0_1 l0_2).bind fun t223 => ((standstillref07_Valid.f kj3 a0_0 l0_1 l0_2).bind fun t224 => (if (t223 != t224) = true then (standstilllaw07_TagRuns.j1 kj3 l1 a2 true a0_0 l0_1 l0_2) else ((tag_Fits.f kj3 a0_0 l0_1 l0_2 l1).bind fun t225 => ((standstillref07_Fits.f kj3 a0_0 l0_1 l0_2 l1).bind fun t226 => (standstilllaw07_TagRuns.j1 kj3 l1 a2 (t225 != t226) a0_0 l0_1 l0_2)))))) = some r := by rw [if_neg (show ¬ (false = true) by decide)] at H; exact H
    clear H
    have H := H1
    clear H1
    have HC18 := Aside0.mk H
    clear H
    go_upto_region 3 with (fail)
    go_cut [42] (fun v42 wc => ∃ (kq : Nat) (x42_17 : Bool), v42 = .bool x42_17 ∧ Aside0 (standstilllaw07_TagRuns.j1 kq l1 a2 x42_17 a0_0 l0_1 l0_2 = some r) ∧ Aside0 (kq ≤ kj3) ∧ Aside0 (wc.heap[gb220]? = some (.cells #[.int .i64 a0_0, (.slice A0_1 l0_1.length c0_1), (.slice A0_2 l0_2.length c0_2)] 25 (0, 0))) ∧ Aside0 (Below w.heap.size w wc))
    case first =>
     have H := HC18.out
     clear HC18
     replace H := Option.bind_eq_some_iff.mp H
     obtain ⟨t223, A190, H⟩ := H
     replace H : ((standstillref07_Valid.f kj3 a0_0 l0_1 l0_2).bind fun t224 => (if (t223 != t224) = true then (standstilllaw07_TagRuns.j1 kj3 l1 a2 true a0_0 l0_1 l0_2) else ((tag_Fits.f kj3 a0_0 l0_1 l0_2 l1).bind fun t225 => ((standstillref07_Fits.f kj3 a0_0 l0_1 l0_2 l1).bind fun t226 => (standstilllaw07_TagRuns.j1 kj3 l1 a2 (t225 != t226) a0_0 l0_1 l0_2))))) = some r := H
     have A19 := Aside0.mk A190
     clear A190
     replace H := Option.bind_eq_some_iff.mp H
     obtain ⟨t224, A200, H⟩ := H
     replace H : (if (t223 != t224) = true then (standstilllaw07_TagRuns.j1 kj3 l1 a2 true a0_0 l0_1 l0_2) else ((tag_Fits.f kj3 a0_0 l0_1 l0_2 l1).bind fun t225 => ((standstillref07_Fits.f kj3 a0_0 l0_1 l0_2 l1).bind fun t226 => (standstilllaw07_TagRuns.j1 kj3 l1 a2 (t225 != t226) a0_0 l0_1 l0_2)))) = some r := H
     have A20 := Aside0.mk A200
     clear A200
     by_cases c21 : (t223 != t224) = true
     ·rw [if_pos c21] at H
      have c21b0 : (t223 != t224) = true := c21
      (try (have c21b1 : decide (t223 = t224) = false := by simpa using c21))
      (try (have c21b2 : (t223 == t224) = false := by simpa using c21))
      (try (have c21b3 : ¬ (t223 = t224) := by simpa using c21))
      clear c21
      (first | rw [c21b0] | (simp only [i64_w, i32_w]; rw [c21b0]) | skip)
      have H' := Aside0.mk H
      clear H
      try go_wp2
      have n0_ := A_ (blk_drew BK220.out)
      have n1_ := A_ (below_drew1 HB.out)
      clear BK220 HB
      have BK220 := n0_
      have HB := n1_
      clear n0_ n1_
      refine start_ (n := 14) (S := fun w' => w'.cell? ⟨gb220, 0, none⟩ = some (.int .i64 a0_0) ∧ w'.cell? ⟨gb220, 1, none⟩ = some (.slice A0_1 l0_1.length c0_1) ∧ w'.cell? ⟨gb220, 2, none⟩ = some (.slice A0_2 l0_2.length c0_2)) (ds := []) #[false, false, false, false, false, false, false, false, false, false, false, false, false, false] (by kernel_rfl) rfl rfl ⟨(blk_cell BK220.out 0).trans rfl, (blk_cell BK220.out 1).trans rfl, (blk_cell BK220.out 2).trans rfl⟩ (fun hHeld => ?_); refine with_tabW standstilllaw07_TagRuns.tab3 standstilllaw07_TagRuns.bits3 (fun HT_ HW_ => ?_)
      generalize wc.drew = w22 at BK220 HB hHeld ⊢
      refine take_ (i := 0) (N := some 29) (v := ?_) (a' := ?_) #[true, false, false, false, false, false, false, false, false, false, false, false, false, false] rfl rfl (take_ofW HT_.out HW_.out (by kernel_rfl)) (fun _ _ _ h => h) (Or.inl ⟨by rfl, ?_⟩) hHeld ?_ ?_
      rotate_left
      ·rintro w' ⟨s0, s1, s2⟩
       go_simp
       with_reducible rfl
      rotate_left
      ·simp only [Act.put, sa_, sz_, ss_, i64_w, i32_w]
       rfl
      refine take_ (i := 2) (N := some 31) (v := ?_) (a' := ?_) #[true, false, true, false, false, false, false, false, false, false, false, false, false, false] rfl rfl (take_ofW HT_.out HW_.out (by kernel_rfl)) (fun _ _ _ h => h) (Or.inl ⟨by rfl, ?_⟩) hHeld ?_ ?_
      rotate_left
      ·rintro w' ⟨s0, s1, s2⟩
       go_simp
       with_reducible rfl
      rotate_left
      ·simp only [Act.put, sa_, sz_, ss_, i64_w, i32_w]
       rfl
      refine one_ (i := 1) (N := some 30) #[true, true, true, false, false, false, false, false, false, false, false, false, false, false] rfl rfl (one_of HT_.out (by kernel_rfl)) (by decide) (fun K hK => ?_)
      refine goes_ Try.func15 (by kernel_rfl) rfl #[.agg #[.int .i64 a0_0, .slice A0_1 l0_1.length c0_1, .slice A0_2 l0_2.length c0_2]] (by rfl) rfl rfl gl_ ?_
      with_reducible refine (tag_Valid.calls kj3 a0_0 _ _ l0_1 _ _ l0_2 t223 _ ?side1 ?side2 ?side3 ?side4 A19.out).mono ?_
      (case side1 => exact ck_ (Kd.C_below HR0_1.out HB.out))
      (case side2 => exact HC0_1.out)
      (case side3 => exact ck_ (Kd.C_below HR0_2.out HB.out))
      (case side4 => exact HC0_2.out)
      rintro e w23 ⟨rfl, hb⟩
      refine ⟨_, rfl, ?_⟩
      have n0_ := A_ (blk_below (pk_ BK220.out) hb)
      have n1_ := A_ (below_step (bk_ HB.out) hb)
      clear BK220 HB
      have BK220 := n0_
      have HB := n1_
      clear n0_ n1_
      (try clear hb)
      (try clear hb2)
      (try clear hk)
      (try clear hi)
      refine hK.out _ _ ⟨(blk_cell BK220.out 0).trans rfl, (blk_cell BK220.out 1).trans rfl, (blk_cell BK220.out 2).trans rfl⟩ (fun hHeld => ?_)
      clear hK K
      refine norm_ (a' := ?_) ?_ ?_
      rotate_left
      ·show Act.put _ (some 30) _ = _
       simp only [Act.put, sa_, sz_, ss_, i64_w, i32_w]
       rfl
      refine one_ (i := 3) (N := some 32) #[true, true, true, true, false, false, false, false, false, false, false, false, false, false] rfl rfl (one_of HT_.out (by kernel_rfl)) (by decide) (fun K hK => ?_)
      refine goes_ Try.func16 (by kernel_rfl) rfl #[.agg #[.int .i64 a0_0, .slice A0_1 l0_1.length c0_1, .slice A0_2 l0_2.length c0_2]] (by rfl) rfl rfl gl_ ?_
      with_reducible refine (standstillref07_Valid.calls kj3 a0_0 _ _ l0_1 _ _ l0_2 t224 _ ?side1 ?side2 ?side3 ?side4 A20.out).mono ?_
      (case side1 => exact ck_ (Kd.C_below HR0_1.out HB.out))
      (case side2 => exact HC0_1.out)
      (case side3 => exact ck_ (Kd.C_below HR0_2.out HB.out))
      (case side4 => exact HC0_2.out)
      rintro e w24 ⟨rfl, hb⟩
      refine ⟨_, rfl, ?_⟩
      have n0_ := A_ (blk_below (pk_ BK220.out) hb)
      have n1_ := A_ (below_step (bk_ HB.out) hb)
      clear BK220 HB
      have BK220 := n0_
      have HB := n1_
      clear n0_ n1_
      (try clear hb)
      (try clear hb2)
      (try clear hk)
      (try clear hi)
      refine hK.out _ _ ⟨(blk_cell BK220.out 0).trans rfl, (blk_cell BK220.out 1).trans rfl, (blk_cell BK220.out 2).trans rfl⟩ (fun hHeld => ?_)
      clear hK K
      refine norm_ (a' := ?_) ?_ ?_
      rotate_left
      ·show Act.put _ (some 32) _ = _
       simp only [Act.put, sa_, sz_, ss_, i64_w, i32_w]
       rfl
      refine pure_ (i := 4) (N := some 33) (v := ?_) (a' := ?_) #[true, true, true, true, true, false, false, false, false, false, false, false, false, false] rfl rfl (any_of HT_.out (by kernel_rfl)) (fun _ _ _ h => h) (Or.inl ⟨by rfl, ?_⟩) ?_ ?_
      rotate_left
      ·intro w'
       go_simp
       with_reducible rfl
      rotate_left
      ·simp only [Act.put, sa_, sz_, ss_, i64_w, i32_w]
       rfl
      refine pure_ (i := 5) (N := some 34) (v := ?_) (a' := ?_) #[true, true, true, true, true, true, false, false, false, false, false, false, false, false] rfl rfl (any_of HT_.out (by kernel_rfl)) (fun _ _ _ h => h) (Or.inl ⟨by rfl, ?_⟩) ?_ ?_
      rotate_left
      ·intro w'
       go_simp
       with_reducible rfl
      rotate_left
      ·simp only [Act.put, sa_, sz_, ss_, i64_w, i32_w]
       rfl
      refine pure_ (i := 6) (N := some 35) (v := undef) (a' := ?_) #[true, true, true, true, true, true, true, false, false, false, false, false, false, false] rfl rfl (any_of HT_.out (by kernel_rfl)) (fun _ _ _ h => h) (Or.inr ⟨by rfl, rfl⟩) ?_ ?_
      rotate_left
      ·simp only [Act.put, sa_, sz_, ss_, i64_w, i32_w]
       rfl
      refine pure_ (i := 7) (N := some 36) (v := undef) (a' := ?_) #[true, true, true, true, true, true, true, true, false, false, false, false, false, false] rfl rfl (any_of HT_.out (by kernel_rfl)) (fun _ _ _ h => h) (Or.inr ⟨by rfl, rfl⟩) ?_ ?_
      rotate_left
      ·simp only [Act.put, sa_, sz_, ss_, i64_w, i32_w]
       rfl
      refine pure_ (i := 8) (N := some 37) (v := undef) (a' := ?_) #[true, true, true, true, true, true, true, true, true, false, false, false, false, false] rfl rfl (any_of HT_.out (by kernel_rfl)) (fun _ _ _ h => h) (Or.inr ⟨by rfl, rfl⟩) ?_ ?_
      rotate_left
      ·simp only [Act.put, sa_, sz_, ss_, i64_w, i32_w]
       rfl
      refine pure_ (i := 9) (N := some 38) (v := undef) (a' := ?_) #[true, true, true, true, true, true, true, true, true, true, false, false, false, false] rfl rfl (any_of HT_.out (by kernel_rfl)) (fun _ _ _ h => h) (Or.inr ⟨by rfl, rfl⟩) ?_ ?_
      rotate_left
      ·simp only [Act.put, sa_, sz_, ss_, i64_w, i32_w]
       rfl
      refine pure_ (i := 10) (N := some 39) (v := undef) (a' := ?_) #[true, true, true, true, true, true, true, true, true, true, true, false, false, false] rfl rfl (any_of HT_.out (by kernel_rfl)) (fun _ _ _ h => h) (Or.inr ⟨by rfl, rfl⟩) ?_ ?_
      rotate_left
      ·simp only [Act.put, sa_, sz_, ss_, i64_w, i32_w]
       rfl
      refine pure_ (i := 11) (N := some 40) (v := undef) (a' := ?_) #[true, true, true, true, true, true, true, true, true, true, true, true, false, false] rfl rfl (any_of HT_.out (by kernel_rfl)) (fun _ _ _ h => h) (Or.inr ⟨by rfl, rfl⟩) ?_ ?_
      rotate_left
      ·simp only [Act.put, sa_, sz_, ss_, i64_w, i32_w]
       rfl
      refine pure_ (i := 12) (N := some 41) (v := undef) (a' := ?_) #[true, true, true, true, true, true, true, true, true, true, true, true, true, false] rfl rfl (any_of HT_.out (by kernel_rfl)) (fun _ _ _ h => h) (Or.inr ⟨by rfl, rfl⟩) ?_ ?_
      rotate_left
      ·simp only [Act.put, sa_, sz_, ss_, i64_w, i32_w]
       rfl
      refine pure_ (i := 13) (N := some 42) (v := ?_) (a' := ?_) #[true, true, true, true, true, true, true, true, true, true, true, true, true, true] rfl rfl (any_of HT_.out (by kernel_rfl)) (fun _ _ _ h => h) (Or.inl ⟨by rfl, ?_⟩) ?_ ?_
      rotate_left
      ·intro w'
       go_simp
       with_reducible rfl
      rotate_left
      ·simp only [Act.put, sa_, sz_, ss_, i64_w, i32_w]
       rfl
      refine done_ (done_of HT_.out (by kernel_rfl)) ?_
      try go_wp2
      go_meet
      case rel => exact ⟨_, (true), jr_, H', ⟨by have := HJ3.out; first | omega | exact Nat.le_refl _⟩, ⟨pk_ BK220.out⟩, ⟨bk_ HB.out⟩⟩
     ·rw [if_neg c21] at H
      have c21b0 : (t223 != t224) = false := by simpa using c21
      (try (have c21b1 : decide (t223 = t224) = true := by simpa using c21))
      (try (have c21b2 : (t223 == t224) = true := by simpa using c21))
      clear c21
      (first | rw [c21b0] | (simp only [i64_w, i32_w]; rw [c21b0]) | skip)
      replace H := Option.bind_eq_some_iff.mp H
      obtain ⟨t225, A250, H⟩ := H
      replace H : ((standstillref07_Fits.f kj3 a0_0 l0_1 l0_2 l1).bind fun t226 => (standstilllaw07_TagRuns.j1 kj3 l1 a2 (t225 != t226) a0_0 l0_1 l0_2)) = some r := H
      have A25 := Aside0.mk A250
      clear A250
      replace H := Option.bind_eq_some_iff.mp H
      obtain ⟨t226, A260, H⟩ := H
      replace H : (standstilllaw07_TagRuns.j1 kj3 l1 a2 (t225 != t226) a0_0 l0_1 l0_2) = some r := H
      have A26 := Aside0.mk A260
      clear A260
      have H' := Aside0.mk H
      clear H
      try go_wp2
      have n0_ := A_ (blk_drew BK220.out)
      have n1_ := A_ (below_drew1 HB.out)
      clear BK220 HB
      have BK220 := n0_
      have HB := n1_
      clear n0_ n1_
      refine start_ (n := 14) (S := fun w' => w'.cell? ⟨gb220, 0, none⟩ = some (.int .i64 a0_0) ∧ w'.cell? ⟨gb220, 1, none⟩ = some (.slice A0_1 l0_1.length c0_1) ∧ w'.cell? ⟨gb220, 2, none⟩ = some (.slice A0_2 l0_2.length c0_2)) (ds := []) #[false, false, false, false, false, false, false, false, false, false, false, false, false, false] (by kernel_rfl) rfl rfl ⟨(blk_cell BK220.out 0).trans rfl, (blk_cell BK220.out 1).trans rfl, (blk_cell BK220.out 2).trans rfl⟩ (fun hHeld => ?_); refine with_tabW standstilllaw07_TagRuns.tab3 standstilllaw07_TagRuns.bits3 (fun HT_ HW_ => ?_)
      generalize wc.drew = w27 at BK220 HB hHeld ⊢
      refine take_ (i := 0) (N := some 29) (v := ?_) (a' := ?_) #[true, false, false, false, false, false, false, false, false, false, false, false, false, false] rfl rfl (take_ofW HT_.out HW_.out (by kernel_rfl)) (fun _ _ _ h => h) (Or.inl ⟨by rfl, ?_⟩) hHeld ?_ ?_
      rotate_left
      ·rintro w' ⟨s0, s1, s2⟩
       go_simp
       with_reducible rfl
      rotate_left
      ·simp only [Act.put, sa_, sz_, ss_, i64_w, i32_w]
       rfl
      refine take_ (i := 2) (N := some 31) (v := ?_) (a' := ?_) #[true, false, true, false, false, false, false, false, false, false, false, false, false, false] rfl rfl (take_ofW HT_.out HW_.out (by kernel_rfl)) (fun _ _ _ h => h) (Or.inl ⟨by rfl, ?_⟩) hHeld ?_ ?_
      rotate_left
      ·rintro w' ⟨s0, s1, s2⟩
       go_simp
       with_reducible rfl
      rotate_left
      ·simp only [Act.put, sa_, sz_, ss_, i64_w, i32_w]
       rfl
      refine one_ (i := 1) (N := some 30) #[true, true, true, false, false, false, false, false, false, false, false, false, false, false] rfl rfl (one_of HT_.out (by kernel_rfl)) (by decide) (fun K hK => ?_)
      refine goes_ Try.func15 (by kernel_rfl) rfl #[.agg #[.int .i64 a0_0, .slice A0_1 l0_1.length c0_1, .slice A0_2 l0_2.length c0_2]] (by rfl) rfl rfl gl_ ?_
      with_reducible refine (tag_Valid.calls kj3 a0_0 _ _ l0_1 _ _ l0_2 t223 _ ?side1 ?side2 ?side3 ?side4 A19.out).mono ?_
      (case side1 => exact ck_ (Kd.C_below HR0_1.out HB.out))
      (case side2 => exact HC0_1.out)
      (case side3 => exact ck_ (Kd.C_below HR0_2.out HB.out))
      (case side4 => exact HC0_2.out)
      rintro e w28 ⟨rfl, hb⟩
      refine ⟨_, rfl, ?_⟩
      have n0_ := A_ (blk_below (pk_ BK220.out) hb)
      have n1_ := A_ (below_step (bk_ HB.out) hb)
      clear BK220 HB
      have BK220 := n0_
      have HB := n1_
      clear n0_ n1_
      (try clear hb)
      (try clear hb2)
      (try clear hk)
      (try clear hi)
      refine hK.out _ _ ⟨(blk_cell BK220.out 0).trans rfl, (blk_cell BK220.out 1).trans rfl, (blk_cell BK220.out 2).trans rfl⟩ (fun hHeld => ?_)
      clear hK K
      refine norm_ (a' := ?_) ?_ ?_
      rotate_left
      ·show Act.put _ (some 30) _ = _
       simp only [Act.put, sa_, sz_, ss_, i64_w, i32_w]
       rfl
      refine one_ (i := 3) (N := some 32) #[true, true, true, true, false, false, false, false, false, false, false, false, false, false] rfl rfl (one_of HT_.out (by kernel_rfl)) (by decide) (fun K hK => ?_)
      refine goes_ Try.func16 (by kernel_rfl) rfl #[.agg #[.int .i64 a0_0, .slice A0_1 l0_1.length c0_1, .slice A0_2 l0_2.length c0_2]] (by rfl) rfl rfl gl_ ?_
      with_reducible refine (standstillref07_Valid.calls kj3 a0_0 _ _ l0_1 _ _ l0_2 t224 _ ?side1 ?side2 ?side3 ?side4 A20.out).mono ?_
      (case side1 => exact ck_ (Kd.C_below HR0_1.out HB.out))
      (case side2 => exact HC0_1.out)
      (case side3 => exact ck_ (Kd.C_below HR0_2.out HB.out))
      (case side4 => exact HC0_2.out)
      rintro e w29 ⟨rfl, hb⟩
      refine ⟨_, rfl, ?_⟩
      have n0_ := A_ (blk_below (pk_ BK220.out) hb)
      have n1_ := A_ (below_step (bk_ HB.out) hb)
      clear BK220 HB
      have BK220 := n0_
      have HB := n1_
      clear n0_ n1_
      (try clear hb)
      (try clear hb2)
      (try clear hk)
      (try clear hi)
      refine hK.out _ _ ⟨(blk_cell BK220.out 0).trans rfl, (blk_cell BK220.out 1).trans rfl, (blk_cell BK220.out 2).trans rfl⟩ (fun hHeld => ?_)
      clear hK K
      refine norm_ (a' := ?_) ?_ ?_
      rotate_left
      ·show Act.put _ (some 32) _ = _
       simp only [Act.put, sa_, sz_, ss_, i64_w, i32_w]
       rfl
      refine pure_ (i := 4) (N := some 33) (v := ?_) (a' := ?_) #[true, true, true, true, true, false, false, false, false, false, false, false, false, false] rfl rfl (any_of HT_.out (by kernel_rfl)) (fun _ _ _ h => h) (Or.inl ⟨by rfl, ?_⟩) ?_ ?_
      rotate_left
      ·intro w'
       go_simp
       with_reducible rfl
      rotate_left
      ·simp only [Act.put, sa_, sz_, ss_, i64_w, i32_w]
       rfl
      refine pure_ (i := 5) (N := some 34) (v := ?_) (a' := ?_) #[true, true, true, true, true, true, false, false, false, false, false, false, false, false] rfl rfl (any_of HT_.out (by kernel_rfl)) (fun _ _ _ h => h) (Or.inl ⟨by rfl, ?_⟩) ?_ ?_
      rotate_left
      ·intro w'
       go_simp
       with_reducible rfl
      rotate_left
      ·simp only [Act.put, sa_, sz_, ss_, i64_w, i32_w]
       rfl
      refine pure_ (i := 7) (N := some 36) (v := ?_) (a' := ?_) #[true, true, true, true, true, true, false, true, false, false, false, false, false, false] rfl rfl (any_of HT_.out (by kernel_rfl)) (fun _ _ _ h => h) (Or.inl ⟨by rfl, ?_⟩) ?_ ?_
      rotate_left
      ·intro w'
       go_simp
       with_reducible rfl
      rotate_left
      ·simp only [Act.put, sa_, sz_, ss_, i64_w, i32_w]
       rfl
      refine pure_ (i := 10) (N := some 39) (v := ?_) (a' := ?_) #[true, true, true, true, true, true, false, true, false, false, true, false, false, false] rfl rfl (any_of HT_.out (by kernel_rfl)) (fun _ _ _ h => h) (Or.inl ⟨by rfl, ?_⟩) ?_ ?_
      rotate_left
      ·intro w'
       go_simp
       with_reducible rfl
      rotate_left
      ·simp only [Act.put, sa_, sz_, ss_, i64_w, i32_w]
       rfl
      refine take_ (i := 6) (N := some 35) (v := ?_) (a' := ?_) #[true, true, true, true, true, true, true, true, false, false, true, false, false, false] rfl rfl (take_ofW HT_.out HW_.out (by kernel_rfl)) (fun _ _ _ h => h) (Or.inl ⟨by rfl, ?_⟩) hHeld ?_ ?_
      rotate_left
      ·rintro w' ⟨s0, s1, s2⟩
       go_simp
       with_reducible rfl
      rotate_left
      ·simp only [Act.put, sa_, sz_, ss_, i64_w, i32_w]
       rfl
      refine take_ (i := 9) (N := some 38) (v := ?_) (a' := ?_) #[true, true, true, true, true, true, true, true, false, true, true, false, false, false] rfl rfl (take_ofW HT_.out HW_.out (by kernel_rfl)) (fun _ _ _ h => h) (Or.inl ⟨by rfl, ?_⟩) hHeld ?_ ?_
      rotate_left
      ·rintro w' ⟨s0, s1, s2⟩
       go_simp
       with_reducible rfl
      rotate_left
      ·simp only [Act.put, sa_, sz_, ss_, i64_w, i32_w]
       rfl
      refine one_ (i := 8) (N := some 37) #[true, true, true, true, true, true, true, true, true, true, true, false, false, false] rfl rfl (one_of HT_.out (by kernel_rfl)) (by decide) (fun K hK => ?_)
      refine goes_ Try.func17 (by kernel_rfl) rfl #[.agg #[.int .i64 a0_0, .slice A0_1 l0_1.length c0_1, .slice A0_2 l0_2.length c0_2], .slice A1 l1.length c1] (by rfl) rfl rfl gl_ ?_
      with_reducible refine (tag_Fits.calls kj3 a0_0 _ _ l0_1 _ _ l0_2 _ _ l1 t225 _ ?side1 ?side2 ?side3 ?side4 ?side5 ?side6 A25.out).mono ?_
      (case side1 => exact ck_ (Kd.C_below HR0_1.out HB.out))
      (case side2 => exact HC0_1.out)
      (case side3 => exact ck_ (Kd.C_below HR0_2.out HB.out))
      (case side4 => exact HC0_2.out)
      (case side5 => exact ck_ (Kd.C_below HR1.out HB.out))
      (case side6 => exact HC1.out)
      rintro e w30 ⟨rfl, hb⟩
      refine ⟨_, rfl, ?_⟩
      have n0_ := A_ (blk_below (pk_ BK220.out) hb)
      have n1_ := A_ (below_step (bk_ HB.out) hb)
      clear BK220 HB
      have BK220 := n0_
      have HB := n1_
      clear n0_ n1_
      (try clear hb)
      (try clear hb2)
      (try clear hk)
      (try clear hi)
      refine hK.out _ _ ⟨(blk_cell BK220.out 0).trans rfl, (blk_cell BK220.out 1).trans rfl, (blk_cell BK220.out 2).trans rfl⟩ (fun hHeld => ?_)
      clear hK K
      refine norm_ (a' := ?_) ?_ ?_
      rotate_left
      ·show Act.put _ (some 37) _ = _
       simp only [Act.put, sa_, sz_, ss_, i64_w, i32_w]
       rfl
      refine one_ (i := 11) (N := some 40) #[true, true, true, true, true, true, true, true, true, true, true, true, false, false] rfl rfl (one_of HT_.out (by kernel_rfl)) (by decide) (fun K hK => ?_)
      refine goes_ Try.func10 (by kernel_rfl) rfl #[.agg #[.int .i64 a0_0, .slice A0_1 l0_1.length c0_1, .slice A0_2 l0_2.length c0_2], .slice A1 l1.length c1] (by rfl) rfl rfl gl_ ?_
      with_reducible refine (standstillref07_Fits.calls kj3 a0_0 _ _ l0_1 _ _ l0_2 _ _ l1 t226 _ ?side1 ?side2 ?side3 ?side4 ?side5 ?side6 A26.out).mono ?_
      (case side1 => exact ck_ (Kd.C_below HR0_1.out HB.out))
      (case side2 => exact HC0_1.out)
      (case side3 => exact ck_ (Kd.C_below HR0_2.out HB.out))
      (case side4 => exact HC0_2.out)
      (case side5 => exact ck_ (Kd.C_below HR1.out HB.out))
      (case side6 => exact HC1.out)
      rintro e w31 ⟨rfl, hb⟩
      refine ⟨_, rfl, ?_⟩
      have n0_ := A_ (blk_below (pk_ BK220.out) hb)
      have n1_ := A_ (below_step (bk_ HB.out) hb)
      clear BK220 HB
      have BK220 := n0_
      have HB := n1_
      clear n0_ n1_
      (try clear hb)
      (try clear hb2)
      (try clear hk)
      (try clear hi)
      refine hK.out _ _ ⟨(blk_cell BK220.out 0).trans rfl, (blk_cell BK220.out 1).trans rfl, (blk_cell BK220.out 2).trans rfl⟩ (fun hHeld => ?_)
      clear hK K
      refine norm_ (a' := ?_) ?_ ?_
      rotate_left
      ·show Act.put _ (some 40) _ = _
       simp only [Act.put, sa_, sz_, ss_, i64_w, i32_w]
       rfl
      refine pure_ (i := 12) (N := some 41) (v := ?_) (a' := ?_) #[true, true, true, true, true, true, true, true, true, true, true, true, true, false] rfl rfl (any_of HT_.out (by kernel_rfl)) (fun _ _ _ h => h) (Or.inl ⟨by rfl, ?_⟩) ?_ ?_
      rotate_left
      ·intro w'
       go_simp
       with_reducible rfl
      rotate_left
      ·simp only [Act.put, sa_, sz_, ss_, i64_w, i32_w]
       rfl
      refine pure_ (i := 13) (N := some 42) (v := ?_) (a' := ?_) #[true, true, true, true, true, true, true, true, true, true, true, true, true, true] rfl rfl (any_of HT_.out (by kernel_rfl)) (fun _ _ _ h => h) (Or.inl ⟨by rfl, ?_⟩) ?_ ?_
      rotate_left
      ·intro w'
       go_simp
       with_reducible rfl
      rotate_left
      ·simp only [Act.put, sa_, sz_, ss_, i64_w, i32_w]
       rfl
      refine done_ (done_of HT_.out (by kernel_rfl)) ?_
      try go_wp2
      go_meet
      case rel => exact ⟨_, ((t225 != t226)), jr_, H', ⟨by have := HJ3.out; first | omega | exact Nat.le_refl _⟩, ⟨pk_ BK220.out⟩, ⟨bk_ HB.out⟩⟩
    case rest =>
     clear HC18
     (try clear c1); (try clear c15)
     obtain ⟨kq, x42_17, rfl, HA, HJ17, BK220, HB⟩ := hcut
     cases kq with
     | zero => exact absurd HA.out (by simp [standstilllaw07_TagRuns.j1])
     | succ kj17 =>
      have H := HA.out
      clear HA
      simp only [standstilllaw07_TagRuns.j1] at H
      by_cases c32 : x42_17 = true
      ·subst c32
       have H1 : (none) = some r := by rw [if_pos rfl] at H; exact H
       clear H
       have H := H1
       clear H1
       exact absurd H (by simp)
      ·replace c32 := Bool.eq_false_iff.mpr c32
       subst c32
       have H1 : ((tag_Step.f kj17 a0_0 l0_1 l0_2 l1).bind fun bt227 => ((tag_Run.f kj17 a0_0 l0_1 l0_2 l1 a2).bind fun bt231 => ((standstillref07_Fits.f kj17 a0_0 l0_1 l0_2 l1).bind fun t236 => (if t236 = true then ((standstillref07_Stopped.f a0_0 l0_1 l0_2 l1).bind fun t238 => (if t238 = true then (if bt227.2 = 5 then (if (bt227.1.length : Int) > 0 then (none) else (standstilllaw07_TagRuns.j2 kj17 l1 a2 bt231.1 bt231.2.1 bt231.2.2 a0_0 l0_1 l0_2)) else (none)) else ((standstillref07_Step.f a0_0 l0_1 l0_2 l1).bind fun bt239 => ((standstilllaw07_size.f bt239.2).bind fun t243 => (if bt227.2 = t243 then ((standstillref07_Same.f kj17 bt227.1 bt239.1).bind fun t244 => (if t244 = true then (standstilllaw07_TagRuns.j2 kj17 l1 a2 bt231.1 bt231.2.1 bt231.2.2 a0_0 l0_1 l0_2) else (none))) else (none)))))) else (if bt227.2 = 1 then (if bt231.2.2 = 1 then (if (wrap64 ((wrap64 ((bt227.1.length : Int) + (bt231.1.length : Int))) + bt231.2.1)) = 0 then ((standstilllaw07_awake.f kj17).bind fun t237 => (some t237)) else (none)) else (none)) else (none)))))) = some r := by rw [if_neg (show ¬ (false = true) by decide)] at H; exact H
       clear H
       have H := H1
       clear H1
       replace H := Option.bind_eq_some_iff.mp H
       obtain ⟨⟨t227, t230⟩, A330, H⟩ := H
       replace H : ((tag_Run.f kj17 a0_0 l0_1 l0_2 l1 a2).bind fun bt231 => ((standstillref07_Fits.f kj17 a0_0 l0_1 l0_2 l1).bind fun t236 => (if t236 = true then ((standstillref07_Stopped.f a0_0 l0_1 l0_2 l1).bind fun t238 => (if t238 = true then (if t230 = 5 then (if (t227.length : Int) > 0 then (none) else (standstilllaw07_TagRuns.j2 kj17 l1 a2 bt231.1 bt231.2.1 bt231.2.2 a0_0 l0_1 l0_2)) else (none)) else ((standstillref07_Step.f a0_0 l0_1 l0_2 l1).bind fun bt239 => ((standstilllaw07_size.f bt239.2).bind fun t243 => (if t230 = t243 then ((standstillref07_Same.f kj17 t227 bt239.1).bind fun t244 => (if t244 = true then (standstilllaw07_TagRuns.j2 kj17 l1 a2 bt231.1 bt231.2.1 bt231.2.2 a0_0 l0_1 l0_2) else (none))) else (none)))))) else (if t230 = 1 then (if bt231.2.2 = 1 then (if (wrap64 ((wrap64 ((t227.length : Int) + (bt231.1.length : Int))) + bt231.2.1)) = 0 then ((standstilllaw07_awake.f kj17).bind fun t237 => (some t237)) else (none)) else (none)) else (none))))) = some r := H
       have A33 := Aside0.mk A330
       clear A330
       replace H := Option.bind_eq_some_iff.mp H
       obtain ⟨⟨t231, t234, t235⟩, A340, H⟩ := H
       replace H : ((standstillref07_Fits.f kj17 a0_0 l0_1 l0_2 l1).bind fun t236 => (if t236 = true then ((standstillref07_Stopped.f a0_0 l0_1 l0_2 l1).bind fun t238 => (if t238 = true then (if t230 = 5 then (if (t227.length : Int) > 0 then (none) else (standstilllaw07_TagRuns.j2 kj17 l1 a2 t231 t234 t235 a0_0 l0_1 l0_2)) else (none)) else ((standstillref07_Step.f a0_0 l0_1 l0_2 l1).bind fun bt239 => ((standstilllaw07_size.f bt239.2).bind fun t243 => (if t230 = t243 then ((standstillref07_Same.f kj17 t227 bt239.1).bind fun t244 => (if t244 = true then (standstilllaw07_TagRuns.j2 kj17 l1 a2 t231 t234 t235 a0_0 l0_1 l0_2) else (none))) else (none)))))) else (if t230 = 1 then (if t235 = 1 then (if (wrap64 ((wrap64 ((t227.length : Int) + (t231.length : Int))) + t234)) = 0 then ((standstilllaw07_awake.f kj17).bind fun t237 => (some t237)) else (none)) else (none)) else (none)))) = some r := H
       have A34 := Aside0.mk A340
       clear A340
       replace H := Option.bind_eq_some_iff.mp H
       obtain ⟨t236, A350, H⟩ := H
       replace H : (if t236 = true then ((standstillref07_Stopped.f a0_0 l0_1 l0_2 l1).bind fun t238 => (if t238 = true then (if t230 = 5 then (if (t227.length : Int) > 0 then (none) else (standstilllaw07_TagRuns.j2 kj17 l1 a2 t231 t234 t235 a0_0 l0_1 l0_2)) else (none)) else ((standstillref07_Step.f a0_0 l0_1 l0_2 l1).bind fun bt239 => ((standstilllaw07_size.f bt239.2).bind fun t243 => (if t230 = t243 then ((standstillref07_Same.f kj17 t227 bt239.1).bind fun t244 => (if t244 = true then (standstilllaw07_TagRuns.j2 kj17 l1 a2 t231 t234 t235 a0_0 l0_1 l0_2) else (none))) else (none)))))) else (if t230 = 1 then (if t235 = 1 then (if (wrap64 ((wrap64 ((t227.length : Int) + (t231.length : Int))) + t234)) = 0 then ((standstilllaw07_awake.f kj17).bind fun t237 => (some t237)) else (none)) else (none)) else (none))) = some r := H
       have A35 := Aside0.mk A350
       clear A350
       by_cases c36 : t236 = true
       ·subst c36
        have H1 : ((standstillref07_Stopped.f a0_0 l0_1 l0_2 l1).bind fun t238 => (if t238 = true then (if t230 = 5 then (if (t227.length : Int) > 0 then (none) else (standstilllaw07_TagRuns.j2 kj17 l1 a2 t231 t234 t235 a0_0 l0_1 l0_2)) else (none)) else ((standstillref07_Step.f a0_0 l0_1 l0_2 l1).bind fun bt239 => ((standstilllaw07_size.f bt239.2).bind fun t243 => (if t230 = t243 then ((standstillref07_Same.f kj17 t227 bt239.1).bind fun t244 => (if t244 = true then (standstilllaw07_TagRuns.j2 kj17 l1 a2 t231 t234 t235 a0_0 l0_1 l0_2) else (none))) else (none)))))) = some r := by rw [if_pos rfl] at H; exact H
        clear H
        have H := H1
        clear H1
        replace H := Option.bind_eq_some_iff.mp H
        obtain ⟨t238, A370, H⟩ := H
        replace H : (if t238 = true then (if t230 = 5 then (if (t227.length : Int) > 0 then (none) else (standstilllaw07_TagRuns.j2 kj17 l1 a2 t231 t234 t235 a0_0 l0_1 l0_2)) else (none)) else ((standstillref07_Step.f a0_0 l0_1 l0_2 l1).bind fun bt239 => ((standstilllaw07_size.f bt239.2).bind fun t243 => (if t230 = t243 then ((standstillref07_Same.f kj17 t227 bt239.1).bind fun t244 => (if t244 = true then (standstilllaw07_TagRuns.j2 kj17 l1 a2 t231 t234 t235 a0_0 l0_1 l0_2) else (none))) else (none))))) = some r := H
        have A37 := Aside0.mk A370
        clear A370
        have HC38 := Aside0.mk H
        clear H
        have hcz39_0 : wc.cell? ⟨gb220, 0, none⟩ = some (.int .i64 a0_0) := (blk_cell BK220.out 0).trans rfl
        have hcz39_1 : wc.cell? ⟨gb220, 1, none⟩ = some (.slice A0_1 l0_1.length c0_1) := (blk_cell BK220.out 1).trans rfl
        have hcz39_2 : wc.cell? ⟨gb220, 2, none⟩ = some (.slice A0_2 l0_2.length c0_2) := (blk_cell BK220.out 2).trans rfl
        have hfz39_0 := blk_frozen BK220.out 0
        have hfz39_1 := blk_frozen BK220.out 1
        have hfz39_2 := blk_frozen BK220.out 2
        go_upto_if 82 with (first | ((with_reducible refine gate_callee (f := 18) rfl ?_); refine goesL_ (some 46) rfl rfl Try.func18 (by kernel_rfl) rfl #[.agg #[.int .i64 a0_0, .slice A0_1 l0_1.length c0_1, .slice A0_2 l0_2.length c0_2], .slice A1 l1.length c1] rfl gl_ ?_; (with_reducible refine (tag_Step.calls kj17 a0_0 _ _ l0_1 _ _ l0_2 _ _ l1 t227 t230 _ ?side1 ?side2 ?side3 ?side4 ?side5 ?side6 A33.out).mono ?_); (case side1 => exact ck_ (Kd.C_below HR0_1.out HB.out)); (case side2 => exact HC0_1.out); (case side3 => exact ck_ (Kd.C_below HR0_2.out HB.out)); (case side4 => exact HC0_2.out); (case side5 => exact ck_ (Kd.C_below HR1.out HB.out)); (case side6 => exact HC1.out); rintro e w40 ⟨v228, rfl, ho0, hb⟩; refine ⟨_, rfl, ?_⟩; have n0_ := A_ (Kd.R_lower ho0 (below_size (bk_ HB.out))); have n1_ := A_ (blk_below (pk_ BK220.out) hb); have n2_ := A_ (below_step (bk_ HB.out) hb); clear BK220 HB; have HO229 := n0_; have BK220 := n1_; have HB := n2_; clear n0_ n1_ n2_; (try clear hb); (try clear hb2); (try clear hk); (try clear hi); (try clear ho0); have hcz41_0 : w40.cell? ⟨gb220, 0, none⟩ = some (.int .i64 a0_0) := (blk_cell BK220.out 0).trans rfl; have hcz41_1 : w40.cell? ⟨gb220, 1, none⟩ = some (.slice A0_1 l0_1.length c0_1) := (blk_cell BK220.out 1).trans rfl; have hcz41_2 : w40.cell? ⟨gb220, 2, none⟩ = some (.slice A0_2 l0_2.length c0_2) := (blk_cell BK220.out 2).trans rfl; have hfz41_0 := blk_frozen BK220.out 0; have hfz41_1 := blk_frozen BK220.out 1; have hfz41_2 := blk_frozen BK220.out 2) | ((with_reducible refine gate_callee (f := 13) rfl ?_); refine goesL_ (some 53) rfl rfl Try.func13 (by kernel_rfl) rfl #[.agg #[.int .i64 a0_0, .slice A0_1 l0_1.length c0_1, .slice A0_2 l0_2.length c0_2], .slice A1 l1.length c1, .int .i64 a2] rfl gl_ ?_; (with_reducible refine (tag_Run.calls kj17 a0_0 _ _ l0_1 _ _ l0_2 _ _ l1 a2 t231 t234 t235 _ ?side1 ?side2 ?side3 ?side4 ?side5 ?side6 A34.out).mono ?_); (case side1 => exact ck_ (Kd.C_below HR0_1.out HB.out)); (case side2 => exact HC0_1.out); (case side3 => exact ck_ (Kd.C_below HR0_2.out HB.out)); (case side4 => exact HC0_2.out); (case side5 => exact ck_ (Kd.C_below HR1.out HB.out)); (case side6 => exact HC1.out); rintro e w42 ⟨v232, rfl, ho0, hb⟩; refine ⟨_, rfl, ?_⟩; have n0_ := A_ (Kd.R_elder' (rk_ HO229.out) (Kd.R_base ho0) hb); have n1_ := A_ (Kd.R_lower (Kd.R_new' ho0 (Kd.R_lt (rk_ HO229.out))) (below_size (bk_ HB.out))); have n2_ := A_ (blk_below (pk_ BK220.out) hb); have n3_ := A_ (below_step (bk_ HB.out) hb); clear HO229 BK220 HB; have HO229 := n0_; have HO233 := n1_; have BK220 := n2_; have HB := n3_; clear n0_ n1_ n2_ n3_; (try clear hb); (try clear hb2); (try clear hk); (try clear hi); (try clear ho0); have hcz43_0 : w42.cell? ⟨gb220, 0, none⟩ = some (.int .i64 a0_0) := (blk_cell BK220.out 0).trans rfl; have hcz43_1 : w42.cell? ⟨gb220, 1, none⟩ = some (.slice A0_1 l0_1.length c0_1) := (blk_cell BK220.out 1).trans rfl; have hcz43_2 : w42.cell? ⟨gb220, 2, none⟩ = some (.slice A0_2 l0_2.length c0_2) := (blk_cell BK220.out 2).trans rfl; have hfz43_0 := blk_frozen BK220.out 0; have hfz43_1 := blk_frozen BK220.out 1; have hfz43_2 := blk_frozen BK220.out 2) | ((with_reducible refine gate_callee (f := 10) rfl ?_); refine goesL_ (some 59) rfl rfl Try.func10 (by kernel_rfl) rfl #[.agg #[.int .i64 a0_0, .slice A0_1 l0_1.length c0_1, .slice A0_2 l0_2.length c0_2], .slice A1 l1.length c1] rfl gl_ ?_; (with_reducible refine (standstillref07_Fits.calls kj17 a0_0 _ _ l0_1 _ _ l0_2 _ _ l1 true _ ?side1 ?side2 ?side3 ?side4 ?side5 ?side6 A35.out).mono ?_); (case side1 => exact ck_ (Kd.C_below HR0_1.out HB.out)); (case side2 => exact HC0_1.out); (case side3 => exact ck_ (Kd.C_below HR0_2.out HB.out)); (case side4 => exact HC0_2.out); (case side5 => exact ck_ (Kd.C_below HR1.out HB.out)); (case side6 => exact HC1.out); rintro e w44 ⟨rfl, hb⟩; refine ⟨_, rfl, ?_⟩; have n0_ := A_ (Kd.R_below (rk_ HO229.out) hb); have n1_ := A_ (Kd.R_below (rk_ HO233.out) hb); have n2_ := A_ (blk_below (pk_ BK220.out) hb); have n3_ := A_ (below_step (bk_ HB.out) hb); clear HO229 HO233 BK220 HB; have HO229 := n0_; have HO233 := n1_; have BK220 := n2_; have HB := n3_; clear n0_ n1_ n2_ n3_; (try clear hb); (try clear hb2); (try clear hk); (try clear hi); have hcz45_0 : w44.cell? ⟨gb220, 0, none⟩ = some (.int .i64 a0_0) := (blk_cell BK220.out 0).trans rfl; have hcz45_1 : w44.cell? ⟨gb220, 1, none⟩ = some (.slice A0_1 l0_1.length c0_1) := (blk_cell BK220.out 1).trans rfl; have hcz45_2 : w44.cell? ⟨gb220, 2, none⟩ = some (.slice A0_2 l0_2.length c0_2) := (blk_cell BK220.out 2).trans rfl; have hfz45_0 := blk_frozen BK220.out 0; have hfz45_1 := blk_frozen BK220.out 1; have hfz45_2 := blk_frozen BK220.out 2) | ((with_reducible refine gate_callee (f := 19) rfl ?_); refine goesL_ (some 82) rfl rfl Try.func19 (by kernel_rfl) rfl #[.agg #[.int .i64 a0_0, .slice A0_1 l0_1.length c0_1, .slice A0_2 l0_2.length c0_2], .slice A1 l1.length c1] rfl gl_ ?_; (with_reducible refine (standstillref07_Stopped.calls a0_0 _ _ l0_1 _ _ l0_2 _ _ l1 t238 _ ?side1 ?side2 ?side3 ?side4 ?side5 ?side6 A37.out).mono ?_); (case side1 => exact ck_ (Kd.C_below HR0_1.out HB.out)); (case side2 => exact HC0_1.out); (case side3 => exact ck_ (Kd.C_below HR0_2.out HB.out)); (case side4 => exact HC0_2.out); (case side5 => exact ck_ (Kd.C_below HR1.out HB.out)); (case side6 => exact HC1.out); rintro e w46 ⟨rfl, hb⟩; refine ⟨_, rfl, ?_⟩; have n0_ := A_ (Kd.R_below (rk_ HO229.out) hb); have n1_ := A_ (Kd.R_below (rk_ HO233.out) hb); have n2_ := A_ (blk_below (pk_ BK220.out) hb); have n3_ := A_ (below_step (bk_ HB.out) hb); clear HO229 HO233 BK220 HB; have HO229 := n0_; have HO233 := n1_; have BK220 := n2_; have HB := n3_; clear n0_ n1_ n2_ n3_; (try clear hb); (try clear hb2); (try clear hk); (try clear hi)))
        (try simp only [Act.put, List.setIfInBounds_toArray, List.set_cons_zero, List.set_cons_succ])
        go_cut [] (fun wc => ∃ (kq : Nat), Aside0 (standstilllaw07_TagRuns.j2 kq l1 a2 t231 t234 t235 a0_0 l0_1 l0_2 = some r) ∧ Aside0 (kq ≤ kj17) ∧ Aside0 (Kd.R (Kd.int .i64) 3 wc w.heap.size (fun _ => True) v232 t231) ∧ Aside0 (wc.heap[gb220]? = some (.cells #[.int .i64 a0_0, (.slice A0_1 l0_1.length c0_1), (.slice A0_2 l0_2.length c0_2)] 25 (0, 0))) ∧ Aside0 (Below w.heap.size w wc))
        case first =>
         have H := HC38.out
         clear HC38
         by_cases c47 : t238 = true
         ·subst c47
          have H1 : (if t230 = 5 then (if (t227.length : Int) > 0 then (none) else (standstilllaw07_TagRuns.j2 kj17 l1 a2 t231 t234 t235 a0_0 l0_1 l0_2)) else (none)) = some r := by rw [if_pos rfl] at H; exact H
          clear H
          have H := H1
          clear H1
          by_cases c48 : t230 = 5
          ·rw [if_pos c48] at H
           have c48b0 : (t230 == 5) = true := beq_iff_eq.mpr c48
           have c48b1 : (t230 != 5) = false := bne_eq_false_iff_eq.mpr c48
           clear c48
           (first | rw [c48b0] | (simp only [i64_w, i32_w]; rw [c48b0]) | skip)
           by_cases c49 : (t227.length : Int) > 0
           ·rw [if_pos c49] at H
            exact absurd H (by simp)
           ·rw [if_neg c49] at H
            have c49b0 : decide (0 < (t227.length : Int)) = false := decide_eq_false c49
            have c49b1 : decide (0 < t227.length) = false := decide_eq_false (by omega)
            clear c49
            have H' := Aside0.mk H
            clear H
            obtain ⟨Ao50, co50, eo50⟩ := Kd.R_slice HO229.out
            subst eo50
            go_wp2
            go_meet
            case rel => exact ⟨_, H', ⟨by have := HJ3.out; have := HJ17.out; first | omega | exact Nat.le_refl _⟩, ⟨by (with_reducible repeat (first | apply Kd.R_alloc | apply Kd.R_drewN | apply Kd.R_drew)); exact Kd.R_mono HO233.out (fun _ hk => trivial)⟩, ⟨pk_ BK220.out⟩, ⟨bk_ HB.out⟩⟩
          ·rw [if_neg c48] at H
           exact absurd H (by simp)
         ·replace c47 := Bool.eq_false_iff.mpr c47
          subst c47
          have H1 : ((standstillref07_Step.f a0_0 l0_1 l0_2 l1).bind fun bt239 => ((standstilllaw07_size.f bt239.2).bind fun t243 => (if t230 = t243 then ((standstillref07_Same.f kj17 t227 bt239.1).bind fun t244 => (if t244 = true then (standstilllaw07_TagRuns.j2 kj17 l1 a2 t231 t234 t235 a0_0 l0_1 l0_2) else (none))) else (none)))) = some r := by rw [if_neg (show ¬ (false = true) by decide)] at H; exact H
          clear H
          have H := H1
          clear H1
          replace H := Option.bind_eq_some_iff.mp H
          obtain ⟨⟨t239, t242⟩, A510, H⟩ := H
          replace H : ((standstilllaw07_size.f t242).bind fun t243 => (if t230 = t243 then ((standstillref07_Same.f kj17 t227 t239).bind fun t244 => (if t244 = true then (standstilllaw07_TagRuns.j2 kj17 l1 a2 t231 t234 t235 a0_0 l0_1 l0_2) else (none))) else (none))) = some r := H
          have A51 := Aside0.mk A510
          clear A510
          replace H := Option.bind_eq_some_iff.mp H
          obtain ⟨t243, A520, H⟩ := H
          replace H : (if t230 = t243 then ((standstillref07_Same.f kj17 t227 t239).bind fun t244 => (if t244 = true then (standstilllaw07_TagRuns.j2 kj17 l1 a2 t231 t234 t235 a0_0 l0_1 l0_2) else (none))) else (none)) = some r := H
          have A52 := Aside0.mk A520
          clear A520
          by_cases c53 : t230 = t243
          ·rw [if_pos c53] at H
           have c53b0 : (t230 == t243) = true := beq_iff_eq.mpr c53
           have c53b1 : (t230 != t243) = false := bne_eq_false_iff_eq.mpr c53
           clear c53
           replace H := Option.bind_eq_some_iff.mp H
           obtain ⟨t244, A540, H⟩ := H
           replace H : (if t244 = true then (standstilllaw07_TagRuns.j2 kj17 l1 a2 t231 t234 t235 a0_0 l0_1 l0_2) else (none)) = some r := H
           have A54 := Aside0.mk A540
           clear A540
           by_cases c55 : t244 = true
           ·subst c55
            have H1 : (standstilllaw07_TagRuns.j2 kj17 l1 a2 t231 t234 t235 a0_0 l0_1 l0_2) = some r := by rw [if_pos rfl] at H; exact H
            clear H
            have H := H1
            clear H1
            have H' := Aside0.mk H
            clear H
            have hcz56_0 : w46.cell? ⟨gb220, 0, none⟩ = some (.int .i64 a0_0) := (blk_cell BK220.out 0).trans rfl
            have hcz56_1 : w46.cell? ⟨gb220, 1, none⟩ = some (.slice A0_1 l0_1.length c0_1) := (blk_cell BK220.out 1).trans rfl
            have hcz56_2 : w46.cell? ⟨gb220, 2, none⟩ = some (.slice A0_2 l0_2.length c0_2) := (blk_cell BK220.out 2).trans rfl
            have hfz56_0 := blk_frozen BK220.out 0
            have hfz56_1 := blk_frozen BK220.out 1
            have hfz56_2 := blk_frozen BK220.out 2
            go_wp2_with (first | ((with_reducible refine gate_callee (f := 20) rfl ?_); refine goesL_ (some 93) rfl rfl Try.func20 (by kernel_rfl) rfl #[.agg #[.int .i64 a0_0, .slice A0_1 l0_1.length c0_1, .slice A0_2 l0_2.length c0_2], .slice A1 l1.length c1] rfl gl_ ?_; (with_reducible refine (standstillref07_Step.calls a0_0 _ _ l0_1 _ _ l0_2 _ _ l1 t239 t242 _ ?side1 ?side2 ?side3 ?side4 ?side5 ?side6 A51.out).mono ?_); (case side1 => exact ck_ (Kd.C_below HR0_1.out HB.out)); (case side2 => exact HC0_1.out); (case side3 => exact ck_ (Kd.C_below HR0_2.out HB.out)); (case side4 => exact HC0_2.out); (case side5 => exact ck_ (Kd.C_below HR1.out HB.out)); (case side6 => exact HC1.out); rintro e w57 ⟨v240, rfl, ho0, hb⟩; refine ⟨_, rfl, ?_⟩; have n0_ := A_ (Kd.R_elder' (rk_ HO229.out) (Kd.Q_base ho0) hb); have n1_ := A_ (Kd.R_elder' (rk_ HO233.out) (Kd.Q_base ho0) hb); have n2_ := A_ (Kd.Q_lower (Kd.Q_new' (Kd.Q_new' ho0 (Kd.R_lt (rk_ HO229.out))) (Kd.R_lt (rk_ HO233.out))) (below_size (bk_ HB.out))); have n3_ := A_ (blk_below (pk_ BK220.out) hb); have n4_ := A_ (below_step (bk_ HB.out) hb); clear HO229 HO233 BK220 HB; have HO229 := n0_; have HO233 := n1_; have HO241 := n2_; have BK220 := n3_; have HB := n4_; clear n0_ n1_ n2_ n3_ n4_; (try clear hb); (try clear hb2); (try clear hk); (try clear hi); (try clear ho0)) | ((with_reducible refine gate_callee (f := 21) rfl ?_); refine goesL_ (some 98) rfl rfl Try.func21 (by kernel_rfl) rfl #[.bool t242] rfl gl_ ?_; (with_reducible refine (standstilllaw07_size.calls t242 t243 _ A52.out).mono ?_); rintro e w' ⟨rfl, ⟨nd, rfl⟩⟩; refine ⟨_, rfl, ?_⟩; obtain ⟨Ao58, co58, eo58⟩ := Kd.R_slice HO229.out; subst eo58; obtain ⟨Ao59, co59, eo59, _⟩ := Kd.Q_slice HO241.out; subst eo59) | (go_at_call 14; (with_reducible refine (standstillref07_Same.calls kj17 _ _ t227 _ _ t239 true _ ?side1 ?side2 ?side3 ?side4 A54.out).mono ?_); (case side1 => repeat (first | exact (Kd.R_reads' HO229.out).2.2 | (with_reducible refine Kd.C_alloc ?_ _) | (with_reducible refine Kd.C_drewN ?_ _) | (with_reducible refine Kd.C_drew ?_))); (case side2 => exact (Kd.R_reads' HO229.out).2.1); (case side3 => repeat (first | exact (Kd.Q_reads' HO241.out).2.2 | (with_reducible refine Kd.C_alloc ?_ _) | (with_reducible refine Kd.C_drewN ?_ _) | (with_reducible refine Kd.C_drew ?_))); (case side4 => exact (Kd.Q_reads' HO241.out).2.1); rintro e w' ⟨rfl, ⟨nd, rfl⟩⟩))
            go_meet
            case rel => exact ⟨_, H', ⟨by have := HJ3.out; have := HJ17.out; first | omega | exact Nat.le_refl _⟩, ⟨by (with_reducible repeat (first | apply Kd.R_alloc | apply Kd.R_drewN | apply Kd.R_drew)); exact Kd.R_mono HO233.out (fun _ hk => trivial)⟩, ⟨pk_ BK220.out⟩, ⟨bk_ HB.out⟩⟩
           ·replace c55 := Bool.eq_false_iff.mpr c55
            subst c55
            have H1 : (none) = some r := by rw [if_neg (show ¬ (false = true) by decide)] at H; exact H
            clear H
            have H := H1
            clear H1
            exact absurd H (by simp)
          ·rw [if_neg c53] at H
           exact absurd H (by simp)
        case rest =>
         clear HC38
         (try clear c1); (try clear c15); (try clear c32); (try clear c36); (try clear hcz39_0); (try clear hcz39_1); (try clear hcz39_2); (try clear hcz41_0); (try clear hcz41_1); (try clear hcz41_2); (try clear hcz43_0); (try clear hcz43_1); (try clear hcz43_2); (try clear hcz45_0); (try clear hcz45_1); (try clear hcz45_2); (try clear hfz39_0); (try clear hfz39_1); (try clear hfz39_2); (try clear hfz41_0); (try clear hfz41_1); (try clear hfz41_2); (try clear hfz43_0); (try clear hfz43_1); (try clear hfz43_2); (try clear hfz45_0); (try clear hfz45_1); (try clear hfz45_2)
         obtain ⟨kq, HA, HJ37, HO_9, BK220, HB⟩ := hcut
         cases kq with
         | zero => exact absurd HA.out (by simp [standstilllaw07_TagRuns.j2])
         | succ kj37 =>
          have H := HA.out
          clear HA
          simp only [standstilllaw07_TagRuns.j2] at H
          have HC60 := Aside0.mk H
          clear H
          go_upto_region 15 with (fail)
          go_cut [111] (fun v111 wc => ∃ (kq : Nat) (x111_59 : Bool), v111 = .bool x111_59 ∧ Aside0 (standstilllaw07_TagRuns.j3 kq l1 a2 t231 t234 t235 x111_59 a0_0 l0_1 l0_2 = some r) ∧ Aside0 (kq ≤ kj37) ∧ Aside0 (Kd.R (Kd.int .i64) 3 wc w.heap.size (fun _ => True) v232 t231) ∧ Aside0 (wc.heap[gb220]? = some (.cells #[.int .i64 a0_0, (.slice A0_1 l0_1.length c0_1), (.slice A0_2 l0_2.length c0_2)] 25 (0, 0))) ∧ Aside0 (Below w.heap.size w wc))
          case first =>
           have H := HC60.out
           clear HC60
           by_cases c61 : a2 < 0
           ·rw [if_pos c61] at H
            have c61b0 : decide (a2 < 0) = true := decide_eq_true c61
            clear c61
            (first | rw [c61b0] | (simp only [i64_w, i32_w]; rw [c61b0]) | skip)
            have H' := Aside0.mk H
            clear H
            go_wp2
            go_meet
            case rel => exact ⟨_, (true), jr_, H', ⟨by have := HJ3.out; have := HJ17.out; have := HJ37.out; first | omega | exact Nat.le_refl _⟩, ⟨rk_ HO_9.out⟩, ⟨pk_ BK220.out⟩, ⟨bk_ HB.out⟩⟩
           ·rw [if_neg c61] at H
            have c61b0 : decide (a2 < 0) = false := decide_eq_false c61
            clear c61
            (first | rw [c61b0] | (simp only [i64_w, i32_w]; rw [c61b0]) | skip)
            have H' := Aside0.mk H
            clear H
            go_wp2
            go_meet
            case rel => exact ⟨_, (decide (a2 > 1000000)), jr_, H', ⟨by have := HJ3.out; have := HJ17.out; have := HJ37.out; first | omega | exact Nat.le_refl _⟩, ⟨rk_ HO_9.out⟩, ⟨pk_ BK220.out⟩, ⟨bk_ HB.out⟩⟩
          case rest =>
           clear HC60
           (try clear c1); (try clear c15); (try clear c32); (try clear c36); (try clear hcz39_0); (try clear hcz39_1); (try clear hcz39_2); (try clear hcz41_0); (try clear hcz41_1); (try clear hcz41_2); (try clear hcz43_0); (try clear hcz43_1); (try clear hcz43_2); (try clear hcz45_0); (try clear hcz45_1); (try clear hcz45_2); (try clear hfz39_0); (try clear hfz39_1); (try clear hfz39_2); (try clear hfz41_0); (try clear hfz41_1); (try clear hfz41_2); (try clear hfz43_0); (try clear hfz43_1); (try clear hfz43_2); (try clear hfz45_0); (try clear hfz45_1); (try clear hfz45_2)
           obtain ⟨kq, x111_59, rfl, HA, HJ59, HO_9, BK220, HB⟩ := hcut
           cases kq with
           | zero => exact absurd HA.out (by simp [standstilllaw07_TagRuns.j3])
           | succ kj59 =>
            have H := HA.out
            clear HA
            simp only [standstilllaw07_TagRuns.j3] at H
            by_cases c62 : x111_59 = true
            ·subst c62
             have H1 : (if t235 = 2 then (if (t231.length : Int) = 0 then (if t234 = 0 then ((standstilllaw07_awake.f kj59).bind fun t245 => (some t245)) else (none)) else (none)) else (none)) = some r := by rw [if_pos rfl] at H; exact H
             clear H
             have H := H1
             clear H1
             by_cases c63 : t235 = 2
             ·rw [if_pos c63] at H
              have c63b0 : (t235 == 2) = true := beq_iff_eq.mpr c63
              have c63b1 : (t235 != 2) = false := bne_eq_false_iff_eq.mpr c63
              clear c63
              by_cases c64 : (t231.length : Int) = 0
              ·rw [if_pos c64] at H
               have c64b0 : ((t231.length : Int) == 0) = true := beq_iff_eq.mpr c64
               have c64b1 : ((t231.length : Int) != 0) = false := bne_eq_false_iff_eq.mpr c64
               clear c64
               by_cases c65 : t234 = 0
               ·rw [if_pos c65] at H
                have c65b0 : (t234 == 0) = true := beq_iff_eq.mpr c65
                have c65b1 : (t234 != 0) = false := bne_eq_false_iff_eq.mpr c65
                clear c65
                replace H := Option.bind_eq_some_iff.mp H
                obtain ⟨t245, A660, H⟩ := H
                replace H : (some t245) = some r := H
                have A66 := Aside0.mk A660
                clear A660
                obtain rfl := Option.some.inj H
                obtain ⟨Ao67, co67, eo67⟩ := Kd.R_slice HO_9.out
                subst eo67
                go_wp2_with (first | (go_at_call 11; (with_reducible refine (standstilllaw07_awake.calls kj59  t245 _ A66.out).mono ?_); rintro e w68 ⟨rfl, hb⟩; have n0_ := A_ (Kd.R_below (rk_ HO_9.out) hb); have n1_ := A_ (blk_below (pk_ BK220.out) hb); have n2_ := A_ (below_step (bk_ HB.out) hb); clear HO_9 BK220 HB; have HO_9 := n0_; have BK220 := n1_; have HB := n2_; clear n0_ n1_ n2_; (try clear hb); (try clear hb2); (try clear hk); (try clear hi)))
                go_ret
                exact ⟨er_, bk_ HB.out⟩
               ·rw [if_neg c65] at H
                exact absurd H (by simp)
              ·rw [if_neg c64] at H
               exact absurd H (by simp)
             ·rw [if_neg c63] at H
              exact absurd H (by simp)
            ·replace c62 := Bool.eq_false_iff.mpr c62
             subst c62
             have H1 : ((standstillref07_Run.f kj59 a0_0 l0_1 l0_2 l1 a2).bind fun bt246 => ((standstilllaw07_size.f bt246.2.2).bind fun t251 => (if t235 = t251 then (if t234 = bt246.2.1 then ((standstillref07_Same.f kj59 t231 bt246.1).bind fun t252 => (if t252 = true then ((standstilllaw07_awake.f kj59).bind fun t253 => (some t253)) else (none))) else (none)) else (none)))) = some r := by rw [if_neg (show ¬ (false = true) by decide)] at H; exact H
             clear H
             have H := H1
             clear H1
             replace H := Option.bind_eq_some_iff.mp H
             obtain ⟨⟨t246, t249, t250⟩, A690, H⟩ := H
             replace H : ((standstilllaw07_size.f t250).bind fun t251 => (if t235 = t251 then (if t234 = t249 then ((standstillref07_Same.f kj59 t231 t246).bind fun t252 => (if t252 = true then ((standstilllaw07_awake.f kj59).bind fun t253 => (some t253)) else (none))) else (none)) else (none))) = some r := H
             have A69 := Aside0.mk A690
             clear A690
             replace H := Option.bind_eq_some_iff.mp H
             obtain ⟨t251, A700, H⟩ := H
             replace H : (if t235 = t251 then (if t234 = t249 then ((standstillref07_Same.f kj59 t231 t246).bind fun t252 => (if t252 = true then ((standstilllaw07_awake.f kj59).bind fun t253 => (some t253)) else (none))) else (none)) else (none)) = some r := H
             have A70 := Aside0.mk A700
             clear A700
             by_cases c71 : t235 = t251
             ·rw [if_pos c71] at H
              have c71b0 : (t235 == t251) = true := beq_iff_eq.mpr c71
              have c71b1 : (t235 != t251) = false := bne_eq_false_iff_eq.mpr c71
              clear c71
              by_cases c72 : t234 = t249
              ·rw [if_pos c72] at H
               have c72b0 : (t234 == t249) = true := beq_iff_eq.mpr c72
               have c72b1 : (t234 != t249) = false := bne_eq_false_iff_eq.mpr c72
               clear c72
               replace H := Option.bind_eq_some_iff.mp H
               obtain ⟨t252, A730, H⟩ := H
               replace H : (if t252 = true then ((standstilllaw07_awake.f kj59).bind fun t253 => (some t253)) else (none)) = some r := H
               have A73 := Aside0.mk A730
               clear A730
               by_cases c74 : t252 = true
               ·subst c74
                have H1 : ((standstilllaw07_awake.f kj59).bind fun t253 => (some t253)) = some r := by rw [if_pos rfl] at H; exact H
                clear H
                have H := H1
                clear H1
                replace H := Option.bind_eq_some_iff.mp H
                obtain ⟨t253, A750, H⟩ := H
                replace H : (some t253) = some r := H
                have A75 := Aside0.mk A750
                clear A750
                obtain rfl := Option.some.inj H
                have hcz76_0 : wc.cell? ⟨gb220, 0, none⟩ = some (.int .i64 a0_0) := (blk_cell BK220.out 0).trans rfl
                have hcz76_1 : wc.cell? ⟨gb220, 1, none⟩ = some (.slice A0_1 l0_1.length c0_1) := (blk_cell BK220.out 1).trans rfl
                have hcz76_2 : wc.cell? ⟨gb220, 2, none⟩ = some (.slice A0_2 l0_2.length c0_2) := (blk_cell BK220.out 2).trans rfl
                have hfz76_0 := blk_frozen BK220.out 0
                have hfz76_1 := blk_frozen BK220.out 1
                have hfz76_2 := blk_frozen BK220.out 2
                go_wp2_with (first | ((with_reducible refine gate_callee (f := 22) rfl ?_); refine goesL_ (some 130) rfl rfl Try.func22 (by kernel_rfl) rfl #[.agg #[.int .i64 a0_0, .slice A0_1 l0_1.length c0_1, .slice A0_2 l0_2.length c0_2], .slice A1 l1.length c1, .int .i64 a2] rfl gl_ ?_; (with_reducible refine (standstillref07_Run.calls kj59 a0_0 _ _ l0_1 _ _ l0_2 _ _ l1 a2 t246 t249 t250 _ ?side1 ?side2 ?side3 ?side4 ?side5 ?side6 A69.out).mono ?_); (case side1 => exact ck_ (Kd.C_below HR0_1.out HB.out)); (case side2 => exact HC0_1.out); (case side3 => exact ck_ (Kd.C_below HR0_2.out HB.out)); (case side4 => exact HC0_2.out); (case side5 => exact ck_ (Kd.C_below HR1.out HB.out)); (case side6 => exact HC1.out); rintro e w77 ⟨v247, rfl, ho0, hb⟩; refine ⟨_, rfl, ?_⟩; have n0_ := A_ (Kd.R_elder' (rk_ HO_9.out) (Kd.Q_base ho0) hb); have n1_ := A_ (Kd.Q_lower (Kd.Q_new' ho0 (Kd.R_lt (rk_ HO_9.out))) (below_size (bk_ HB.out))); have n2_ := A_ (blk_below (pk_ BK220.out) hb); have n3_ := A_ (below_step (bk_ HB.out) hb); clear HO_9 BK220 HB; have HO_9 := n0_; have HO248 := n1_; have BK220 := n2_; have HB := n3_; clear n0_ n1_ n2_ n3_; (try clear hb); (try clear hb2); (try clear hk); (try clear hi); (try clear ho0)) | ((with_reducible refine gate_callee (f := 21) rfl ?_); refine goesL_ (some 136) rfl rfl Try.func21 (by kernel_rfl) rfl #[.bool t250] rfl gl_ ?_; (with_reducible refine (standstilllaw07_size.calls t250 t251 _ A70.out).mono ?_); rintro e w' ⟨rfl, ⟨nd, rfl⟩⟩; refine ⟨_, rfl, ?_⟩; obtain ⟨Ao78, co78, eo78⟩ := Kd.R_slice HO_9.out; subst eo78; obtain ⟨Ao79, co79, eo79, _⟩ := Kd.Q_slice HO248.out; subst eo79) | (go_at_call 14; (with_reducible refine (standstillref07_Same.calls kj59 _ _ t231 _ _ t246 true _ ?side1 ?side2 ?side3 ?side4 A73.out).mono ?_); (case side1 => repeat (first | exact (Kd.R_reads' HO_9.out).2.2 | (with_reducible refine Kd.C_alloc ?_ _) | (with_reducible refine Kd.C_drewN ?_ _) | (with_reducible refine Kd.C_drew ?_))); (case side2 => exact (Kd.R_reads' HO_9.out).2.1); (case side3 => repeat (first | exact (Kd.Q_reads' HO248.out).2.2 | (with_reducible refine Kd.C_alloc ?_ _) | (with_reducible refine Kd.C_drewN ?_ _) | (with_reducible refine Kd.C_drew ?_))); (case side4 => exact (Kd.Q_reads' HO248.out).2.1); rintro e w' ⟨rfl, ⟨nd, rfl⟩⟩) | (go_at_call 11; (with_reducible refine (standstilllaw07_awake.calls kj59  t253 _ A75.out).mono ?_); rintro e w80 ⟨rfl, hb⟩; have n0_ := A_ (Kd.R_below (rk_ HO_9.out) hb); have n1_ := A_ (Kd.Q_below (by (with_reducible repeat (first | apply Kd.Q_alloc | apply Kd.Q_drewN | apply Kd.Q_drew)); exact HO248.out) hb); have n2_ := A_ (blk_below (pk_ BK220.out) hb); have n3_ := A_ (below_step (bk_ HB.out) hb); clear HO_9 HO248 BK220 HB; have HO_9 := n0_; have HO248 := n1_; have BK220 := n2_; have HB := n3_; clear n0_ n1_ n2_ n3_; (try clear hb); (try clear hb2); (try clear hk); (try clear hi)))
                go_ret
                exact ⟨er_, bk_ HB.out⟩
               ·replace c74 := Bool.eq_false_iff.mpr c74
                subst c74
                have H1 : (none) = some r := by rw [if_neg (show ¬ (false = true) by decide)] at H; exact H
                clear H
                have H := H1
                clear H1
                exact absurd H (by simp)
              ·rw [if_neg c72] at H
               exact absurd H (by simp)
             ·rw [if_neg c71] at H
              exact absurd H (by simp)
       ·replace c36 := Bool.eq_false_iff.mpr c36
        subst c36
        have H1 : (if t230 = 1 then (if t235 = 1 then (if (wrap64 ((wrap64 ((t227.length : Int) + (t231.length : Int))) + t234)) = 0 then ((standstilllaw07_awake.f kj17).bind fun t237 => (some t237)) else (none)) else (none)) else (none)) = some r := by rw [if_neg (show ¬ (false = true) by decide)] at H; exact H
        clear H
        have H := H1
        clear H1
        by_cases c81 : t230 = 1
        ·rw [if_pos c81] at H
         have c81b0 : (t230 == 1) = true := beq_iff_eq.mpr c81
         have c81b1 : (t230 != 1) = false := bne_eq_false_iff_eq.mpr c81
         clear c81
         by_cases c82 : t235 = 1
         ·rw [if_pos c82] at H
          have c82b0 : (t235 == 1) = true := beq_iff_eq.mpr c82
          have c82b1 : (t235 != 1) = false := bne_eq_false_iff_eq.mpr c82
          clear c82
          by_cases c83 : (wrap64 ((wrap64 ((t227.length : Int) + (t231.length : Int))) + t234)) = 0
          ·rw [if_pos c83] at H
           have c83b0 : ((wrap64 ((wrap64 ((t227.length : Int) + (t231.length : Int))) + t234)) == 0) = true := beq_iff_eq.mpr c83
           have c83b1 : ((wrap64 ((wrap64 ((t227.length : Int) + (t231.length : Int))) + t234)) != 0) = false := bne_eq_false_iff_eq.mpr c83
           clear c83
           replace H := Option.bind_eq_some_iff.mp H
           obtain ⟨t237, A840, H⟩ := H
           replace H : (some t237) = some r := H
           have A84 := Aside0.mk A840
           clear A840
           obtain rfl := Option.some.inj H
           have hcz85_0 : wc.cell? ⟨gb220, 0, none⟩ = some (.int .i64 a0_0) := (blk_cell BK220.out 0).trans rfl
           have hcz85_1 : wc.cell? ⟨gb220, 1, none⟩ = some (.slice A0_1 l0_1.length c0_1) := (blk_cell BK220.out 1).trans rfl
           have hcz85_2 : wc.cell? ⟨gb220, 2, none⟩ = some (.slice A0_2 l0_2.length c0_2) := (blk_cell BK220.out 2).trans rfl
           have hfz85_0 := blk_frozen BK220.out 0
           have hfz85_1 := blk_frozen BK220.out 1
           have hfz85_2 := blk_frozen BK220.out 2
           go_wp2_with (first | ((with_reducible refine gate_callee (f := 18) rfl ?_); refine goesL_ (some 46) rfl rfl Try.func18 (by kernel_rfl) rfl #[.agg #[.int .i64 a0_0, .slice A0_1 l0_1.length c0_1, .slice A0_2 l0_2.length c0_2], .slice A1 l1.length c1] rfl gl_ ?_; (with_reducible refine (tag_Step.calls kj17 a0_0 _ _ l0_1 _ _ l0_2 _ _ l1 t227 t230 _ ?side1 ?side2 ?side3 ?side4 ?side5 ?side6 A33.out).mono ?_); (case side1 => exact ck_ (Kd.C_below HR0_1.out HB.out)); (case side2 => exact HC0_1.out); (case side3 => exact ck_ (Kd.C_below HR0_2.out HB.out)); (case side4 => exact HC0_2.out); (case side5 => exact ck_ (Kd.C_below HR1.out HB.out)); (case side6 => exact HC1.out); rintro e w86 ⟨v228, rfl, ho0, hb⟩; refine ⟨_, rfl, ?_⟩; have n0_ := A_ (Kd.R_lower ho0 (below_size (bk_ HB.out))); have n1_ := A_ (blk_below (pk_ BK220.out) hb); have n2_ := A_ (below_step (bk_ HB.out) hb); clear BK220 HB; have HO229 := n0_; have BK220 := n1_; have HB := n2_; clear n0_ n1_ n2_; (try clear hb); (try clear hb2); (try clear hk); (try clear hi); (try clear ho0); have hcz87_0 : w86.cell? ⟨gb220, 0, none⟩ = some (.int .i64 a0_0) := (blk_cell BK220.out 0).trans rfl; have hcz87_1 : w86.cell? ⟨gb220, 1, none⟩ = some (.slice A0_1 l0_1.length c0_1) := (blk_cell BK220.out 1).trans rfl; have hcz87_2 : w86.cell? ⟨gb220, 2, none⟩ = some (.slice A0_2 l0_2.length c0_2) := (blk_cell BK220.out 2).trans rfl; have hfz87_0 := blk_frozen BK220.out 0; have hfz87_1 := blk_frozen BK220.out 1; have hfz87_2 := blk_frozen BK220.out 2) | ((with_reducible refine gate_callee (f := 13) rfl ?_); refine goesL_ (some 53) rfl rfl Try.func13 (by kernel_rfl) rfl #[.agg #[.int .i64 a0_0, .slice A0_1 l0_1.length c0_1, .slice A0_2 l0_2.length c0_2], .slice A1 l1.length c1, .int .i64 a2] rfl gl_ ?_; (with_reducible refine (tag_Run.calls kj17 a0_0 _ _ l0_1 _ _ l0_2 _ _ l1 a2 t231 t234 t235 _ ?side1 ?side2 ?side3 ?side4 ?side5 ?side6 A34.out).mono ?_); (case side1 => exact ck_ (Kd.C_below HR0_1.out HB.out)); (case side2 => exact HC0_1.out); (case side3 => exact ck_ (Kd.C_below HR0_2.out HB.out)); (case side4 => exact HC0_2.out); (case side5 => exact ck_ (Kd.C_below HR1.out HB.out)); (case side6 => exact HC1.out); rintro e w88 ⟨v232, rfl, ho0, hb⟩; refine ⟨_, rfl, ?_⟩; have n0_ := A_ (Kd.R_elder' (rk_ HO229.out) (Kd.R_base ho0) hb); have n1_ := A_ (Kd.R_lower (Kd.R_new' ho0 (Kd.R_lt (rk_ HO229.out))) (below_size (bk_ HB.out))); have n2_ := A_ (blk_below (pk_ BK220.out) hb); have n3_ := A_ (below_step (bk_ HB.out) hb); clear HO229 BK220 HB; have HO229 := n0_; have HO233 := n1_; have BK220 := n2_; have HB := n3_; clear n0_ n1_ n2_ n3_; (try clear hb); (try clear hb2); (try clear hk); (try clear hi); (try clear ho0); have hcz89_0 : w88.cell? ⟨gb220, 0, none⟩ = some (.int .i64 a0_0) := (blk_cell BK220.out 0).trans rfl; have hcz89_1 : w88.cell? ⟨gb220, 1, none⟩ = some (.slice A0_1 l0_1.length c0_1) := (blk_cell BK220.out 1).trans rfl; have hcz89_2 : w88.cell? ⟨gb220, 2, none⟩ = some (.slice A0_2 l0_2.length c0_2) := (blk_cell BK220.out 2).trans rfl; have hfz89_0 := blk_frozen BK220.out 0; have hfz89_1 := blk_frozen BK220.out 1; have hfz89_2 := blk_frozen BK220.out 2) | ((with_reducible refine gate_callee (f := 10) rfl ?_); refine goesL_ (some 59) rfl rfl Try.func10 (by kernel_rfl) rfl #[.agg #[.int .i64 a0_0, .slice A0_1 l0_1.length c0_1, .slice A0_2 l0_2.length c0_2], .slice A1 l1.length c1] rfl gl_ ?_; (with_reducible refine (standstillref07_Fits.calls kj17 a0_0 _ _ l0_1 _ _ l0_2 _ _ l1 false _ ?side1 ?side2 ?side3 ?side4 ?side5 ?side6 A35.out).mono ?_); (case side1 => exact ck_ (Kd.C_below HR0_1.out HB.out)); (case side2 => exact HC0_1.out); (case side3 => exact ck_ (Kd.C_below HR0_2.out HB.out)); (case side4 => exact HC0_2.out); (case side5 => exact ck_ (Kd.C_below HR1.out HB.out)); (case side6 => exact HC1.out); rintro e w90 ⟨rfl, hb⟩; refine ⟨_, rfl, ?_⟩; have n0_ := A_ (Kd.R_below (rk_ HO229.out) hb); have n1_ := A_ (Kd.R_below (rk_ HO233.out) hb); have n2_ := A_ (blk_below (pk_ BK220.out) hb); have n3_ := A_ (below_step (bk_ HB.out) hb); clear HO229 HO233 BK220 HB; have HO229 := n0_; have HO233 := n1_; have BK220 := n2_; have HB := n3_; clear n0_ n1_ n2_ n3_; (try clear hb); (try clear hb2); (try clear hk); (try clear hi); obtain ⟨Ao91, co91, eo91⟩ := Kd.R_slice HO229.out; subst eo91; obtain ⟨Ao92, co92, eo92⟩ := Kd.R_slice HO233.out; subst eo92) | (go_at_call 11; (with_reducible refine (standstilllaw07_awake.calls kj17  t237 _ A84.out).mono ?_); rintro e w93 ⟨rfl, hb⟩; have n0_ := A_ (Kd.R_below (rk_ HO229.out) hb); have n1_ := A_ (Kd.R_below (rk_ HO233.out) hb); have n2_ := A_ (blk_below (pk_ BK220.out) hb); have n3_ := A_ (below_step (bk_ HB.out) hb); clear HO229 HO233 BK220 HB; have HO229 := n0_; have HO233 := n1_; have BK220 := n2_; have HB := n3_; clear n0_ n1_ n2_ n3_; (try clear hb); (try clear hb2); (try clear hk); (try clear hi)))
           go_ret
           exact ⟨er_, bk_ HB.out⟩
          ·rw [if_neg c83] at H
           exact absurd H (by simp)
         ·rw [if_neg c82] at H
          exact absurd H (by simp)
        ·rw [if_neg c81] at H
         exact absurd H (by simp)

/-- THE ONE PURE STATEMENT of standstilllaw07_TagRuns. -/
def standstilllaw07_TagRuns.Pure : Prop := ∀ (a0_0 : Int) (l0_1 : List (List Int)) (l0_2 : List Bool) (l1 : List Int) (a2 : Int), ((Lit.int .i64 a0_0).wf = true) → (l0_1.length * 24 ≤ 140737488351232 ∧ ∀ y_ ∈ l0_1, (y_.length * 8 ≤ 140737488351232 ∧ ∀ y__ ∈ y_, (Lit.int .i64 y__).wf = true)) → (l0_2.length * 1 ≤ 140737488351232 ∧ ∀ y_ ∈ l0_2, True) → (l1.length * 8 ≤ 140737488351232 ∧ ∀ y_ ∈ l1, (Lit.int .i64 y_).wf = true) → ((Lit.int .i64 a2).wf = true) → ∃ k, standstilllaw07_TagRuns.f k a0_0 l0_1 l0_2 l1 a2 = some true

end Go.Proofs.Ytkinnaegedbanaa.PTagRuns
