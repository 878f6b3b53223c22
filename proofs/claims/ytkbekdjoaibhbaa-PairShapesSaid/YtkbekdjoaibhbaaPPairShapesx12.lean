-- out of a turned copy of the print, by a program of this session; Lean checks it
import Derived.Test.YtkbekdjoaibhbaaPPairShapesx0
import Derived.Test.YtkbekdjoaibhbaaPPairShapesx5
import Derived.Test.YtkbekdjoaibhbaaPPairShapesx6
import Derived.Test.YtkbekdjoaibhbaaPPairShapesx7
import Derived.Test.YtkbekdjoaibhbaaPPairShapesx10
import Derived.Test.YtkbekdjoaibhbaaPPairShapesx11
namespace Go.Proofs.Ytkbekdjoaibhbaa.PPairShapes
open Go.RowKit Go.Proofs.YtkbekdjoaibhbaaW.PrintWords Go.Proofs.YtkbekdjoaibhbaaW.PrintLast Go.Proofs.YtkbekdjoaibhbaaW.PrintMore
attribute [local go_sem] max2_int min2_int max_two min_two max_three min_three max_four min_four   -- for this text's walks alone
set_option linter.unusedVariables false
set_option linter.unusedSimpArgs false

attribute [local go_sem] isSome_put_
/-! ### standstilllaw08_PairShapes: function 4 -/
mutual
def standstilllaw08_PairShapes.j0 : Nat → List Int → Int → Int → Bool → Int → List (S45) → Int → List (S45) → Option (Bool)
 | 0, _, _, _, _, _, _, _, _ => none
 | k + 1, x4, x5, x6, x25, x210000, x210001, x220000, x220001 => if x25 = true then (standstilllaw08_PairShapes.j1 k x4 x5 2 x210000 x210001 x220000 x220001) else (standstilllaw08_PairShapes.j1 k x4 x5 x6 x210000 x210001 x220000 x220001)
def standstilllaw08_PairShapes.j1 : Nat → List Int → Int → Int → Int → List (S45) → Int → List (S45) → Option (Bool)
 | 0, _, _, _, _, _, _, _ => none
 | k + 1, x4, x5, x6, x210000, x210001, x220000, x220001 => (standstillref06_Valid.f k x210000 x210001).bind fun t221 => (if t221 = true then (standstilllaw08_PairShapes.j2 k x4 x5 x6 x210000 x210001 x220000 x220001) else (standstilllaw08_PairShapes.j2 k x4 x5 1 x210000 x210001 x220000 x220001))
def standstilllaw08_PairShapes.j2 : Nat → List Int → Int → Int → Int → List (S45) → Int → List (S45) → Option (Bool)
 | 0, _, _, _, _, _, _, _ => none
 | k + 1, x4, x5, x6, x210000, x210001, x220000, x220001 => if x5 = 0 then (if x6 = 0 then ((standstillref06_Valid.f k x220000 x220001).bind fun t226 => (if t226 = true then (if x220000 = 2 then (if (x4.length : Int) = (x210001.length : Int) then ((standstillref06_Points.f k x220000 x220001 x4).bind fun t227 => (if t227 = true then (if 0 < (x4.length : Int) then (standstilllaw08_PairShapes.j3 k x4 ((rd x4 0) != 0) x210000 x210001 x220000 x220001) else (none)) else (standstilllaw08_PairShapes.j3 k x4 true x210000 x210001 x220000 x220001))) else (standstilllaw08_PairShapes.j3 k x4 true x210000 x210001 x220000 x220001)) else (standstilllaw08_PairShapes.j3 k x4 true x210000 x210001 x220000 x220001)) else (standstilllaw08_PairShapes.j3 k x4 true x210000 x210001 x220000 x220001))) else (standstilllaw08_PairShapes.j3 k x4 true x210000 x210001 x220000 x220001)) else (if x5 = x6 then ((standstillref06_Same.f k x220000 x220001 0 ([] : List (S45))).bind fun t222 => (if t222 = true then (if (x4.length : Int) = 0 then ((standstilllaw08_awake.f k).bind fun t223 => (some t223)) else (none)) else (none))) else (if x6 = 0 then (if x5 = 4 then (if (x210001.length : Int) > 40 then ((standstillref06_Same.f k x220000 x220001 0 ([] : List (S45))).bind fun t224 => (if t224 = true then (if (x4.length : Int) = 0 then ((standstilllaw08_awake.f k).bind fun t225 => (some t225)) else (none)) else (none))) else (none)) else (none)) else (none)))
def standstilllaw08_PairShapes.j3 : Nat → List Int → Bool → Int → List (S45) → Int → List (S45) → Option (Bool)
 | 0, _, _, _, _, _, _ => none
 | k + 1, x4, x92, x210000, x210001, x220000, x220001 => if x92 = true then (none) else (standstilllaw08_PairShapes.l0 k x4 0 x210000 x210001 x220000 x220001)
def standstilllaw08_PairShapes.l0 : Nat → List Int → Int → Int → List (S45) → Int → List (S45) → Option (Bool)
 | 0, _, _, _, _, _, _ => none
 | k + 1, x4, x7, x210000, x210001, x220000, x220001 => if x7 < (x4.length : Int) then (if 0 ≤ x7 then (if 0 ≤ (rd x4 x7) then (if (rd x4 x7) < (x220001.length : Int) then (if x7 < (x210001.length : Int) then (if ((((rd_T45 x220001 (rd x4 x7)).f0) == 2) != (((rd_T45 x210001 x7).f0) == 2)) = true then (none) else (standstilllaw08_PairShapes.l0 k x4 (wrap64 (x7 + 1)) x210000 x210001 x220000 x220001)) else (none)) else (none)) else (none)) else (none)) else ((standstilllaw08_awake.f k).bind fun t232 => (some t232))
end
def standstilllaw08_PairShapes.f (k : Nat) (a0_0 : Int) (l0_1 : List (S45)) : Option (Bool) := if (l0_1.length : Int) > 4000 then ((standstilllaw08_awake.f k).bind fun t210 => (some t210)) else ((pair_Two.f k a0_0 l0_1).bind fun bt211 => ((standstillref06_Valid.f k a0_0 l0_1).bind fun t220 => (if t220 = true then (standstilllaw08_PairShapes.j0 k bt211.2.2.1 bt211.2.2.2 0 (decide (a0_0 > 6)) a0_0 l0_1 bt211.1 bt211.2.1) else (standstilllaw08_PairShapes.j0 k bt211.2.2.1 bt211.2.2.2 0 false a0_0 l0_1 bt211.1 bt211.2.1))))
theorem standstilllaw08_PairShapes.mono_l : ∀ k, (∀ y0 y1 y2 y3 y4 y5 y6 y7, LeO (standstilllaw08_PairShapes.j0 k y0 y1 y2 y3 y4 y5 y6 y7) (standstilllaw08_PairShapes.j0 (k + 1) y0 y1 y2 y3 y4 y5 y6 y7)) ∧ (∀ y0 y1 y2 y3 y4 y5 y6, LeO (standstilllaw08_PairShapes.j1 k y0 y1 y2 y3 y4 y5 y6) (standstilllaw08_PairShapes.j1 (k + 1) y0 y1 y2 y3 y4 y5 y6)) ∧ (∀ y0 y1 y2 y3 y4 y5 y6, LeO (standstilllaw08_PairShapes.j2 k y0 y1 y2 y3 y4 y5 y6) (standstilllaw08_PairShapes.j2 (k + 1) y0 y1 y2 y3 y4 y5 y6)) ∧ (∀ y0 y1 y2 y3 y4 y5, LeO (standstilllaw08_PairShapes.j3 k y0 y1 y2 y3 y4 y5) (standstilllaw08_PairShapes.j3 (k + 1) y0 y1 y2 y3 y4 y5)) ∧ (∀ y0 y1 y2 y3 y4 y5, LeO (standstilllaw08_PairShapes.l0 k y0 y1 y2 y3 y4 y5) (standstilllaw08_PairShapes.l0 (k + 1) y0 y1 y2 y3 y4 y5))
 | 0 => ⟨fun _ _ _ _ _ _ _ _ r h => by simp [standstilllaw08_PairShapes.j0] at h, fun _ _ _ _ _ _ _ r h => by simp [standstilllaw08_PairShapes.j1] at h, fun _ _ _ _ _ _ _ r h => by simp [standstilllaw08_PairShapes.j2] at h, fun _ _ _ _ _ _ r h => by simp [standstilllaw08_PairShapes.j3] at h, fun _ _ _ _ _ _ r h => by simp [standstilllaw08_PairShapes.l0] at h⟩
 | k + 1 => by
  obtain ⟨ih0, ih1, ih2, ih3, ih4⟩ := standstilllaw08_PairShapes.mono_l k
  refine ⟨?_, ?_, ?_, ?_, ?_⟩
  ·intro y0 y1 y2 y3 y4 y5 y6 y7
   unfold standstilllaw08_PairShapes.j0
   repeat' first
   | (with_reducible exact ih0 _ _ _ _ _ _ _ _)
   | (with_reducible exact ih1 _ _ _ _ _ _ _)
   | (with_reducible exact ih2 _ _ _ _ _ _ _)
   | (with_reducible exact ih3 _ _ _ _ _ _)
   | (with_reducible exact ih4 _ _ _ _ _ _)
   | (with_reducible exact pair_Two.mono _ _ _)
   | (with_reducible exact standstilllaw08_awake.mono _)
   | (with_reducible exact standstillref06_Points.mono _ _ _ _)
   | (with_reducible exact standstillref06_Same.mono _ _ _ _ _)
   | (with_reducible exact standstillref06_Valid.mono _ _ _)
   | (with_reducible exact LeO.refl _)
   | (with_reducible exact LeO.none _)
   | (with_reducible refine LeO.ite ?_ ?_)
   | (with_reducible refine LeO.bind ?_ (fun _ => ?_))
   | exact ih0 _ _ _ _ _ _ _ _
   | exact ih1 _ _ _ _ _ _ _
   | exact ih2 _ _ _ _ _ _ _
   | exact ih3 _ _ _ _ _ _
   | exact ih4 _ _ _ _ _ _
   | exact pair_Two.mono _ _ _
   | exact standstilllaw08_awake.mono _
   | exact standstillref06_Points.mono _ _ _ _
   | exact standstillref06_Same.mono _ _ _ _ _
   | exact standstillref06_Valid.mono _ _ _
   | exact LeO.none _
   | refine LeO.ite ?_ ?_
   | refine LeO.bind ?_ (fun _ => ?_)
  ·intro y0 y1 y2 y3 y4 y5 y6
   unfold standstilllaw08_PairShapes.j1
   repeat' first
   | (with_reducible exact ih0 _ _ _ _ _ _ _ _)
   | (with_reducible exact ih1 _ _ _ _ _ _ _)
   | (with_reducible exact ih2 _ _ _ _ _ _ _)
   | (with_reducible exact ih3 _ _ _ _ _ _)
   | (with_reducible exact ih4 _ _ _ _ _ _)
   | (with_reducible exact pair_Two.mono _ _ _)
   | (with_reducible exact standstilllaw08_awake.mono _)
   | (with_reducible exact standstillref06_Points.mono _ _ _ _)
   | (with_reducible exact standstillref06_Same.mono _ _ _ _ _)
   | (with_reducible exact standstillref06_Valid.mono _ _ _)
   | (with_reducible exact LeO.refl _)
   | (with_reducible exact LeO.none _)
   | (with_reducible refine LeO.ite ?_ ?_)
   | (with_reducible refine LeO.bind ?_ (fun _ => ?_))
   | exact ih0 _ _ _ _ _ _ _ _
   | exact ih1 _ _ _ _ _ _ _
   | exact ih2 _ _ _ _ _ _ _
   | exact ih3 _ _ _ _ _ _
   | exact ih4 _ _ _ _ _ _
   | exact pair_Two.mono _ _ _
   | exact standstilllaw08_awake.mono _
   | exact standstillref06_Points.mono _ _ _ _
   | exact standstillref06_Same.mono _ _ _ _ _
   | exact standstillref06_Valid.mono _ _ _
   | exact LeO.none _
   | refine LeO.ite ?_ ?_
   | refine LeO.bind ?_ (fun _ => ?_)
  ·intro y0 y1 y2 y3 y4 y5 y6
   unfold standstilllaw08_PairShapes.j2
   repeat' first
   | (with_reducible exact ih0 _ _ _ _ _ _ _ _)
   | (with_reducible exact ih1 _ _ _ _ _ _ _)
   | (with_reducible exact ih2 _ _ _ _ _ _ _)
   | (with_reducible exact ih3 _ _ _ _ _ _)
   | (with_reducible exact ih4 _ _ _ _ _ _)
   | (with_reducible exact pair_Two.mono _ _ _)
   | (with_reducible exact standstilllaw08_awake.mono _)
   | (with_reducible exact standstillref06_Points.mono _ _ _ _)
   | (with_reducible exact standstillref06_Same.mono _ _ _ _ _)
   | (with_reducible exact standstillref06_Valid.mono _ _ _)
   | (with_reducible exact LeO.refl _)
   | (with_reducible exact LeO.none _)
   | (with_reducible refine LeO.ite ?_ ?_)
   | (with_reducible refine LeO.bind ?_ (fun _ => ?_))
   | exact ih0 _ _ _ _ _ _ _ _
   | exact ih1 _ _ _ _ _ _ _
   | exact ih2 _ _ _ _ _ _ _
   | exact ih3 _ _ _ _ _ _
   | exact ih4 _ _ _ _ _ _
   | exact pair_Two.mono _ _ _
   | exact standstilllaw08_awake.mono _
   | exact standstillref06_Points.mono _ _ _ _
   | exact standstillref06_Same.mono _ _ _ _ _
   | exact standstillref06_Valid.mono _ _ _
   | exact LeO.none _
   | refine LeO.ite ?_ ?_
   | refine LeO.bind ?_ (fun _ => ?_)
  ·intro y0 y1 y2 y3 y4 y5
   unfold standstilllaw08_PairShapes.j3
   repeat' first
   | (with_reducible exact ih0 _ _ _ _ _ _ _ _)
   | (with_reducible exact ih1 _ _ _ _ _ _ _)
   | (with_reducible exact ih2 _ _ _ _ _ _ _)
   | (with_reducible exact ih3 _ _ _ _ _ _)
   | (with_reducible exact ih4 _ _ _ _ _ _)
   | (with_reducible exact pair_Two.mono _ _ _)
   | (with_reducible exact standstilllaw08_awake.mono _)
   | (with_reducible exact standstillref06_Points.mono _ _ _ _)
   | (with_reducible exact standstillref06_Same.mono _ _ _ _ _)
   | (with_reducible exact standstillref06_Valid.mono _ _ _)
   | (with_reducible exact LeO.refl _)
   | (with_reducible exact LeO.none _)
   | (with_reducible refine LeO.ite ?_ ?_)
   | (with_reducible refine LeO.bind ?_ (fun _ => ?_))
   | exact ih0 _ _ _ _ _ _ _ _
   | exact ih1 _ _ _ _ _ _ _
   | exact ih2 _ _ _ _ _ _ _
   | exact ih3 _ _ _ _ _ _
   | exact ih4 _ _ _ _ _ _
   | exact pair_Two.mono _ _ _
   | exact standstilllaw08_awake.mono _
   | exact standstillref06_Points.mono _ _ _ _
   | exact standstillref06_Same.mono _ _ _ _ _
   | exact standstillref06_Valid.mono _ _ _
   | exact LeO.none _
   | refine LeO.ite ?_ ?_
   | refine LeO.bind ?_ (fun _ => ?_)
  ·intro y0 y1 y2 y3 y4 y5
   unfold standstilllaw08_PairShapes.l0
   repeat' first
   | (with_reducible exact ih0 _ _ _ _ _ _ _ _)
   | (with_reducible exact ih1 _ _ _ _ _ _ _)
   | (with_reducible exact ih2 _ _ _ _ _ _ _)
   | (with_reducible exact ih3 _ _ _ _ _ _)
   | (with_reducible exact ih4 _ _ _ _ _ _)
   | (with_reducible exact pair_Two.mono _ _ _)
   | (with_reducible exact standstilllaw08_awake.mono _)
   | (with_reducible exact standstillref06_Points.mono _ _ _ _)
   | (with_reducible exact standstillref06_Same.mono _ _ _ _ _)
   | (with_reducible exact standstillref06_Valid.mono _ _ _)
   | (with_reducible exact LeO.refl _)
   | (with_reducible exact LeO.none _)
   | (with_reducible refine LeO.ite ?_ ?_)
   | (with_reducible refine LeO.bind ?_ (fun _ => ?_))
   | exact ih0 _ _ _ _ _ _ _ _
   | exact ih1 _ _ _ _ _ _ _
   | exact ih2 _ _ _ _ _ _ _
   | exact ih3 _ _ _ _ _ _
   | exact ih4 _ _ _ _ _ _
   | exact pair_Two.mono _ _ _
   | exact standstilllaw08_awake.mono _
   | exact standstillref06_Points.mono _ _ _ _
   | exact standstillref06_Same.mono _ _ _ _ _
   | exact standstillref06_Valid.mono _ _ _
   | exact LeO.none _
   | refine LeO.ite ?_ ?_
   | refine LeO.bind ?_ (fun _ => ?_)
theorem standstilllaw08_PairShapes.mono : ∀ a0 a1 k, LeO (standstilllaw08_PairShapes.f k a0 a1) (standstilllaw08_PairShapes.f (k + 1) a0 a1) := by
 intro a0 a1 k
 obtain ⟨ih0, ih1, ih2, ih3, ih4⟩ := standstilllaw08_PairShapes.mono_l k
 unfold standstilllaw08_PairShapes.f
 repeat' first
   | (with_reducible exact ih0 _ _ _ _ _ _ _ _)
   | (with_reducible exact ih1 _ _ _ _ _ _ _)
   | (with_reducible exact ih2 _ _ _ _ _ _ _)
   | (with_reducible exact ih3 _ _ _ _ _ _)
   | (with_reducible exact ih4 _ _ _ _ _ _)
   | (with_reducible exact pair_Two.mono _ _ _)
   | (with_reducible exact standstilllaw08_awake.mono _)
   | (with_reducible exact standstillref06_Points.mono _ _ _ _)
   | (with_reducible exact standstillref06_Same.mono _ _ _ _ _)
   | (with_reducible exact standstillref06_Valid.mono _ _ _)
   | (with_reducible exact LeO.refl _)
   | (with_reducible exact LeO.none _)
   | (with_reducible refine LeO.ite ?_ ?_)
   | (with_reducible refine LeO.bind ?_ (fun _ => ?_))
   | exact ih0 _ _ _ _ _ _ _ _
   | exact ih1 _ _ _ _ _ _ _
   | exact ih2 _ _ _ _ _ _ _
   | exact ih3 _ _ _ _ _ _
   | exact ih4 _ _ _ _ _ _
   | exact pair_Two.mono _ _ _
   | exact standstilllaw08_awake.mono _
   | exact standstillref06_Points.mono _ _ _ _
   | exact standstillref06_Same.mono _ _ _ _ _
   | exact standstillref06_Valid.mono _ _ _
   | exact LeO.none _
   | refine LeO.ite ?_ ?_
   | refine LeO.bind ?_ (fun _ => ?_)
set_option maxHeartbeats 8000000 in
set_option maxRecDepth 100000 in
theorem standstilllaw08_PairShapes.calls (k : Nat) (a0_0 : Int) (A0_1 : Option Addr) (c0_1 : Nat) (l0_1 : List (S45)) (r : Bool) (w : World) (hr0_1 : Kd.C k45 w A0_1 l0_1.length l0_1) (hc0_1 : l0_1.length ≤ c0_1) (h : standstilllaw08_PairShapes.f k a0_0 l0_1 = some r) :
  Calls Try.prog 4 #[.agg #[.int .i64 a0_0, .slice A0_1 l0_1.length c0_1]] w fun e w' => e = .returned (.bool r) ∧ Below w.heap.size w w' := by
 have hu38 := Try.underlying38
 have HR0_1 := Aside0.mk hr0_1
 have HC0_1 := Aside0.mk hc0_1
 clear hr0_1 hc0_1
 have HB := A_ (Below.refl w.heap.size w)
 have H : (if (l0_1.length : Int) > 4000 then ((standstilllaw08_awake.f k).bind fun t210 => (some t210)) else ((pair_Two.f k a0_0 l0_1).bind fun bt211 => ((standstillref06_Valid.f k a0_0 l0_1).bind fun t220 => (if t220 = true then (standstilllaw08_PairShapes.j0 k bt211.2.2.1 bt211.2.2.2 0 (decide (a0_0 > 6)) a0_0 l0_1 bt211.1 bt211.2.1) else (standstilllaw08_PairShapes.j0 k bt211.2.2.1 bt211.2.2.2 0 false a0_0 l0_1 bt211.1 bt211.2.1))))) = some r := h
 clear h
 by_cases c2 : (l0_1.length : Int) > 4000
 ·rw [if_pos c2] at H
  have c2b0 : decide (4000 < (l0_1.length : Int)) = true := decide_eq_true c2
  have c2b1 : decide (4000 < l0_1.length) = true := decide_eq_true (by omega)
  clear c2
  replace H := Option.bind_eq_some_iff.mp H
  obtain ⟨t210, A30, H⟩ := H
  replace H : (some t210) = some r := H
  have A3 := Aside0.mk A30
  clear A30
  obtain rfl := Option.some.inj H
  go_enter Try.func4, Try.ntmps4
  go_wp2_with (first | ((with_reducible refine gate_dst (N := 1) rfl ?_); (try (refine gate_guard (by rfl) ?_; dsimp only)); refine box_event ?hg (N := 1) ?hd (cs := #[.int .i64 a0_0, .slice A0_1 l0_1.length c0_1]) (t := 38) ?hr ?_; (case hd => rfl); (case hg => rfl); (case hr => first | (go_simp; done) | (go_simp; rfl)); intro gb209 hg w4 hbox hb; have n0_ := A_ (below_step (bk_ HB.out) hb); have n1_ := A_ (hbox); have n2_ := A_ (bz_ hg (bk_ HB.out)); have n3_ := A_ (bz_ hg (bk_ HB.out)); clear HB; have HB := n0_; have BK209 := n1_; have GW209 := n2_; have GE209 := n3_; clear n0_ n1_ n2_ n3_ hb hbox hg; obtain ⟨hcz5_0, hcz5_1⟩ := bc2_ BK209.out; have hfz5_0 := blk_frozen BK209.out 0; have hfz5_1 := blk_frozen BK209.out 1) | (go_at_call 7; (with_reducible refine (standstilllaw08_awake.calls k  t210 _ A3.out).mono ?_); rintro e w6 ⟨rfl, hb⟩; have n0_ := A_ (blk_below (pk_ BK209.out) hb); have n1_ := A_ (below_step (bk_ HB.out) hb); clear BK209 HB; have BK209 := n0_; have HB := n1_; clear n0_ n1_; (try clear hb); (try clear hb2); (try clear hk); (try clear hi)))
  repeat (go_quiet (first | ((with_reducible refine gate_dst (N := 1) rfl ?_); (try (refine gate_guard (by rfl) ?_; dsimp only)); refine box_event ?hg (N := 1) ?hd (cs := #[.int .i64 a0_0, .slice A0_1 l0_1.length c0_1]) (t := 38) ?hr ?_; (case hd => rfl); (case hg => rfl); (case hr => first | (go_simp; done) | (go_simp; rfl)); intro gb209 hg w4 hbox hb; have n0_ := A_ (below_step (bk_ HB.out) hb); have n1_ := A_ (hbox); have n2_ := A_ (bz_ hg (bk_ HB.out)); have n3_ := A_ (bz_ hg (bk_ HB.out)); clear HB; have HB := n0_; have BK209 := n1_; have GW209 := n2_; have GE209 := n3_; clear n0_ n1_ n2_ n3_ hb hbox hg; obtain ⟨hcz5_0, hcz5_1⟩ := bc2_ BK209.out; have hfz5_0 := blk_frozen BK209.out 0; have hfz5_1 := blk_frozen BK209.out 1) | (go_at_call 7; (with_reducible refine (standstilllaw08_awake.calls k  t210 _ A3.out).mono ?_); rintro e w6 ⟨rfl, hb⟩; have n0_ := A_ (blk_below (pk_ BK209.out) hb); have n1_ := A_ (below_step (bk_ HB.out) hb); clear BK209 HB; have BK209 := n0_; have HB := n1_; clear n0_ n1_; (try clear hb); (try clear hb2); (try clear hk); (try clear hi))); try go_wp2_with (first | ((with_reducible refine gate_dst (N := 1) rfl ?_); (try (refine gate_guard (by rfl) ?_; dsimp only)); refine box_event ?hg (N := 1) ?hd (cs := #[.int .i64 a0_0, .slice A0_1 l0_1.length c0_1]) (t := 38) ?hr ?_; (case hd => rfl); (case hg => rfl); (case hr => first | (go_simp; done) | (go_simp; rfl)); intro gb209 hg w4 hbox hb; have n0_ := A_ (below_step (bk_ HB.out) hb); have n1_ := A_ (hbox); have n2_ := A_ (bz_ hg (bk_ HB.out)); have n3_ := A_ (bz_ hg (bk_ HB.out)); clear HB; have HB := n0_; have BK209 := n1_; have GW209 := n2_; have GE209 := n3_; clear n0_ n1_ n2_ n3_ hb hbox hg; obtain ⟨hcz5_0, hcz5_1⟩ := bc2_ BK209.out; have hfz5_0 := blk_frozen BK209.out 0; have hfz5_1 := blk_frozen BK209.out 1) | (go_at_call 7; (with_reducible refine (standstilllaw08_awake.calls k  t210 _ A3.out).mono ?_); rintro e w6 ⟨rfl, hb⟩; have n0_ := A_ (blk_below (pk_ BK209.out) hb); have n1_ := A_ (below_step (bk_ HB.out) hb); clear BK209 HB; have BK209 := n0_; have HB := n1_; clear n0_ n1_; (try clear hb); (try clear hb2); (try clear hk); (try clear hi))))
  go_ret
  exact ⟨er_, bk_ HB.out⟩
 ·rw [if_neg c2] at H
  have c2b0 : decide (4000 < (l0_1.length : Int)) = false := decide_eq_false c2
  have c2b1 : decide (4000 < l0_1.length) = false := decide_eq_false (by omega)
  clear c2
  replace H := Option.bind_eq_some_iff.mp H
  obtain ⟨⟨t211, t212, t215, t218⟩, A70, H⟩ := H
  replace H : ((standstillref06_Valid.f k a0_0 l0_1).bind fun t220 => (if t220 = true then (standstilllaw08_PairShapes.j0 k t215 t218 0 (decide (a0_0 > 6)) a0_0 l0_1 t211 t212) else (standstilllaw08_PairShapes.j0 k t215 t218 0 false a0_0 l0_1 t211 t212))) = some r := H
  have A7 := Aside0.mk A70
  clear A70
  have HC8 := Aside0.mk H
  clear H
  go_enter Try.func4, Try.ntmps4
  go_upto_region 5 with (first | ((with_reducible refine gate_dst (N := 1) rfl ?_); (try (refine gate_guard (by rfl) ?_; dsimp only)); refine box_event ?hg (N := 1) ?hd (cs := #[.int .i64 a0_0, .slice A0_1 l0_1.length c0_1]) (t := 38) ?hr ?_; (case hd => rfl); (case hg => rfl); (case hr => first | (go_simp; done) | (go_simp; rfl)); intro gb209 hg w9 hbox hb; have n0_ := A_ (below_step (bk_ HB.out) hb); have n1_ := A_ (hbox); have n2_ := A_ (bz_ hg (bk_ HB.out)); have n3_ := A_ (bz_ hg (bk_ HB.out)); clear HB; have HB := n0_; have BK209 := n1_; have GW209 := n2_; have GE209 := n3_; clear n0_ n1_ n2_ n3_ hb hbox hg; obtain ⟨hcz10_0, hcz10_1⟩ := bc2_ BK209.out; have hfz10_0 := blk_frozen BK209.out 0; have hfz10_1 := blk_frozen BK209.out 1) | (go_at_call 14; (with_reducible refine (pair_Two.calls k a0_0 _ _ l0_1 t211 t212 t215 t218 _ ?side1 ?side2 A7.out).mono ?_); (case side1 => exact ck_ (Kd.C_below HR0_1.out HB.out)); (case side2 => exact HC0_1.out); rintro e w11 ⟨v213, v216, rfl, ho0, ho1, hb⟩; have n0_ := A_ (Kd.R_lower ho0 (below_size (bk_ HB.out))); have n1_ := A_ (Kd.R_lower ho1 (below_size (bk_ HB.out))); have n2_ := A_ (blk_below (pk_ BK209.out) hb); have n3_ := A_ (below_step (bk_ HB.out) hb); clear BK209 HB; have HO214 := n0_; have HO217 := n1_; have BK209 := n2_; have HB := n3_; clear n0_ n1_ n2_ n3_; (try clear hb); (try clear hb2); (try clear hk); (try clear hi); (try clear ho0); (try clear ho1)) | ((with_reducible refine gate_dst (N := 3) rfl ?_); (try (refine gate_guard (by rfl) ?_; dsimp only)); refine box_event ?hg (N := 3) ?hd (cs := #[.int .i64 0, .slice none 0 0]) (t := 38) ?hr ?_; (case hd => rfl); (case hg => rfl); (case hr => first | (go_simp; done) | (go_simp; rfl)); intro gb219 hg w12 hbox hb; have n0_ := A_ (Kd.R_below (rk_ HO214.out) hb); have n1_ := A_ (Kd.R_below (rk_ HO217.out) hb); have n2_ := A_ (blk_below (pk_ BK209.out) hb); have n3_ := A_ (below_step (bk_ HB.out) hb); have n4_ := A_ (hbox); have n5_ := A_ (bz_ hg (bk_ HB.out)); have n6_ := A_ (bz_ hg (bk_ HB.out)); have n7_ := A_ (nl_ hg (pk_ BK209.out)); have n8_ := A_ (ng_ hg (pk_ BK209.out)); clear HO214 HO217 BK209 HB; have HO214 := n0_; have HO217 := n1_; have BK209 := n2_; have HB := n3_; have BK219 := n4_; have GW219 := n5_; have GE219 := n6_; have NB209_219 := n7_; have NB219_209 := n8_; clear n0_ n1_ n2_ n3_ n4_ n5_ n6_ n7_ n8_ hb hbox hg; have hnb13 := NB219_209.out; have hnc13 := NB209_219.out; obtain ⟨hcz14_0, hcz14_1⟩ := bc2_ BK219.out; have hfz14_0 := blk_frozen BK219.out 0; have hfz14_1 := blk_frozen BK219.out 1; obtain ⟨Ao15, co15, eo15⟩ := Kd.R_slice HO214.out; subst eo15))
  repeat (go_quiet (first | ((with_reducible refine gate_dst (N := 1) rfl ?_); (try (refine gate_guard (by rfl) ?_; dsimp only)); refine box_event ?hg (N := 1) ?hd (cs := #[.int .i64 a0_0, .slice A0_1 l0_1.length c0_1]) (t := 38) ?hr ?_; (case hd => rfl); (case hg => rfl); (case hr => first | (go_simp; done) | (go_simp; rfl)); intro gb209 hg w9 hbox hb; have n0_ := A_ (below_step (bk_ HB.out) hb); have n1_ := A_ (hbox); have n2_ := A_ (bz_ hg (bk_ HB.out)); have n3_ := A_ (bz_ hg (bk_ HB.out)); clear HB; have HB := n0_; have BK209 := n1_; have GW209 := n2_; have GE209 := n3_; clear n0_ n1_ n2_ n3_ hb hbox hg; obtain ⟨hcz10_0, hcz10_1⟩ := bc2_ BK209.out; have hfz10_0 := blk_frozen BK209.out 0; have hfz10_1 := blk_frozen BK209.out 1) | (go_at_call 14; (with_reducible refine (pair_Two.calls k a0_0 _ _ l0_1 t211 t212 t215 t218 _ ?side1 ?side2 A7.out).mono ?_); (case side1 => exact ck_ (Kd.C_below HR0_1.out HB.out)); (case side2 => exact HC0_1.out); rintro e w11 ⟨v213, v216, rfl, ho0, ho1, hb⟩; have n0_ := A_ (Kd.R_lower ho0 (below_size (bk_ HB.out))); have n1_ := A_ (Kd.R_lower ho1 (below_size (bk_ HB.out))); have n2_ := A_ (blk_below (pk_ BK209.out) hb); have n3_ := A_ (below_step (bk_ HB.out) hb); clear BK209 HB; have HO214 := n0_; have HO217 := n1_; have BK209 := n2_; have HB := n3_; clear n0_ n1_ n2_ n3_; (try clear hb); (try clear hb2); (try clear hk); (try clear hi); (try clear ho0); (try clear ho1)) | ((with_reducible refine gate_dst (N := 3) rfl ?_); (try (refine gate_guard (by rfl) ?_; dsimp only)); refine box_event ?hg (N := 3) ?hd (cs := #[.int .i64 0, .slice none 0 0]) (t := 38) ?hr ?_; (case hd => rfl); (case hg => rfl); (case hr => first | (go_simp; done) | (go_simp; rfl)); intro gb219 hg w12 hbox hb; have n0_ := A_ (Kd.R_below (rk_ HO214.out) hb); have n1_ := A_ (Kd.R_below (rk_ HO217.out) hb); have n2_ := A_ (blk_below (pk_ BK209.out) hb); have n3_ := A_ (below_step (bk_ HB.out) hb); have n4_ := A_ (hbox); have n5_ := A_ (bz_ hg (bk_ HB.out)); have n6_ := A_ (bz_ hg (bk_ HB.out)); have n7_ := A_ (nl_ hg (pk_ BK209.out)); have n8_ := A_ (ng_ hg (pk_ BK209.out)); clear HO214 HO217 BK209 HB; have HO214 := n0_; have HO217 := n1_; have BK209 := n2_; have HB := n3_; have BK219 := n4_; have GW219 := n5_; have GE219 := n6_; have NB209_219 := n7_; have NB219_209 := n8_; clear n0_ n1_ n2_ n3_ n4_ n5_ n6_ n7_ n8_ hb hbox hg; have hnb13 := NB219_209.out; have hnc13 := NB209_219.out; obtain ⟨hcz14_0, hcz14_1⟩ := bc2_ BK219.out; have hfz14_0 := blk_frozen BK219.out 0; have hfz14_1 := blk_frozen BK219.out 1; obtain ⟨Ao15, co15, eo15⟩ := Kd.R_slice HO214.out; subst eo15)); go_upto_region 5 with (first | ((with_reducible refine gate_dst (N := 1) rfl ?_); (try (refine gate_guard (by rfl) ?_; dsimp only)); refine box_event ?hg (N := 1) ?hd (cs := #[.int .i64 a0_0, .slice A0_1 l0_1.length c0_1]) (t := 38) ?hr ?_; (case hd => rfl); (case hg => rfl); (case hr => first | (go_simp; done) | (go_simp; rfl)); intro gb209 hg w9 hbox hb; have n0_ := A_ (below_step (bk_ HB.out) hb); have n1_ := A_ (hbox); have n2_ := A_ (bz_ hg (bk_ HB.out)); have n3_ := A_ (bz_ hg (bk_ HB.out)); clear HB; have HB := n0_; have BK209 := n1_; have GW209 := n2_; have GE209 := n3_; clear n0_ n1_ n2_ n3_ hb hbox hg; obtain ⟨hcz10_0, hcz10_1⟩ := bc2_ BK209.out; have hfz10_0 := blk_frozen BK209.out 0; have hfz10_1 := blk_frozen BK209.out 1) | (go_at_call 14; (with_reducible refine (pair_Two.calls k a0_0 _ _ l0_1 t211 t212 t215 t218 _ ?side1 ?side2 A7.out).mono ?_); (case side1 => exact ck_ (Kd.C_below HR0_1.out HB.out)); (case side2 => exact HC0_1.out); rintro e w11 ⟨v213, v216, rfl, ho0, ho1, hb⟩; have n0_ := A_ (Kd.R_lower ho0 (below_size (bk_ HB.out))); have n1_ := A_ (Kd.R_lower ho1 (below_size (bk_ HB.out))); have n2_ := A_ (blk_below (pk_ BK209.out) hb); have n3_ := A_ (below_step (bk_ HB.out) hb); clear BK209 HB; have HO214 := n0_; have HO217 := n1_; have BK209 := n2_; have HB := n3_; clear n0_ n1_ n2_ n3_; (try clear hb); (try clear hb2); (try clear hk); (try clear hi); (try clear ho0); (try clear ho1)) | ((with_reducible refine gate_dst (N := 3) rfl ?_); (try (refine gate_guard (by rfl) ?_; dsimp only)); refine box_event ?hg (N := 3) ?hd (cs := #[.int .i64 0, .slice none 0 0]) (t := 38) ?hr ?_; (case hd => rfl); (case hg => rfl); (case hr => first | (go_simp; done) | (go_simp; rfl)); intro gb219 hg w12 hbox hb; have n0_ := A_ (Kd.R_below (rk_ HO214.out) hb); have n1_ := A_ (Kd.R_below (rk_ HO217.out) hb); have n2_ := A_ (blk_below (pk_ BK209.out) hb); have n3_ := A_ (below_step (bk_ HB.out) hb); have n4_ := A_ (hbox); have n5_ := A_ (bz_ hg (bk_ HB.out)); have n6_ := A_ (bz_ hg (bk_ HB.out)); have n7_ := A_ (nl_ hg (pk_ BK209.out)); have n8_ := A_ (ng_ hg (pk_ BK209.out)); clear HO214 HO217 BK209 HB; have HO214 := n0_; have HO217 := n1_; have BK209 := n2_; have HB := n3_; have BK219 := n4_; have GW219 := n5_; have GE219 := n6_; have NB209_219 := n7_; have NB219_209 := n8_; clear n0_ n1_ n2_ n3_ n4_ n5_ n6_ n7_ n8_ hb hbox hg; have hnb13 := NB219_209.out; have hnc13 := NB209_219.out; obtain ⟨hcz14_0, hcz14_1⟩ := bc2_ BK219.out; have hfz14_0 := blk_frozen BK219.out 0; have hfz14_1 := blk_frozen BK219.out 1; obtain ⟨Ao15, co15, eo15⟩ := Kd.R_slice HO214.out; subst eo15)))
  (try simp only [Act.put, List.setIfInBounds_toArray, List.set_cons_zero, List.set_cons_succ])
  go_cut [25] (fun v25 wc => ∃ (kq : Nat) (x25_7 : Bool), v25 = .bool x25_7 ∧ Aside0 (standstilllaw08_PairShapes.j0 kq t215 t218 0 x25_7 a0_0 l0_1 t211 t212 = some r) ∧ Aside0 (kq ≤ k) ∧ Aside0 (Kd.R (Kd.int .i64) 3 wc w.heap.size (fun _ => True) v216 t215) ∧ Aside0 (Kd.R k45 45 wc w.heap.size (fun _ => True) (.slice Ao15 t212.length co15) t212) ∧ Aside0 (wc.heap[gb209]? = some (.cells #[.int .i64 a0_0, (.slice A0_1 l0_1.length c0_1)] 38 (0, 0))) ∧ Aside0 (wc.heap[gb219]? = some (.cells #[.int .i64 t211, (.slice Ao15 t212.length co15)] 38 (0, 0))) ∧ Aside0 (Below w.heap.size w wc))
  case first =>
   have H := HC8.out
   clear HC8
   replace H := Option.bind_eq_some_iff.mp H
   obtain ⟨t220, A160, H⟩ := H
   replace H : (if t220 = true then (standstilllaw08_PairShapes.j0 k t215 t218 0 (decide (a0_0 > 6)) a0_0 l0_1 t211 t212) else (standstilllaw08_PairShapes.j0 k t215 t218 0 false a0_0 l0_1 t211 t212)) = some r := H
   have A16 := Aside0.mk A160
   clear A160
   by_cases c17 : t220 = true
   ·subst c17
    have H1 : (standstilllaw08_PairShapes.j0 k t215 t218 0 (decide (a0_0 > 6)) a0_0 l0_1 t211 t212) = some r := by rw [if_pos rfl] at H; exact H
    clear H
    have H := H1
    clear H1
    have H' := Aside0.mk H
    clear H
    have hnb18 := NB209_219.out
    have hnc18 := NB219_209.out
    obtain ⟨hcz19_0, hcz19_1⟩ := bc2_ BK209.out
    have hfz19_0 := blk_frozen BK209.out 0
    have hfz19_1 := blk_frozen BK209.out 1
    go_wp2_with (first | (go_at_call 15; (with_reducible refine (standstillref06_Valid.calls k a0_0 _ _ l0_1 true _ ?side1 ?side2 A16.out).mono ?_); (case side1 => exact Kd.C_below HR0_1.out (bk_ HB.out)); (case side2 => exact HC0_1.out); rintro e w20 ⟨rfl, hb⟩; have n0_ := A_ (Kd.R_below (rz_ HO214.out BK219.out) hb); have n1_ := A_ (Kd.R_below (rz_ HO217.out BK219.out) hb); have n2_ := A_ (bf_ BK209.out NB209_219.out hb); have n3_ := A_ (blk_below (g := gb219) (o := .cells #[.int .i64 t211, .slice Ao15 t212.length co15] 38 (0, 0)) (by refine pk_ ?_; refine blk_put (cs := #[.int .i64 t211, .slice none 0 0]) ?_ 1 _ rfl; refine pk_ ?_; refine blk_put (cs := #[.int .i64 0, .slice none 0 0]) ?_ 0 _ rfl; exact pk_ BK219.out) hb); have n4_ := A_ (below_step (bk_ HB.out) hb); clear HO214 HO217 BK209 BK219 HB; have HO214 := n0_; have HO217 := n1_; have BK209 := n2_; have BK219 := n3_; have HB := n4_; clear n0_ n1_ n2_ n3_ n4_; (try clear hb); (try clear hb2); (try clear hk); (try clear hi); obtain ⟨hcz21_0, hcz21_1⟩ := bc2_ BK209.out; have hfz21_0 := blk_frozen BK209.out 0; have hfz21_1 := blk_frozen BK209.out 1))
    repeat (go_quiet (first | (go_at_call 15; (with_reducible refine (standstillref06_Valid.calls k a0_0 _ _ l0_1 true _ ?side1 ?side2 A16.out).mono ?_); (case side1 => exact Kd.C_below HR0_1.out (bk_ HB.out)); (case side2 => exact HC0_1.out); rintro e w20 ⟨rfl, hb⟩; have n0_ := A_ (Kd.R_below (rz_ HO214.out BK219.out) hb); have n1_ := A_ (Kd.R_below (rz_ HO217.out BK219.out) hb); have n2_ := A_ (bf_ BK209.out NB209_219.out hb); have n3_ := A_ (blk_below (g := gb219) (o := .cells #[.int .i64 t211, .slice Ao15 t212.length co15] 38 (0, 0)) (by refine pk_ ?_; refine blk_put (cs := #[.int .i64 t211, .slice none 0 0]) ?_ 1 _ rfl; refine pk_ ?_; refine blk_put (cs := #[.int .i64 0, .slice none 0 0]) ?_ 0 _ rfl; exact pk_ BK219.out) hb); have n4_ := A_ (below_step (bk_ HB.out) hb); clear HO214 HO217 BK209 BK219 HB; have HO214 := n0_; have HO217 := n1_; have BK209 := n2_; have BK219 := n3_; have HB := n4_; clear n0_ n1_ n2_ n3_ n4_; (try clear hb); (try clear hb2); (try clear hk); (try clear hi); obtain ⟨hcz21_0, hcz21_1⟩ := bc2_ BK209.out; have hfz21_0 := blk_frozen BK209.out 0; have hfz21_1 := blk_frozen BK209.out 1)); try go_wp2_with (first | (go_at_call 15; (with_reducible refine (standstillref06_Valid.calls k a0_0 _ _ l0_1 true _ ?side1 ?side2 A16.out).mono ?_); (case side1 => exact Kd.C_below HR0_1.out (bk_ HB.out)); (case side2 => exact HC0_1.out); rintro e w20 ⟨rfl, hb⟩; have n0_ := A_ (Kd.R_below (rz_ HO214.out BK219.out) hb); have n1_ := A_ (Kd.R_below (rz_ HO217.out BK219.out) hb); have n2_ := A_ (bf_ BK209.out NB209_219.out hb); have n3_ := A_ (blk_below (g := gb219) (o := .cells #[.int .i64 t211, .slice Ao15 t212.length co15] 38 (0, 0)) (by refine pk_ ?_; refine blk_put (cs := #[.int .i64 t211, .slice none 0 0]) ?_ 1 _ rfl; refine pk_ ?_; refine blk_put (cs := #[.int .i64 0, .slice none 0 0]) ?_ 0 _ rfl; exact pk_ BK219.out) hb); have n4_ := A_ (below_step (bk_ HB.out) hb); clear HO214 HO217 BK209 BK219 HB; have HO214 := n0_; have HO217 := n1_; have BK209 := n2_; have BK219 := n3_; have HB := n4_; clear n0_ n1_ n2_ n3_ n4_; (try clear hb); (try clear hb2); (try clear hk); (try clear hi); obtain ⟨hcz21_0, hcz21_1⟩ := bc2_ BK209.out; have hfz21_0 := blk_frozen BK209.out 0; have hfz21_1 := blk_frozen BK209.out 1)))
    go_meet
    case rel => exact ⟨_, (decide (a0_0 > 6)), jr_, H', ⟨by first | omega | exact Nat.le_refl _⟩, ⟨rk_ HO217.out⟩, ⟨rk_ HO214.out⟩, ⟨pk_ BK209.out⟩, ⟨pk_ BK219.out⟩, ⟨bk_ HB.out⟩⟩
   ·replace c17 := Bool.eq_false_iff.mpr c17
    subst c17
    have H1 : (standstilllaw08_PairShapes.j0 k t215 t218 0 false a0_0 l0_1 t211 t212) = some r := by rw [if_neg (show ¬ (false = true) by decide)] at H; exact H
    clear H
    have H := H1
    clear H1
    have H' := Aside0.mk H
    clear H
    have hnb22 := NB209_219.out
    have hnc22 := NB219_209.out
    obtain ⟨hcz23_0, hcz23_1⟩ := bc2_ BK209.out
    have hfz23_0 := blk_frozen BK209.out 0
    have hfz23_1 := blk_frozen BK209.out 1
    go_wp2_with (first | (go_at_call 15; (with_reducible refine (standstillref06_Valid.calls k a0_0 _ _ l0_1 false _ ?side1 ?side2 A16.out).mono ?_); (case side1 => exact Kd.C_below HR0_1.out (bk_ HB.out)); (case side2 => exact HC0_1.out); rintro e w24 ⟨rfl, hb⟩; have n0_ := A_ (Kd.R_below (rz_ HO214.out BK219.out) hb); have n1_ := A_ (Kd.R_below (rz_ HO217.out BK219.out) hb); have n2_ := A_ (bf_ BK209.out NB209_219.out hb); have n3_ := A_ (blk_below (g := gb219) (o := .cells #[.int .i64 t211, .slice Ao15 t212.length co15] 38 (0, 0)) (by refine pk_ ?_; refine blk_put (cs := #[.int .i64 t211, .slice none 0 0]) ?_ 1 _ rfl; refine pk_ ?_; refine blk_put (cs := #[.int .i64 0, .slice none 0 0]) ?_ 0 _ rfl; exact pk_ BK219.out) hb); have n4_ := A_ (below_step (bk_ HB.out) hb); clear HO214 HO217 BK209 BK219 HB; have HO214 := n0_; have HO217 := n1_; have BK209 := n2_; have BK219 := n3_; have HB := n4_; clear n0_ n1_ n2_ n3_ n4_; (try clear hb); (try clear hb2); (try clear hk); (try clear hi)))
    repeat (go_quiet (first | (go_at_call 15; (with_reducible refine (standstillref06_Valid.calls k a0_0 _ _ l0_1 false _ ?side1 ?side2 A16.out).mono ?_); (case side1 => exact Kd.C_below HR0_1.out (bk_ HB.out)); (case side2 => exact HC0_1.out); rintro e w24 ⟨rfl, hb⟩; have n0_ := A_ (Kd.R_below (rz_ HO214.out BK219.out) hb); have n1_ := A_ (Kd.R_below (rz_ HO217.out BK219.out) hb); have n2_ := A_ (bf_ BK209.out NB209_219.out hb); have n3_ := A_ (blk_below (g := gb219) (o := .cells #[.int .i64 t211, .slice Ao15 t212.length co15] 38 (0, 0)) (by refine pk_ ?_; refine blk_put (cs := #[.int .i64 t211, .slice none 0 0]) ?_ 1 _ rfl; refine pk_ ?_; refine blk_put (cs := #[.int .i64 0, .slice none 0 0]) ?_ 0 _ rfl; exact pk_ BK219.out) hb); have n4_ := A_ (below_step (bk_ HB.out) hb); clear HO214 HO217 BK209 BK219 HB; have HO214 := n0_; have HO217 := n1_; have BK209 := n2_; have BK219 := n3_; have HB := n4_; clear n0_ n1_ n2_ n3_ n4_; (try clear hb); (try clear hb2); (try clear hk); (try clear hi))); try go_wp2_with (first | (go_at_call 15; (with_reducible refine (standstillref06_Valid.calls k a0_0 _ _ l0_1 false _ ?side1 ?side2 A16.out).mono ?_); (case side1 => exact Kd.C_below HR0_1.out (bk_ HB.out)); (case side2 => exact HC0_1.out); rintro e w24 ⟨rfl, hb⟩; have n0_ := A_ (Kd.R_below (rz_ HO214.out BK219.out) hb); have n1_ := A_ (Kd.R_below (rz_ HO217.out BK219.out) hb); have n2_ := A_ (bf_ BK209.out NB209_219.out hb); have n3_ := A_ (blk_below (g := gb219) (o := .cells #[.int .i64 t211, .slice Ao15 t212.length co15] 38 (0, 0)) (by refine pk_ ?_; refine blk_put (cs := #[.int .i64 t211, .slice none 0 0]) ?_ 1 _ rfl; refine pk_ ?_; refine blk_put (cs := #[.int .i64 0, .slice none 0 0]) ?_ 0 _ rfl; exact pk_ BK219.out) hb); have n4_ := A_ (below_step (bk_ HB.out) hb); clear HO214 HO217 BK209 BK219 HB; have HO214 := n0_; have HO217 := n1_; have BK209 := n2_; have BK219 := n3_; have HB := n4_; clear n0_ n1_ n2_ n3_ n4_; (try clear hb); (try clear hb2); (try clear hk); (try clear hi))))
    go_meet
    case rel => exact ⟨_, (false), jr_, H', ⟨by first | omega | exact Nat.le_refl _⟩, ⟨rk_ HO217.out⟩, ⟨rk_ HO214.out⟩, ⟨pk_ BK209.out⟩, ⟨pk_ BK219.out⟩, ⟨bk_ HB.out⟩⟩
  case rest =>
   clear HC8
   (try clear c2); (try clear c2b0); (try clear c2b1); (try clear hcz10_0); (try clear hcz10_1); (try clear hcz14_0); (try clear hcz14_1); (try clear hfz10_0); (try clear hfz10_1); (try clear hfz14_0); (try clear hfz14_1)
   obtain ⟨kq, x25_7, rfl, HA, HJ7, HO_4, HO_220001, BK209, BK219, HB⟩ := hcut
   cases kq with
   | zero => exact absurd HA.out (by simp [standstilllaw08_PairShapes.j0])
   | succ kj7 =>
    have H := HA.out
    clear HA
    simp only [standstilllaw08_PairShapes.j0] at H
    have HC25 := Aside0.mk H
    clear H
    go_upto_if 25 with (fail)
    repeat (go_quiet (fail); go_upto_if 25 with (fail))
    go_cut [6] (fun v6 wc => ∃ (kq : Nat) (x6_24 : Int), v6 = .int .i64 x6_24 ∧ Aside0 (standstilllaw08_PairShapes.j1 kq t215 t218 x6_24 a0_0 l0_1 t211 t212 = some r) ∧ Aside0 (kq ≤ kj7) ∧ Aside0 (Kd.R (Kd.int .i64) 3 wc w.heap.size (fun _ => True) v216 t215) ∧ Aside0 (Kd.R k45 45 wc w.heap.size (fun _ => True) (.slice Ao15 t212.length co15) t212) ∧ Aside0 (wc.heap[gb209]? = some (.cells #[.int .i64 a0_0, (.slice A0_1 l0_1.length c0_1)] 38 (0, 0))) ∧ Aside0 (wc.heap[gb219]? = some (.cells #[.int .i64 t211, (.slice Ao15 t212.length co15)] 38 (0, 0))) ∧ Aside0 (Below w.heap.size w wc))
    case first =>
     have H := HC25.out
     clear HC25
     by_cases c26 : x25_7 = true
     ·subst c26
      have H1 : (standstilllaw08_PairShapes.j1 kj7 t215 t218 2 a0_0 l0_1 t211 t212) = some r := by rw [if_pos rfl] at H; exact H
      clear H
      have H := H1
      clear H1
      have H' := Aside0.mk H
      clear H
      go_wp2
      repeat (go_quiet (fail); try go_wp2)
      go_meet
      case rel => exact ⟨_, (2), jr_, H', ⟨by have := HJ7.out; first | omega | exact Nat.le_refl _⟩, ⟨rk_ HO_4.out⟩, ⟨rk_ HO_220001.out⟩, ⟨pk_ BK209.out⟩, ⟨pk_ BK219.out⟩, ⟨bk_ HB.out⟩⟩
     ·replace c26 := Bool.eq_false_iff.mpr c26
      subst c26
      have H1 : (standstilllaw08_PairShapes.j1 kj7 t215 t218 0 a0_0 l0_1 t211 t212) = some r := by rw [if_neg (show ¬ (false = true) by decide)] at H; exact H
      clear H
      have H := H1
      clear H1
      have H' := Aside0.mk H
      clear H
      go_wp2
      repeat (go_quiet (fail); try go_wp2)
      go_meet
      case rel => exact ⟨_, (0), jr_, H', ⟨by have := HJ7.out; first | omega | exact Nat.le_refl _⟩, ⟨rk_ HO_4.out⟩, ⟨rk_ HO_220001.out⟩, ⟨pk_ BK209.out⟩, ⟨pk_ BK219.out⟩, ⟨bk_ HB.out⟩⟩
    case rest =>
     clear HC25
     (try clear c2); (try clear c2b0); (try clear c2b1); (try clear hcz10_0); (try clear hcz10_1); (try clear hcz14_0); (try clear hcz14_1); (try clear hfz10_0); (try clear hfz10_1); (try clear hfz14_0); (try clear hfz14_1)
     obtain ⟨kq, x6_24, rfl, HA, HJ24, HO_4, HO_220001, BK209, BK219, HB⟩ := hcut
     cases kq with
     | zero => exact absurd HA.out (by simp [standstilllaw08_PairShapes.j1])
     | succ kj24 =>
      have H := HA.out
      clear HA
      simp only [standstilllaw08_PairShapes.j1] at H
      replace H := Option.bind_eq_some_iff.mp H
      obtain ⟨t221, A270, H⟩ := H
      replace H : (if t221 = true then (standstilllaw08_PairShapes.j2 kj24 t215 t218 x6_24 a0_0 l0_1 t211 t212) else (standstilllaw08_PairShapes.j2 kj24 t215 t218 1 a0_0 l0_1 t211 t212)) = some r := H
      have A27 := Aside0.mk A270
      clear A270
      have HC28 := Aside0.mk H
      clear H
      have hnb29 := NB209_219.out
      have hnc29 := NB219_209.out
      obtain ⟨hcz30_0, hcz30_1⟩ := bc2_ BK209.out
      have hfz30_0 := blk_frozen BK209.out 0
      have hfz30_1 := blk_frozen BK209.out 1
      go_upto_if 28 with (first | (go_at_call 15; (with_reducible refine (standstillref06_Valid.calls kj24 a0_0 _ _ l0_1 t221 _ ?side1 ?side2 A27.out).mono ?_); (case side1 => exact ck_ (Kd.C_below HR0_1.out HB.out)); (case side2 => exact HC0_1.out); rintro e w31 ⟨rfl, hb⟩; have n0_ := A_ (Kd.R_below (rk_ HO_4.out) hb); have n1_ := A_ (Kd.R_below (rk_ HO_220001.out) hb); have n2_ := A_ (blk_below (pk_ BK209.out) hb); have n3_ := A_ (blk_below (pk_ BK219.out) hb); have n4_ := A_ (below_step (bk_ HB.out) hb); clear HO_4 HO_220001 BK209 BK219 HB; have HO_4 := n0_; have HO_220001 := n1_; have BK209 := n2_; have BK219 := n3_; have HB := n4_; clear n0_ n1_ n2_ n3_ n4_; (try clear hb); (try clear hb2); (try clear hk); (try clear hi)))
      repeat (go_quiet (first | (go_at_call 15; (with_reducible refine (standstillref06_Valid.calls kj24 a0_0 _ _ l0_1 t221 _ ?side1 ?side2 A27.out).mono ?_); (case side1 => exact ck_ (Kd.C_below HR0_1.out HB.out)); (case side2 => exact HC0_1.out); rintro e w31 ⟨rfl, hb⟩; have n0_ := A_ (Kd.R_below (rk_ HO_4.out) hb); have n1_ := A_ (Kd.R_below (rk_ HO_220001.out) hb); have n2_ := A_ (blk_below (pk_ BK209.out) hb); have n3_ := A_ (blk_below (pk_ BK219.out) hb); have n4_ := A_ (below_step (bk_ HB.out) hb); clear HO_4 HO_220001 BK209 BK219 HB; have HO_4 := n0_; have HO_220001 := n1_; have BK209 := n2_; have BK219 := n3_; have HB := n4_; clear n0_ n1_ n2_ n3_ n4_; (try clear hb); (try clear hb2); (try clear hk); (try clear hi))); go_upto_if 28 with (first | (go_at_call 15; (with_reducible refine (standstillref06_Valid.calls kj24 a0_0 _ _ l0_1 t221 _ ?side1 ?side2 A27.out).mono ?_); (case side1 => exact ck_ (Kd.C_below HR0_1.out HB.out)); (case side2 => exact HC0_1.out); rintro e w31 ⟨rfl, hb⟩; have n0_ := A_ (Kd.R_below (rk_ HO_4.out) hb); have n1_ := A_ (Kd.R_below (rk_ HO_220001.out) hb); have n2_ := A_ (blk_below (pk_ BK209.out) hb); have n3_ := A_ (blk_below (pk_ BK219.out) hb); have n4_ := A_ (below_step (bk_ HB.out) hb); clear HO_4 HO_220001 BK209 BK219 HB; have HO_4 := n0_; have HO_220001 := n1_; have BK209 := n2_; have BK219 := n3_; have HB := n4_; clear n0_ n1_ n2_ n3_ n4_; (try clear hb); (try clear hb2); (try clear hk); (try clear hi))))
      (try simp only [Act.put, List.setIfInBounds_toArray, List.set_cons_zero, List.set_cons_succ])
      go_cut [6] (fun v6 wc => ∃ (kq : Nat) (x6_27 : Int), v6 = .int .i64 x6_27 ∧ Aside0 (standstilllaw08_PairShapes.j2 kq t215 t218 x6_27 a0_0 l0_1 t211 t212 = some r) ∧ Aside0 (kq ≤ kj24) ∧ Aside0 (Kd.R (Kd.int .i64) 3 wc w.heap.size (fun _ => True) v216 t215) ∧ Aside0 (Kd.R k45 45 wc w.heap.size (fun _ => True) (.slice Ao15 t212.length co15) t212) ∧ Aside0 (wc.heap[gb209]? = some (.cells #[.int .i64 a0_0, (.slice A0_1 l0_1.length c0_1)] 38 (0, 0))) ∧ Aside0 (wc.heap[gb219]? = some (.cells #[.int .i64 t211, (.slice Ao15 t212.length co15)] 38 (0, 0))) ∧ Aside0 (Below w.heap.size w wc))
      case first =>
       have H := HC28.out
       clear HC28
       by_cases c32 : t221 = true
       ·subst c32
        have H1 : (standstilllaw08_PairShapes.j2 kj24 t215 t218 x6_24 a0_0 l0_1 t211 t212) = some r := by rw [if_pos rfl] at H; exact H
        clear H
        have H := H1
        clear H1
        have H' := Aside0.mk H
        clear H
        go_wp2
        repeat (go_quiet (fail); try go_wp2)
        go_meet
        case rel => exact ⟨_, (x6_24), jr_, H', ⟨by have := HJ7.out; have := HJ24.out; first | omega | exact Nat.le_refl _⟩, ⟨rk_ HO_4.out⟩, ⟨rk_ HO_220001.out⟩, ⟨pk_ BK209.out⟩, ⟨pk_ BK219.out⟩, ⟨bk_ HB.out⟩⟩
       ·replace c32 := Bool.eq_false_iff.mpr c32
        subst c32
        have H1 : (standstilllaw08_PairShapes.j2 kj24 t215 t218 1 a0_0 l0_1 t211 t212) = some r := by rw [if_neg (show ¬ (false = true) by decide)] at H; exact H
        clear H
        have H := H1
        clear H1
        have H' := Aside0.mk H
        clear H
        go_wp2
        repeat (go_quiet (fail); try go_wp2)
        go_meet
        case rel => exact ⟨_, (1), jr_, H', ⟨by have := HJ7.out; have := HJ24.out; first | omega | exact Nat.le_refl _⟩, ⟨rk_ HO_4.out⟩, ⟨rk_ HO_220001.out⟩, ⟨pk_ BK209.out⟩, ⟨pk_ BK219.out⟩, ⟨bk_ HB.out⟩⟩
      case rest =>
       clear HC28
       (try clear c2); (try clear c2b0); (try clear c2b1); (try clear hcz10_0); (try clear hcz10_1); (try clear hcz14_0); (try clear hcz14_1); (try clear hcz30_0); (try clear hcz30_1); (try clear hfz10_0); (try clear hfz10_1); (try clear hfz14_0); (try clear hfz14_1); (try clear hfz30_0); (try clear hfz30_1)
       obtain ⟨kq, x6_27, rfl, HA, HJ27, HO_4, HO_220001, BK209, BK219, HB⟩ := hcut
       cases kq with
       | zero => exact absurd HA.out (by simp [standstilllaw08_PairShapes.j2])
       | succ kj27 =>
        have H := HA.out
        clear HA
        simp only [standstilllaw08_PairShapes.j2] at H
        by_cases c33 : t218 = 0
        ·rw [if_pos c33] at H
         have c33b0 : (t218 == 0) = true := beq_iff_eq.mpr c33
         have c33b1 : (t218 != 0) = false := bne_eq_false_iff_eq.mpr c33
         clear c33
         have HC34 := Aside0.mk H
         clear H
         go_upto_region 11 with (fail)
         repeat (go_quiet (fail); go_upto_region 11 with (fail))
         go_cut [92] (fun v92 wc => ∃ (kq : Nat) (x92_33 : Bool), v92 = .bool x92_33 ∧ Aside0 (standstilllaw08_PairShapes.j3 kq t215 x92_33 a0_0 l0_1 t211 t212 = some r) ∧ Aside0 (kq ≤ kj27) ∧ Aside0 (Kd.R (Kd.int .i64) 3 wc w.heap.size (fun _ => True) v216 t215) ∧ Aside0 (Kd.R k45 45 wc w.heap.size (fun _ => True) (.slice Ao15 t212.length co15) t212) ∧ Aside0 (wc.heap[gb209]? = some (.cells #[.int .i64 a0_0, (.slice A0_1 l0_1.length c0_1)] 38 (0, 0))) ∧ Aside0 (wc.heap[gb219]? = some (.cells #[.int .i64 t211, (.slice Ao15 t212.length co15)] 38 (0, 0))) ∧ Aside0 (Below w.heap.size w wc))
         case first =>
          have H := HC34.out
          clear HC34
          by_cases c35 : x6_27 = 0
          ·rw [if_pos c35] at H
           have c35b0 : (x6_27 == 0) = true := beq_iff_eq.mpr c35
           have c35b1 : (x6_27 != 0) = false := bne_eq_false_iff_eq.mpr c35
           clear c35
           (first | rw [c35b0] | (simp only [i64_w, i32_w]; rw [c35b0]) | skip)
           replace H := Option.bind_eq_some_iff.mp H
           obtain ⟨t226, A360, H⟩ := H
           replace H : (if t226 = true then (if t211 = 2 then (if (t215.length : Int) = (l0_1.length : Int) then ((standstillref06_Points.f kj27 t211 t212 t215).bind fun t227 => (if t227 = true then (if 0 < (t215.length : Int) then (standstilllaw08_PairShapes.j3 kj27 t215 ((rd t215 0) != 0) a0_0 l0_1 t211 t212) else (none)) else (standstilllaw08_PairShapes.j3 kj27 t215 true a0_0 l0_1 t211 t212))) else (standstilllaw08_PairShapes.j3 kj27 t215 true a0_0 l0_1 t211 t212)) else (standstilllaw08_PairShapes.j3 kj27 t215 true a0_0 l0_1 t211 t212)) else (standstilllaw08_PairShapes.j3 kj27 t215 true a0_0 l0_1 t211 t212)) = some r := H
           have A36 := Aside0.mk A360
           clear A360
           by_cases c37 : t226 = true
           ·subst c37
            have H1 : (if t211 = 2 then (if (t215.length : Int) = (l0_1.length : Int) then ((standstillref06_Points.f kj27 t211 t212 t215).bind fun t227 => (if t227 = true then (if 0 < (t215.length : Int) then (standstilllaw08_PairShapes.j3 kj27 t215 ((rd t215 0) != 0) a0_0 l0_1 t211 t212) else (none)) else (standstilllaw08_PairShapes.j3 kj27 t215 true a0_0 l0_1 t211 t212))) else (standstilllaw08_PairShapes.j3 kj27 t215 true a0_0 l0_1 t211 t212)) else (standstilllaw08_PairShapes.j3 kj27 t215 true a0_0 l0_1 t211 t212)) = some r := by rw [if_pos rfl] at H; exact H
            clear H
            have H := H1
            clear H1
            by_cases c38 : t211 = 2
            ·rw [if_pos c38] at H
             have c38b0 : (t211 == 2) = true := beq_iff_eq.mpr c38
             have c38b1 : (t211 != 2) = false := bne_eq_false_iff_eq.mpr c38
             clear c38
             by_cases c39 : (t215.length : Int) = (l0_1.length : Int)
             ·rw [if_pos c39] at H
              have c39b0 : ((t215.length : Int) == (l0_1.length : Int)) = true := beq_iff_eq.mpr c39
              have c39b1 : ((t215.length : Int) != (l0_1.length : Int)) = false := bne_eq_false_iff_eq.mpr c39
              have c39b2 : (t215.length == l0_1.length) = true := by first | simpa using c39 | (simp at c39 ⊢; omega)
              clear c39
              replace H := Option.bind_eq_some_iff.mp H
              obtain ⟨t227, A400, H⟩ := H
              replace H : (if t227 = true then (if 0 < (t215.length : Int) then (standstilllaw08_PairShapes.j3 kj27 t215 ((rd t215 0) != 0) a0_0 l0_1 t211 t212) else (none)) else (standstilllaw08_PairShapes.j3 kj27 t215 true a0_0 l0_1 t211 t212)) = some r := H
              have A40 := Aside0.mk A400
              clear A400
              by_cases c41 : t227 = true
              ·subst c41
               have H1 : (if 0 < (t215.length : Int) then (standstilllaw08_PairShapes.j3 kj27 t215 ((rd t215 0) != 0) a0_0 l0_1 t211 t212) else (none)) = some r := by rw [if_pos rfl] at H; exact H
               clear H
               have H := H1
               clear H1
               by_cases c42 : 0 < (t215.length : Int)
               ·rw [if_pos c42] at H
                have c42b0 : decide (0 < (t215.length : Int)) = true := decide_eq_true c42
                have c42b1 : decide (0 < t215.length) = true := decide_eq_true (by omega)
                clear c42
                have H' := Aside0.mk H
                clear H
                have hnb43 := NB219_209.out
                have hnc43 := NB209_219.out
                obtain ⟨hcz44_0, hcz44_1⟩ := bc2_ BK219.out
                have hfz44_0 := blk_frozen BK219.out 0
                have hfz44_1 := blk_frozen BK219.out 1
                go_wp2_with (first | (go_at_call 15; (with_reducible refine (standstillref06_Valid.calls kj27 t211 _ _ t212 true _ ?side1 ?side2 A36.out).mono ?_); (case side1 => repeat (first | exact (Kd.R_reads' HO_220001.out).2.2 | (with_reducible refine Kd.C_alloc ?_ _) | (with_reducible refine Kd.C_drewN ?_ _) | (with_reducible refine Kd.C_drew ?_))); (case side2 => exact (Kd.R_reads' HO_220001.out).2.1); rintro e w45 ⟨rfl, hb⟩; have n0_ := A_ (Kd.R_below (rk_ HO_4.out) hb); have n1_ := A_ (Kd.R_below (rk_ HO_220001.out) hb); have n2_ := A_ (blk_below (pk_ BK209.out) hb); have n3_ := A_ (blk_below (pk_ BK219.out) hb); have n4_ := A_ (below_step (bk_ HB.out) hb); clear HO_4 HO_220001 BK209 BK219 HB; have HO_4 := n0_; have HO_220001 := n1_; have BK209 := n2_; have BK219 := n3_; have HB := n4_; clear n0_ n1_ n2_ n3_ n4_; (try clear hb); (try clear hb2); (try clear hk); (try clear hi); obtain ⟨hcz46_0, hcz46_1⟩ := bc2_ BK219.out; have hfz46_0 := blk_frozen BK219.out 0; have hfz46_1 := blk_frozen BK219.out 1; obtain ⟨Ao47, co47, eo47⟩ := Kd.R_slice HO_4.out; subst eo47; obtain ⟨hcz48_0, hcz48_1⟩ := bc2_ BK209.out; have hfz48_0 := blk_frozen BK209.out 0; have hfz48_1 := blk_frozen BK209.out 1) | (go_at_call 17; (with_reducible refine (standstillref06_Points.calls kj27 t211 _ _ t212 _ _ t215 true _ ?side1 ?side2 ?side3 ?side4 A40.out).mono ?_); (case side1 => repeat (first | exact (Kd.R_reads' HO_220001.out).2.2 | (with_reducible refine Kd.C_alloc ?_ _) | (with_reducible refine Kd.C_drewN ?_ _) | (with_reducible refine Kd.C_drew ?_))); (case side2 => exact (Kd.R_reads' HO_220001.out).2.1); (case side3 => repeat (first | exact (Kd.R_reads' HO_4.out).2.2 | (with_reducible refine Kd.C_alloc ?_ _) | (with_reducible refine Kd.C_drewN ?_ _) | (with_reducible refine Kd.C_drew ?_))); (case side4 => exact (Kd.R_reads' HO_4.out).2.1); rintro e w49 ⟨rfl, hb⟩; have n0_ := A_ (Kd.R_below (rk_ HO_4.out) hb); have n1_ := A_ (Kd.R_below (rk_ HO_220001.out) hb); have n2_ := A_ (blk_below (pk_ BK209.out) hb); have n3_ := A_ (blk_below (pk_ BK219.out) hb); have n4_ := A_ (below_step (bk_ HB.out) hb); clear HO_4 HO_220001 BK209 BK219 HB; have HO_4 := n0_; have HO_220001 := n1_; have BK209 := n2_; have BK219 := n3_; have HB := n4_; clear n0_ n1_ n2_ n3_ n4_; (try clear hb); (try clear hb2); (try clear hk); (try clear hi); have p228 : 0 ≤ (0 : Int) := (by omega); have q228 : 0 < (t215.length : Int) := od_; obtain ⟨ad228, e228, hx228_0⟩ := Kd.at_int (Kd.R_reads' HO_4.out).2.2 0 p228 q228; cases e228; have qi228 : (0 < t215.length) = True := eq_true (by omega); (try rw [show ((0 : Int)).toNat = 0 from rfl] at hx228_0); (try rw [Addr.add_zero'] at hx228_0); replace p228 := eq_true p228; replace q228 := eq_true q228))
                repeat (go_quiet (first | (go_at_call 15; (with_reducible refine (standstillref06_Valid.calls kj27 t211 _ _ t212 true _ ?side1 ?side2 A36.out).mono ?_); (case side1 => repeat (first | exact (Kd.R_reads' HO_220001.out).2.2 | (with_reducible refine Kd.C_alloc ?_ _) | (with_reducible refine Kd.C_drewN ?_ _) | (with_reducible refine Kd.C_drew ?_))); (case side2 => exact (Kd.R_reads' HO_220001.out).2.1); rintro e w45 ⟨rfl, hb⟩; have n0_ := A_ (Kd.R_below (rk_ HO_4.out) hb); have n1_ := A_ (Kd.R_below (rk_ HO_220001.out) hb); have n2_ := A_ (blk_below (pk_ BK209.out) hb); have n3_ := A_ (blk_below (pk_ BK219.out) hb); have n4_ := A_ (below_step (bk_ HB.out) hb); clear HO_4 HO_220001 BK209 BK219 HB; have HO_4 := n0_; have HO_220001 := n1_; have BK209 := n2_; have BK219 := n3_; have HB := n4_; clear n0_ n1_ n2_ n3_ n4_; (try clear hb); (try clear hb2); (try clear hk); (try clear hi); obtain ⟨hcz46_0, hcz46_1⟩ := bc2_ BK219.out; have hfz46_0 := blk_frozen BK219.out 0; have hfz46_1 := blk_frozen BK219.out 1; obtain ⟨Ao47, co47, eo47⟩ := Kd.R_slice HO_4.out; subst eo47; obtain ⟨hcz48_0, hcz48_1⟩ := bc2_ BK209.out; have hfz48_0 := blk_frozen BK209.out 0; have hfz48_1 := blk_frozen BK209.out 1) | (go_at_call 17; (with_reducible refine (standstillref06_Points.calls kj27 t211 _ _ t212 _ _ t215 true _ ?side1 ?side2 ?side3 ?side4 A40.out).mono ?_); (case side1 => repeat (first | exact (Kd.R_reads' HO_220001.out).2.2 | (with_reducible refine Kd.C_alloc ?_ _) | (with_reducible refine Kd.C_drewN ?_ _) | (with_reducible refine Kd.C_drew ?_))); (case side2 => exact (Kd.R_reads' HO_220001.out).2.1); (case side3 => repeat (first | exact (Kd.R_reads' HO_4.out).2.2 | (with_reducible refine Kd.C_alloc ?_ _) | (with_reducible refine Kd.C_drewN ?_ _) | (with_reducible refine Kd.C_drew ?_))); (case side4 => exact (Kd.R_reads' HO_4.out).2.1); rintro e w49 ⟨rfl, hb⟩; have n0_ := A_ (Kd.R_below (rk_ HO_4.out) hb); have n1_ := A_ (Kd.R_below (rk_ HO_220001.out) hb); have n2_ := A_ (blk_below (pk_ BK209.out) hb); have n3_ := A_ (blk_below (pk_ BK219.out) hb); have n4_ := A_ (below_step (bk_ HB.out) hb); clear HO_4 HO_220001 BK209 BK219 HB; have HO_4 := n0_; have HO_220001 := n1_; have BK209 := n2_; have BK219 := n3_; have HB := n4_; clear n0_ n1_ n2_ n3_ n4_; (try clear hb); (try clear hb2); (try clear hk); (try clear hi); have p228 : 0 ≤ (0 : Int) := (by omega); have q228 : 0 < (t215.length : Int) := od_; obtain ⟨ad228, e228, hx228_0⟩ := Kd.at_int (Kd.R_reads' HO_4.out).2.2 0 p228 q228; cases e228; have qi228 : (0 < t215.length) = True := eq_true (by omega); (try rw [show ((0 : Int)).toNat = 0 from rfl] at hx228_0); (try rw [Addr.add_zero'] at hx228_0); replace p228 := eq_true p228; replace q228 := eq_true q228)); try go_wp2_with (first | (go_at_call 15; (with_reducible refine (standstillref06_Valid.calls kj27 t211 _ _ t212 true _ ?side1 ?side2 A36.out).mono ?_); (case side1 => repeat (first | exact (Kd.R_reads' HO_220001.out).2.2 | (with_reducible refine Kd.C_alloc ?_ _) | (with_reducible refine Kd.C_drewN ?_ _) | (with_reducible refine Kd.C_drew ?_))); (case side2 => exact (Kd.R_reads' HO_220001.out).2.1); rintro e w45 ⟨rfl, hb⟩; have n0_ := A_ (Kd.R_below (rk_ HO_4.out) hb); have n1_ := A_ (Kd.R_below (rk_ HO_220001.out) hb); have n2_ := A_ (blk_below (pk_ BK209.out) hb); have n3_ := A_ (blk_below (pk_ BK219.out) hb); have n4_ := A_ (below_step (bk_ HB.out) hb); clear HO_4 HO_220001 BK209 BK219 HB; have HO_4 := n0_; have HO_220001 := n1_; have BK209 := n2_; have BK219 := n3_; have HB := n4_; clear n0_ n1_ n2_ n3_ n4_; (try clear hb); (try clear hb2); (try clear hk); (try clear hi); obtain ⟨hcz46_0, hcz46_1⟩ := bc2_ BK219.out; have hfz46_0 := blk_frozen BK219.out 0; have hfz46_1 := blk_frozen BK219.out 1; obtain ⟨Ao47, co47, eo47⟩ := Kd.R_slice HO_4.out; subst eo47; obtain ⟨hcz48_0, hcz48_1⟩ := bc2_ BK209.out; have hfz48_0 := blk_frozen BK209.out 0; have hfz48_1 := blk_frozen BK209.out 1) | (go_at_call 17; (with_reducible refine (standstillref06_Points.calls kj27 t211 _ _ t212 _ _ t215 true _ ?side1 ?side2 ?side3 ?side4 A40.out).mono ?_); (case side1 => repeat (first | exact (Kd.R_reads' HO_220001.out).2.2 | (with_reducible refine Kd.C_alloc ?_ _) | (with_reducible refine Kd.C_drewN ?_ _) | (with_reducible refine Kd.C_drew ?_))); (case side2 => exact (Kd.R_reads' HO_220001.out).2.1); (case side3 => repeat (first | exact (Kd.R_reads' HO_4.out).2.2 | (with_reducible refine Kd.C_alloc ?_ _) | (with_reducible refine Kd.C_drewN ?_ _) | (with_reducible refine Kd.C_drew ?_))); (case side4 => exact (Kd.R_reads' HO_4.out).2.1); rintro e w49 ⟨rfl, hb⟩; have n0_ := A_ (Kd.R_below (rk_ HO_4.out) hb); have n1_ := A_ (Kd.R_below (rk_ HO_220001.out) hb); have n2_ := A_ (blk_below (pk_ BK209.out) hb); have n3_ := A_ (blk_below (pk_ BK219.out) hb); have n4_ := A_ (below_step (bk_ HB.out) hb); clear HO_4 HO_220001 BK209 BK219 HB; have HO_4 := n0_; have HO_220001 := n1_; have BK209 := n2_; have BK219 := n3_; have HB := n4_; clear n0_ n1_ n2_ n3_ n4_; (try clear hb); (try clear hb2); (try clear hk); (try clear hi); have p228 : 0 ≤ (0 : Int) := (by omega); have q228 : 0 < (t215.length : Int) := od_; obtain ⟨ad228, e228, hx228_0⟩ := Kd.at_int (Kd.R_reads' HO_4.out).2.2 0 p228 q228; cases e228; have qi228 : (0 < t215.length) = True := eq_true (by omega); (try rw [show ((0 : Int)).toNat = 0 from rfl] at hx228_0); (try rw [Addr.add_zero'] at hx228_0); replace p228 := eq_true p228; replace q228 := eq_true q228)))
                go_meet
                case rel => exact ⟨_, (((rd t215 0) != 0)), jr_, H', ⟨by have := HJ7.out; have := HJ24.out; have := HJ27.out; first | omega | exact Nat.le_refl _⟩, ⟨rk_ HO_4.out⟩, ⟨rk_ HO_220001.out⟩, ⟨pk_ BK209.out⟩, ⟨pk_ BK219.out⟩, ⟨bk_ HB.out⟩⟩
               ·rw [if_neg c42] at H
                exact absurd H (by simp)
              ·replace c41 := Bool.eq_false_iff.mpr c41
               subst c41
               have H1 : (standstilllaw08_PairShapes.j3 kj27 t215 true a0_0 l0_1 t211 t212) = some r := by rw [if_neg (show ¬ (false = true) by decide)] at H; exact H
               clear H
               have H := H1
               clear H1
               have H' := Aside0.mk H
               clear H
               have hnb50 := NB219_209.out
               have hnc50 := NB209_219.out
               obtain ⟨hcz51_0, hcz51_1⟩ := bc2_ BK219.out
               have hfz51_0 := blk_frozen BK219.out 0
               have hfz51_1 := blk_frozen BK219.out 1
               go_wp2_with (first | (go_at_call 15; (with_reducible refine (standstillref06_Valid.calls kj27 t211 _ _ t212 true _ ?side1 ?side2 A36.out).mono ?_); (case side1 => repeat (first | exact (Kd.R_reads' HO_220001.out).2.2 | (with_reducible refine Kd.C_alloc ?_ _) | (with_reducible refine Kd.C_drewN ?_ _) | (with_reducible refine Kd.C_drew ?_))); (case side2 => exact (Kd.R_reads' HO_220001.out).2.1); rintro e w52 ⟨rfl, hb⟩; have n0_ := A_ (Kd.R_below (rk_ HO_4.out) hb); have n1_ := A_ (Kd.R_below (rk_ HO_220001.out) hb); have n2_ := A_ (blk_below (pk_ BK209.out) hb); have n3_ := A_ (blk_below (pk_ BK219.out) hb); have n4_ := A_ (below_step (bk_ HB.out) hb); clear HO_4 HO_220001 BK209 BK219 HB; have HO_4 := n0_; have HO_220001 := n1_; have BK209 := n2_; have BK219 := n3_; have HB := n4_; clear n0_ n1_ n2_ n3_ n4_; (try clear hb); (try clear hb2); (try clear hk); (try clear hi); obtain ⟨hcz53_0, hcz53_1⟩ := bc2_ BK219.out; have hfz53_0 := blk_frozen BK219.out 0; have hfz53_1 := blk_frozen BK219.out 1; obtain ⟨Ao54, co54, eo54⟩ := Kd.R_slice HO_4.out; subst eo54; obtain ⟨hcz55_0, hcz55_1⟩ := bc2_ BK209.out; have hfz55_0 := blk_frozen BK209.out 0; have hfz55_1 := blk_frozen BK209.out 1) | (go_at_call 17; (with_reducible refine (standstillref06_Points.calls kj27 t211 _ _ t212 _ _ t215 false _ ?side1 ?side2 ?side3 ?side4 A40.out).mono ?_); (case side1 => repeat (first | exact (Kd.R_reads' HO_220001.out).2.2 | (with_reducible refine Kd.C_alloc ?_ _) | (with_reducible refine Kd.C_drewN ?_ _) | (with_reducible refine Kd.C_drew ?_))); (case side2 => exact (Kd.R_reads' HO_220001.out).2.1); (case side3 => repeat (first | exact (Kd.R_reads' HO_4.out).2.2 | (with_reducible refine Kd.C_alloc ?_ _) | (with_reducible refine Kd.C_drewN ?_ _) | (with_reducible refine Kd.C_drew ?_))); (case side4 => exact (Kd.R_reads' HO_4.out).2.1); rintro e w56 ⟨rfl, hb⟩; have n0_ := A_ (Kd.R_below (rk_ HO_4.out) hb); have n1_ := A_ (Kd.R_below (rk_ HO_220001.out) hb); have n2_ := A_ (blk_below (pk_ BK209.out) hb); have n3_ := A_ (blk_below (pk_ BK219.out) hb); have n4_ := A_ (below_step (bk_ HB.out) hb); clear HO_4 HO_220001 BK209 BK219 HB; have HO_4 := n0_; have HO_220001 := n1_; have BK209 := n2_; have BK219 := n3_; have HB := n4_; clear n0_ n1_ n2_ n3_ n4_; (try clear hb); (try clear hb2); (try clear hk); (try clear hi)))
               repeat (go_quiet (first | (go_at_call 15; (with_reducible refine (standstillref06_Valid.calls kj27 t211 _ _ t212 true _ ?side1 ?side2 A36.out).mono ?_); (case side1 => repeat (first | exact (Kd.R_reads' HO_220001.out).2.2 | (with_reducible refine Kd.C_alloc ?_ _) | (with_reducible refine Kd.C_drewN ?_ _) | (with_reducible refine Kd.C_drew ?_))); (case side2 => exact (Kd.R_reads' HO_220001.out).2.1); rintro e w52 ⟨rfl, hb⟩; have n0_ := A_ (Kd.R_below (rk_ HO_4.out) hb); have n1_ := A_ (Kd.R_below (rk_ HO_220001.out) hb); have n2_ := A_ (blk_below (pk_ BK209.out) hb); have n3_ := A_ (blk_below (pk_ BK219.out) hb); have n4_ := A_ (below_step (bk_ HB.out) hb); clear HO_4 HO_220001 BK209 BK219 HB; have HO_4 := n0_; have HO_220001 := n1_; have BK209 := n2_; have BK219 := n3_; have HB := n4_; clear n0_ n1_ n2_ n3_ n4_; (try clear hb); (try clear hb2); (try clear hk); (try clear hi); obtain ⟨hcz53_0, hcz53_1⟩ := bc2_ BK219.out; have hfz53_0 := blk_frozen BK219.out 0; have hfz53_1 := blk_frozen BK219.out 1; obtain ⟨Ao54, co54, eo54⟩ := Kd.R_slice HO_4.out; subst eo54; obtain ⟨hcz55_0, hcz55_1⟩ := bc2_ BK209.out; have hfz55_0 := blk_frozen BK209.out 0; have hfz55_1 := blk_frozen BK209.out 1) | (go_at_call 17; (with_reducible refine (standstillref06_Points.calls kj27 t211 _ _ t212 _ _ t215 false _ ?side1 ?side2 ?side3 ?side4 A40.out).mono ?_); (case side1 => repeat (first | exact (Kd.R_reads' HO_220001.out).2.2 | (with_reducible refine Kd.C_alloc ?_ _) | (with_reducible refine Kd.C_drewN ?_ _) | (with_reducible refine Kd.C_drew ?_))); (case side2 => exact (Kd.R_reads' HO_220001.out).2.1); (case side3 => repeat (first | exact (Kd.R_reads' HO_4.out).2.2 | (with_reducible refine Kd.C_alloc ?_ _) | (with_reducible refine Kd.C_drewN ?_ _) | (with_reducible refine Kd.C_drew ?_))); (case side4 => exact (Kd.R_reads' HO_4.out).2.1); rintro e w56 ⟨rfl, hb⟩; have n0_ := A_ (Kd.R_below (rk_ HO_4.out) hb); have n1_ := A_ (Kd.R_below (rk_ HO_220001.out) hb); have n2_ := A_ (blk_below (pk_ BK209.out) hb); have n3_ := A_ (blk_below (pk_ BK219.out) hb); have n4_ := A_ (below_step (bk_ HB.out) hb); clear HO_4 HO_220001 BK209 BK219 HB; have HO_4 := n0_; have HO_220001 := n1_; have BK209 := n2_; have BK219 := n3_; have HB := n4_; clear n0_ n1_ n2_ n3_ n4_; (try clear hb); (try clear hb2); (try clear hk); (try clear hi))); try go_wp2_with (first | (go_at_call 15; (with_reducible refine (standstillref06_Valid.calls kj27 t211 _ _ t212 true _ ?side1 ?side2 A36.out).mono ?_); (case side1 => repeat (first | exact (Kd.R_reads' HO_220001.out).2.2 | (with_reducible refine Kd.C_alloc ?_ _) | (with_reducible refine Kd.C_drewN ?_ _) | (with_reducible refine Kd.C_drew ?_))); (case side2 => exact (Kd.R_reads' HO_220001.out).2.1); rintro e w52 ⟨rfl, hb⟩; have n0_ := A_ (Kd.R_below (rk_ HO_4.out) hb); have n1_ := A_ (Kd.R_below (rk_ HO_220001.out) hb); have n2_ := A_ (blk_below (pk_ BK209.out) hb); have n3_ := A_ (blk_below (pk_ BK219.out) hb); have n4_ := A_ (below_step (bk_ HB.out) hb); clear HO_4 HO_220001 BK209 BK219 HB; have HO_4 := n0_; have HO_220001 := n1_; have BK209 := n2_; have BK219 := n3_; have HB := n4_; clear n0_ n1_ n2_ n3_ n4_; (try clear hb); (try clear hb2); (try clear hk); (try clear hi); obtain ⟨hcz53_0, hcz53_1⟩ := bc2_ BK219.out; have hfz53_0 := blk_frozen BK219.out 0; have hfz53_1 := blk_frozen BK219.out 1; obtain ⟨Ao54, co54, eo54⟩ := Kd.R_slice HO_4.out; subst eo54; obtain ⟨hcz55_0, hcz55_1⟩ := bc2_ BK209.out; have hfz55_0 := blk_frozen BK209.out 0; have hfz55_1 := blk_frozen BK209.out 1) | (go_at_call 17; (with_reducible refine (standstillref06_Points.calls kj27 t211 _ _ t212 _ _ t215 false _ ?side1 ?side2 ?side3 ?side4 A40.out).mono ?_); (case side1 => repeat (first | exact (Kd.R_reads' HO_220001.out).2.2 | (with_reducible refine Kd.C_alloc ?_ _) | (with_reducible refine Kd.C_drewN ?_ _) | (with_reducible refine Kd.C_drew ?_))); (case side2 => exact (Kd.R_reads' HO_220001.out).2.1); (case side3 => repeat (first | exact (Kd.R_reads' HO_4.out).2.2 | (with_reducible refine Kd.C_alloc ?_ _) | (with_reducible refine Kd.C_drewN ?_ _) | (with_reducible refine Kd.C_drew ?_))); (case side4 => exact (Kd.R_reads' HO_4.out).2.1); rintro e w56 ⟨rfl, hb⟩; have n0_ := A_ (Kd.R_below (rk_ HO_4.out) hb); have n1_ := A_ (Kd.R_below (rk_ HO_220001.out) hb); have n2_ := A_ (blk_below (pk_ BK209.out) hb); have n3_ := A_ (blk_below (pk_ BK219.out) hb); have n4_ := A_ (below_step (bk_ HB.out) hb); clear HO_4 HO_220001 BK209 BK219 HB; have HO_4 := n0_; have HO_220001 := n1_; have BK209 := n2_; have BK219 := n3_; have HB := n4_; clear n0_ n1_ n2_ n3_ n4_; (try clear hb); (try clear hb2); (try clear hk); (try clear hi))))
               go_meet
               case rel => exact ⟨_, (true), jr_, H', ⟨by have := HJ7.out; have := HJ24.out; have := HJ27.out; first | omega | exact Nat.le_refl _⟩, ⟨rk_ HO_4.out⟩, ⟨rk_ HO_220001.out⟩, ⟨pk_ BK209.out⟩, ⟨pk_ BK219.out⟩, ⟨bk_ HB.out⟩⟩
             ·rw [if_neg c39] at H
              have c39b0 : ((t215.length : Int) == (l0_1.length : Int)) = false := beq_eq_false_iff_ne.mpr c39
              have c39b1 : ((t215.length : Int) != (l0_1.length : Int)) = true := bne_iff_ne.mpr c39
              have c39b2 : (t215.length == l0_1.length) = false := by first | simpa using c39 | (simp at c39 ⊢; omega)
              have H' := Aside0.mk H
              clear H
              have hnb57 := NB219_209.out
              have hnc57 := NB209_219.out
              obtain ⟨hcz58_0, hcz58_1⟩ := bc2_ BK219.out
              have hfz58_0 := blk_frozen BK219.out 0
              have hfz58_1 := blk_frozen BK219.out 1
              go_wp2_with (first | (go_at_call 15; (with_reducible refine (standstillref06_Valid.calls kj27 t211 _ _ t212 true _ ?side1 ?side2 A36.out).mono ?_); (case side1 => repeat (first | exact (Kd.R_reads' HO_220001.out).2.2 | (with_reducible refine Kd.C_alloc ?_ _) | (with_reducible refine Kd.C_drewN ?_ _) | (with_reducible refine Kd.C_drew ?_))); (case side2 => exact (Kd.R_reads' HO_220001.out).2.1); rintro e w59 ⟨rfl, hb⟩; have n0_ := A_ (Kd.R_below (rk_ HO_4.out) hb); have n1_ := A_ (Kd.R_below (rk_ HO_220001.out) hb); have n2_ := A_ (blk_below (pk_ BK209.out) hb); have n3_ := A_ (blk_below (pk_ BK219.out) hb); have n4_ := A_ (below_step (bk_ HB.out) hb); clear HO_4 HO_220001 BK209 BK219 HB; have HO_4 := n0_; have HO_220001 := n1_; have BK209 := n2_; have BK219 := n3_; have HB := n4_; clear n0_ n1_ n2_ n3_ n4_; (try clear hb); (try clear hb2); (try clear hk); (try clear hi); obtain ⟨hcz60_0, hcz60_1⟩ := bc2_ BK219.out; have hfz60_0 := blk_frozen BK219.out 0; have hfz60_1 := blk_frozen BK219.out 1; obtain ⟨Ao61, co61, eo61⟩ := Kd.R_slice HO_4.out; subst eo61; obtain ⟨hcz62_0, hcz62_1⟩ := bc2_ BK209.out; have hfz62_0 := blk_frozen BK209.out 0; have hfz62_1 := blk_frozen BK209.out 1))
              repeat (go_quiet (first | (go_at_call 15; (with_reducible refine (standstillref06_Valid.calls kj27 t211 _ _ t212 true _ ?side1 ?side2 A36.out).mono ?_); (case side1 => repeat (first | exact (Kd.R_reads' HO_220001.out).2.2 | (with_reducible refine Kd.C_alloc ?_ _) | (with_reducible refine Kd.C_drewN ?_ _) | (with_reducible refine Kd.C_drew ?_))); (case side2 => exact (Kd.R_reads' HO_220001.out).2.1); rintro e w59 ⟨rfl, hb⟩; have n0_ := A_ (Kd.R_below (rk_ HO_4.out) hb); have n1_ := A_ (Kd.R_below (rk_ HO_220001.out) hb); have n2_ := A_ (blk_below (pk_ BK209.out) hb); have n3_ := A_ (blk_below (pk_ BK219.out) hb); have n4_ := A_ (below_step (bk_ HB.out) hb); clear HO_4 HO_220001 BK209 BK219 HB; have HO_4 := n0_; have HO_220001 := n1_; have BK209 := n2_; have BK219 := n3_; have HB := n4_; clear n0_ n1_ n2_ n3_ n4_; (try clear hb); (try clear hb2); (try clear hk); (try clear hi); obtain ⟨hcz60_0, hcz60_1⟩ := bc2_ BK219.out; have hfz60_0 := blk_frozen BK219.out 0; have hfz60_1 := blk_frozen BK219.out 1; obtain ⟨Ao61, co61, eo61⟩ := Kd.R_slice HO_4.out; subst eo61; obtain ⟨hcz62_0, hcz62_1⟩ := bc2_ BK209.out; have hfz62_0 := blk_frozen BK209.out 0; have hfz62_1 := blk_frozen BK209.out 1)); try go_wp2_with (first | (go_at_call 15; (with_reducible refine (standstillref06_Valid.calls kj27 t211 _ _ t212 true _ ?side1 ?side2 A36.out).mono ?_); (case side1 => repeat (first | exact (Kd.R_reads' HO_220001.out).2.2 | (with_reducible refine Kd.C_alloc ?_ _) | (with_reducible refine Kd.C_drewN ?_ _) | (with_reducible refine Kd.C_drew ?_))); (case side2 => exact (Kd.R_reads' HO_220001.out).2.1); rintro e w59 ⟨rfl, hb⟩; have n0_ := A_ (Kd.R_below (rk_ HO_4.out) hb); have n1_ := A_ (Kd.R_below (rk_ HO_220001.out) hb); have n2_ := A_ (blk_below (pk_ BK209.out) hb); have n3_ := A_ (blk_below (pk_ BK219.out) hb); have n4_ := A_ (below_step (bk_ HB.out) hb); clear HO_4 HO_220001 BK209 BK219 HB; have HO_4 := n0_; have HO_220001 := n1_; have BK209 := n2_; have BK219 := n3_; have HB := n4_; clear n0_ n1_ n2_ n3_ n4_; (try clear hb); (try clear hb2); (try clear hk); (try clear hi); obtain ⟨hcz60_0, hcz60_1⟩ := bc2_ BK219.out; have hfz60_0 := blk_frozen BK219.out 0; have hfz60_1 := blk_frozen BK219.out 1; obtain ⟨Ao61, co61, eo61⟩ := Kd.R_slice HO_4.out; subst eo61; obtain ⟨hcz62_0, hcz62_1⟩ := bc2_ BK209.out; have hfz62_0 := blk_frozen BK209.out 0; have hfz62_1 := blk_frozen BK209.out 1)))
              go_meet
              case rel => exact ⟨_, (true), jr_, H', ⟨by have := HJ7.out; have := HJ24.out; have := HJ27.out; first | omega | exact Nat.le_refl _⟩, ⟨rk_ HO_4.out⟩, ⟨rk_ HO_220001.out⟩, ⟨pk_ BK209.out⟩, ⟨pk_ BK219.out⟩, ⟨bk_ HB.out⟩⟩
            ·rw [if_neg c38] at H
             have c38b0 : (t211 == 2) = false := beq_eq_false_iff_ne.mpr c38
             have c38b1 : (t211 != 2) = true := bne_iff_ne.mpr c38
             have H' := Aside0.mk H
             clear H
             have hnb63 := NB219_209.out
             have hnc63 := NB209_219.out
             obtain ⟨hcz64_0, hcz64_1⟩ := bc2_ BK219.out
             have hfz64_0 := blk_frozen BK219.out 0
             have hfz64_1 := blk_frozen BK219.out 1
             go_wp2_with (first | (go_at_call 15; (with_reducible refine (standstillref06_Valid.calls kj27 t211 _ _ t212 true _ ?side1 ?side2 A36.out).mono ?_); (case side1 => repeat (first | exact (Kd.R_reads' HO_220001.out).2.2 | (with_reducible refine Kd.C_alloc ?_ _) | (with_reducible refine Kd.C_drewN ?_ _) | (with_reducible refine Kd.C_drew ?_))); (case side2 => exact (Kd.R_reads' HO_220001.out).2.1); rintro e w65 ⟨rfl, hb⟩; have n0_ := A_ (Kd.R_below (rk_ HO_4.out) hb); have n1_ := A_ (Kd.R_below (rk_ HO_220001.out) hb); have n2_ := A_ (blk_below (pk_ BK209.out) hb); have n3_ := A_ (blk_below (pk_ BK219.out) hb); have n4_ := A_ (below_step (bk_ HB.out) hb); clear HO_4 HO_220001 BK209 BK219 HB; have HO_4 := n0_; have HO_220001 := n1_; have BK209 := n2_; have BK219 := n3_; have HB := n4_; clear n0_ n1_ n2_ n3_ n4_; (try clear hb); (try clear hb2); (try clear hk); (try clear hi); obtain ⟨hcz66_0, hcz66_1⟩ := bc2_ BK219.out; have hfz66_0 := blk_frozen BK219.out 0; have hfz66_1 := blk_frozen BK219.out 1))
             repeat (go_quiet (first | (go_at_call 15; (with_reducible refine (standstillref06_Valid.calls kj27 t211 _ _ t212 true _ ?side1 ?side2 A36.out).mono ?_); (case side1 => repeat (first | exact (Kd.R_reads' HO_220001.out).2.2 | (with_reducible refine Kd.C_alloc ?_ _) | (with_reducible refine Kd.C_drewN ?_ _) | (with_reducible refine Kd.C_drew ?_))); (case side2 => exact (Kd.R_reads' HO_220001.out).2.1); rintro e w65 ⟨rfl, hb⟩; have n0_ := A_ (Kd.R_below (rk_ HO_4.out) hb); have n1_ := A_ (Kd.R_below (rk_ HO_220001.out) hb); have n2_ := A_ (blk_below (pk_ BK209.out) hb); have n3_ := A_ (blk_below (pk_ BK219.out) hb); have n4_ := A_ (below_step (bk_ HB.out) hb); clear HO_4 HO_220001 BK209 BK219 HB; have HO_4 := n0_; have HO_220001 := n1_; have BK209 := n2_; have BK219 := n3_; have HB := n4_; clear n0_ n1_ n2_ n3_ n4_; (try clear hb); (try clear hb2); (try clear hk); (try clear hi); obtain ⟨hcz66_0, hcz66_1⟩ := bc2_ BK219.out; have hfz66_0 := blk_frozen BK219.out 0; have hfz66_1 := blk_frozen BK219.out 1)); try go_wp2_with (first | (go_at_call 15; (with_reducible refine (standstillref06_Valid.calls kj27 t211 _ _ t212 true _ ?side1 ?side2 A36.out).mono ?_); (case side1 => repeat (first | exact (Kd.R_reads' HO_220001.out).2.2 | (with_reducible refine Kd.C_alloc ?_ _) | (with_reducible refine Kd.C_drewN ?_ _) | (with_reducible refine Kd.C_drew ?_))); (case side2 => exact (Kd.R_reads' HO_220001.out).2.1); rintro e w65 ⟨rfl, hb⟩; have n0_ := A_ (Kd.R_below (rk_ HO_4.out) hb); have n1_ := A_ (Kd.R_below (rk_ HO_220001.out) hb); have n2_ := A_ (blk_below (pk_ BK209.out) hb); have n3_ := A_ (blk_below (pk_ BK219.out) hb); have n4_ := A_ (below_step (bk_ HB.out) hb); clear HO_4 HO_220001 BK209 BK219 HB; have HO_4 := n0_; have HO_220001 := n1_; have BK209 := n2_; have BK219 := n3_; have HB := n4_; clear n0_ n1_ n2_ n3_ n4_; (try clear hb); (try clear hb2); (try clear hk); (try clear hi); obtain ⟨hcz66_0, hcz66_1⟩ := bc2_ BK219.out; have hfz66_0 := blk_frozen BK219.out 0; have hfz66_1 := blk_frozen BK219.out 1)))
             go_meet
             case rel => exact ⟨_, (true), jr_, H', ⟨by have := HJ7.out; have := HJ24.out; have := HJ27.out; first | omega | exact Nat.le_refl _⟩, ⟨rk_ HO_4.out⟩, ⟨rk_ HO_220001.out⟩, ⟨pk_ BK209.out⟩, ⟨pk_ BK219.out⟩, ⟨bk_ HB.out⟩⟩
           ·replace c37 := Bool.eq_false_iff.mpr c37
            subst c37
            have H1 : (standstilllaw08_PairShapes.j3 kj27 t215 true a0_0 l0_1 t211 t212) = some r := by rw [if_neg (show ¬ (false = true) by decide)] at H; exact H
            clear H
            have H := H1
            clear H1
            have H' := Aside0.mk H
            clear H
            have hnb67 := NB219_209.out
            have hnc67 := NB209_219.out
            obtain ⟨hcz68_0, hcz68_1⟩ := bc2_ BK219.out
            have hfz68_0 := blk_frozen BK219.out 0
            have hfz68_1 := blk_frozen BK219.out 1
            go_wp2_with (first | (go_at_call 15; (with_reducible refine (standstillref06_Valid.calls kj27 t211 _ _ t212 false _ ?side1 ?side2 A36.out).mono ?_); (case side1 => repeat (first | exact (Kd.R_reads' HO_220001.out).2.2 | (with_reducible refine Kd.C_alloc ?_ _) | (with_reducible refine Kd.C_drewN ?_ _) | (with_reducible refine Kd.C_drew ?_))); (case side2 => exact (Kd.R_reads' HO_220001.out).2.1); rintro e w69 ⟨rfl, hb⟩; have n0_ := A_ (Kd.R_below (rk_ HO_4.out) hb); have n1_ := A_ (Kd.R_below (rk_ HO_220001.out) hb); have n2_ := A_ (blk_below (pk_ BK209.out) hb); have n3_ := A_ (blk_below (pk_ BK219.out) hb); have n4_ := A_ (below_step (bk_ HB.out) hb); clear HO_4 HO_220001 BK209 BK219 HB; have HO_4 := n0_; have HO_220001 := n1_; have BK209 := n2_; have BK219 := n3_; have HB := n4_; clear n0_ n1_ n2_ n3_ n4_; (try clear hb); (try clear hb2); (try clear hk); (try clear hi)))
            repeat (go_quiet (first | (go_at_call 15; (with_reducible refine (standstillref06_Valid.calls kj27 t211 _ _ t212 false _ ?side1 ?side2 A36.out).mono ?_); (case side1 => repeat (first | exact (Kd.R_reads' HO_220001.out).2.2 | (with_reducible refine Kd.C_alloc ?_ _) | (with_reducible refine Kd.C_drewN ?_ _) | (with_reducible refine Kd.C_drew ?_))); (case side2 => exact (Kd.R_reads' HO_220001.out).2.1); rintro e w69 ⟨rfl, hb⟩; have n0_ := A_ (Kd.R_below (rk_ HO_4.out) hb); have n1_ := A_ (Kd.R_below (rk_ HO_220001.out) hb); have n2_ := A_ (blk_below (pk_ BK209.out) hb); have n3_ := A_ (blk_below (pk_ BK219.out) hb); have n4_ := A_ (below_step (bk_ HB.out) hb); clear HO_4 HO_220001 BK209 BK219 HB; have HO_4 := n0_; have HO_220001 := n1_; have BK209 := n2_; have BK219 := n3_; have HB := n4_; clear n0_ n1_ n2_ n3_ n4_; (try clear hb); (try clear hb2); (try clear hk); (try clear hi))); try go_wp2_with (first | (go_at_call 15; (with_reducible refine (standstillref06_Valid.calls kj27 t211 _ _ t212 false _ ?side1 ?side2 A36.out).mono ?_); (case side1 => repeat (first | exact (Kd.R_reads' HO_220001.out).2.2 | (with_reducible refine Kd.C_alloc ?_ _) | (with_reducible refine Kd.C_drewN ?_ _) | (with_reducible refine Kd.C_drew ?_))); (case side2 => exact (Kd.R_reads' HO_220001.out).2.1); rintro e w69 ⟨rfl, hb⟩; have n0_ := A_ (Kd.R_below (rk_ HO_4.out) hb); have n1_ := A_ (Kd.R_below (rk_ HO_220001.out) hb); have n2_ := A_ (blk_below (pk_ BK209.out) hb); have n3_ := A_ (blk_below (pk_ BK219.out) hb); have n4_ := A_ (below_step (bk_ HB.out) hb); clear HO_4 HO_220001 BK209 BK219 HB; have HO_4 := n0_; have HO_220001 := n1_; have BK209 := n2_; have BK219 := n3_; have HB := n4_; clear n0_ n1_ n2_ n3_ n4_; (try clear hb); (try clear hb2); (try clear hk); (try clear hi))))
            go_meet
            case rel => exact ⟨_, (true), jr_, H', ⟨by have := HJ7.out; have := HJ24.out; have := HJ27.out; first | omega | exact Nat.le_refl _⟩, ⟨rk_ HO_4.out⟩, ⟨rk_ HO_220001.out⟩, ⟨pk_ BK209.out⟩, ⟨pk_ BK219.out⟩, ⟨bk_ HB.out⟩⟩
          ·rw [if_neg c35] at H
           have c35b0 : (x6_27 == 0) = false := beq_eq_false_iff_ne.mpr c35
           have c35b1 : (x6_27 != 0) = true := bne_iff_ne.mpr c35
           (first | rw [c35b0] | (simp only [i64_w, i32_w]; rw [c35b0]) | skip)
           have H' := Aside0.mk H
           clear H
           go_wp2
           repeat (go_quiet (fail); try go_wp2)
           go_meet
           case rel => exact ⟨_, (true), jr_, H', ⟨by have := HJ7.out; have := HJ24.out; have := HJ27.out; first | omega | exact Nat.le_refl _⟩, ⟨rk_ HO_4.out⟩, ⟨rk_ HO_220001.out⟩, ⟨pk_ BK209.out⟩, ⟨pk_ BK219.out⟩, ⟨bk_ HB.out⟩⟩
         case rest =>
          clear HC34
          (try clear c2); (try clear c2b0); (try clear c2b1); (try clear c33); (try clear c33b0); (try clear c33b1); (try clear hcz10_0); (try clear hcz10_1); (try clear hcz14_0); (try clear hcz14_1); (try clear hcz30_0); (try clear hcz30_1); (try clear hfz10_0); (try clear hfz10_1); (try clear hfz14_0); (try clear hfz14_1); (try clear hfz30_0); (try clear hfz30_1)
          obtain ⟨kq, x92_33, rfl, HA, HJ33, HO_4, HO_220001, BK209, BK219, HB⟩ := hcut
          cases kq with
          | zero => exact absurd HA.out (by simp [standstilllaw08_PairShapes.j3])
          | succ kj33 =>
           have H := HA.out
           clear HA
           simp only [standstilllaw08_PairShapes.j3] at H
           by_cases c70 : x92_33 = true
           ·subst c70
            have H1 : (none) = some r := by rw [if_pos rfl] at H; exact H
            clear H
            have H := H1
            clear H1
            exact absurd H (by simp)
           ·replace c70 := Bool.eq_false_iff.mpr c70
            subst c70
            have H1 : (standstilllaw08_PairShapes.l0 kj33 t215 0 a0_0 l0_1 t211 t212) = some r := by rw [if_neg (show ¬ (false = true) by decide)] at H; exact H
            clear H
            have H := H1
            clear H1
            have H' := Aside0.mk H
            clear H
            go_wp2
            repeat (go_quiet (fail); try go_wp2)
            go_loopg [7] kj33 (fun kq v7 w' => ∃ (x7_5 : Int), v7 = .int .i64 x7_5 ∧ Aside0 (standstilllaw08_PairShapes.l0 kq t215 x7_5 a0_0 l0_1 t211 t212 = some r) ∧ Aside0 (kq ≤ kj33) ∧ Aside0 (Kd.R (Kd.int .i64) 3 w' w.heap.size (fun _ => True) v216 t215) ∧ Aside0 (Kd.R k45 45 w' w.heap.size (fun _ => True) (.slice Ao15 t212.length co15) t212) ∧ Aside0 (w'.heap[gb209]? = some (.cells #[.int .i64 a0_0, (.slice A0_1 l0_1.length c0_1)] 38 (0, 0))) ∧ Aside0 (w'.heap[gb219]? = some (.cells #[.int .i64 t211, (.slice Ao15 t212.length co15)] 38 (0, 0))) ∧ Aside0 (Below w.heap.size w w'))
            case atStart => exact ⟨(0), jr_, H', ⟨Nat.le_refl _⟩, ⟨rk_ HO_4.out⟩, ⟨rk_ HO_220001.out⟩, ⟨pk_ BK209.out⟩, ⟨pk_ BK219.out⟩, ⟨bk_ HB.out⟩⟩
            case round =>
             clear H'
             (try clear c2); (try clear c2b0); (try clear c2b1); (try clear c33); (try clear c33b0); (try clear c33b1); (try clear c70); (try clear hcz10_0); (try clear hcz10_1); (try clear hcz14_0); (try clear hcz14_1); (try clear hcz30_0); (try clear hcz30_1); (try clear hfz10_0); (try clear hfz10_1); (try clear hfz14_0); (try clear hfz14_1); (try clear hfz30_0); (try clear hfz30_1)
             obtain ⟨x7_5, rfl, HA, HK5, HO_4, HO_220001, BK209, BK219, HB⟩ := hrel
             cases gk with
             | zero => exact absurd HA.out (by simp [standstilllaw08_PairShapes.l0])
             | succ k5 =>
              have H := HA.out
              clear HA
              simp only [standstilllaw08_PairShapes.l0] at H
              by_cases c71 : x7_5 < (t215.length : Int)
              ·rw [if_pos c71] at H
               have c71b0 : decide (x7_5 < (t215.length : Int)) = true := decide_eq_true c71
               clear c71
               by_cases c72 : 0 ≤ x7_5
               ·rw [if_pos c72] at H
                have c72b0 : decide (0 ≤ x7_5) = true := decide_eq_true c72
                clear c72
                by_cases c73 : 0 ≤ (rd t215 x7_5)
                ·rw [if_pos c73] at H
                 have c73b0 : decide (0 ≤ (rd t215 x7_5)) = true := decide_eq_true c73
                 clear c73
                 by_cases c74 : (rd t215 x7_5) < (t212.length : Int)
                 ·rw [if_pos c74] at H
                  have c74b0 : decide ((rd t215 x7_5) < (t212.length : Int)) = true := decide_eq_true c74
                  clear c74
                  by_cases c75 : x7_5 < (l0_1.length : Int)
                  ·rw [if_pos c75] at H
                   have c75b0 : decide (x7_5 < (l0_1.length : Int)) = true := decide_eq_true c75
                   clear c75
                   by_cases c76 : ((((rd_T45 t212 (rd t215 x7_5)).f0) == 2) != (((rd_T45 l0_1 x7_5).f0) == 2)) = true
                   ·rw [if_pos c76] at H
                    exact absurd H (by simp)
                   ·rw [if_neg c76] at H
                    have c76b0 : ((((rd_T45 t212 (rd t215 x7_5)).f0) == 2) != (((rd_T45 l0_1 x7_5).f0) == 2)) = false := by simpa using c76
                    (try (have c76b1 : decide ((((rd_T45 t212 (rd t215 x7_5)).f0) == 2) = (((rd_T45 l0_1 x7_5).f0) == 2)) = true := by simpa using c76))
                    (try (have c76b2 : ((((rd_T45 t212 (rd t215 x7_5)).f0) == 2) == (((rd_T45 l0_1 x7_5).f0) == 2)) = true := by simpa using c76))
                    clear c76
                    have H' := Aside0.mk H
                    clear H
                    obtain ⟨Ao77, co77, eo77⟩ := Kd.R_slice HO_4.out
                    subst eo77
                    have hnb78 := NB219_209.out
                    have hnc78 := NB209_219.out
                    obtain ⟨hcz79_0, hcz79_1⟩ := bc2_ BK219.out
                    have hfz79_0 := blk_frozen BK219.out 0
                    have hfz79_1 := blk_frozen BK219.out 1
                    have p229 : 0 ≤ (x7_5 : Int) := od_
                    have q229 : x7_5 < (t215.length : Int) := od_
                    obtain ⟨ad229, e229, hx229_0⟩ := Kd.at_int (Kd.R_reads' HO_4.out).2.2 x7_5 p229 q229
                    cases e229
                    replace p229 := eq_true p229
                    replace q229 := eq_true q229
                    have p230 : 0 ≤ ((rd t215 x7_5) : Int) := od_
                    have q230 : (rd t215 x7_5) < (t212.length : Int) := od_
                    obtain ⟨ad230, e230, hx230_0, hx230_1, hx230_2, hx230_3⟩ := at_T45 (Kd.R_reads' HO_220001.out).2.2 (rd t215 x7_5) p230 q230
                    cases e230
                    replace p230 := eq_true p230
                    replace q230 := eq_true q230
                    obtain ⟨hcz80_0, hcz80_1⟩ := bc2_ BK209.out
                    have hfz80_0 := blk_frozen BK209.out 0
                    have hfz80_1 := blk_frozen BK209.out 1
                    have p231 : 0 ≤ (x7_5 : Int) := od_
                    have q231 : x7_5 < (l0_1.length : Int) := od_
                    obtain ⟨ad231, e231, hx231_0, hx231_1, hx231_2, hx231_3⟩ := at_T45 HR0_1.out x7_5 p231 q231
                    cases e231
                    replace hx231_0 := lf_ HB.out hx231_0
                    replace hx231_1 := lf_ HB.out hx231_1
                    replace hx231_2 := lf_ HB.out hx231_2
                    replace hx231_3 := lf_ HB.out hx231_3
                    replace p231 := eq_true p231
                    replace q231 := eq_true q231
                    go_wp2
                    repeat (go_quiet (fail); try go_wp2)
                    go_roundg k5
                    case measure => have := HJ7.out; have := HJ24.out; have := HJ27.out; have := HJ33.out; have := HK5.out; omega
                    case rel => exact ⟨(wrap64 (x7_5 + 1)), jr_, H', ⟨by have := HJ7.out; have := HJ24.out; have := HJ27.out; have := HJ33.out; have := HK5.out; omega⟩, ⟨rk_ HO_4.out⟩, ⟨rk_ HO_220001.out⟩, ⟨pk_ BK209.out⟩, ⟨pk_ BK219.out⟩, ⟨bk_ HB.out⟩⟩
                  ·rw [if_neg c75] at H
                   exact absurd H (by simp)
                 ·rw [if_neg c74] at H
                  exact absurd H (by simp)
                ·rw [if_neg c73] at H
                 exact absurd H (by simp)
               ·rw [if_neg c72] at H
                exact absurd H (by simp)
              ·rw [if_neg c71] at H
               have c71b0 : decide (x7_5 < (t215.length : Int)) = false := decide_eq_false c71
               clear c71
               replace H := Option.bind_eq_some_iff.mp H
               obtain ⟨t232, A810, H⟩ := H
               replace H : (some t232) = some r := H
               have A81 := Aside0.mk A810
               clear A810
               obtain rfl := Option.some.inj H
               obtain ⟨Ao82, co82, eo82⟩ := Kd.R_slice HO_4.out
               subst eo82
               go_wp2_with (first | (go_at_call 7; (with_reducible refine (standstilllaw08_awake.calls k5  t232 _ A81.out).mono ?_); rintro e w83 ⟨rfl, hb⟩; have n0_ := A_ (Kd.R_below (rk_ HO_4.out) hb); have n1_ := A_ (Kd.R_below (rk_ HO_220001.out) hb); have n2_ := A_ (blk_below (pk_ BK209.out) hb); have n3_ := A_ (blk_below (pk_ BK219.out) hb); have n4_ := A_ (below_step (bk_ HB.out) hb); clear HO_4 HO_220001 BK209 BK219 HB; have HO_4 := n0_; have HO_220001 := n1_; have BK209 := n2_; have BK219 := n3_; have HB := n4_; clear n0_ n1_ n2_ n3_ n4_; (try clear hb); (try clear hb2); (try clear hk); (try clear hi)))
               repeat (go_quiet (first | (go_at_call 7; (with_reducible refine (standstilllaw08_awake.calls k5  t232 _ A81.out).mono ?_); rintro e w83 ⟨rfl, hb⟩; have n0_ := A_ (Kd.R_below (rk_ HO_4.out) hb); have n1_ := A_ (Kd.R_below (rk_ HO_220001.out) hb); have n2_ := A_ (blk_below (pk_ BK209.out) hb); have n3_ := A_ (blk_below (pk_ BK219.out) hb); have n4_ := A_ (below_step (bk_ HB.out) hb); clear HO_4 HO_220001 BK209 BK219 HB; have HO_4 := n0_; have HO_220001 := n1_; have BK209 := n2_; have BK219 := n3_; have HB := n4_; clear n0_ n1_ n2_ n3_ n4_; (try clear hb); (try clear hb2); (try clear hk); (try clear hi))); try go_wp2_with (first | (go_at_call 7; (with_reducible refine (standstilllaw08_awake.calls k5  t232 _ A81.out).mono ?_); rintro e w83 ⟨rfl, hb⟩; have n0_ := A_ (Kd.R_below (rk_ HO_4.out) hb); have n1_ := A_ (Kd.R_below (rk_ HO_220001.out) hb); have n2_ := A_ (blk_below (pk_ BK209.out) hb); have n3_ := A_ (blk_below (pk_ BK219.out) hb); have n4_ := A_ (below_step (bk_ HB.out) hb); clear HO_4 HO_220001 BK209 BK219 HB; have HO_4 := n0_; have HO_220001 := n1_; have BK209 := n2_; have BK219 := n3_; have HB := n4_; clear n0_ n1_ n2_ n3_ n4_; (try clear hb); (try clear hb2); (try clear hk); (try clear hi))))
               go_ret
               exact ⟨er_, bk_ HB.out⟩
        ·rw [if_neg c33] at H
         have c33b0 : (t218 == 0) = false := beq_eq_false_iff_ne.mpr c33
         have c33b1 : (t218 != 0) = true := bne_iff_ne.mpr c33
         by_cases c84 : t218 = x6_27
         ·rw [if_pos c84] at H
          have c84b0 : (t218 == x6_27) = true := beq_iff_eq.mpr c84
          have c84b1 : (t218 != x6_27) = false := bne_eq_false_iff_eq.mpr c84
          clear c84
          replace H := Option.bind_eq_some_iff.mp H
          obtain ⟨t222, A850, H⟩ := H
          replace H : (if t222 = true then (if (t215.length : Int) = 0 then ((standstilllaw08_awake.f kj27).bind fun t223 => (some t223)) else (none)) else (none)) = some r := H
          have A85 := Aside0.mk A850
          clear A850
          by_cases c86 : t222 = true
          ·subst c86
           have H1 : (if (t215.length : Int) = 0 then ((standstilllaw08_awake.f kj27).bind fun t223 => (some t223)) else (none)) = some r := by rw [if_pos rfl] at H; exact H
           clear H
           have H := H1
           clear H1
           by_cases c87 : (t215.length : Int) = 0
           ·rw [if_pos c87] at H
            have c87b0 : ((t215.length : Int) == 0) = true := beq_iff_eq.mpr c87
            have c87b1 : ((t215.length : Int) != 0) = false := bne_eq_false_iff_eq.mpr c87
            clear c87
            replace H := Option.bind_eq_some_iff.mp H
            obtain ⟨t223, A880, H⟩ := H
            replace H : (some t223) = some r := H
            have A88 := Aside0.mk A880
            clear A880
            obtain rfl := Option.some.inj H
            have hnb89 := NB219_209.out
            have hnc89 := NB209_219.out
            obtain ⟨hcz90_0, hcz90_1⟩ := bc2_ BK219.out
            have hfz90_0 := blk_frozen BK219.out 0
            have hfz90_1 := blk_frozen BK219.out 1
            go_wp2_with (first | (go_at_call 16; (refine (standstillref06_Same.calls kj27 t211 _ _ t212 0 _ _ ([] : List (S45)) true _ ?side1 ?side2 ?side3 ?side4 A85.out).mono ?_); (case side1 => repeat (first | exact (Kd.R_reads' HO_220001.out).2.2 | (with_reducible refine Kd.C_alloc ?_ _) | (with_reducible refine Kd.C_drewN ?_ _) | (with_reducible refine Kd.C_drew ?_))); (case side2 => exact (Kd.R_reads' HO_220001.out).2.1); (case side3 => exact Kd.C_nil _ _); (case side4 => exact Nat.le_refl _); rintro e w91 ⟨rfl, hb⟩; have n0_ := A_ (Kd.R_below (rk_ HO_4.out) hb); have n1_ := A_ (Kd.R_below (rk_ HO_220001.out) hb); have n2_ := A_ (blk_below (pk_ BK209.out) hb); have n3_ := A_ (blk_below (pk_ BK219.out) hb); have n4_ := A_ (below_step (bk_ HB.out) hb); clear HO_4 HO_220001 BK209 BK219 HB; have HO_4 := n0_; have HO_220001 := n1_; have BK209 := n2_; have BK219 := n3_; have HB := n4_; clear n0_ n1_ n2_ n3_ n4_; (try clear hb); (try clear hb2); (try clear hk); (try clear hi); obtain ⟨Ao92, co92, eo92⟩ := Kd.R_slice HO_4.out; subst eo92) | (go_at_call 7; (with_reducible refine (standstilllaw08_awake.calls kj27  t223 _ A88.out).mono ?_); rintro e w93 ⟨rfl, hb⟩; have n0_ := A_ (Kd.R_below (rk_ HO_4.out) hb); have n1_ := A_ (Kd.R_below (rk_ HO_220001.out) hb); have n2_ := A_ (blk_below (pk_ BK209.out) hb); have n3_ := A_ (blk_below (pk_ BK219.out) hb); have n4_ := A_ (below_step (bk_ HB.out) hb); clear HO_4 HO_220001 BK209 BK219 HB; have HO_4 := n0_; have HO_220001 := n1_; have BK209 := n2_; have BK219 := n3_; have HB := n4_; clear n0_ n1_ n2_ n3_ n4_; (try clear hb); (try clear hb2); (try clear hk); (try clear hi)))
            repeat (go_quiet (first | (go_at_call 16; (refine (standstillref06_Same.calls kj27 t211 _ _ t212 0 _ _ ([] : List (S45)) true _ ?side1 ?side2 ?side3 ?side4 A85.out).mono ?_); (case side1 => repeat (first | exact (Kd.R_reads' HO_220001.out).2.2 | (with_reducible refine Kd.C_alloc ?_ _) | (with_reducible refine Kd.C_drewN ?_ _) | (with_reducible refine Kd.C_drew ?_))); (case side2 => exact (Kd.R_reads' HO_220001.out).2.1); (case side3 => exact Kd.C_nil _ _); (case side4 => exact Nat.le_refl _); rintro e w91 ⟨rfl, hb⟩; have n0_ := A_ (Kd.R_below (rk_ HO_4.out) hb); have n1_ := A_ (Kd.R_below (rk_ HO_220001.out) hb); have n2_ := A_ (blk_below (pk_ BK209.out) hb); have n3_ := A_ (blk_below (pk_ BK219.out) hb); have n4_ := A_ (below_step (bk_ HB.out) hb); clear HO_4 HO_220001 BK209 BK219 HB; have HO_4 := n0_; have HO_220001 := n1_; have BK209 := n2_; have BK219 := n3_; have HB := n4_; clear n0_ n1_ n2_ n3_ n4_; (try clear hb); (try clear hb2); (try clear hk); (try clear hi); obtain ⟨Ao92, co92, eo92⟩ := Kd.R_slice HO_4.out; subst eo92) | (go_at_call 7; (with_reducible refine (standstilllaw08_awake.calls kj27  t223 _ A88.out).mono ?_); rintro e w93 ⟨rfl, hb⟩; have n0_ := A_ (Kd.R_below (rk_ HO_4.out) hb); have n1_ := A_ (Kd.R_below (rk_ HO_220001.out) hb); have n2_ := A_ (blk_below (pk_ BK209.out) hb); have n3_ := A_ (blk_below (pk_ BK219.out) hb); have n4_ := A_ (below_step (bk_ HB.out) hb); clear HO_4 HO_220001 BK209 BK219 HB; have HO_4 := n0_; have HO_220001 := n1_; have BK209 := n2_; have BK219 := n3_; have HB := n4_; clear n0_ n1_ n2_ n3_ n4_; (try clear hb); (try clear hb2); (try clear hk); (try clear hi))); try go_wp2_with (first | (go_at_call 16; (refine (standstillref06_Same.calls kj27 t211 _ _ t212 0 _ _ ([] : List (S45)) true _ ?side1 ?side2 ?side3 ?side4 A85.out).mono ?_); (case side1 => repeat (first | exact (Kd.R_reads' HO_220001.out).2.2 | (with_reducible refine Kd.C_alloc ?_ _) | (with_reducible refine Kd.C_drewN ?_ _) | (with_reducible refine Kd.C_drew ?_))); (case side2 => exact (Kd.R_reads' HO_220001.out).2.1); (case side3 => exact Kd.C_nil _ _); (case side4 => exact Nat.le_refl _); rintro e w91 ⟨rfl, hb⟩; have n0_ := A_ (Kd.R_below (rk_ HO_4.out) hb); have n1_ := A_ (Kd.R_below (rk_ HO_220001.out) hb); have n2_ := A_ (blk_below (pk_ BK209.out) hb); have n3_ := A_ (blk_below (pk_ BK219.out) hb); have n4_ := A_ (below_step (bk_ HB.out) hb); clear HO_4 HO_220001 BK209 BK219 HB; have HO_4 := n0_; have HO_220001 := n1_; have BK209 := n2_; have BK219 := n3_; have HB := n4_; clear n0_ n1_ n2_ n3_ n4_; (try clear hb); (try clear hb2); (try clear hk); (try clear hi); obtain ⟨Ao92, co92, eo92⟩ := Kd.R_slice HO_4.out; subst eo92) | (go_at_call 7; (with_reducible refine (standstilllaw08_awake.calls kj27  t223 _ A88.out).mono ?_); rintro e w93 ⟨rfl, hb⟩; have n0_ := A_ (Kd.R_below (rk_ HO_4.out) hb); have n1_ := A_ (Kd.R_below (rk_ HO_220001.out) hb); have n2_ := A_ (blk_below (pk_ BK209.out) hb); have n3_ := A_ (blk_below (pk_ BK219.out) hb); have n4_ := A_ (below_step (bk_ HB.out) hb); clear HO_4 HO_220001 BK209 BK219 HB; have HO_4 := n0_; have HO_220001 := n1_; have BK209 := n2_; have BK219 := n3_; have HB := n4_; clear n0_ n1_ n2_ n3_ n4_; (try clear hb); (try clear hb2); (try clear hk); (try clear hi))))
            go_ret
            exact ⟨er_, bk_ HB.out⟩
           ·rw [if_neg c87] at H
            exact absurd H (by simp)
          ·replace c86 := Bool.eq_false_iff.mpr c86
           subst c86
           have H1 : (none) = some r := by rw [if_neg (show ¬ (false = true) by decide)] at H; exact H
           clear H
           have H := H1
           clear H1
           exact absurd H (by simp)
         ·rw [if_neg c84] at H
          have c84b0 : (t218 == x6_27) = false := beq_eq_false_iff_ne.mpr c84
          have c84b1 : (t218 != x6_27) = true := bne_iff_ne.mpr c84
          by_cases c94 : x6_27 = 0
          ·rw [if_pos c94] at H
           have c94b0 : (x6_27 == 0) = true := beq_iff_eq.mpr c94
           have c94b1 : (x6_27 != 0) = false := bne_eq_false_iff_eq.mpr c94
           clear c94
           by_cases c95 : t218 = 4
           ·rw [if_pos c95] at H
            have c95b0 : (t218 == 4) = true := beq_iff_eq.mpr c95
            have c95b1 : (t218 != 4) = false := bne_eq_false_iff_eq.mpr c95
            clear c95
            by_cases c96 : (l0_1.length : Int) > 40
            ·rw [if_pos c96] at H
             have c96b0 : decide (40 < (l0_1.length : Int)) = true := decide_eq_true c96
             have c96b1 : decide (40 < l0_1.length) = true := decide_eq_true (by omega)
             clear c96
             replace H := Option.bind_eq_some_iff.mp H
             obtain ⟨t224, A970, H⟩ := H
             replace H : (if t224 = true then (if (t215.length : Int) = 0 then ((standstilllaw08_awake.f kj27).bind fun t225 => (some t225)) else (none)) else (none)) = some r := H
             have A97 := Aside0.mk A970
             clear A970
             by_cases c98 : t224 = true
             ·subst c98
              have H1 : (if (t215.length : Int) = 0 then ((standstilllaw08_awake.f kj27).bind fun t225 => (some t225)) else (none)) = some r := by rw [if_pos rfl] at H; exact H
              clear H
              have H := H1
              clear H1
              by_cases c99 : (t215.length : Int) = 0
              ·rw [if_pos c99] at H
               have c99b0 : ((t215.length : Int) == 0) = true := beq_iff_eq.mpr c99
               have c99b1 : ((t215.length : Int) != 0) = false := bne_eq_false_iff_eq.mpr c99
               clear c99
               replace H := Option.bind_eq_some_iff.mp H
               obtain ⟨t225, A1000, H⟩ := H
               replace H : (some t225) = some r := H
               have A100 := Aside0.mk A1000
               clear A1000
               obtain rfl := Option.some.inj H
               have hnb101 := NB209_219.out
               have hnc101 := NB219_209.out
               obtain ⟨hcz102_0, hcz102_1⟩ := bc2_ BK209.out
               have hfz102_0 := blk_frozen BK209.out 0
               have hfz102_1 := blk_frozen BK209.out 1
               obtain ⟨hcz103_0, hcz103_1⟩ := bc2_ BK219.out
               have hfz103_0 := blk_frozen BK219.out 0
               have hfz103_1 := blk_frozen BK219.out 1
               go_wp2_with (first | (go_at_call 16; (refine (standstillref06_Same.calls kj27 t211 _ _ t212 0 _ _ ([] : List (S45)) true _ ?side1 ?side2 ?side3 ?side4 A97.out).mono ?_); (case side1 => repeat (first | exact (Kd.R_reads' HO_220001.out).2.2 | (with_reducible refine Kd.C_alloc ?_ _) | (with_reducible refine Kd.C_drewN ?_ _) | (with_reducible refine Kd.C_drew ?_))); (case side2 => exact (Kd.R_reads' HO_220001.out).2.1); (case side3 => exact Kd.C_nil _ _); (case side4 => exact Nat.le_refl _); rintro e w104 ⟨rfl, hb⟩; have n0_ := A_ (Kd.R_below (rk_ HO_4.out) hb); have n1_ := A_ (Kd.R_below (rk_ HO_220001.out) hb); have n4_ := A_ (below_step (bk_ HB.out) hb); clear HO_4 HO_220001 HB; have HO_4 := n0_; have HO_220001 := n1_; have HB := n4_; clear n0_ n1_ n4_; (try clear hb); (try clear hb2); (try clear hk); (try clear hi); obtain ⟨Ao105, co105, eo105⟩ := Kd.R_slice HO_4.out; subst eo105) | (go_at_call 7; (with_reducible refine (standstilllaw08_awake.calls kj27  t225 _ A100.out).mono ?_); rintro e w106 ⟨rfl, hb⟩; have n0_ := A_ (Kd.R_below (rk_ HO_4.out) hb); have n1_ := A_ (Kd.R_below (rk_ HO_220001.out) hb); have n4_ := A_ (below_step (bk_ HB.out) hb); clear HO_4 HO_220001 HB; have HO_4 := n0_; have HO_220001 := n1_; have HB := n4_; clear n0_ n1_ n4_; (try clear hb); (try clear hb2); (try clear hk); (try clear hi)))
               repeat (go_quiet (first | (go_at_call 16; (refine (standstillref06_Same.calls kj27 t211 _ _ t212 0 _ _ ([] : List (S45)) true _ ?side1 ?side2 ?side3 ?side4 A97.out).mono ?_); (case side1 => repeat (first | exact (Kd.R_reads' HO_220001.out).2.2 | (with_reducible refine Kd.C_alloc ?_ _) | (with_reducible refine Kd.C_drewN ?_ _) | (with_reducible refine Kd.C_drew ?_))); (case side2 => exact (Kd.R_reads' HO_220001.out).2.1); (case side3 => exact Kd.C_nil _ _); (case side4 => exact Nat.le_refl _); rintro e w104 ⟨rfl, hb⟩; have n0_ := A_ (Kd.R_below (rk_ HO_4.out) hb); have n1_ := A_ (Kd.R_below (rk_ HO_220001.out) hb); have n4_ := A_ (below_step (bk_ HB.out) hb); clear HO_4 HO_220001 HB; have HO_4 := n0_; have HO_220001 := n1_; have HB := n4_; clear n0_ n1_ n4_; (try clear hb); (try clear hb2); (try clear hk); (try clear hi); obtain ⟨Ao105, co105, eo105⟩ := Kd.R_slice HO_4.out; subst eo105) | (go_at_call 7; (with_reducible refine (standstilllaw08_awake.calls kj27  t225 _ A100.out).mono ?_); rintro e w106 ⟨rfl, hb⟩; have n0_ := A_ (Kd.R_below (rk_ HO_4.out) hb); have n1_ := A_ (Kd.R_below (rk_ HO_220001.out) hb); have n4_ := A_ (below_step (bk_ HB.out) hb); clear HO_4 HO_220001 HB; have HO_4 := n0_; have HO_220001 := n1_; have HB := n4_; clear n0_ n1_ n4_; (try clear hb); (try clear hb2); (try clear hk); (try clear hi))); try go_wp2_with (first | (go_at_call 16; (refine (standstillref06_Same.calls kj27 t211 _ _ t212 0 _ _ ([] : List (S45)) true _ ?side1 ?side2 ?side3 ?side4 A97.out).mono ?_); (case side1 => repeat (first | exact (Kd.R_reads' HO_220001.out).2.2 | (with_reducible refine Kd.C_alloc ?_ _) | (with_reducible refine Kd.C_drewN ?_ _) | (with_reducible refine Kd.C_drew ?_))); (case side2 => exact (Kd.R_reads' HO_220001.out).2.1); (case side3 => exact Kd.C_nil _ _); (case side4 => exact Nat.le_refl _); rintro e w104 ⟨rfl, hb⟩; have n0_ := A_ (Kd.R_below (rk_ HO_4.out) hb); have n4_ := A_ (below_step (bk_ HB.out) hb); clear HO_4 HB; have HO_4 := n0_; have HB := n4_; clear n0_ n4_; (try clear hb); (try clear hb2); (try clear hk); (try clear hi); obtain ⟨Ao105, co105, eo105⟩ := Kd.R_slice HO_4.out; subst eo105) | (go_at_call 7; (with_reducible refine (standstilllaw08_awake.calls kj27  t225 _ A100.out).mono ?_); rintro e w106 ⟨rfl, hb⟩; have n4_ := A_ (below_step (bk_ HB.out) hb); clear HB; have HB := n4_; clear n4_; (try clear hb); (try clear hb2); (try clear hk); (try clear hi))))
               go_ret
               exact ⟨er_, bk_ HB.out⟩
              ·rw [if_neg c99] at H
               exact absurd H (by simp)
             ·replace c98 := Bool.eq_false_iff.mpr c98
              subst c98
              have H1 : (none) = some r := by rw [if_neg (show ¬ (false = true) by decide)] at H; exact H
              clear H
              have H := H1
              clear H1
              exact absurd H (by simp)
            ·rw [if_neg c96] at H
             exact absurd H (by simp)
           ·rw [if_neg c95] at H
            exact absurd H (by simp)
          ·rw [if_neg c94] at H
           exact absurd H (by simp)

/-- THE ONE PURE STATEMENT of standstilllaw08_PairShapes. -/
def standstilllaw08_PairShapes.Pure : Prop := ∀ (a0_0 : Int) (l0_1 : List (S45)), ((Lit.int .i64 a0_0).wf = true) → (l0_1.length * 32 ≤ 140737488351232 ∧ ∀ y_ ∈ l0_1, inv45 y_) → ∃ k, standstilllaw08_PairShapes.f k a0_0 l0_1 = some true

end Go.Proofs.Ytkbekdjoaibhbaa.PPairShapes
